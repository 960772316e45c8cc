/- Valid clusters: spec and impl tell the same. -/
import Derived.Test.YtpagmogboinlpaaZPV3
namespace Go.Proofs.Ytpagmogboinlpaa.En
open Go
theorem s7 (x:Op):C0 (eu x) (fZ x):=by unfold eu fZ;simp only[oK,v4,ai];cases jT x.client 0 2<;>cases jT x.seq 1 99<;>cases jT x.object 0 2<;>cases jT x.value 0 9<;>cases (x.kind==1)<;>cases (x.kind==2)<;>cases (x.old==0)<;>exact⟨_,rfl,rfl⟩
theorem zW (l:List dJ) (hl:l.length<=maxLen): (fj l=some (true,())/\iU l=some (true,())/\l.length<=16)\/(fj l=some (false,())/\iU l=some (false,())):=by
 have eD:=lM (B1:=ge) (B2:=iZ) l.length (fun k=>((l,(k:Int),()),(),())) (fun k=>((l,l,(l.length:Int),(k:Int),()),(),())) (.inr ((l,(),()),(),())) (.inr ((l,(),()),(),())) (fun _=> .inl ((l,false,()),(),())) (fun _=> .inl ((l,false,()),(),()))
  (fun _=>True) (fun _=>True)
  (by simp only[ge]; rw[dL,if_neg (by omega)])
  (by simp only[iZ]; rw[dL,if_neg (by omega)])
  (fun k hk=>by
    have c1: (k:Int)< (l.length:Int):=by omega
    have c2: (0:Int)<=(k:Int):=by omega
    obtain⟨b,v1,v2⟩:=s7 l[k].op;simp only[ge,iZ,dL,eo,if_pos c1,if_pos c2,aQ,af hk,ai,v1,v2,oK,v4,eg hl hk,js];cases jT l[k].epoch 1 20 with
    |false=>exact .inr ⟨rfl,rfl,trivial⟩
    |true=>
     simp only[eS];by_cases h0:0<k
     ·have c3: (k:Int)>0:=by omega
      have c4: (0:Int)<=((k-1:Nat):Int):=by omega
      have e2:l[k-1]? =some l[k-1] :=af (by omega);simp only[if_pos c3,lN h0 (by omega),if_pos c4,aQ,e2,ai];by_cases hlt:l[k].epoch<l[k-1].epoch
      ·rw[if_pos hlt,if_pos (show l[k-1].epoch>l[k].epoch from hlt)];cases b<;>exact .inr ⟨rfl,rfl,trivial⟩
      ·rw[if_neg hlt,if_neg (show ¬l[k-1].epoch>l[k].epoch from hlt)];cases b with
       |false=>exact .inr ⟨rfl,rfl,trivial⟩
       |true=>exact .inl ⟨rfl,rfl,trivial⟩
     ·have c3: ¬ (k:Int)>0:=by omega
      simp only[if_neg c3];cases b with
      |false=>exact .inr ⟨rfl,rfl,trivial⟩
      |true=>exact .inl ⟨rfl,rfl,trivial⟩)
 unfold fj iU;rcases eD with ⟨k1,k2,_⟩| ⟨k,_,k1,k2,_⟩
 ·rw[show ka ((l,0,()),(),())=_ from k1,show n6 ((l,l,(l.length:Int),0,()),(),())=_ from k2];simp only[ai,cI];by_cases h: (l.length:Int)<=16
  ·rw[decide_eq_true h];exact .inl ⟨rfl,rfl,by omega⟩
  ·rw[decide_eq_false h];exact .inr ⟨rfl,rfl⟩
 ·rw[show ka ((l,0,()),(),())=_ from k1,show n6 ((l,l,(l.length:Int),0,()),(),())=_ from k2];exact .inr ⟨rfl,rfl⟩
end Go.Proofs.Ytpagmogboinlpaa.En
