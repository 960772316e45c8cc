/- Valid clusters: spec and impl tell the same. -/
import Derived.Test.YtjnleglhcppgcaaGreatZPV3
namespace Go.Proofs.YtjnleglhcppgcaaGreat.En
open Go
theorem wo (l:List Int) (hl:l.length<=maxLen):xn (km l) (of l):=by
 have gA:=lA (B1:=m8) (B2:=fb) l.length (fun k=>((l,(k:Int),()),(),())) (fun k=>((l,(),(l.length:Int),(k:Int),()),(),())) (.inr ((l,(),()),(),())) (.inr (((),()),(),())) (fun _=> .inl ((l,false,()),(),())) (fun k=> .inl (((k:Int),()),(),()))
  (fun _=>True) (fun _=>True)
  (by simp only[m8]; rw[dV,if_neg (by omega)])
  (by simp only[fb]; rw[dV,if_neg (by omega)])
  (fun k hk=>by
    have c1: (k:Int)< (l.length:Int):=by omega
    have c2: (0:Int)<=(k:Int):=by omega
    simp only[m8,fb,dV,dZ,if_pos c1,if_pos c2,ao,ah hk,ae,qa,lV,nX,ec hl hk];cases kE l[k] 0 3 with
    |false=>exact .inr ⟨rfl,rfl,trivial⟩
    |true=>exact .inl ⟨rfl,rfl,trivial⟩)
 unfold km of gf gE;rcases gA with ⟨k1,k2,_⟩| ⟨k,_,k1,k2,_⟩
 ·rw[show uy ((l,0,()),(),())=_ from k1,show ik ((l,(),(l.length:Int),0,()),(),())=_ from k2];simp only[ae,cu];cases ((l.length:Int)==5)<;>exact⟨_,rfl,rfl⟩
 ·rw[show uy ((l,0,()),(),())=_ from k1,show ik ((l,(),(l.length:Int),0,()),(),())=_ from k2];simp only[ae,b8];rw[decide_eq_true (by omega)];cases ((l.length:Int)==5)<;>exact⟨_,rfl,rfl⟩
theorem masterLog (m:dY) (h:uF maxLen m): ∃b,fj m=some (b,())/\je m=some (b,()):=by
 obtain⟨hl,hc⟩:=h
 have gA:=lA (B1:=fC) (B2:=jO) m.configs.length (fun k=>(((),(k:Int),()),((m.configs,m.activated,()),()),())) (fun k=>(((),m.configs,(m.configs.length:Int),(k:Int),()),((m.configs,m.activated,()),()),())) (.inr (((),(),()),((m.configs,m.activated,()),()),())) (.inr (((),(),()),((m.configs,m.activated,()),()),())) (fun _=> .inl (((),false,()),((m.configs,m.activated,()),()),())) (fun _=> .inl (((),false,()),((m.configs,m.activated,()),()),()))
  (fun _=>True) (fun _=>True)
  (by simp only[fC]; rw[dV,if_neg (by omega)])
  (by simp only[jO]; rw[dV,if_neg (by omega)])
  (fun k hk=>by
    have c1: (k:Int)< (m.configs.length:Int):=by omega
    have c2: (0:Int)<=(k:Int):=by omega
    obtain⟨b,v1,v2⟩:=oG m.configs[k] (hc _ (aW hk));simp only[fC,jO,dV,dZ,if_pos c1,if_pos c2,ao,ah hk,ae,v1,v2,ec hl hk,fg];cases b with
    |false=>exact .inr ⟨rfl,rfl,trivial⟩
    |true=>
     cases (m.configs[k].epoch==((k+1:Nat):Int)) with
     |false=>exact .inr ⟨rfl,rfl,trivial⟩
     |true=>exact .inl ⟨rfl,rfl,trivial⟩)
 unfold fj je;rcases gA with ⟨k1,k2,_⟩| ⟨k,_,k1,k2,_⟩
 ·rw[show lJ (((),0,()),((m.configs,m.activated,()),()),())=_ from k1,show qH (((),m.configs,(m.configs.length:Int),0,()),((m.configs,m.activated,()),()),())=_ from k2];simp only[ae,cu,lV,nX];exact⟨_,rfl,rfl⟩
 ·rw[show lJ (((),0,()),((m.configs,m.activated,()),()),())=_ from k1,show qH (((),m.configs,(m.configs.length:Int),0,()),((m.configs,m.activated,()),()),())=_ from k2];exact⟨_,rfl,rfl⟩
theorem wZ (x:fE):xn (l4 x) (mc x):=by unfold l4 mc;simp only[lV,nX,ae];cases ((x.epoch==0)&&((x.holder==0)&&((x.ends==0)&&true)))<;>cases kE x.epoch 1 20<;>cases kE x.holder 0 4<;>exact⟨_,rfl,rfl⟩
theorem pX (l:List ew) (hl:l.length<=maxLen):xn (gD l) (iO l):=by
 have gA:=lA (B1:=l5) (B2:=eP) l.length (fun k=>((l,(k:Int),()),(),())) (fun k=>((l,(),(l.length:Int),(k:Int),()),(),())) (.inr ((l,(),()),(),())) (.inr (((),()),(),())) (fun _=> .inl ((l,false,()),(),())) (fun k=> .inl (((k:Int),()),(),()))
  (fun _=>True) (fun _=>True)
  (by simp only[l5]; rw[dV,if_neg (by omega)])
  (by simp only[eP]; rw[dV,if_neg (by omega)])
  (fun k hk=>by
    have c1: (k:Int)< (l.length:Int):=by omega
    have c2: (0:Int)<=(k:Int):=by omega
    simp only[l5,eP,dV,dZ,if_pos c1,if_pos c2,ao,ah hk,ae,o6,lV,nX,ec hl hk];cases kE l[k].rack 0 9 with
    |false=>exact .inr ⟨rfl,rfl,trivial⟩
    |true=>
     cases kE l[k].capacity 0 9 with
     |false=>exact .inr ⟨rfl,rfl,trivial⟩
     |true=>
      cases kE l[k].load 0 99 with
      |false=>exact .inr ⟨rfl,rfl,trivial⟩
      |true=>exact .inl ⟨rfl,rfl,trivial⟩)
 unfold gD iO fG gl;rcases gA with ⟨k1,k2,_⟩| ⟨k,_,k1,k2,_⟩
 ·rw[show tg ((l,0,()),(),())=_ from k1,show gP ((l,(),(l.length:Int),0,()),(),())=_ from k2];simp only[ae,cu];cases ((l.length:Int)==5)<;>exact⟨_,rfl,rfl⟩
 ·rw[show tg ((l,0,()),(),())=_ from k1,show gP ((l,(),(l.length:Int),0,()),(),())=_ from k2];simp only[ae,b8];rw[decide_eq_true (by omega)];cases ((l.length:Int)==5)<;>exact⟨_,rfl,rfl⟩
theorem Qm (x:Op):xn (qp x) (oD x):=by unfold qp oD;simp only[lV,nX,ae];cases kE x.client 0 2<;>cases kE x.seq 1 99<;>cases kE x.object 0 2<;>cases kE x.value 0 9<;>cases (x.kind==1)<;>cases (x.kind==2)<;>cases (x.old==0)<;>exact⟨_,rfl,rfl⟩
theorem vj (l:List ea) (hl:l.length<=maxLen): (mp l=some (true,())/\mq l=some (true,())/\l.length<=16)\/(mp l=some (false,())/\mq l=some (false,())):=by
 have gA:=lA (B1:=rn) (B2:=rp) l.length (fun k=>((l,(k:Int),()),(),())) (fun k=>((l,l,(l.length:Int),(k:Int),()),(),())) (.inr ((l,(),()),(),())) (.inr ((l,(),()),(),())) (fun _=> .inl ((l,false,()),(),())) (fun _=> .inl ((l,false,()),(),()))
  (fun _=>True) (fun _=>True)
  (by simp only[rn]; rw[dV,if_neg (by omega)])
  (by simp only[rp]; rw[dV,if_neg (by omega)])
  (fun k hk=>by
    have c1: (k:Int)< (l.length:Int):=by omega
    have c2: (0:Int)<=(k:Int):=by omega
    obtain⟨b,v1,v2⟩:=Qm l[k].op;simp only[rn,rp,dV,dZ,if_pos c1,if_pos c2,ao,ah hk,ae,v1,v2,lV,nX,ec hl hk,fg];cases kE l[k].epoch 1 20 with
    |false=>exact .inr ⟨rfl,rfl,trivial⟩
    |true=>
     simp only[eb];by_cases h0:0<k
     ·have c3: (k:Int)>0:=by omega
      have c4: (0:Int)<=((k-1:Nat):Int):=by omega
      have e2:l[k-1]? =some l[k-1] :=ah (by omega);simp only[if_pos c3,lX h0 (by omega),if_pos c4,ao,e2,ae];by_cases hlt:l[k].epoch<l[k-1].epoch
      ·rw[if_pos hlt,if_pos (show l[k-1].epoch>l[k].epoch from hlt)];cases b<;>exact .inr ⟨rfl,rfl,trivial⟩
      ·rw[if_neg hlt,if_neg (show ¬l[k-1].epoch>l[k].epoch from hlt)];cases b with
       |false=>exact .inr ⟨rfl,rfl,trivial⟩
       |true=>exact .inl ⟨rfl,rfl,trivial⟩
     ·have c3: ¬ (k:Int)>0:=by omega
      simp only[if_neg c3];cases b with
      |false=>exact .inr ⟨rfl,rfl,trivial⟩
      |true=>exact .inl ⟨rfl,rfl,trivial⟩)
 unfold mp mq;rcases gA with ⟨k1,k2,_⟩| ⟨k,_,k1,k2,_⟩
 ·rw[show Ax ((l,0,()),(),())=_ from k1,show AI ((l,l,(l.length:Int),0,()),(),())=_ from k2];simp only[ae,cu];by_cases h: (l.length:Int)<=16
  ·rw[decide_eq_true h];exact .inl ⟨rfl,rfl,by omega⟩
  ·rw[decide_eq_false h];exact .inr ⟨rfl,rfl⟩
 ·rw[show Ax ((l,0,()),(),())=_ from k1,show AI ((l,l,(l.length:Int),0,()),(),())=_ from k2];exact .inr ⟨rfl,rfl⟩
theorem rg (a b:List Int) (ha:a.length<=maxLen):kK a b=some (decide (a=b),())/\kV a b=some (decide (a=b),()):=by
 unfold kK kV rc;by_cases hlen:a.length=b.length
 ·have hbe: (!((a.length:Int)==(b.length:Int)))=false:=by simp[hlen]
  have gA:=lA (B1:=jh) (B2:=kU) a.length (fun k=>((a,b,(k:Int),()),(),())) (fun k=>((a,b,(a.length:Int),(k:Int),()),(),())) (.inr (((),()),(),())) (.inr (((),()),(),())) (fun _=> .inl ((false,()),(),())) (fun _=> .inl ((false,()),(),()))
   (fun k=>a[k]? =b[k]?) (fun k=>a[k]? ≠b[k]?)
   (by simp only[jh]; rw[dV,if_neg (by omega)])
   (by simp only[kU]; rw[dV,if_neg (by omega)])
   (fun k hk=>by
     have c1: (k:Int)< (a.length:Int):=by omega
     have c2: (0:Int)<=(k:Int):=by omega
     simp only[jh,kU,dV,dZ,if_pos c1,if_pos c2,ao,ah hk,ah (show k<b.length by omega),ae,ec ha hk,fg,kt];by_cases he:a[k] =b[k]'(by omega)
     ·simp only[if_pos he];exact .inl ⟨trivial,trivial,by rw[he]⟩
     ·simp only[if_neg he];exact .inr ⟨trivial,trivial,fun h=>he (Option.some.inj h)⟩)
  rw[hbe,ek,ek];rcases gA with ⟨k1,k2,k3⟩| ⟨k,hk,k1,k2,k3⟩
  ·rw[show pK ((a,b,0,()),(),())=_ from k1,show rZ ((a,b,(a.length:Int),0,()),(),())=_ from k2]
   have :a=b:=bN fun k=>by
    rcases ce k a.length with h|h
    ·exact k3 k h
    ·rw[bM h,bM (by omega)]
   rw[decide_eq_true this];exact⟨rfl,rfl⟩
  ·rw[show pK ((a,b,0,()),(),())=_ from k1,show rZ ((a,b,(a.length:Int),0,()),(),())=_ from k2];have :a≠b:=fun h=>k3 (by rw[h]);rw[decide_eq_false this];exact⟨rfl,rfl⟩
 ·have hbe: (!((a.length:Int)==(b.length:Int)))=true:=by
   simp only[b7,beq_eq_false_iff_ne,ne_eq];omega
  rw[hbe,eb,eb,decide_eq_false (fun h=>hlen (by rw[h]))];exact⟨rfl,rfl⟩
theorem kg (a b:dW) (ha:gK maxLen a):ju a b=some (decide (a=b),())/\iP a b=some (decide (a=b),()):=by unfold ju iP;simp only[(rg a.replicas b.replicas ha.1).1,(rg a.replicas b.replicas ha.1).2,(rg a.witnesses b.witnesses ha.2).1,(rg a.witnesses b.witnesses ha.2).2,ae,kt,dV];obtain⟨a1,a2,a3,a4⟩:=a;obtain⟨b1,b2,b3,b4⟩:=b;simp only[dW.mk.injEq];by_cases h1:a1=b1<;>by_cases h2:a2=b2<;>by_cases h3:a3=b3<;>by_cases h4:a4=b4<;>simp[h1,h2,h3,h4]
theorem ru (l:List ea) (hl:l.length<=maxLen): ∃n,oA l=some (n,())/\mO l=some (n,()):=by
 unfold oA mO;rcases bh l.length with h|h
 ·have : ((l.length:Int)==0)=true:=by simp[h]
  rw[this];exact⟨_,rfl,rfl⟩
 ·have : ((l.length:Int)==0)=false:=by
   simp only[beq_eq_false_iff_ne,ne_eq];omega
  rw[this,ek,lX h hl,fL (by omega),ao,ah (show l.length-1<l.length by omega)];exact⟨_,rfl,rfl⟩
theorem KX (c:dW) (x:Int) (h:gK maxLen c): ∃n,lK c x=some (n,())/\sb c x=some (n,())/\(n=0\/n=1\/n=2\/n=3):=by unfold lK sb;obtain⟨b,v1,v2⟩:=oG c h;simp only[v1,v2,ae,(gp c.replicas x h.1).1,(gp c.replicas x h.1).2,(gp c.witnesses x h.2).1,(gp c.witnesses x h.2).2];cases b<;>cases (x==c.primary)<;>cases decide (x∈c.replicas)<;>cases decide (x∈c.witnesses)<;>exact⟨_,rfl,rfl,by decide⟩
end Go.Proofs.YtjnleglhcppgcaaGreat.En
