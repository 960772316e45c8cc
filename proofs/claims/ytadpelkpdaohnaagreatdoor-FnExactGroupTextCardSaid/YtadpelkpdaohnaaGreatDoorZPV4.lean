/- Valid clusters: spec and impl tell the same. -/
import Derived.Test.YtadpelkpdaohnaaGreatDoorZPV3
namespace Go.Proofs.YtadpelkpdaohnaaGreatDoor.En
open Go
theorem rc (l:List Int) (hl:l.length<=maxLen):sC (i7 l) (kv l):=by
 have fx:=jY (B1:=jh) (B2:=ej) l.length (fun k=>((l,(k:Int),()),(),())) (fun k=>((l,(),(l.length:Int),(k:Int),()),(),())) (.inr ((l,(),()),(),())) (.inr (((),()),(),())) (fun _=> .inl ((l,false,()),(),())) (fun k=> .inl (((k:Int),()),(),()))
  (fun _=>True) (fun _=>True)
  (by simp only[jh]; rw[dH,if_neg (by omega)])
  (by simp only[ej]; rw[dH,if_neg (by omega)])
  (fun k hk=>by
    have c1: (k:Int)< (l.length:Int):=by omega
    have c2: (0:Int)<=(k:Int):=by omega
    simp only[jh,ej,dH,dX,if_pos c1,if_pos c2,aA,ah hk,af,kF,pv,qw,dS hl hk];cases n6 l[k] 0 3 with
    |false=>exact .inr ⟨rfl,rfl,trivial⟩
    |true=>exact .inl ⟨rfl,rfl,trivial⟩)
 unfold i7 kv eM eZ;rcases fx with ⟨k1,k2,_⟩| ⟨k,_,k1,k2,_⟩
 ·rw[show nX ((l,0,()),(),())=_ from k1,show fw ((l,(),(l.length:Int),0,()),(),())=_ from k2];simp only[af,cH];cases ((l.length:Int)==5)<;>exact⟨_,rfl,rfl⟩
 ·rw[show nX ((l,0,()),(),())=_ from k1,show fw ((l,(),(l.length:Int),0,()),(),())=_ from k2];simp only[af,cU];rw[decide_eq_true (by omega)];cases ((l.length:Int)==5)<;>exact⟨_,rfl,rfl⟩
theorem masterLog (m:dZ) (h:sW maxLen m): ∃b,fk m=some (b,())/\iI m=some (b,()):=by
 obtain⟨hl,hc⟩:=h
 have fx:=jY (B1:=eA) (B2:=gt) m.configs.length (fun k=>(((),(k:Int),()),((m.configs,m.activated,()),()),())) (fun k=>(((),m.configs,(m.configs.length:Int),(k:Int),()),((m.configs,m.activated,()),()),())) (.inr (((),(),()),((m.configs,m.activated,()),()),())) (.inr (((),(),()),((m.configs,m.activated,()),()),())) (fun _=> .inl (((),false,()),((m.configs,m.activated,()),()),())) (fun _=> .inl (((),false,()),((m.configs,m.activated,()),()),()))
  (fun _=>True) (fun _=>True)
  (by simp only[eA]; rw[dH,if_neg (by omega)])
  (by simp only[gt]; rw[dH,if_neg (by omega)])
  (fun k hk=>by
    have c1: (k:Int)< (m.configs.length:Int):=by omega
    have c2: (0:Int)<=(k:Int):=by omega
    obtain⟨b,v1,v2⟩:=kZ m.configs[k] (hc _ (bF hk));simp only[eA,gt,dH,dX,if_pos c1,if_pos c2,aA,ah hk,af,v1,v2,dS hl hk,iJ];cases b with
    |false=>exact .inr ⟨rfl,rfl,trivial⟩
    |true=>
     cases (m.configs[k].epoch==((k+1:Nat):Int)) with
     |false=>exact .inr ⟨rfl,rfl,trivial⟩
     |true=>exact .inl ⟨rfl,rfl,trivial⟩)
 unfold fk iI;rcases fx with ⟨k1,k2,_⟩| ⟨k,_,k1,k2,_⟩
 ·rw[show iw (((),0,()),((m.configs,m.activated,()),()),())=_ from k1,show li (((),m.configs,(m.configs.length:Int),0,()),((m.configs,m.activated,()),()),())=_ from k2];simp only[af,cH,pv,qw];exact⟨_,rfl,rfl⟩
 ·rw[show iw (((),0,()),((m.configs,m.activated,()),()),())=_ from k1,show li (((),m.configs,(m.configs.length:Int),0,()),((m.configs,m.activated,()),()),())=_ from k2];exact⟨_,rfl,rfl⟩
theorem Cc (x:l4):sC (lK x) (nI x):=by unfold lK nI;simp only[pv,qw,af];cases ((x.epoch==0)&&((x.holder==0)&&((x.ends==0)&&true)))<;>cases n6 x.epoch 1 20<;>cases n6 x.holder 0 4<;>exact⟨_,rfl,rfl⟩
theorem wu (l:List fR) (hl:l.length<=maxLen):sC (jN l) (kU l):=by
 have fx:=jY (B1:=iG) (B2:=ec) l.length (fun k=>((l,(k:Int),()),(),())) (fun k=>((l,(),(l.length:Int),(k:Int),()),(),())) (.inr ((l,(),()),(),())) (.inr (((),()),(),())) (fun _=> .inl ((l,false,()),(),())) (fun k=> .inl (((k:Int),()),(),()))
  (fun _=>True) (fun _=>True)
  (by simp only[iG]; rw[dH,if_neg (by omega)])
  (by simp only[ec]; rw[dH,if_neg (by omega)])
  (fun k hk=>by
    have c1: (k:Int)< (l.length:Int):=by omega
    have c2: (0:Int)<=(k:Int):=by omega
    simp only[iG,ec,dH,dX,if_pos c1,if_pos c2,aA,ah hk,af,j8,pv,qw,dS hl hk];cases n6 l[k].rack 0 9 with
    |false=>exact .inr ⟨rfl,rfl,trivial⟩
    |true=>
     cases n6 l[k].capacity 0 9 with
     |false=>exact .inr ⟨rfl,rfl,trivial⟩
     |true=>
      cases n6 l[k].load 0 99 with
      |false=>exact .inr ⟨rfl,rfl,trivial⟩
      |true=>exact .inl ⟨rfl,rfl,trivial⟩)
 unfold jN kU eD eP;rcases fx with ⟨k1,k2,_⟩| ⟨k,_,k1,k2,_⟩
 ·rw[show m9 ((l,0,()),(),())=_ from k1,show fh ((l,(),(l.length:Int),0,()),(),())=_ from k2];simp only[af,cH];cases ((l.length:Int)==5)<;>exact⟨_,rfl,rfl⟩
 ·rw[show m9 ((l,0,()),(),())=_ from k1,show fh ((l,(),(l.length:Int),0,()),(),())=_ from k2];simp only[af,cU];rw[decide_eq_true (by omega)];cases ((l.length:Int)==5)<;>exact⟨_,rfl,rfl⟩
theorem GK (x:Op):sC (kP x) (jO x):=by unfold kP jO;simp only[pv,qw,af];cases n6 x.client 0 2<;>cases n6 x.seq 1 99<;>cases n6 x.object 0 2<;>cases n6 x.value 0 9<;>cases (x.kind==1)<;>cases (x.kind==2)<;>cases (x.old==0)<;>exact⟨_,rfl,rfl⟩
theorem Hd (l:List fG) (hl:l.length<=maxLen): (nY l=some (true,())/\mN l=some (true,())/\l.length<=16)\/(nY l=some (false,())/\mN l=some (false,())):=by
 have fx:=jY (B1:=lL) (B2:=lO) l.length (fun k=>((l,(k:Int),()),(),())) (fun k=>((l,l,(l.length:Int),(k:Int),()),(),())) (.inr ((l,(),()),(),())) (.inr ((l,(),()),(),())) (fun _=> .inl ((l,false,()),(),())) (fun _=> .inl ((l,false,()),(),()))
  (fun _=>True) (fun _=>True)
  (by simp only[lL]; rw[dH,if_neg (by omega)])
  (by simp only[lO]; rw[dH,if_neg (by omega)])
  (fun k hk=>by
    have c1: (k:Int)< (l.length:Int):=by omega
    have c2: (0:Int)<=(k:Int):=by omega
    obtain⟨b,v1,v2⟩:=GK l[k].op;simp only[lL,lO,dH,dX,if_pos c1,if_pos c2,aA,ah hk,af,v1,v2,pv,qw,dS hl hk,iJ];cases n6 l[k].epoch 1 20 with
    |false=>exact .inr ⟨rfl,rfl,trivial⟩
    |true=>
     simp only[eu];by_cases h0:0<k
     ·have c3: (k:Int)>0:=by omega
      have c4: (0:Int)<=((k-1:Nat):Int):=by omega
      have e2:l[k-1]? =some l[k-1] :=ah (by omega);simp only[if_pos c3,jg h0 (by omega),if_pos c4,aA,e2,af];by_cases hlt:l[k].epoch<l[k-1].epoch
      ·rw[if_pos hlt,if_pos (show l[k-1].epoch>l[k].epoch from hlt)];cases b<;>exact .inr ⟨rfl,rfl,trivial⟩
      ·rw[if_neg hlt,if_neg (show ¬l[k-1].epoch>l[k].epoch from hlt)];cases b with
       |false=>exact .inr ⟨rfl,rfl,trivial⟩
       |true=>exact .inl ⟨rfl,rfl,trivial⟩
     ·have c3: ¬ (k:Int)>0:=by omega
      simp only[if_neg c3];cases b with
      |false=>exact .inr ⟨rfl,rfl,trivial⟩
      |true=>exact .inl ⟨rfl,rfl,trivial⟩)
 unfold nY mN;rcases fx with ⟨k1,k2,_⟩| ⟨k,_,k1,k2,_⟩
 ·rw[show rO ((l,0,()),(),())=_ from k1,show rU ((l,l,(l.length:Int),0,()),(),())=_ from k2];simp only[af,cH];by_cases h: (l.length:Int)<=16
  ·rw[decide_eq_true h];exact .inl ⟨rfl,rfl,by omega⟩
  ·rw[decide_eq_false h];exact .inr ⟨rfl,rfl⟩
 ·rw[show rO ((l,0,()),(),())=_ from k1,show rU ((l,l,(l.length:Int),0,()),(),())=_ from k2];exact .inr ⟨rfl,rfl⟩
theorem lI (a b:List Int) (ha:a.length<=maxLen):gU a b=some (decide (a=b),())/\hQ a b=some (decide (a=b),()):=by
 unfold gU hQ lF;by_cases hlen:a.length=b.length
 ·have hbe: (!((a.length:Int)==(b.length:Int)))=false:=by simp[hlen]
  have fx:=jY (B1:=fU) (B2:=hO) a.length (fun k=>((a,b,(k:Int),()),(),())) (fun k=>((a,b,(a.length:Int),(k:Int),()),(),())) (.inr (((),()),(),())) (.inr (((),()),(),())) (fun _=> .inl ((false,()),(),())) (fun _=> .inl ((false,()),(),()))
   (fun k=>a[k]? =b[k]?) (fun k=>a[k]? ≠b[k]?)
   (by simp only[fU]; rw[dH,if_neg (by omega)])
   (by simp only[hO]; rw[dH,if_neg (by omega)])
   (fun k hk=>by
     have c1: (k:Int)< (a.length:Int):=by omega
     have c2: (0:Int)<=(k:Int):=by omega
     simp only[fU,hO,dH,dX,if_pos c1,if_pos c2,aA,ah hk,ah (show k<b.length by omega),af,dS ha hk,iJ,ka];by_cases he:a[k] =b[k]'(by omega)
     ·simp only[if_pos he];exact .inl ⟨trivial,trivial,by rw[he]⟩
     ·simp only[if_neg he];exact .inr ⟨trivial,trivial,fun h=>he (Option.some.inj h)⟩)
  rw[hbe,en,en];rcases fx with ⟨k1,k2,k3⟩| ⟨k,hk,k1,k2,k3⟩
  ·rw[show ku ((a,b,0,()),(),())=_ from k1,show mn ((a,b,(a.length:Int),0,()),(),())=_ from k2]
   have :a=b:=bO fun k=>by
    rcases bU k a.length with h|h
    ·exact k3 k h
    ·rw[bC h,bC (by omega)]
   rw[decide_eq_true this];exact⟨rfl,rfl⟩
  ·rw[show ku ((a,b,0,()),(),())=_ from k1,show mn ((a,b,(a.length:Int),0,()),(),())=_ from k2];have :a≠b:=fun h=>k3 (by rw[h]);rw[decide_eq_false this];exact⟨rfl,rfl⟩
 ·have hbe: (!((a.length:Int)==(b.length:Int)))=true:=by
   simp only[bK,beq_eq_false_iff_ne,ne_eq];omega
  rw[hbe,eu,eu,decide_eq_false (fun h=>hlen (by rw[h]))];exact⟨rfl,rfl⟩
theorem iu (a b:dM) (ha:gE maxLen a):ga a b=some (decide (a=b),())/\gi a b=some (decide (a=b),()):=by unfold ga gi;simp only[(lI a.replicas b.replicas ha.1).1,(lI a.replicas b.replicas ha.1).2,(lI a.witnesses b.witnesses ha.2).1,(lI a.witnesses b.witnesses ha.2).2,af,ka,dH];obtain⟨a1,a2,a3,a4⟩:=a;obtain⟨b1,b2,b3,b4⟩:=b;simp only[dM.mk.injEq];by_cases h1:a1=b1<;>by_cases h2:a2=b2<;>by_cases h3:a3=b3<;>by_cases h4:a4=b4<;>simp[h1,h2,h3,h4]
theorem rY (l:List fG) (hl:l.length<=maxLen): ∃n,lN l=some (n,())/\jP l=some (n,()):=by
 unfold lN jP;rcases ba l.length with h|h
 ·have : ((l.length:Int)==0)=true:=by simp[h]
  rw[this];exact⟨_,rfl,rfl⟩
 ·have : ((l.length:Int)==0)=false:=by
   simp only[beq_eq_false_iff_ne,ne_eq];omega
  rw[this,en,jg h hl,eL (by omega),aA,ah (show l.length-1<l.length by omega)];exact⟨_,rfl,rfl⟩
theorem Fl (c:dM) (x:Int) (h:gE maxLen c): ∃n,nC c x=some (n,())/\oZ c x=some (n,())/\(n=0\/n=1\/n=2\/n=3):=by unfold nC oZ;obtain⟨b,v1,v2⟩:=kZ c h;simp only[v1,v2,af,(jk c.replicas x h.1).1,(jk c.replicas x h.1).2,(jk c.witnesses x h.2).1,(jk c.witnesses x h.2).2];cases b<;>cases (x==c.primary)<;>cases decide (x∈c.replicas)<;>cases decide (x∈c.witnesses)<;>exact⟨_,rfl,rfl,by decide⟩
end Go.Proofs.YtadpelkpdaohnaaGreatDoor.En
