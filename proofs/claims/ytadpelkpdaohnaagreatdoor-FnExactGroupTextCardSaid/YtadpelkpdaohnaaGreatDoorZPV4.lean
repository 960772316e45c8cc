/- Valid clusters: spec and impl tell the same. -/
import Derived.Test.YtadpelkpdaohnaaGreatDoorZPV3
namespace Go.Proofs.YtadpelkpdaohnaaGreatDoor.En
open Go
theorem sa (l:List Int) (hl:l.length<=maxLen):tD (jm l) (kf l):=by
 have fG:=kC (B1:=jB) (B2:=eo) l.length (fun k=>((l,(k:Int),()),(),())) (fun k=>((l,(),(l.length:Int),(k:Int),()),(),())) (.inr ((l,(),()),(),())) (.inr (((),()),(),())) (fun _=> .inl ((l,false,()),(),())) (fun k=> .inl (((k:Int),()),(),()))
  (fun _=>True) (fun _=>True)
  (by simp only[jB]; rw[dI,if_neg (by omega)])
  (by simp only[eo]; rw[dI,if_neg (by omega)])
  (fun k hk=>by
    have c1: (k:Int)< (l.length:Int):=by omega
    have c2: (0:Int)<=(k:Int):=by omega
    simp only[jB,eo,dI,ea,if_pos c1,if_pos c2,aA,ah hk,af,lh,qg,rk,dT hl hk];cases oO l[k] 0 3 with
    |false=>exact .inr ⟨rfl,rfl,trivial⟩
    |true=>exact .inl ⟨rfl,rfl,trivial⟩)
 unfold jm kf eR fh;rcases fG with ⟨k1,k2,_⟩| ⟨k,_,k1,k2,_⟩
 ·rw[show oI ((l,0,()),(),())=_ from k1,show fF ((l,(),(l.length:Int),0,()),(),())=_ from k2];simp only[af,cH];cases ((l.length:Int)==5)<;>exact⟨_,rfl,rfl⟩
 ·rw[show oI ((l,0,()),(),())=_ from k1,show fF ((l,(),(l.length:Int),0,()),(),())=_ from k2];simp only[af,cU];rw[decide_eq_true (by omega)];cases ((l.length:Int)==5)<;>exact⟨_,rfl,rfl⟩
theorem masterLog (m:ec) (h:tY maxLen m): ∃b,ft m=some (b,())/\i4 m=some (b,()):=by
 obtain⟨hl,hc⟩:=h
 have fG:=kC (B1:=eD) (B2:=gF) m.configs.length (fun k=>(((),(k:Int),()),((m.configs,m.activated,()),()),())) (fun k=>(((),m.configs,(m.configs.length:Int),(k:Int),()),((m.configs,m.activated,()),()),())) (.inr (((),(),()),((m.configs,m.activated,()),()),())) (.inr (((),(),()),((m.configs,m.activated,()),()),())) (fun _=> .inl (((),false,()),((m.configs,m.activated,()),()),())) (fun _=> .inl (((),false,()),((m.configs,m.activated,()),()),()))
  (fun _=>True) (fun _=>True)
  (by simp only[eD]; rw[dI,if_neg (by omega)])
  (by simp only[gF]; rw[dI,if_neg (by omega)])
  (fun k hk=>by
    have c1: (k:Int)< (m.configs.length:Int):=by omega
    have c2: (0:Int)<=(k:Int):=by omega
    obtain⟨b,v1,v2⟩:=lJ m.configs[k] (hc _ (bF hk));simp only[eD,gF,dI,ea,if_pos c1,if_pos c2,aA,ah hk,af,v1,v2,dT hl hk,i5];cases b with
    |false=>exact .inr ⟨rfl,rfl,trivial⟩
    |true=>
     cases (m.configs[k].epoch==((k+1:Nat):Int)) with
     |false=>exact .inr ⟨rfl,rfl,trivial⟩
     |true=>exact .inl ⟨rfl,rfl,trivial⟩)
 unfold ft i4;rcases fG with ⟨k1,k2,_⟩| ⟨k,_,k1,k2,_⟩
 ·rw[show iT (((),0,()),((m.configs,m.activated,()),()),())=_ from k1,show lQ (((),m.configs,(m.configs.length:Int),0,()),((m.configs,m.activated,()),()),())=_ from k2];simp only[af,cH,qg,rk];exact⟨_,rfl,rfl⟩
 ·rw[show iT (((),0,()),((m.configs,m.activated,()),()),())=_ from k1,show lQ (((),m.configs,(m.configs.length:Int),0,()),((m.configs,m.activated,()),()),())=_ from k2];exact⟨_,rfl,rfl⟩
theorem Dy (x:mF):tD (mm x) (oo x):=by unfold mm oo;simp only[qg,rk,af];cases ((x.epoch==0)&&((x.holder==0)&&((x.ends==0)&&true)))<;>cases oO x.epoch 1 20<;>cases oO x.holder 0 4<;>exact⟨_,rfl,rfl⟩
theorem xH (l:List fZ) (hl:l.length<=maxLen):tD (ko l) (lC l):=by
 have fG:=kC (B1:=iY) (B2:=eg) l.length (fun k=>((l,(k:Int),()),(),())) (fun k=>((l,(),(l.length:Int),(k:Int),()),(),())) (.inr ((l,(),()),(),())) (.inr (((),()),(),())) (fun _=> .inl ((l,false,()),(),())) (fun k=> .inl (((k:Int),()),(),()))
  (fun _=>True) (fun _=>True)
  (by simp only[iY]; rw[dI,if_neg (by omega)])
  (by simp only[eg]; rw[dI,if_neg (by omega)])
  (fun k hk=>by
    have c1: (k:Int)< (l.length:Int):=by omega
    have c2: (0:Int)<=(k:Int):=by omega
    simp only[iY,eg,dI,ea,if_pos c1,if_pos c2,aA,ah hk,af,kG,qg,rk,dT hl hk];cases oO l[k].rack 0 9 with
    |false=>exact .inr ⟨rfl,rfl,trivial⟩
    |true=>
     cases oO l[k].capacity 0 9 with
     |false=>exact .inr ⟨rfl,rfl,trivial⟩
     |true=>
      cases oO l[k].load 0 99 with
      |false=>exact .inr ⟨rfl,rfl,trivial⟩
      |true=>exact .inl ⟨rfl,rfl,trivial⟩)
 unfold ko lC eG eU;rcases fG with ⟨k1,k2,_⟩| ⟨k,_,k1,k2,_⟩
 ·rw[show nN ((l,0,()),(),())=_ from k1,show fp ((l,(),(l.length:Int),0,()),(),())=_ from k2];simp only[af,cH];cases ((l.length:Int)==5)<;>exact⟨_,rfl,rfl⟩
 ·rw[show nN ((l,0,()),(),())=_ from k1,show fp ((l,(),(l.length:Int),0,()),(),())=_ from k2];simp only[af,cU];rw[decide_eq_true (by omega)];cases ((l.length:Int)==5)<;>exact⟨_,rfl,rfl⟩
theorem H8 (x:Op):tD (lx x) (kp x):=by unfold lx kp;simp only[qg,rk,af];cases oO x.client 0 2<;>cases oO x.seq 1 99<;>cases oO x.object 0 2<;>cases oO x.value 0 9<;>cases (x.kind==1)<;>cases (x.kind==2)<;>cases (x.old==0)<;>exact⟨_,rfl,rfl⟩
theorem IH (l:List fO) (hl:l.length<=maxLen): (oJ l=some (true,())/\nA l=some (true,())/\l.length<=16)\/(oJ l=some (false,())/\nA l=some (false,())):=by
 have fG:=kC (B1:=mn) (B2:=mq) l.length (fun k=>((l,(k:Int),()),(),())) (fun k=>((l,l,(l.length:Int),(k:Int),()),(),())) (.inr ((l,(),()),(),())) (.inr ((l,(),()),(),())) (fun _=> .inl ((l,false,()),(),())) (fun _=> .inl ((l,false,()),(),()))
  (fun _=>True) (fun _=>True)
  (by simp only[mn]; rw[dI,if_neg (by omega)])
  (by simp only[mq]; rw[dI,if_neg (by omega)])
  (fun k hk=>by
    have c1: (k:Int)< (l.length:Int):=by omega
    have c2: (0:Int)<=(k:Int):=by omega
    obtain⟨b,v1,v2⟩:=H8 l[k].op;simp only[mn,mq,dI,ea,if_pos c1,if_pos c2,aA,ah hk,af,v1,v2,qg,rk,dT hl hk,i5];cases oO l[k].epoch 1 20 with
    |false=>exact .inr ⟨rfl,rfl,trivial⟩
    |true=>
     simp only[ey];by_cases h0:0<k
     ·have c3: (k:Int)>0:=by omega
      have c4: (0:Int)<=((k-1:Nat):Int):=by omega
      have e2:l[k-1]? =some l[k-1] :=ah (by omega);simp only[if_pos c3,jA h0 (by omega),if_pos c4,aA,e2,af];by_cases hlt:l[k].epoch<l[k-1].epoch
      ·rw[if_pos hlt,if_pos (show l[k-1].epoch>l[k].epoch from hlt)];cases b<;>exact .inr ⟨rfl,rfl,trivial⟩
      ·rw[if_neg hlt,if_neg (show ¬l[k-1].epoch>l[k].epoch from hlt)];cases b with
       |false=>exact .inr ⟨rfl,rfl,trivial⟩
       |true=>exact .inl ⟨rfl,rfl,trivial⟩
     ·have c3: ¬ (k:Int)>0:=by omega
      simp only[if_neg c3];cases b with
      |false=>exact .inr ⟨rfl,rfl,trivial⟩
      |true=>exact .inl ⟨rfl,rfl,trivial⟩)
 unfold oJ nA;rcases fG with ⟨k1,k2,_⟩| ⟨k,_,k1,k2,_⟩
 ·rw[show sS ((l,0,()),(),())=_ from k1,show sY ((l,l,(l.length:Int),0,()),(),())=_ from k2];simp only[af,cH];by_cases h: (l.length:Int)<=16
  ·rw[decide_eq_true h];exact .inl ⟨rfl,rfl,by omega⟩
  ·rw[decide_eq_false h];exact .inr ⟨rfl,rfl⟩
 ·rw[show sS ((l,0,()),(),())=_ from k1,show sY ((l,l,(l.length:Int),0,()),(),())=_ from k2];exact .inr ⟨rfl,rfl⟩
theorem mg (a b:List Int) (ha:a.length<=maxLen):im a b=some (decide (a=b),())/\iw a b=some (decide (a=b),()):=by
 unfold im iw mc;by_cases hlen:a.length=b.length
 ·have hbe: (!((a.length:Int)==(b.length:Int)))=false:=by simp[hlen]
  have fG:=kC (B1:=ga) (B2:=iv) a.length (fun k=>((a,b,(k:Int),()),(),())) (fun k=>((a,b,(a.length:Int),(k:Int),()),(),())) (.inr (((),()),(),())) (.inr (((),()),(),())) (fun _=> .inl ((false,()),(),())) (fun _=> .inl ((false,()),(),()))
   (fun k=>a[k]? =b[k]?) (fun k=>a[k]? ≠b[k]?)
   (by simp only[ga]; rw[dI,if_neg (by omega)])
   (by simp only[iv]; rw[dI,if_neg (by omega)])
   (fun k hk=>by
     have c1: (k:Int)< (a.length:Int):=by omega
     have c2: (0:Int)<=(k:Int):=by omega
     simp only[ga,iv,dI,ea,if_pos c1,if_pos c2,aA,ah hk,ah (show k<b.length by omega),af,dT ha hk,i5,kI];by_cases he:a[k] =b[k]'(by omega)
     ·simp only[if_pos he];exact .inl ⟨trivial,trivial,by rw[he]⟩
     ·simp only[if_neg he];exact .inr ⟨trivial,trivial,fun h=>he (Option.some.inj h)⟩)
  rw[hbe,eu,eu];rcases fG with ⟨k1,k2,k3⟩| ⟨k,hk,k1,k2,k3⟩
  ·rw[show kW ((a,b,0,()),(),())=_ from k1,show mZ ((a,b,(a.length:Int),0,()),(),())=_ from k2]
   have :a=b:=bK fun k=>by
    rcases bU k a.length with h|h
    ·exact k3 k h
    ·rw[bA h,bA (by omega)]
   rw[decide_eq_true this];exact⟨rfl,rfl⟩
  ·rw[show kW ((a,b,0,()),(),())=_ from k1,show mZ ((a,b,(a.length:Int),0,()),(),())=_ from k2];have :a≠b:=fun h=>k3 (by rw[h]);rw[decide_eq_false this];exact⟨rfl,rfl⟩
 ·have hbe: (!((a.length:Int)==(b.length:Int)))=true:=by
   simp only[bL,beq_eq_false_iff_ne,ne_eq];omega
  rw[hbe,ey,ey,decide_eq_false (fun h=>hlen (by rw[h]))];exact⟨rfl,rfl⟩
theorem iQ (a b:dM) (ha:gX maxLen a):gq a b=some (decide (a=b),())/\fQ a b=some (decide (a=b),()):=by unfold gq fQ;simp only[(mg a.replicas b.replicas ha.1).1,(mg a.replicas b.replicas ha.1).2,(mg a.witnesses b.witnesses ha.2).1,(mg a.witnesses b.witnesses ha.2).2,af,kI,dI];obtain⟨a1,a2,a3,a4⟩:=a;obtain⟨b1,b2,b3,b4⟩:=b;simp only[dM.mk.injEq];by_cases h1:a1=b1<;>by_cases h2:a2=b2<;>by_cases h3:a3=b3<;>by_cases h4:a4=b4<;>simp[h1,h2,h3,h4]
theorem s7 (l:List fO) (hl:l.length<=maxLen): ∃n,mp l=some (n,())/\kr l=some (n,()):=by
 unfold mp kr;rcases bc l.length with h|h
 ·have : ((l.length:Int)==0)=true:=by simp[h]
  rw[this];exact⟨_,rfl,rfl⟩
 ·have : ((l.length:Int)==0)=false:=by
   simp only[beq_eq_false_iff_ne,ne_eq];omega
  rw[this,eu,jA h hl,eP (by omega),aA,ah (show l.length-1<l.length by omega)];exact⟨_,rfl,rfl⟩
theorem GG (c:dM) (x:Int) (h:gX maxLen c): ∃n,oe c x=some (n,())/\oq c x=some (n,())/\(n=0\/n=1\/n=2\/n=3):=by unfold oe oq;obtain⟨b,v1,v2⟩:=lJ c h;simp only[v1,v2,af,(jF c.replicas x h.1).1,(jF c.replicas x h.1).2,(jF c.witnesses x h.2).1,(jF c.witnesses x h.2).2];cases b<;>cases (x==c.primary)<;>cases decide (x∈c.replicas)<;>cases decide (x∈c.witnesses)<;>exact⟨_,rfl,rfl,by decide⟩
end Go.Proofs.YtadpelkpdaohnaaGreatDoor.En
