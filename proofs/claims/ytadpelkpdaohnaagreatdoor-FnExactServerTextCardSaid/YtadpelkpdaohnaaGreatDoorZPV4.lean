/- Valid clusters: spec and impl tell the same. -/
import Derived.Test.YtadpelkpdaohnaaGreatDoorZPV3
namespace Go.Proofs.YtadpelkpdaohnaaGreatDoor.En
open Go
theorem tW (l:List Int) (hl:l.length<=maxLen):tA (gO l) (jR l):=by
 have fb:=jX (B1:=eM) (B2:=dP) l.length (fun k=>((l,(k:Int),()),(),())) (fun k=>((l,(),(l.length:Int),(k:Int),()),(),())) (.inr ((l,(),()),(),())) (.inr (((),()),(),())) (fun _=> .inl ((l,false,()),(),())) (fun k=> .inl (((k:Int),()),(),()))
  (fun _=>True) (fun _=>True)
  (by simp only[eM]; rw[dx,if_neg (by omega)])
  (by simp only[dP]; rw[dx,if_neg (by omega)])
  (fun k hk=>by
    have c1: (k:Int)< (l.length:Int):=by omega
    have c2: (0:Int)<=(k:Int):=by omega
    simp only[eM,dP,dx,eJ,if_pos c1,if_pos c2,aK,ah hk,af,j4,n9,qj,dU hl hk];cases mM l[k] 0 3 with
    |false=>exact .inr ⟨rfl,rfl,trivial⟩
    |true=>exact .inl ⟨rfl,rfl,trivial⟩)
 unfold gO jR en eC;rcases fb with ⟨k1,k2,_⟩| ⟨k,_,k1,k2,_⟩
 ·rw[show kS ((l,0,()),(),())=_ from k1,show eU ((l,(),(l.length:Int),0,()),(),())=_ from k2];simp only[af,cW];cases ((l.length:Int)==5)<;>exact⟨_,rfl,rfl⟩
 ·rw[show kS ((l,0,()),(),())=_ from k1,show eU ((l,(),(l.length:Int),0,()),(),())=_ from k2];simp only[af,cU];rw[decide_eq_true (by omega)];cases ((l.length:Int)==5)<;>exact⟨_,rfl,rfl⟩
theorem masterLog (m:dT) (h:uS maxLen m): ∃b,gf m=some (b,())/\hQ m=some (b,()):=by
 obtain⟨hl,hc⟩:=h
 have fb:=jX (B1:=fL) (B2:=fO) m.configs.length (fun k=>(((),(k:Int),()),((m.configs,m.activated,()),()),())) (fun k=>(((),m.configs,(m.configs.length:Int),(k:Int),()),((m.configs,m.activated,()),()),())) (.inr (((),(),()),((m.configs,m.activated,()),()),())) (.inr (((),(),()),((m.configs,m.activated,()),()),())) (fun _=> .inl (((),false,()),((m.configs,m.activated,()),()),())) (fun _=> .inl (((),false,()),((m.configs,m.activated,()),()),()))
  (fun _=>True) (fun _=>True)
  (by simp only[fL]; rw[dx,if_neg (by omega)])
  (by simp only[fO]; rw[dx,if_neg (by omega)])
  (fun k hk=>by
    have c1: (k:Int)< (m.configs.length:Int):=by omega
    have c2: (0:Int)<=(k:Int):=by omega
    obtain⟨b,v1,v2⟩:=ru m.configs[k] (hc _ (b7 hk));simp only[fL,fO,dx,eJ,if_pos c1,if_pos c2,aK,ah hk,af,v1,v2,dU hl hk,jB];cases b with
    |false=>exact .inr ⟨rfl,rfl,trivial⟩
    |true=>
     cases (m.configs[k].epoch==((k+1:Nat):Int)) with
     |false=>exact .inr ⟨rfl,rfl,trivial⟩
     |true=>exact .inl ⟨rfl,rfl,trivial⟩)
 unfold gf hQ;rcases fb with ⟨k1,k2,_⟩| ⟨k,_,k1,k2,_⟩
 ·rw[show kA (((),0,()),((m.configs,m.activated,()),()),())=_ from k1,show kB (((),m.configs,(m.configs.length:Int),0,()),((m.configs,m.activated,()),()),())=_ from k2];simp only[af,cW,n9,qj];exact⟨_,rfl,rfl⟩
 ·rw[show kA (((),0,()),((m.configs,m.activated,()),()),())=_ from k1,show kB (((),m.configs,(m.configs.length:Int),0,()),((m.configs,m.activated,()),()),())=_ from k2];exact⟨_,rfl,rfl⟩
theorem BC (x:mu):tA (lc x) (mH x):=by unfold lc mH;simp only[n9,qj,af];cases ((x.epoch==0)&&((x.holder==0)&&((x.ends==0)&&true)))<;>cases mM x.epoch 1 20<;>cases mM x.holder 0 4<;>exact⟨_,rfl,rfl⟩
theorem vy (l:List fA) (hl:l.length<=maxLen):tA (jh l) (ko l):=by
 have fb:=jX (B1:=hO) (B2:=dI) l.length (fun k=>((l,(k:Int),()),(),())) (fun k=>((l,(),(l.length:Int),(k:Int),()),(),())) (.inr ((l,(),()),(),())) (.inr (((),()),(),())) (fun _=> .inl ((l,false,()),(),())) (fun k=> .inl (((k:Int),()),(),()))
  (fun _=>True) (fun _=>True)
  (by simp only[hO]; rw[dx,if_neg (by omega)])
  (by simp only[dI]; rw[dx,if_neg (by omega)])
  (fun k hk=>by
    have c1: (k:Int)< (l.length:Int):=by omega
    have c2: (0:Int)<=(k:Int):=by omega
    simp only[hO,dI,dx,eJ,if_pos c1,if_pos c2,aK,ah hk,af,jy,n9,qj,dU hl hk];cases mM l[k].rack 0 9 with
    |false=>exact .inr ⟨rfl,rfl,trivial⟩
    |true=>
     cases mM l[k].capacity 0 9 with
     |false=>exact .inr ⟨rfl,rfl,trivial⟩
     |true=>
      cases mM l[k].load 0 99 with
      |false=>exact .inr ⟨rfl,rfl,trivial⟩
      |true=>exact .inl ⟨rfl,rfl,trivial⟩)
 unfold jh ko ec ep;rcases fb with ⟨k1,k2,_⟩| ⟨k,_,k1,k2,_⟩
 ·rw[show mf ((l,0,()),(),())=_ from k1,show eH ((l,(),(l.length:Int),0,()),(),())=_ from k2];simp only[af,cW];cases ((l.length:Int)==5)<;>exact⟨_,rfl,rfl⟩
 ·rw[show mf ((l,0,()),(),())=_ from k1,show eH ((l,(),(l.length:Int),0,()),(),())=_ from k2];simp only[af,cU];rw[decide_eq_true (by omega)];cases ((l.length:Int)==5)<;>exact⟨_,rfl,rfl⟩
theorem Gc (x:Op):tA (ki x) (ji x):=by unfold ki ji;simp only[n9,qj,af];cases mM x.client 0 2<;>cases mM x.seq 1 99<;>cases mM x.object 0 2<;>cases mM x.value 0 9<;>cases (x.kind==1)<;>cases (x.kind==2)<;>cases (x.old==0)<;>exact⟨_,rfl,rfl⟩
theorem BD (l:List ff) (hl:l.length<=maxLen): (kT l=some (true,())/\l5 l=some (true,())/\l.length<=16)\/(kT l=some (false,())/\l5 l=some (false,())):=by
 have fb:=jX (B1:=ld) (B2:=li) l.length (fun k=>((l,(k:Int),()),(),())) (fun k=>((l,l,(l.length:Int),(k:Int),()),(),())) (.inr ((l,(),()),(),())) (.inr ((l,(),()),(),())) (fun _=> .inl ((l,false,()),(),())) (fun _=> .inl ((l,false,()),(),()))
  (fun _=>True) (fun _=>True)
  (by simp only[ld]; rw[dx,if_neg (by omega)])
  (by simp only[li]; rw[dx,if_neg (by omega)])
  (fun k hk=>by
    have c1: (k:Int)< (l.length:Int):=by omega
    have c2: (0:Int)<=(k:Int):=by omega
    obtain⟨b,v1,v2⟩:=Gc l[k].op;simp only[ld,li,dx,eJ,if_pos c1,if_pos c2,aK,ah hk,af,v1,v2,n9,qj,dU hl hk,jB];cases mM l[k].epoch 1 20 with
    |false=>exact .inr ⟨rfl,rfl,trivial⟩
    |true=>
     simp only[ea];by_cases h0:0<k
     ·have c3: (k:Int)>0:=by omega
      have c4: (0:Int)<=((k-1:Nat):Int):=by omega
      have e2:l[k-1]? =some l[k-1] :=ah (by omega);simp only[if_pos c3,mD h0 (by omega),if_pos c4,aK,e2,af];by_cases hlt:l[k].epoch<l[k-1].epoch
      ·rw[if_pos hlt,if_pos (show l[k-1].epoch>l[k].epoch from hlt)];cases b<;>exact .inr ⟨rfl,rfl,trivial⟩
      ·rw[if_neg hlt,if_neg (show ¬l[k-1].epoch>l[k].epoch from hlt)];cases b with
       |false=>exact .inr ⟨rfl,rfl,trivial⟩
       |true=>exact .inl ⟨rfl,rfl,trivial⟩
     ·have c3: ¬ (k:Int)>0:=by omega
      simp only[if_neg c3];cases b with
      |false=>exact .inr ⟨rfl,rfl,trivial⟩
      |true=>exact .inl ⟨rfl,rfl,trivial⟩)
 unfold kT l5;rcases fb with ⟨k1,k2,_⟩| ⟨k,_,k1,k2,_⟩
 ·rw[show qP ((l,0,()),(),())=_ from k1,show qT ((l,l,(l.length:Int),0,()),(),())=_ from k2];simp only[af,cW];by_cases h: (l.length:Int)<=16
  ·rw[decide_eq_true h];exact .inl ⟨rfl,rfl,by omega⟩
  ·rw[decide_eq_false h];exact .inr ⟨rfl,rfl⟩
 ·rw[show qP ((l,0,()),(),())=_ from k1,show qT ((l,l,(l.length:Int),0,()),(),())=_ from k2];exact .inr ⟨rfl,rfl⟩
theorem kZ (a b:List Int) (ha:a.length<=maxLen):gt a b=some (decide (a=b),())/\gC a b=some (decide (a=b),()):=by
 unfold gt gC kV;by_cases hlen:a.length=b.length
 ·have hbe: (!((a.length:Int)==(b.length:Int)))=false:=by simp[hlen]
  have fb:=jX (B1:=fu) (B2:=gA) a.length (fun k=>((a,b,(k:Int),()),(),())) (fun k=>((a,b,(a.length:Int),(k:Int),()),(),())) (.inr (((),()),(),())) (.inr (((),()),(),())) (fun _=> .inl ((false,()),(),())) (fun _=> .inl ((false,()),(),()))
   (fun k=>a[k]? =b[k]?) (fun k=>a[k]? ≠b[k]?)
   (by simp only[fu]; rw[dx,if_neg (by omega)])
   (by simp only[gA]; rw[dx,if_neg (by omega)])
   (fun k hk=>by
     have c1: (k:Int)< (a.length:Int):=by omega
     have c2: (0:Int)<=(k:Int):=by omega
     simp only[fu,gA,dx,eJ,if_pos c1,if_pos c2,aK,ah hk,ah (show k<b.length by omega),af,dU ha hk,jB,n8];by_cases he:a[k] =b[k]'(by omega)
     ·simp only[if_pos he];exact .inl ⟨trivial,trivial,by rw[he]⟩
     ·simp only[if_neg he];exact .inr ⟨trivial,trivial,fun h=>he (Option.some.inj h)⟩)
  rw[hbe,dV,dV];rcases fb with ⟨k1,k2,k3⟩| ⟨k,hk,k1,k2,k3⟩
  ·rw[show jQ ((a,b,0,()),(),())=_ from k1,show lK ((a,b,(a.length:Int),0,()),(),())=_ from k2]
   have :a=b:=bC fun k=>by
    rcases bK k a.length with h|h
    ·exact k3 k h
    ·rw[bn h,bn (by omega)]
   rw[decide_eq_true this];exact⟨rfl,rfl⟩
  ·rw[show jQ ((a,b,0,()),(),())=_ from k1,show lK ((a,b,(a.length:Int),0,()),(),())=_ from k2];have :a≠b:=fun h=>k3 (by rw[h]);rw[decide_eq_false this];exact⟨rfl,rfl⟩
 ·have hbe: (!((a.length:Int)==(b.length:Int)))=true:=by
   simp only[bH,beq_eq_false_iff_ne,ne_eq];omega
  rw[hbe,ea,ea,decide_eq_false (fun h=>hlen (by rw[h]))];exact⟨rfl,rfl⟩
theorem iI (a b:dA) (ha:iK maxLen a):gv a b=some (decide (a=b),())/\fE a b=some (decide (a=b),()):=by unfold gv fE;simp only[(kZ a.replicas b.replicas ha.1).1,(kZ a.replicas b.replicas ha.1).2,(kZ a.witnesses b.witnesses ha.2).1,(kZ a.witnesses b.witnesses ha.2).2,af,n8,dx];obtain⟨a1,a2,a3,a4⟩:=a;obtain⟨b1,b2,b3,b4⟩:=b;simp only[dA.mk.injEq];by_cases h1:a1=b1<;>by_cases h2:a2=b2<;>by_cases h3:a3=b3<;>by_cases h4:a4=b4<;>simp[h1,h2,h3,h4]
theorem qX (l:List ff) (hl:l.length<=maxLen): ∃n,lg l=some (n,())/\jj l=some (n,()):=by
 unfold lg jj;rcases bg l.length with h|h
 ·have : ((l.length:Int)==0)=true:=by simp[h]
  rw[this];exact⟨_,rfl,rfl⟩
 ·have : ((l.length:Int)==0)=false:=by
   simp only[beq_eq_false_iff_ne,ne_eq];omega
  rw[this,dV,mD h hl,eW (by omega),aK,ah (show l.length-1<l.length by omega)];exact⟨_,rfl,rfl⟩
theorem EI (c:dA) (x:Int) (h:iK maxLen c): ∃n,mF c x=some (n,())/\mJ c x=some (n,())/\(n=0\/n=1\/n=2\/n=3):=by unfold mF mJ;obtain⟨b,v1,v2⟩:=ru c h;simp only[v1,v2,af,(jk c.replicas x h.1).1,(jk c.replicas x h.1).2,(jk c.witnesses x h.2).1,(jk c.witnesses x h.2).2];cases b<;>cases (x==c.primary)<;>cases decide (x∈c.replicas)<;>cases decide (x∈c.witnesses)<;>exact⟨_,rfl,rfl,by decide⟩
end Go.Proofs.YtadpelkpdaohnaaGreatDoor.En
