/- Valid clusters: spec and impl tell the same. -/
import Derived.Test.YtjnleglhcppgcaaGreatZPV3
namespace Go.Proofs.YtjnleglhcppgcaaGreat.En
open Go
theorem yC (l:List Int) (hl:l.length<=maxLen):xP (lz l) (pm l):=by
 have gE:=jS (B1:=n6) (B2:=fC) l.length (fun k=>((l,(k:Int),()),(),())) (fun k=>((l,(),(l.length:Int),(k:Int),()),(),())) (.inr ((l,(),()),(),())) (.inr (((),()),(),())) (fun _=> .inl ((l,false,()),(),())) (fun k=> .inl (((k:Int),()),(),()))
  (fun _=>True) (fun _=>True)
  (by simp only[n6]; rw[ei,if_neg (by omega)])
  (by simp only[fC]; rw[ei,if_neg (by omega)])
  (fun k hk=>by
    have c1: (k:Int)< (l.length:Int):=by omega
    have c2: (0:Int)<=(k:Int):=by omega
    simp only[n6,fC,ei,ek,if_pos c1,if_pos c2,ap,ah hk,ae,ry,kg,mG,ey hl hk];cases je l[k] 0 3 with
    |false=>exact .inr ⟨rfl,rfl,trivial⟩
    |true=>exact .inl ⟨rfl,rfl,trivial⟩)
 unfold lz pm gG ij;rcases gE with ⟨k1,k2,_⟩| ⟨k,_,k1,k2,_⟩
 ·rw[show wz ((l,0,()),(),())=_ from k1,show i6 ((l,(),(l.length:Int),0,()),(),())=_ from k2];simp only[ae,cn];cases ((l.length:Int)==5)<;>exact⟨_,rfl,rfl⟩
 ·rw[show wz ((l,0,()),(),())=_ from k1,show i6 ((l,(),(l.length:Int),0,()),(),())=_ from k2];simp only[ae,b7];rw[decide_eq_true (by omega)];cases ((l.length:Int)==5)<;>exact⟨_,rfl,rfl⟩
theorem masterLog (m:ev) (h:wL maxLen m): ∃b,fL m=some (b,())/\jX m=some (b,()):=by
 obtain⟨hl,hc⟩:=h
 have gE:=jS (B1:=gf) (B2:=kP) m.configs.length (fun k=>(((),(k:Int),()),((m.configs,m.activated,()),()),())) (fun k=>(((),m.configs,(m.configs.length:Int),(k:Int),()),((m.configs,m.activated,()),()),())) (.inr (((),(),()),((m.configs,m.activated,()),()),())) (.inr (((),(),()),((m.configs,m.activated,()),()),())) (fun _=> .inl (((),false,()),((m.configs,m.activated,()),()),())) (fun _=> .inl (((),false,()),((m.configs,m.activated,()),()),()))
  (fun _=>True) (fun _=>True)
  (by simp only[gf]; rw[ei,if_neg (by omega)])
  (by simp only[kP]; rw[ei,if_neg (by omega)])
  (fun k hk=>by
    have c1: (k:Int)< (m.configs.length:Int):=by omega
    have c2: (0:Int)<=(k:Int):=by omega
    obtain⟨b,v1,v2⟩:=my m.configs[k] (hc _ (aV hk));simp only[gf,kP,ei,ek,if_pos c1,if_pos c2,ap,ah hk,ae,v1,v2,ey hl hk,fi];cases b with
    |false=>exact .inr ⟨rfl,rfl,trivial⟩
    |true=>
     cases (m.configs[k].epoch==((k+1:Nat):Int)) with
     |false=>exact .inr ⟨rfl,rfl,trivial⟩
     |true=>exact .inl ⟨rfl,rfl,trivial⟩)
 unfold fL jX;rcases gE with ⟨k1,k2,_⟩| ⟨k,_,k1,k2,_⟩
 ·rw[show mH (((),0,()),((m.configs,m.activated,()),()),())=_ from k1,show sB (((),m.configs,(m.configs.length:Int),0,()),((m.configs,m.activated,()),()),())=_ from k2];simp only[ae,cn,kg,mG];exact⟨_,rfl,rfl⟩
 ·rw[show mH (((),0,()),((m.configs,m.activated,()),()),())=_ from k1,show sB (((),m.configs,(m.configs.length:Int),0,()),((m.configs,m.activated,()),()),())=_ from k2];exact⟨_,rfl,rfl⟩
theorem zo (x:fW):xP (mW x) (ni x):=by unfold mW ni;simp only[kg,mG,ae];cases ((x.epoch==0)&&((x.holder==0)&&((x.ends==0)&&true)))<;>cases je x.epoch 1 20<;>cases je x.holder 0 4<;>exact⟨_,rfl,rfl⟩
theorem rp (l:List eN) (hl:l.length<=maxLen):xP (ii l) (jw l):=by
 have gE:=jS (B1:=mX) (B2:=fm) l.length (fun k=>((l,(k:Int),()),(),())) (fun k=>((l,(),(l.length:Int),(k:Int),()),(),())) (.inr ((l,(),()),(),())) (.inr (((),()),(),())) (fun _=> .inl ((l,false,()),(),())) (fun k=> .inl (((k:Int),()),(),()))
  (fun _=>True) (fun _=>True)
  (by simp only[mX]; rw[ei,if_neg (by omega)])
  (by simp only[fm]; rw[ei,if_neg (by omega)])
  (fun k hk=>by
    have c1: (k:Int)< (l.length:Int):=by omega
    have c2: (0:Int)<=(k:Int):=by omega
    simp only[mX,fm,ei,ek,if_pos c1,if_pos c2,ap,ah hk,ae,qh,kg,mG,ey hl hk];cases je l[k].rack 0 9 with
    |false=>exact .inr ⟨rfl,rfl,trivial⟩
    |true=>
     cases je l[k].capacity 0 9 with
     |false=>exact .inr ⟨rfl,rfl,trivial⟩
     |true=>
      cases je l[k].load 0 99 with
      |false=>exact .inr ⟨rfl,rfl,trivial⟩
      |true=>exact .inl ⟨rfl,rfl,trivial⟩)
 unfold ii jw gl gM;rcases gE with ⟨k1,k2,_⟩| ⟨k,_,k1,k2,_⟩
 ·rw[show vl ((l,0,()),(),())=_ from k1,show iz ((l,(),(l.length:Int),0,()),(),())=_ from k2];simp only[ae,cn];cases ((l.length:Int)==5)<;>exact⟨_,rfl,rfl⟩
 ·rw[show vl ((l,0,()),(),())=_ from k1,show iz ((l,(),(l.length:Int),0,()),(),())=_ from k2];simp only[ae,b7];rw[decide_eq_true (by omega)];cases ((l.length:Int)==5)<;>exact⟨_,rfl,rfl⟩
theorem Ea (x:Op):xP (iC x) (mw x):=by unfold iC mw;simp only[kg,mG,ae];cases je x.client 0 2<;>cases je x.seq 1 99<;>cases je x.object 0 2<;>cases je x.value 0 9<;>cases (x.kind==1)<;>cases (x.kind==2)<;>cases (x.old==0)<;>exact⟨_,rfl,rfl⟩
theorem uF (l:List eu) (hl:l.length<=maxLen): (iM l=some (true,())/\ln l=some (true,())/\l.length<=16)\/(iM l=some (false,())/\ln l=some (false,())):=by
 have gE:=jS (B1:=n9) (B2:=tu) l.length (fun k=>((l,(k:Int),()),(),())) (fun k=>((l,l,(l.length:Int),(k:Int),()),(),())) (.inr ((l,(),()),(),())) (.inr ((l,(),()),(),())) (fun _=> .inl ((l,false,()),(),())) (fun _=> .inl ((l,false,()),(),()))
  (fun _=>True) (fun _=>True)
  (by simp only[n9]; rw[ei,if_neg (by omega)])
  (by simp only[tu]; rw[ei,if_neg (by omega)])
  (fun k hk=>by
    have c1: (k:Int)< (l.length:Int):=by omega
    have c2: (0:Int)<=(k:Int):=by omega
    obtain⟨b,v1,v2⟩:=Ea l[k].op;simp only[n9,tu,ei,ek,if_pos c1,if_pos c2,ap,ah hk,ae,v1,v2,kg,mG,ey hl hk,fi];cases je l[k].epoch 1 20 with
    |false=>exact .inr ⟨rfl,rfl,trivial⟩
    |true=>
     simp only[en];by_cases h0:0<k
     ·have c3: (k:Int)>0:=by omega
      have c4: (0:Int)<=((k-1:Nat):Int):=by omega
      have e2:l[k-1]? =some l[k-1] :=ah (by omega);simp only[if_pos c3,kH h0 (by omega),if_pos c4,ap,e2,ae];by_cases hlt:l[k].epoch<l[k-1].epoch
      ·rw[if_pos hlt,if_pos (show l[k-1].epoch>l[k].epoch from hlt)];cases b<;>exact .inr ⟨rfl,rfl,trivial⟩
      ·rw[if_neg hlt,if_neg (show ¬l[k-1].epoch>l[k].epoch from hlt)];cases b with
       |false=>exact .inr ⟨rfl,rfl,trivial⟩
       |true=>exact .inl ⟨rfl,rfl,trivial⟩
     ·have c3: ¬ (k:Int)>0:=by omega
      simp only[if_neg c3];cases b with
      |false=>exact .inr ⟨rfl,rfl,trivial⟩
      |true=>exact .inl ⟨rfl,rfl,trivial⟩)
 unfold iM ln;rcases gE with ⟨k1,k2,_⟩| ⟨k,_,k1,k2,_⟩
 ·rw[show vN ((l,0,()),(),())=_ from k1,show CF ((l,l,(l.length:Int),0,()),(),())=_ from k2];simp only[ae,cn];by_cases h: (l.length:Int)<=16
  ·rw[decide_eq_true h];exact .inl ⟨rfl,rfl,by omega⟩
  ·rw[decide_eq_false h];exact .inr ⟨rfl,rfl⟩
 ·rw[show vN ((l,0,()),(),())=_ from k1,show CF ((l,l,(l.length:Int),0,()),(),())=_ from k2];exact .inr ⟨rfl,rfl⟩
theorem th (a b:List Int) (ha:a.length<=maxLen):lT a b=some (decide (a=b),())/\l8 a b=some (decide (a=b),()):=by
 unfold lT l8 td;by_cases hlen:a.length=b.length
 ·have hbe: (!((a.length:Int)==(b.length:Int)))=false:=by simp[hlen]
  have gE:=jS (B1:=j4) (B2:=l7) a.length (fun k=>((a,b,(k:Int),()),(),())) (fun k=>((a,b,(a.length:Int),(k:Int),()),(),())) (.inr (((),()),(),())) (.inr (((),()),(),())) (fun _=> .inl ((false,()),(),())) (fun _=> .inl ((false,()),(),()))
   (fun k=>a[k]? =b[k]?) (fun k=>a[k]? ≠b[k]?)
   (by simp only[j4]; rw[ei,if_neg (by omega)])
   (by simp only[l7]; rw[ei,if_neg (by omega)])
   (fun k hk=>by
     have c1: (k:Int)< (a.length:Int):=by omega
     have c2: (0:Int)<=(k:Int):=by omega
     simp only[j4,l7,ei,ek,if_pos c1,if_pos c2,ap,ah hk,ah (show k<b.length by omega),ae,ey ha hk,fi,gP];by_cases he:a[k] =b[k]'(by omega)
     ·simp only[if_pos he];exact .inl ⟨trivial,trivial,by rw[he]⟩
     ·simp only[if_neg he];exact .inr ⟨trivial,trivial,fun h=>he (Option.some.inj h)⟩)
  rw[hbe,eB,eB];rcases gE with ⟨k1,k2,k3⟩| ⟨k,hk,k1,k2,k3⟩
  ·rw[show qT ((a,b,0,()),(),())=_ from k1,show ul ((a,b,(a.length:Int),0,()),(),())=_ from k2]
   have :a=b:=bU fun k=>by
    rcases cm k a.length with h|h
    ·exact k3 k h
    ·rw[bR h,bR (by omega)]
   rw[decide_eq_true this];exact⟨rfl,rfl⟩
  ·rw[show qT ((a,b,0,()),(),())=_ from k1,show ul ((a,b,(a.length:Int),0,()),(),())=_ from k2];have :a≠b:=fun h=>k3 (by rw[h]);rw[decide_eq_false this];exact⟨rfl,rfl⟩
 ·have hbe: (!((a.length:Int)==(b.length:Int)))=true:=by
   simp only[bV,beq_eq_false_iff_ne,ne_eq];omega
  rw[hbe,en,en,decide_eq_false (fun h=>hlen (by rw[h]))];exact⟨rfl,rfl⟩
theorem lu (a b:ej) (ha:iH maxLen a):kp a b=some (decide (a=b),())/\jx a b=some (decide (a=b),()):=by unfold kp jx;simp only[(th a.replicas b.replicas ha.1).1,(th a.replicas b.replicas ha.1).2,(th a.witnesses b.witnesses ha.2).1,(th a.witnesses b.witnesses ha.2).2,ae,gP,ei];obtain⟨a1,a2,a3,a4⟩:=a;obtain⟨b1,b2,b3,b4⟩:=b;simp only[ej.mk.injEq];by_cases h1:a1=b1<;>by_cases h2:a2=b2<;>by_cases h3:a3=b3<;>by_cases h4:a4=b4<;>simp[h1,h2,h3,h4]
theorem tB (l:List eu) (hl:l.length<=maxLen): ∃n,pE l=some (n,())/\nP l=some (n,()):=by
 unfold pE nP;rcases bn l.length with h|h
 ·have : ((l.length:Int)==0)=true:=by simp[h]
  rw[this];exact⟨_,rfl,rfl⟩
 ·have : ((l.length:Int)==0)=false:=by
   simp only[beq_eq_false_iff_ne,ne_eq];omega
  rw[this,eB,kH h hl,fB (by omega),ap,ah (show l.length-1<l.length by omega)];exact⟨_,rfl,rfl⟩
theorem Jv (c:ej) (x:Int) (h:iH maxLen c): ∃n,jv c x=some (n,())/\nQ c x=some (n,())/\(n=0\/n=1\/n=2\/n=3):=by unfold jv nQ;obtain⟨b,v1,v2⟩:=my c h;simp only[v1,v2,ae,(fH c.replicas x h.1).1,(fH c.replicas x h.1).2,(fH c.witnesses x h.2).1,(fH c.witnesses x h.2).2];cases b<;>cases (x==c.primary)<;>cases decide (x∈c.replicas)<;>cases decide (x∈c.witnesses)<;>exact⟨_,rfl,rfl,by decide⟩
end Go.Proofs.YtjnleglhcppgcaaGreat.En
