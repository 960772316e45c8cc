/- Marks of a cluster: what is written is found again. -/
import Derived.Test.YtkcgfceffffmoaaGreatZPM
namespace Go.Proofs.YtkcgfceffffmoaaGreat.En
open Go
theorem Sz {α:Type} (l:List α):cX (fun _=>(1:Int)) l=cM l:=by rw [xk]; unfold cM; omega
theorem T0 {α:Type} (l:List α):cX (fun _=>(3:Int)) l=3*cM l:=by rw [xk]; rfl
theorem TD {α:Type} (l:List α):cX (fun _=>(7:Int)) l=7*cM l:=by rw [xk]; rfl
theorem adds (n:Int):n+1+1=n+2∧n+2+1=n+3∧n+3+1=n+4∧n+4+1=n+5∧n+5+1=n+6∧n+6+1=n+7:=by omega
def mI (l:List Int) (n:Int):List Int:=eU (fun _ n=>n) (fun _=>1) l n
def za (n:Int):aA:=⟨n,⟨n+1,n+2,n+3,n+4,n+5,n+6⟩⟩
def mE (l:List aA) (n:Int):List aA:=eU (fun _ n=>za n) (fun _=>7) l n
def mP (l:List bh) (n:Int):List bh:=eU (fun _ n=>⟨n,n+1,n+2⟩) (fun _=>3) l n
theorem L0 (l:List Int) (n:Int): (mI l n).length=l.length:=fm _ _ _ _
theorem PY (l:List aA) (n:Int): (mE l n).length=l.length:=fm _ _ _ _
theorem SA (l:List bh) (n:Int): (mP l n).length=l.length:=fm _ _ _ _
theorem uY (l:List Int) (n:Int) (hn:0≤n) (hb:n+cM l≤900000000) (hl:l.length≤1048576):dU l n=some (mI l n,n+cM l,()):=by
 have h:=uX (F:=dU) (B:=dA) (fun _ n=>n) (fun _=>1) (fun _=>True) (fun _ _=>rfl)
  (fun l n k x hx hl h0 h1 _=>by
    have hk:=mD hx
    have c1: (k:Int) < (l.length:Int):=by omega
    have c2: (0:Int)≤(k:Int)∧(k:Int) < (l.length:Int):=by omega
    simp only [dA,gy,Int.toNat_natCast,aE,co,if_pos c1,if_pos c2,hx,Option.bind_some,hQ (n:=n+1) (by omega) (by omega),b7 (f7 hl) hk])
  (fun l n=>by simp only [dA,gy]; rw [aE,if_neg (by omega)]) (fun _=>by decide) l n hn (by rw [Sz]; exact hb) hl (fun _ _=>trivial)
 rw [Sz] at h
 exact h
theorem xm (l:List aA) (n:Int) (hn:0≤n) (hb:n+7*cM l≤900000000) (hl:l.length≤1048576):dY l n=some (mE l n,n+7*cM l,()):=by
 have h:=uX (F:=dY) (B:=cQ) (fun _ n=>za n) (fun _=>7) (fun _=>True) (fun _ _=>rfl)
  (fun l n k x hx hl h0 h1 _=>by
    have hk:=mD hx
    have c1: (k:Int) < (l.length:Int):=by omega
    have c2: (0:Int)≤(k:Int)∧(k:Int) < (l.length:Int):=by omega
    obtain⟨e1,e2,e3,e4,e5,e6⟩:=adds n
    simp (disch:=omega) only [cQ,ff,Int.toNat_natCast,aE,co,List.length_set,if_pos c1,if_pos c2,hx,List.set_set,List.getElem?_set_self,Option.bind_some,hQ,e1,e2,e3,e4,e5,e6,za]
    rfl)
  (fun l n=>by simp only [cQ,ff]; rw [aE,if_neg (by omega)]) (fun _=>by decide) l n hn (by rw [TD]; exact hb) hl (fun _ _=>trivial)
 rw [TD] at h
 exact h
theorem L3 (l:List aA) (n:Int) (hn:0≤n) (hb:n+7*cM l≤900000000) (hl:l.length≤1048576):iL (mE l n) n=some (n+7*cM l,()):=by
 have h:=PV (F:=iL) (B:=dV) (fun _ n=>za n) (fun _=>7) (fun _=>True) (fun _ _=>rfl)
  (fun l n k x hx hl h0 h1 _=>by
    have hk:=mD hx
    have c1: (k:Int) < (l.length:Int):=by omega
    have c2: (0:Int)≤(k:Int):=by omega
    obtain⟨e1,e2,e3,e4,e5,e6⟩:=adds n
    simp (disch:=omega) only [dV,ip,Int.toNat_natCast,aE,co,if_pos c1,if_pos c2,hx,Option.bind_some,hQ,e1,e2,e3,e4,e5,e6,za,beq_self_eq_true,Bool.not_true,dh]
    rfl)
  (fun l n=>by simp only [dV,ip]; rw [aE,if_neg (by omega)]) (fun _=>by decide) l n hn (by rw [TD]; exact hb) hl (fun _ _=>trivial)
 rw [TD] at h
 exact h
theorem L4 (l:List bh) (n:Int) (hn:0≤n) (hb:n+3*cM l≤900000000) (hl:l.length≤1048576):fU l n=some (mP l n,n+3*cM l,()):=by
 have h:=uX (F:=fU) (B:=cR) (fun _ n=>⟨n,n+1,n+2⟩) (fun _=>3) (fun _=>True) (fun _ _=>rfl)
  (fun l n k x hx hl h0 h1 _=>by
    have hk:=mD hx
    have c1: (k:Int) < (l.length:Int):=by omega
    have c2: (0:Int)≤(k:Int)∧(k:Int) < (l.length:Int):=by omega
    obtain⟨e1,e2,e3,e4,e5,e6⟩:=adds n
    simp (disch:=omega) only [cR,fj,Int.toNat_natCast,aE,co,List.length_set,if_pos c1,if_pos c2,hx,List.set_set,List.getElem?_set_self,Option.bind_some,hQ,e1,e2]
    rfl)
  (fun l n=>by simp only [cR,fj]; rw [aE,if_neg (by omega)]) (fun _=>by decide) l n hn (by rw [T0]; exact hb) hl (fun _ _=>trivial)
 rw [T0] at h
 exact h
def wC (c:ai):Int:=2+cM c.replicas+cM c.witnesses
def TU (c:ai) (n:Int):ai:=⟨n,n+1,mI c.replicas (n+2),mI c.witnesses (n+2+cM c.replicas)⟩
theorem PZ (c:ai):0≤wC c:=by unfold wC cM; omega
def mC (l:List ai) (n:Int):List ai:=eU TU wC l n
theorem KF (l:List ai) (n:Int) (hn:0≤n) (hb:n+cX wC l≤900000000) (hl:l.length≤1048576) (hok: ∀ c∈l,iM 1048576 c):fh l n=some (mC l n,n+cX wC l,()):=
 uX (F:=fh) (B:=cE) TU wC (iM 1048576) (fun _ _=>rfl)
  (fun l n k x hx hl h0 h1 ok=>by
    have hk:=mD hx
    have c1: (k:Int) < (l.length:Int):=by omega
    have c2: (0:Int)≤(k:Int)∧(k:Int) < (l.length:Int):=by omega
    obtain⟨e1,e2,e3,e4,e5,e6⟩:=adds n
    have z1:=od x.replicas
    have z2:=od x.witnesses
    unfold wC at h1
    have m1:=uY x.replicas (n+2) (by omega) (by omega) ok.1
    have m2:=uY x.witnesses (n+2+cM x.replicas) (by omega) (by omega) ok.2
    have e:n+(2+cM x.replicas+cM x.witnesses)=n+2+cM x.replicas+cM x.witnesses:=by omega
    simp (disch:=omega) only [cE,eO,Int.toNat_natCast,aE,co,List.length_set,if_pos c1,if_pos c2,hx,List.set_set,List.getElem?_set_self,Option.bind_some,hQ,e1,m1,m2,L0,and_self,if_true,TU,wC,e]
    rfl)
  (fun l n=>by simp only [cE,eO]; rw [aE,if_neg (by omega)]) PZ l n hn hb hl hok
def wS (s:ay):Int:=8+cM s.config.replicas+cM s.config.witnesses+7*cM s.log+7*cM s.learned
def TV (s:ay) (n:Int):ay:=
 ⟨Int.tmod n 3==0,Int.tmod (n+1) 3==0,n+2,n+3,⟨n+4,n+5,mI s.config.replicas (n+6),mI s.config.witnesses (n+6+cM s.config.replicas)⟩,n+6+cM s.config.replicas+cM s.config.witnesses,mE s.log (n+6+cM s.config.replicas+cM s.config.witnesses+1),n+6+cM s.config.replicas+cM s.config.witnesses+1+7*cM s.log,mE s.learned (n+6+cM s.config.replicas+cM s.config.witnesses+1+7*cM s.log+1)⟩
theorem P0 (s:ay):0≤wS s:=by unfold wS cM; omega
def mS (l:List ay) (n:Int):List ay:=eU TV wS l n
theorem KG (l:List ay) (n:Int) (hn:0≤n) (hb:n+cX wS l≤900000000) (hl:l.length≤1048576) (hok: ∀ c∈l,qv 1048576 c):fg l n=some (mS l n,n+cX wS l,()):=
 uX (F:=fg) (B:=cD) TV wS (qv 1048576) (fun _ _=>rfl)
  (fun l n k x hx hl h0 h1 ok=>by
    have hk:=mD hx
    have c1: (k:Int) < (l.length:Int):=by omega
    have c2: (0:Int)≤(k:Int)∧(k:Int) < (l.length:Int):=by omega
    obtain⟨e1,e2,e3,e4,e5,e6⟩:=adds n
    have z1:=od x.config.replicas
    have z2:=od x.config.witnesses
    have z3:=od x.log
    have z4:=od x.learned
    unfold wS at h1
    have m1:=uY x.config.replicas (n+6) (by omega) (by omega) ok.1.1
    have m2:=uY x.config.witnesses (n+6+cM x.config.replicas) (by omega) (by omega) ok.1.2
    have m3:=xm x.log (n+6+cM x.config.replicas+cM x.config.witnesses+1) (by omega) (by omega) ok.2.1
    have m4:=xm x.learned (n+6+cM x.config.replicas+cM x.config.witnesses+1+7*cM x.log+1) (by omega) (by omega) ok.2.2
    have e:n+(8+cM x.config.replicas+cM x.config.witnesses+7*cM x.log+7*cM x.learned)=n+6+cM x.config.replicas+cM x.config.witnesses+1+7*cM x.log+1+7*cM x.learned:=by omega
    simp (maxSteps:=2000000) (disch:=omega) only [cD,eN,Int.toNat_natCast,aE,co,List.length_set,if_pos c1,if_pos c2,hx,List.set_set,List.getElem?_set_self,Option.bind_some,hQ,e1,e2,e3,e4,e5,m1,m2,m3,m4,L0,PY,and_self,if_true,TV,wS,e]
    rfl)
  (fun l n=>by simp only [cD,eN]; rw [aE,if_neg (by omega)]) P0 l n hn hb hl hok
def Rz (x:aQ):Int:=cX wS x.servers+cM x.sides+cX wC x.master.configs+3*cM x.places
theorem P1 (x:aQ):0≤Rz x∧Rz x≤8*Sw x:=by
 have a1:=vn P0 x.servers
 have a2:=vn PZ x.master.configs
 have h1:cX wS x.servers≤8*TC x.servers:=by
  unfold TC
  induction x.servers with
  | nil=>simp [cX,cM]
  | cons s l ih=>
    simp only [cX,cM,List.length_cons,wS,Rd,LZ] at ih ⊢
    omega
 have h2:cX wC x.master.configs≤8*TB x.master:=by
  unfold TB
  induction x.master.configs with
  | nil=>simp [cX,cM]
  | cons s l ih=>
    simp only [cX,cM,List.length_cons,wC,LZ] at ih ⊢
    omega
 have b1:=od x.sides
 have b2:=od x.places
 unfold Rz Sw
 omega
def SE (x:aQ) (n:Int):aQ:=
 ⟨x.now,mS x.servers n,mI x.sides (n+cX wS x.servers),⟨mC x.master.configs (n+cX wS x.servers+cM x.sides),x.master.activated⟩,x.masterUp,x.lease,mP x.places (n+cX wS x.servers+cM x.sides+cX wC x.master.configs)⟩
theorem SB (x:aQ) (n:Int) (hn:0≤n) (hb:n+8*Sw x≤900000000) (ok:yZ 1048576 x):fk x n=some (SE x n,n+Rz x,()):=by
 obtain⟨w1,w2⟩:=P1 x
 have a1:=vn P0 x.servers
 have a2:=vn PZ x.master.configs
 have b1:=od x.sides
 have b2:=od x.places
 unfold Rz at w2
 obtain⟨ok1,ok2,ok3,ok4⟩:=ok
 have e:n+Rz x=n+cX wS x.servers+cM x.sides+cX wC x.master.configs+3*cM x.places:=by unfold Rz; omega
 have l1: (mS x.servers n).length=x.servers.length:=fm _ _ _ _
 have l2: (mC x.master.configs (n+cX wS x.servers+cM x.sides)).length=x.master.configs.length:=fm _ _ _ _
 have m1:=KG x.servers n hn (by omega) ok1.1 ok1.2
 have m2:=uY x.sides (n+cX wS x.servers) (by omega) (by omega) ok2
 have m3:=KF x.master.configs (n+cX wS x.servers+cM x.sides) (by omega) (by omega) ok3.1 ok3.2
 have m4:=L4 x.places (n+cX wS x.servers+cM x.sides+cX wC x.master.configs) (by omega) (by omega) ok4
 rw [e]
 unfold fk iK fi fV SE
 simp only [m1,m2,m3,m4,Option.bind_some,co,l1,l2,L0,SA,if_true]
end Go.Proofs.YtkcgfceffffmoaaGreat.En
