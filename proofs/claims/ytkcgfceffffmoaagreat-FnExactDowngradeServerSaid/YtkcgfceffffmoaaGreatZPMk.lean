/- Marks of a cluster: what is written is found again. -/
import Derived.Test.YtkcgfceffffmoaaGreatZPM
namespace Go.Proofs.YtkcgfceffffmoaaGreat.En
open Go
theorem V7 {α:Type} (l:List α):cG (fun _=>(1:Int)) l=bL l:=by rw [Be]; unfold bL; omega
theorem Yg {α:Type} (l:List α):cG (fun _=>(3:Int)) l=3*bL l:=by rw [Be]; rfl
theorem Yh {α:Type} (l:List α):cG (fun _=>(7:Int)) l=7*bL l:=by rw [Be]; rfl
theorem adds (n:Int):n+1+1=n+2∧n+2+1=n+3∧n+3+1=n+4∧n+4+1=n+5∧n+5+1=n+6∧n+6+1=n+7:=by omega
def mI (l:List Int) (n:Int):List Int:=fY (fun _ n=>n) (fun _=>1) l n
def C2 (n:Int):az:=⟨n,⟨n+1,n+2,n+3,n+4,n+5,n+6⟩⟩
def mE (l:List az) (n:Int):List az:=fY (fun _ n=>C2 n) (fun _=>7) l n
def mP (l:List aU) (n:Int):List aU:=fY (fun _ n=>⟨n,n+1,n+2⟩) (fun _=>3) l n
theorem QL (l:List Int) (n:Int): (mI l n).length=l.length:=gx _ _ _ _
theorem Xi (l:List az) (n:Int): (mE l n).length=l.length:=gx _ _ _ _
theorem Xj (l:List aU) (n:Int): (mP l n).length=l.length:=gx _ _ _ _
theorem yx (l:List Int) (n:Int) (hn:0≤n) (hb:n+bL l≤900000000) (hl:l.length≤1048576):eT l n=some (mI l n,n+bL l,()):=by
 have h:=yu (F:=eT) (B:=ek) (fun _ n=>n) (fun _=>1) (fun _=>True) (fun _ _=>rfl)
  (fun l n k x hx hl h0 h1 _=>by
    have hk:=kG hx
    have c1: (k:Int) < (l.length:Int):=by omega
    have c2: (0:Int)≤(k:Int)∧(k:Int) < (l.length:Int):=by omega
    simp only [ek,iX,Int.toNat_natCast,ay,bE,if_pos c1,if_pos c2,hx,Option.bind_some,f8 (n:=n+1) (by omega) (by omega),bO (eX hl) hk])
  (fun l n=>by simp only [ek,iX]; rw [ay,if_neg (by omega)]) (fun _=>by decide) l n hn (by rw [V7]; exact hb) hl (fun _ _=>trivial)
 rw [V7] at h
 exact h
theorem yy (l:List Int) (n:Int) (hn:0≤n) (hb:n+bL l≤900000000) (hl:l.length≤1048576):ju (mI l n) n=some (n+bL l,()):=by
 have h:=yw (F:=ju) (B:=gM) (fun _ n=>n) (fun _=>1) (fun _=>True) (fun _ _=>rfl)
  (fun l n k x hx hl h0 h1 _=>by
    have hk:=kG hx
    have c1: (k:Int) < (l.length:Int):=by omega
    have c2: (0:Int)≤(k:Int):=by omega
    simp only [gM,mo,Int.toNat_natCast,ay,bE,if_pos c1,if_pos c2,hx,Option.bind_some,f8 (n:=n+1) (by omega) (by omega),bO (eX hl) hk,beq_self_eq_true,Bool.not_true,cW])
  (fun l n=>by simp only [gM,mo]; rw [ay,if_neg (by omega)]) (fun _=>by decide) l n hn (by rw [V7]; exact hb) hl (fun _ _=>trivial)
 rw [V7] at h
 exact h
theorem I8 (l:List az) (n:Int) (hn:0≤n) (hb:n+7*bL l≤900000000) (hl:l.length≤1048576):fW l n=some (mE l n,n+7*bL l,()):=by
 have h:=yu (F:=fW) (B:=dt) (fun _ n=>C2 n) (fun _=>7) (fun _=>True) (fun _ _=>rfl)
  (fun l n k x hx hl h0 h1 _=>by
    have hk:=kG hx
    have c1: (k:Int) < (l.length:Int):=by omega
    have c2: (0:Int)≤(k:Int)∧(k:Int) < (l.length:Int):=by omega
    obtain⟨e1,e2,e3,e4,e5,e6⟩:=adds n
    simp (disch:=omega) only [dt,gp,Int.toNat_natCast,ay,bE,List.length_set,if_pos c1,if_pos c2,hx,List.set_set,List.getElem?_set_self,Option.bind_some,f8,e1,e2,e3,e4,e5,e6,C2]
    rfl)
  (fun l n=>by simp only [dt,gp]; rw [ay,if_neg (by omega)]) (fun _=>by decide) l n hn (by rw [Yh]; exact hb) hl (fun _ _=>trivial)
 rw [Yh] at h
 exact h
theorem I9 (l:List az) (n:Int) (hn:0≤n) (hb:n+7*bL l≤900000000) (hl:l.length≤1048576):ka (mE l n) n=some (n+7*bL l,()):=by
 have h:=yw (F:=ka) (B:=eU) (fun _ n=>C2 n) (fun _=>7) (fun _=>True) (fun _ _=>rfl)
  (fun l n k x hx hl h0 h1 _=>by
    have hk:=kG hx
    have c1: (k:Int) < (l.length:Int):=by omega
    have c2: (0:Int)≤(k:Int):=by omega
    obtain⟨e1,e2,e3,e4,e5,e6⟩:=adds n
    simp (disch:=omega) only [eU,jK,Int.toNat_natCast,ay,bE,if_pos c1,if_pos c2,hx,Option.bind_some,f8,e1,e2,e3,e4,e5,e6,C2,beq_self_eq_true,Bool.not_true,cW]
    rfl)
  (fun l n=>by simp only [eU,jK]; rw [ay,if_neg (by omega)]) (fun _=>by decide) l n hn (by rw [Yh]; exact hb) hl (fun _ _=>trivial)
 rw [Yh] at h
 exact h
theorem QM (l:List aU) (n:Int) (hn:0≤n) (hb:n+3*bL l≤900000000) (hl:l.length≤1048576):im l n=some (mP l n,n+3*bL l,()):=by
 have h:=yu (F:=im) (B:=du) (fun _ n=>⟨n,n+1,n+2⟩) (fun _=>3) (fun _=>True) (fun _ _=>rfl)
  (fun l n k x hx hl h0 h1 _=>by
    have hk:=kG hx
    have c1: (k:Int) < (l.length:Int):=by omega
    have c2: (0:Int)≤(k:Int)∧(k:Int) < (l.length:Int):=by omega
    obtain⟨e1,e2,e3,e4,e5,e6⟩:=adds n
    simp (disch:=omega) only [du,gv,Int.toNat_natCast,ay,bE,List.length_set,if_pos c1,if_pos c2,hx,List.set_set,List.getElem?_set_self,Option.bind_some,f8,e1,e2]
    rfl)
  (fun l n=>by simp only [du,gv]; rw [ay,if_neg (by omega)]) (fun _=>by decide) l n hn (by rw [Yg]; exact hb) hl (fun _ _=>trivial)
 rw [Yg] at h
 exact h
theorem QN (l:List aU) (n:Int) (hn:0≤n) (hb:n+3*bL l≤900000000) (hl:l.length≤1048576):lN (mP l n) n=some (n+3*bL l,()):=by
 have h:=yw (F:=lN) (B:=eV) (fun _ n=>⟨n,n+1,n+2⟩) (fun _=>3) (fun _=>True) (fun _ _=>rfl)
  (fun l n k x hx hl h0 h1 _=>by
    have hk:=kG hx
    have c1: (k:Int) < (l.length:Int):=by omega
    have c2: (0:Int)≤(k:Int):=by omega
    obtain⟨e1,e2,e3,e4,e5,e6⟩:=adds n
    simp (disch:=omega) only [eV,jM,Int.toNat_natCast,ay,bE,if_pos c1,if_pos c2,hx,Option.bind_some,f8,e1,e2,beq_self_eq_true,Bool.not_true,cW]
    rfl)
  (fun l n=>by simp only [eV,jM]; rw [ay,if_neg (by omega)]) (fun _=>by decide) l n hn (by rw [Yg]; exact hb) hl (fun _ _=>trivial)
 rw [Yg] at h
 exact h
def wC (c:ai):Int:=2+bL c.replicas+bL c.witnesses
def X2 (c:ai) (n:Int):ai:=⟨n,n+1,mI c.replicas (n+2),mI c.witnesses (n+2+bL c.replicas)⟩
theorem RA (c:ai):0≤wC c:=by unfold wC bL; omega
def mC (l:List ai) (n:Int):List ai:=fY X2 wC l n
theorem Pq (l:List ai) (n:Int) (hn:0≤n) (hb:n+cG wC l≤900000000) (hl:l.length≤1048576) (hok: ∀ c∈l,ll 1048576 c):gr l n=some (mC l n,n+cG wC l,()):=
 yu (F:=gr) (B:=da) X2 wC (ll 1048576) (fun _ _=>rfl)
  (fun l n k x hx hl h0 h1 ok=>by
    have hk:=kG hx
    have c1: (k:Int) < (l.length:Int):=by omega
    have c2: (0:Int)≤(k:Int)∧(k:Int) < (l.length:Int):=by omega
    obtain⟨e1,e2,e3,e4,e5,e6⟩:=adds n
    have z1:=kB x.replicas
    have z2:=kB x.witnesses
    unfold wC at h1
    have m1:=yx x.replicas (n+2) (by omega) (by omega) ok.1
    have m2:=yx x.witnesses (n+2+bL x.replicas) (by omega) (by omega) ok.2
    have e:n+(2+bL x.replicas+bL x.witnesses)=n+2+bL x.replicas+bL x.witnesses:=by omega
    simp (disch:=omega) only [da,fR,Int.toNat_natCast,ay,bE,List.length_set,if_pos c1,if_pos c2,hx,List.set_set,List.getElem?_set_self,Option.bind_some,f8,e1,m1,m2,QL,and_self,if_true,X2,wC,e]
    rfl)
  (fun l n=>by simp only [da,fR]; rw [ay,if_neg (by omega)]) RA l n hn hb hl hok
theorem Pr (l:List ai) (n:Int) (hn:0≤n) (hb:n+cG wC l≤900000000) (hl:l.length≤1048576) (hok: ∀ c∈l,ll 1048576 c):kt (mC l n) n=some (n+cG wC l,()):=
 yw (F:=kt) (B:=eo) X2 wC (ll 1048576) (fun _ _=>rfl)
  (fun l n k x hx hl h0 h1 ok=>by
    have hk:=kG hx
    have c1: (k:Int) < (l.length:Int):=by omega
    have c2: (0:Int)≤(k:Int):=by omega
    obtain⟨e1,e2,e3,e4,e5,e6⟩:=adds n
    have z1:=kB x.replicas
    have z2:=kB x.witnesses
    unfold wC at h1
    have m1:=yy x.replicas (n+2) (by omega) (by omega) ok.1
    have m2:=yy x.witnesses (n+2+bL x.replicas) (by omega) (by omega) ok.2
    have n1: ¬ n+2+bL x.replicas < 0:=by omega
    have n2: ¬ n+2+bL x.replicas+bL x.witnesses < 0:=by omega
    have e:n+(2+bL x.replicas+bL x.witnesses)=n+2+bL x.replicas+bL x.witnesses:=by omega
    simp (disch:=omega) only [eo,iZ,Int.toNat_natCast,ay,bE,if_pos c1,if_pos c2,hx,Option.bind_some,f8,e1,X2,m1,m2,if_neg n1,if_neg n2,beq_self_eq_true,Bool.not_true,cW,wC,e]
    rfl)
  (fun l n=>by simp only [eo,iZ]; rw [ay,if_neg (by omega)]) RA l n hn hb hl hok
def wS (s:aj):Int:=8+bL s.config.replicas+bL s.config.witnesses+7*bL s.log+7*bL s.learned
def X3 (s:aj) (n:Int):aj:=
 ⟨Int.tmod n 3==0,Int.tmod (n+1) 3==0,n+2,n+3,⟨n+4,n+5,mI s.config.replicas (n+6),mI s.config.witnesses (n+6+bL s.config.replicas)⟩,n+6+bL s.config.replicas+bL s.config.witnesses,mE s.log (n+6+bL s.config.replicas+bL s.config.witnesses+1),n+6+bL s.config.replicas+bL s.config.witnesses+1+7*bL s.log,mE s.learned (n+6+bL s.config.replicas+bL s.config.witnesses+1+7*bL s.log+1)⟩
theorem RB (s:aj):0≤wS s:=by unfold wS bL; omega
def mS (l:List aj) (n:Int):List aj:=fY X3 wS l n
theorem Ps (l:List aj) (n:Int) (hn:0≤n) (hb:n+cG wS l≤900000000) (hl:l.length≤1048576) (hok: ∀ c∈l,qD 1048576 c):gq l n=some (mS l n,n+cG wS l,()):=
 yu (F:=gq) (B:=c9) X3 wS (qD 1048576) (fun _ _=>rfl)
  (fun l n k x hx hl h0 h1 ok=>by
    have hk:=kG hx
    have c1: (k:Int) < (l.length:Int):=by omega
    have c2: (0:Int)≤(k:Int)∧(k:Int) < (l.length:Int):=by omega
    obtain⟨e1,e2,e3,e4,e5,e6⟩:=adds n
    have z1:=kB x.config.replicas
    have z2:=kB x.config.witnesses
    have z3:=kB x.log
    have z4:=kB x.learned
    unfold wS at h1
    have m1:=yx x.config.replicas (n+6) (by omega) (by omega) ok.1.1
    have m2:=yx x.config.witnesses (n+6+bL x.config.replicas) (by omega) (by omega) ok.1.2
    have m3:=I8 x.log (n+6+bL x.config.replicas+bL x.config.witnesses+1) (by omega) (by omega) ok.2.1
    have m4:=I8 x.learned (n+6+bL x.config.replicas+bL x.config.witnesses+1+7*bL x.log+1) (by omega) (by omega) ok.2.2
    have e:n+(8+bL x.config.replicas+bL x.config.witnesses+7*bL x.log+7*bL x.learned)=n+6+bL x.config.replicas+bL x.config.witnesses+1+7*bL x.log+1+7*bL x.learned:=by omega
    simp (maxSteps:=2000000) (disch:=omega) only [c9,fQ,Int.toNat_natCast,ay,bE,List.length_set,if_pos c1,if_pos c2,hx,List.set_set,List.getElem?_set_self,Option.bind_some,f8,e1,e2,e3,e4,e5,m1,m2,m3,m4,QL,Xi,and_self,if_true,X3,wS,e]
    rfl)
  (fun l n=>by simp only [c9,fQ]; rw [ay,if_neg (by omega)]) RB l n hn hb hl hok
theorem Pt (l:List aj) (n:Int) (hn:0≤n) (hb:n+cG wS l≤900000000) (hl:l.length≤1048576) (hok: ∀ c∈l,qD 1048576 c):kr (mS l n) n=some (n+cG wS l,()):=
 yw (F:=kr) (B:=en) X3 wS (qD 1048576) (fun _ _=>rfl)
  (fun l n k x hx hl h0 h1 ok=>by
    have hk:=kG hx
    have c1: (k:Int) < (l.length:Int):=by omega
    have c2: (0:Int)≤(k:Int):=by omega
    obtain⟨e1,e2,e3,e4,e5,e6⟩:=adds n
    have z1:=kB x.config.replicas
    have z2:=kB x.config.witnesses
    have z3:=kB x.log
    have z4:=kB x.learned
    unfold wS at h1
    have m1:=yy x.config.replicas (n+6) (by omega) (by omega) ok.1.1
    have m2:=yy x.config.witnesses (n+6+bL x.config.replicas) (by omega) (by omega) ok.1.2
    have m3:=I9 x.log (n+6+bL x.config.replicas+bL x.config.witnesses+1) (by omega) (by omega) ok.2.1
    have m4:=I9 x.learned (n+6+bL x.config.replicas+bL x.config.witnesses+1+7*bL x.log+1) (by omega) (by omega) ok.2.2
    have n1: ¬ n+6+bL x.config.replicas < 0:=by omega
    have n2: ¬ n+6+bL x.config.replicas+bL x.config.witnesses < 0:=by omega
    have n3: ¬ n+6+bL x.config.replicas+bL x.config.witnesses+1+7*bL x.log < 0:=by omega
    have n4: ¬ n+6+bL x.config.replicas+bL x.config.witnesses+1+7*bL x.log+1+7*bL x.learned < 0:=by omega
    have e:n+(8+bL x.config.replicas+bL x.config.witnesses+7*bL x.log+7*bL x.learned)=n+6+bL x.config.replicas+bL x.config.witnesses+1+7*bL x.log+1+7*bL x.learned:=by omega
    simp (disch:=omega) only [en,iY,Int.toNat_natCast,ay,bE,if_pos c1,if_pos c2,hx,Option.bind_some,f8,e1,e2,e3,e4,e5,X3,m1,m2,m3,m4,if_neg n1,if_neg n2,if_neg n3,if_neg n4,beq_self_eq_true,Bool.not_true,cW,wS,e]
    rfl)
  (fun l n=>by simp only [en,iY]; rw [ay,if_neg (by omega)]) RB l n hn hb hl hok
def UR (x:ao):Int:=cG wS x.servers+bL x.sides+cG wC x.master.configs+3*bL x.places
theorem QO (x:ao):0≤UR x∧UR x≤8*Pp x:=by
 have a1:=yY RB x.servers
 have a2:=yY RA x.master.configs
 have h1:cG wS x.servers≤8*X0 x.servers:=by
  unfold X0
  induction x.servers with
  | nil=>simp [cG,bL]
  | cons s l ih=>
    simp only [cG,bL,List.length_cons,wS,Po,QK] at ih ⊢
    omega
 have h2:cG wC x.master.configs≤8*Yf x.master:=by
  unfold Yf
  induction x.master.configs with
  | nil=>simp [cG,bL]
  | cons s l ih=>
    simp only [cG,bL,List.length_cons,wC,QK] at ih ⊢
    omega
 have b1:=kB x.sides
 have b2:=kB x.places
 unfold UR Pp
 omega
def S4 (x:ao) (n:Int):ao:=
 ⟨x.now,mS x.servers n,mI x.sides (n+cG wS x.servers),⟨mC x.master.configs (n+cG wS x.servers+bL x.sides),x.master.activated⟩,x.masterUp,x.lease,mP x.places (n+cG wS x.servers+bL x.sides+cG wC x.master.configs)⟩
theorem yz (x:ao) (n:Int) (hn:0≤n) (hb:n+8*Pp x≤900000000) (ok:tC 1048576 x):dI x n=some (S4 x n,n+UR x,())∧eW (S4 x n) n=some (n+UR x,()):=by
 obtain⟨w1,w2⟩:=QO x
 have a1:=yY RB x.servers
 have a2:=yY RA x.master.configs
 have b1:=kB x.sides
 have b2:=kB x.places
 unfold UR at w2
 obtain⟨ok1,ok2,ok3,ok4⟩:=ok
 have e:n+UR x=n+cG wS x.servers+bL x.sides+cG wC x.master.configs+3*bL x.places:=by unfold UR; omega
 have l1: (mS x.servers n).length=x.servers.length:=gx _ _ _ _
 have l2: (mC x.master.configs (n+cG wS x.servers+bL x.sides)).length=x.master.configs.length:=gx _ _ _ _
 have m1:=Ps x.servers n hn (by omega) ok1.1 ok1.2
 have m2:=yx x.sides (n+cG wS x.servers) (by omega) (by omega) ok2
 have m3:=Pq x.master.configs (n+cG wS x.servers+bL x.sides) (by omega) (by omega) ok3.1 ok3.2
 have m4:=QM x.places (n+cG wS x.servers+bL x.sides+cG wC x.master.configs) (by omega) (by omega) ok4
 have h1:=Pt x.servers n hn (by omega) ok1.1 ok1.2
 have h2:=yy x.sides (n+cG wS x.servers) (by omega) (by omega) ok2
 have h3:=Pr x.master.configs (n+cG wS x.servers+bL x.sides) (by omega) (by omega) ok3.1 ok3.2
 have h4:=QN x.places (n+cG wS x.servers+bL x.sides+cG wC x.master.configs) (by omega) (by omega) ok4
 have n1: ¬ n+cG wS x.servers < 0:=by omega
 have n2: ¬ n+cG wS x.servers+bL x.sides < 0:=by omega
 have n3: ¬ n+cG wS x.servers+bL x.sides+cG wC x.master.configs < 0:=by omega
 have n4: ¬ n+cG wS x.servers+bL x.sides+cG wC x.master.configs+3*bL x.places < 0:=by omega
 rw [e]
 constructor
 ·unfold dI j9 gt it S4
  simp only [m1,m2,m3,m4,Option.bind_some,bE,l1,l2,QL,Xj,if_true]
 ·unfold eW nX jL lj S4
  simp only [h1,h2,h3,h4,Option.bind_some,ay,if_neg n1,if_neg n2,if_neg n3,if_neg n4]
end Go.Proofs.YtkcgfceffffmoaaGreat.En
