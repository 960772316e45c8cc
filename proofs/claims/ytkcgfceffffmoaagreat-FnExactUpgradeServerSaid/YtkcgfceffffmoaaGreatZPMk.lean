/- Marks of a cluster: what is written is found again. -/
import Derived.Test.YtkcgfceffffmoaaGreatZPM
namespace Go.Proofs.YtkcgfceffffmoaaGreat.En
open Go
theorem TV {α:Type} (l:List α):cf (fun _=>(1:Int)) l=bw l:=by rw [yW]; unfold bw; omega
theorem V6 {α:Type} (l:List α):cf (fun _=>(3:Int)) l=3*bw l:=by rw [yW]; rfl
theorem V7 {α:Type} (l:List α):cf (fun _=>(7:Int)) l=7*bw l:=by rw [yW]; rfl
theorem adds (n:Int):n+1+1=n+2∧n+2+1=n+3∧n+3+1=n+4∧n+4+1=n+5∧n+5+1=n+6∧n+6+1=n+7:=by omega
def mI (l:List Int) (n:Int):List Int:=fh (fun _ n=>n) (fun _=>1) l n
def AW (n:Int):aK:=⟨n,⟨n+1,n+2,n+3,n+4,n+5,n+6⟩⟩
def mE (l:List aK) (n:Int):List aK:=fh (fun _ n=>AW n) (fun _=>7) l n
def mP (l:List aU) (n:Int):List aU:=fh (fun _ n=>⟨n,n+1,n+2⟩) (fun _=>3) l n
theorem Oz (l:List Int) (n:Int): (mI l n).length=l.length:=fy _ _ _ _
theorem U6 (l:List aK) (n:Int): (mE l n).length=l.length:=fy _ _ _ _
theorem U7 (l:List aU) (n:Int): (mP l n).length=l.length:=fy _ _ _ _
theorem wq (l:List Int) (n:Int) (hn:0≤n) (hb:n+bw l≤900000000) (hl:l.length≤1048576):ed l n=some (mI l n,n+bw l,()):=by
 have h:=wn (F:=ed) (B:=dE) (fun _ n=>n) (fun _=>1) (fun _=>True) (fun _ _=>rfl)
  (fun l n k x hx hl h0 h1 _=>by
    have hk:=jD hx
    have c1: (k:Int) < (l.length:Int):=by omega
    have c2: (0:Int)≤(k:Int)∧(k:Int) < (l.length:Int):=by omega
    simp only [dE,gR,Int.toNat_natCast,aB,bB,if_pos c1,if_pos c2,hx,Option.bind_some,fj (n:=n+1) (by omega) (by omega),bM (fg hl) hk])
  (fun l n=>by simp only [dE,gR]; rw [aB,if_neg (by omega)]) (fun _=>by decide) l n hn (by rw [TV]; exact hb) hl (fun _ _=>trivial)
 rw [TV] at h
 exact h
theorem wr (l:List Int) (n:Int) (hn:0≤n) (hb:n+bw l≤900000000) (hl:l.length≤1048576):ir (mI l n) n=some (n+bw l,()):=by
 have h:=wo (F:=ir) (B:=fJ) (fun _ n=>n) (fun _=>1) (fun _=>True) (fun _ _=>rfl)
  (fun l n k x hx hl h0 h1 _=>by
    have hk:=jD hx
    have c1: (k:Int) < (l.length:Int):=by omega
    have c2: (0:Int)≤(k:Int):=by omega
    simp only [fJ,kT,Int.toNat_natCast,aB,bB,if_pos c1,if_pos c2,hx,Option.bind_some,fj (n:=n+1) (by omega) (by omega),bM (fg hl) hk,beq_self_eq_true,Bool.not_true,cT])
  (fun l n=>by simp only [fJ,kT]; rw [aB,if_neg (by omega)]) (fun _=>by decide) l n hn (by rw [TV]; exact hb) hl (fun _ _=>trivial)
 rw [TV] at h
 exact h
theorem GO (l:List aK) (n:Int) (hn:0≤n) (hb:n+7*bw l≤900000000) (hl:l.length≤1048576):fb l n=some (mE l n,n+7*bw l,()):=by
 have h:=wn (F:=fb) (B:=cQ) (fun _ n=>AW n) (fun _=>7) (fun _=>True) (fun _ _=>rfl)
  (fun l n k x hx hl h0 h1 _=>by
    have hk:=jD hx
    have c1: (k:Int) < (l.length:Int):=by omega
    have c2: (0:Int)≤(k:Int)∧(k:Int) < (l.length:Int):=by omega
    obtain⟨e1,e2,e3,e4,e5,e6⟩:=adds n
    simp (disch:=omega) only [cQ,ft,Int.toNat_natCast,aB,bB,List.length_set,if_pos c1,if_pos c2,hx,List.set_set,List.getElem?_set_self,Option.bind_some,fj,e1,e2,e3,e4,e5,e6,AW]
    rfl)
  (fun l n=>by simp only [cQ,ft]; rw [aB,if_neg (by omega)]) (fun _=>by decide) l n hn (by rw [V7]; exact hb) hl (fun _ _=>trivial)
 rw [V7] at h
 exact h
theorem GP (l:List aK) (n:Int) (hn:0≤n) (hb:n+7*bw l≤900000000) (hl:l.length≤1048576):i9 (mE l n) n=some (n+7*bw l,()):=by
 have h:=wo (F:=i9) (B:=ef) (fun _ n=>AW n) (fun _=>7) (fun _=>True) (fun _ _=>rfl)
  (fun l n k x hx hl h0 h1 _=>by
    have hk:=jD hx
    have c1: (k:Int) < (l.length:Int):=by omega
    have c2: (0:Int)≤(k:Int):=by omega
    obtain⟨e1,e2,e3,e4,e5,e6⟩:=adds n
    simp (disch:=omega) only [ef,iI,Int.toNat_natCast,aB,bB,if_pos c1,if_pos c2,hx,Option.bind_some,fj,e1,e2,e3,e4,e5,e6,AW,beq_self_eq_true,Bool.not_true,cT]
    rfl)
  (fun l n=>by simp only [ef,iI]; rw [aB,if_neg (by omega)]) (fun _=>by decide) l n hn (by rw [V7]; exact hb) hl (fun _ _=>trivial)
 rw [V7] at h
 exact h
theorem OA (l:List aU) (n:Int) (hn:0≤n) (hb:n+3*bw l≤900000000) (hl:l.length≤1048576):gi l n=some (mP l n,n+3*bw l,()):=by
 have h:=wn (F:=gi) (B:=cR) (fun _ n=>⟨n,n+1,n+2⟩) (fun _=>3) (fun _=>True) (fun _ _=>rfl)
  (fun l n k x hx hl h0 h1 _=>by
    have hk:=jD hx
    have c1: (k:Int) < (l.length:Int):=by omega
    have c2: (0:Int)≤(k:Int)∧(k:Int) < (l.length:Int):=by omega
    obtain⟨e1,e2,e3,e4,e5,e6⟩:=adds n
    simp (disch:=omega) only [cR,fx,Int.toNat_natCast,aB,bB,List.length_set,if_pos c1,if_pos c2,hx,List.set_set,List.getElem?_set_self,Option.bind_some,fj,e1,e2]
    rfl)
  (fun l n=>by simp only [cR,fx]; rw [aB,if_neg (by omega)]) (fun _=>by decide) l n hn (by rw [V6]; exact hb) hl (fun _ _=>trivial)
 rw [V6] at h
 exact h
theorem OB (l:List aU) (n:Int) (hn:0≤n) (hb:n+3*bw l≤900000000) (hl:l.length≤1048576):ku (mP l n) n=some (n+3*bw l,()):=by
 have h:=wo (F:=ku) (B:=eg) (fun _ n=>⟨n,n+1,n+2⟩) (fun _=>3) (fun _=>True) (fun _ _=>rfl)
  (fun l n k x hx hl h0 h1 _=>by
    have hk:=jD hx
    have c1: (k:Int) < (l.length:Int):=by omega
    have c2: (0:Int)≤(k:Int):=by omega
    obtain⟨e1,e2,e3,e4,e5,e6⟩:=adds n
    simp (disch:=omega) only [eg,iK,Int.toNat_natCast,aB,bB,if_pos c1,if_pos c2,hx,Option.bind_some,fj,e1,e2,beq_self_eq_true,Bool.not_true,cT]
    rfl)
  (fun l n=>by simp only [eg,iK]; rw [aB,if_neg (by omega)]) (fun _=>by decide) l n hn (by rw [V6]; exact hb) hl (fun _ _=>trivial)
 rw [V6] at h
 exact h
def wC (c:ai):Int:=2+bw c.replicas+bw c.witnesses
def VQ (c:ai) (n:Int):ai:=⟨n,n+1,mI c.replicas (n+2),mI c.witnesses (n+2+bw c.replicas)⟩
theorem Pp (c:ai):0≤wC c:=by unfold wC bw; omega
def mC (l:List ai) (n:Int):List ai:=fh VQ wC l n
theorem M5 (l:List ai) (n:Int) (hn:0≤n) (hb:n+cf wC l≤900000000) (hl:l.length≤1048576) (hok: ∀ c∈l,j5 1048576 c):fv l n=some (mC l n,n+cf wC l,()):=
 wn (F:=fv) (B:=cE) VQ wC (j5 1048576) (fun _ _=>rfl)
  (fun l n k x hx hl h0 h1 ok=>by
    have hk:=jD hx
    have c1: (k:Int) < (l.length:Int):=by omega
    have c2: (0:Int)≤(k:Int)∧(k:Int) < (l.length:Int):=by omega
    obtain⟨e1,e2,e3,e4,e5,e6⟩:=adds n
    have z1:=jx x.replicas
    have z2:=jx x.witnesses
    unfold wC at h1
    have m1:=wq x.replicas (n+2) (by omega) (by omega) ok.1
    have m2:=wq x.witnesses (n+2+bw x.replicas) (by omega) (by omega) ok.2
    have e:n+(2+bw x.replicas+bw x.witnesses)=n+2+bw x.replicas+bw x.witnesses:=by omega
    simp (disch:=omega) only [cE,eW,Int.toNat_natCast,aB,bB,List.length_set,if_pos c1,if_pos c2,hx,List.set_set,List.getElem?_set_self,Option.bind_some,fj,e1,m1,m2,Oz,and_self,if_true,VQ,wC,e]
    rfl)
  (fun l n=>by simp only [cE,eW]; rw [aB,if_neg (by omega)]) Pp l n hn hb hl hok
theorem M6 (l:List ai) (n:Int) (hn:0≤n) (hb:n+cf wC l≤900000000) (hl:l.length≤1048576) (hok: ∀ c∈l,j5 1048576 c):jo (mC l n) n=some (n+cf wC l,()):=
 wo (F:=jo) (B:=dG) VQ wC (j5 1048576) (fun _ _=>rfl)
  (fun l n k x hx hl h0 h1 ok=>by
    have hk:=jD hx
    have c1: (k:Int) < (l.length:Int):=by omega
    have c2: (0:Int)≤(k:Int):=by omega
    obtain⟨e1,e2,e3,e4,e5,e6⟩:=adds n
    have z1:=jx x.replicas
    have z2:=jx x.witnesses
    unfold wC at h1
    have m1:=wr x.replicas (n+2) (by omega) (by omega) ok.1
    have m2:=wr x.witnesses (n+2+bw x.replicas) (by omega) (by omega) ok.2
    have n1: ¬ n+2+bw x.replicas < 0:=by omega
    have n2: ¬ n+2+bw x.replicas+bw x.witnesses < 0:=by omega
    have e:n+(2+bw x.replicas+bw x.witnesses)=n+2+bw x.replicas+bw x.witnesses:=by omega
    simp (disch:=omega) only [dG,gU,Int.toNat_natCast,aB,bB,if_pos c1,if_pos c2,hx,Option.bind_some,fj,e1,VQ,m1,m2,if_neg n1,if_neg n2,beq_self_eq_true,Bool.not_true,cT,wC,e]
    rfl)
  (fun l n=>by simp only [dG,gU]; rw [aB,if_neg (by omega)]) Pp l n hn hb hl hok
def wS (s:ak):Int:=8+bw s.config.replicas+bw s.config.witnesses+7*bw s.log+7*bw s.learned
def VS (s:ak) (n:Int):ak:=
 ⟨Int.tmod n 3==0,Int.tmod (n+1) 3==0,n+2,n+3,⟨n+4,n+5,mI s.config.replicas (n+6),mI s.config.witnesses (n+6+bw s.config.replicas)⟩,n+6+bw s.config.replicas+bw s.config.witnesses,mE s.log (n+6+bw s.config.replicas+bw s.config.witnesses+1),n+6+bw s.config.replicas+bw s.config.witnesses+1+7*bw s.log,mE s.learned (n+6+bw s.config.replicas+bw s.config.witnesses+1+7*bw s.log+1)⟩
theorem Pq (s:ak):0≤wS s:=by unfold wS bw; omega
def mS (l:List ak) (n:Int):List ak:=fh VS wS l n
theorem M7 (l:List ak) (n:Int) (hn:0≤n) (hb:n+cf wS l≤900000000) (hl:l.length≤1048576) (hok: ∀ c∈l,o2 1048576 c):fu l n=some (mS l n,n+cf wS l,()):=
 wn (F:=fu) (B:=cD) VS wS (o2 1048576) (fun _ _=>rfl)
  (fun l n k x hx hl h0 h1 ok=>by
    have hk:=jD hx
    have c1: (k:Int) < (l.length:Int):=by omega
    have c2: (0:Int)≤(k:Int)∧(k:Int) < (l.length:Int):=by omega
    obtain⟨e1,e2,e3,e4,e5,e6⟩:=adds n
    have z1:=jx x.config.replicas
    have z2:=jx x.config.witnesses
    have z3:=jx x.log
    have z4:=jx x.learned
    unfold wS at h1
    have m1:=wq x.config.replicas (n+6) (by omega) (by omega) ok.1.1
    have m2:=wq x.config.witnesses (n+6+bw x.config.replicas) (by omega) (by omega) ok.1.2
    have m3:=GO x.log (n+6+bw x.config.replicas+bw x.config.witnesses+1) (by omega) (by omega) ok.2.1
    have m4:=GO x.learned (n+6+bw x.config.replicas+bw x.config.witnesses+1+7*bw x.log+1) (by omega) (by omega) ok.2.2
    have e:n+(8+bw x.config.replicas+bw x.config.witnesses+7*bw x.log+7*bw x.learned)=n+6+bw x.config.replicas+bw x.config.witnesses+1+7*bw x.log+1+7*bw x.learned:=by omega
    simp (maxSteps:=2000000) (disch:=omega) only [cD,eV,Int.toNat_natCast,aB,bB,List.length_set,if_pos c1,if_pos c2,hx,List.set_set,List.getElem?_set_self,Option.bind_some,fj,e1,e2,e3,e4,e5,m1,m2,m3,m4,Oz,U6,and_self,if_true,VS,wS,e]
    rfl)
  (fun l n=>by simp only [cD,eV]; rw [aB,if_neg (by omega)]) Pq l n hn hb hl hok
theorem M8 (l:List ak) (n:Int) (hn:0≤n) (hb:n+cf wS l≤900000000) (hl:l.length≤1048576) (hok: ∀ c∈l,o2 1048576 c):jn (mS l n) n=some (n+cf wS l,()):=
 wo (F:=jn) (B:=dF) VS wS (o2 1048576) (fun _ _=>rfl)
  (fun l n k x hx hl h0 h1 ok=>by
    have hk:=jD hx
    have c1: (k:Int) < (l.length:Int):=by omega
    have c2: (0:Int)≤(k:Int):=by omega
    obtain⟨e1,e2,e3,e4,e5,e6⟩:=adds n
    have z1:=jx x.config.replicas
    have z2:=jx x.config.witnesses
    have z3:=jx x.log
    have z4:=jx x.learned
    unfold wS at h1
    have m1:=wr x.config.replicas (n+6) (by omega) (by omega) ok.1.1
    have m2:=wr x.config.witnesses (n+6+bw x.config.replicas) (by omega) (by omega) ok.1.2
    have m3:=GP x.log (n+6+bw x.config.replicas+bw x.config.witnesses+1) (by omega) (by omega) ok.2.1
    have m4:=GP x.learned (n+6+bw x.config.replicas+bw x.config.witnesses+1+7*bw x.log+1) (by omega) (by omega) ok.2.2
    have n1: ¬ n+6+bw x.config.replicas < 0:=by omega
    have n2: ¬ n+6+bw x.config.replicas+bw x.config.witnesses < 0:=by omega
    have n3: ¬ n+6+bw x.config.replicas+bw x.config.witnesses+1+7*bw x.log < 0:=by omega
    have n4: ¬ n+6+bw x.config.replicas+bw x.config.witnesses+1+7*bw x.log+1+7*bw x.learned < 0:=by omega
    have e:n+(8+bw x.config.replicas+bw x.config.witnesses+7*bw x.log+7*bw x.learned)=n+6+bw x.config.replicas+bw x.config.witnesses+1+7*bw x.log+1+7*bw x.learned:=by omega
    simp (disch:=omega) only [dF,gT,Int.toNat_natCast,aB,bB,if_pos c1,if_pos c2,hx,Option.bind_some,fj,e1,e2,e3,e4,e5,VS,m1,m2,m3,m4,if_neg n1,if_neg n2,if_neg n3,if_neg n4,beq_self_eq_true,Bool.not_true,cT,wS,e]
    rfl)
  (fun l n=>by simp only [dF,gT]; rw [aB,if_neg (by omega)]) Pq l n hn hb hl hok
def Sx (x:ao):Int:=cf wS x.servers+bw x.sides+cf wC x.master.configs+3*bw x.places
theorem OC (x:ao):0≤Sx x∧Sx x≤8*Nd x:=by
 have a1:=wT Pq x.servers
 have a2:=wT Pp x.master.configs
 have h1:cf wS x.servers≤8*VO x.servers:=by
  unfold VO
  induction x.servers with
  | nil=>simp [cf,bw]
  | cons s l ih=>
    simp only [cf,bw,List.length_cons,wS,M4,Oy] at ih ⊢
    omega
 have h2:cf wC x.master.configs≤8*V5 x.master:=by
  unfold V5
  induction x.master.configs with
  | nil=>simp [cf,bw]
  | cons s l ih=>
    simp only [cf,bw,List.length_cons,wC,Oy] at ih ⊢
    omega
 have b1:=jx x.sides
 have b2:=jx x.places
 unfold Sx Nd
 omega
def QF (x:ao) (n:Int):ao:=
 ⟨x.now,mS x.servers n,mI x.sides (n+cf wS x.servers),⟨mC x.master.configs (n+cf wS x.servers+bw x.sides),x.master.activated⟩,x.masterUp,x.lease,mP x.places (n+cf wS x.servers+bw x.sides+cf wC x.master.configs)⟩
theorem wt (x:ao) (n:Int) (hn:0≤n) (hb:n+8*Nd x≤900000000) (ok:sL 1048576 x):de x n=some (QF x n,n+Sx x,())∧eh (QF x n) n=some (n+Sx x,()):=by
 obtain⟨w1,w2⟩:=OC x
 have a1:=wT Pq x.servers
 have a2:=wT Pp x.master.configs
 have b1:=jx x.sides
 have b2:=jx x.places
 unfold Sx at w2
 obtain⟨ok1,ok2,ok3,ok4⟩:=ok
 have e:n+Sx x=n+cf wS x.servers+bw x.sides+cf wC x.master.configs+3*bw x.places:=by unfold Sx; omega
 have l1: (mS x.servers n).length=x.servers.length:=fy _ _ _ _
 have l2: (mC x.master.configs (n+cf wS x.servers+bw x.sides)).length=x.master.configs.length:=fy _ _ _ _
 have m1:=M7 x.servers n hn (by omega) ok1.1 ok1.2
 have m2:=wq x.sides (n+cf wS x.servers) (by omega) (by omega) ok2
 have m3:=M5 x.master.configs (n+cf wS x.servers+bw x.sides) (by omega) (by omega) ok3.1 ok3.2
 have m4:=OA x.places (n+cf wS x.servers+bw x.sides+cf wC x.master.configs) (by omega) (by omega) ok4
 have h1:=M8 x.servers n hn (by omega) ok1.1 ok1.2
 have h2:=wr x.sides (n+cf wS x.servers) (by omega) (by omega) ok2
 have h3:=M6 x.master.configs (n+cf wS x.servers+bw x.sides) (by omega) (by omega) ok3.1 ok3.2
 have h4:=OB x.places (n+cf wS x.servers+bw x.sides+cf wC x.master.configs) (by omega) (by omega) ok4
 have n1: ¬ n+cf wS x.servers < 0:=by omega
 have n2: ¬ n+cf wS x.servers+bw x.sides < 0:=by omega
 have n3: ¬ n+cf wS x.servers+bw x.sides+cf wC x.master.configs < 0:=by omega
 have n4: ¬ n+cf wS x.servers+bw x.sides+cf wC x.master.configs+3*bw x.places < 0:=by omega
 rw [e]
 constructor
 ·unfold de i8 fw gn QF
  simp only [m1,m2,m3,m4,Option.bind_some,bB,l1,l2,Oz,U7,if_true]
 ·unfold eh me iJ j4 QF
  simp only [h1,h2,h3,h4,Option.bind_some,aB,if_neg n1,if_neg n2,if_neg n3,if_neg n4]
end Go.Proofs.YtkcgfceffffmoaaGreat.En
