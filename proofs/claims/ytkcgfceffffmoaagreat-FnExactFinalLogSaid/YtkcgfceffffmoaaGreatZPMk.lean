/- Marks of a cluster: what is written is found again. -/
import Derived.Test.YtkcgfceffffmoaaGreatZPM
namespace Go.Proofs.YtkcgfceffffmoaaGreat.En
open Go
theorem Q2 {α:Type} (l:List α):cq (fun _=>(1:Int)) l=bo l:=by rw [xf]; unfold bo; omega
theorem Tp {α:Type} (l:List α):cq (fun _=>(3:Int)) l=3*bo l:=by rw [xf]; rfl
theorem Tq {α:Type} (l:List α):cq (fun _=>(7:Int)) l=7*bo l:=by rw [xf]; rfl
theorem adds (n:Int):n+1+1=n+2∧n+2+1=n+3∧n+3+1=n+4∧n+4+1=n+5∧n+5+1=n+6∧n+6+1=n+7:=by omega
def mI (l:List Int) (n:Int):List Int:=eU (fun _ n=>n) (fun _=>1) l n
def yU (n:Int):aB:=⟨n,⟨n+1,n+2,n+3,n+4,n+5,n+6⟩⟩
def mE (l:List aB) (n:Int):List aB:=eU (fun _ n=>yU n) (fun _=>7) l n
def mP (l:List be) (n:Int):List be:=eU (fun _ n=>⟨n,n+1,n+2⟩) (fun _=>3) l n
theorem LS (l:List Int) (n:Int): (mI l n).length=l.length:=fo _ _ _ _
theorem PO (l:List aB) (n:Int): (mE l n).length=l.length:=fo _ _ _ _
theorem Sk (l:List be) (n:Int): (mP l n).length=l.length:=fo _ _ _ _
theorem uT (l:List Int) (n:Int) (hn:0≤n) (hb:n+bo l≤900000000) (hl:l.length≤1048576):dU l n=some (mI l n,n+bo l,()):=by
 have h:=uR (F:=dU) (B:=dz) (fun _ n=>n) (fun _=>1) (fun _=>True) (fun _ _=>rfl)
  (fun l n k x hx hl h0 h1 _=>by
    have hk:=jK hx
    have c1: (k:Int) < (l.length:Int):=by omega
    have c2: (0:Int)≤(k:Int)∧(k:Int) < (l.length:Int):=by omega
    simp only [dz,gx,Int.toNat_natCast,az,bT,if_pos c1,if_pos c2,hx,Option.bind_some,eW (n:=n+1) (by omega) (by omega),bU (fV hl) hk])
  (fun l n=>by simp only [dz,gx]; rw [az,if_neg (by omega)]) (fun _=>by decide) l n hn (by rw [Q2]; exact hb) hl (fun _ _=>trivial)
 rw [Q2] at h
 exact h
theorem uU (l:List Int) (n:Int) (hn:0≤n) (hb:n+bo l≤900000000) (hl:l.length≤1048576):fwheldIntS (mI l n) n=some (n+bo l,()):=by
 have h:=uS (F:=fwheldIntS) (B:=bwheldIntS_2) (fun _ n=>n) (fun _=>1) (fun _=>True) (fun _ _=>rfl)
  (fun l n k x hx hl h0 h1 _=>by
    have hk:=jK hx
    have c1: (k:Int) < (l.length:Int):=by omega
    have c2: (0:Int)≤(k:Int):=by omega
    simp only [bwheldIntS_2,bwheldIntS_2C,Int.toNat_natCast,az,bT,if_pos c1,if_pos c2,hx,Option.bind_some,eW (n:=n+1) (by omega) (by omega),bU (fV hl) hk,beq_self_eq_true,Bool.not_true,cI])
  (fun l n=>by simp only [bwheldIntS_2,bwheldIntS_2C]; rw [az,if_neg (by omega)]) (fun _=>by decide) l n hn (by rw [Q2]; exact hb) hl (fun _ _=>trivial)
 rw [Q2] at h
 exact h
theorem xg (l:List aB) (n:Int) (hn:0≤n) (hb:n+7*bo l≤900000000) (hl:l.length≤1048576):dY l n=some (mE l n,n+7*bo l,()):=by
 have h:=uR (F:=dY) (B:=cS) (fun _ n=>yU n) (fun _=>7) (fun _=>True) (fun _ _=>rfl)
  (fun l n k x hx hl h0 h1 _=>by
    have hk:=jK hx
    have c1: (k:Int) < (l.length:Int):=by omega
    have c2: (0:Int)≤(k:Int)∧(k:Int) < (l.length:Int):=by omega
    obtain⟨e1,e2,e3,e4,e5,e6⟩:=adds n
    simp (disch:=omega) only [cS,fg,Int.toNat_natCast,az,bT,List.length_set,if_pos c1,if_pos c2,hx,List.set_set,List.getElem?_set_self,Option.bind_some,eW,e1,e2,e3,e4,e5,e6,yU]
    rfl)
  (fun l n=>by simp only [cS,fg]; rw [az,if_neg (by omega)]) (fun _=>by decide) l n hn (by rw [Tq]; exact hb) hl (fun _ _=>trivial)
 rw [Tq] at h
 exact h
theorem xh (l:List aB) (n:Int) (hn:0≤n) (hb:n+7*bo l≤900000000) (hl:l.length≤1048576):iJ (mE l n) n=some (n+7*bo l,()):=by
 have h:=uS (F:=iJ) (B:=dV) (fun _ n=>yU n) (fun _=>7) (fun _=>True) (fun _ _=>rfl)
  (fun l n k x hx hl h0 h1 _=>by
    have hk:=jK hx
    have c1: (k:Int) < (l.length:Int):=by omega
    have c2: (0:Int)≤(k:Int):=by omega
    obtain⟨e1,e2,e3,e4,e5,e6⟩:=adds n
    simp (disch:=omega) only [dV,ik,Int.toNat_natCast,az,bT,if_pos c1,if_pos c2,hx,Option.bind_some,eW,e1,e2,e3,e4,e5,e6,yU,beq_self_eq_true,Bool.not_true,cI]
    rfl)
  (fun l n=>by simp only [dV,ik]; rw [az,if_neg (by omega)]) (fun _=>by decide) l n hn (by rw [Tq]; exact hb) hl (fun _ _=>trivial)
 rw [Tq] at h
 exact h
theorem LU (l:List be) (n:Int) (hn:0≤n) (hb:n+3*bo l≤900000000) (hl:l.length≤1048576):fU l n=some (mP l n,n+3*bo l,()):=by
 have h:=uR (F:=fU) (B:=cT) (fun _ n=>⟨n,n+1,n+2⟩) (fun _=>3) (fun _=>True) (fun _ _=>rfl)
  (fun l n k x hx hl h0 h1 _=>by
    have hk:=jK hx
    have c1: (k:Int) < (l.length:Int):=by omega
    have c2: (0:Int)≤(k:Int)∧(k:Int) < (l.length:Int):=by omega
    obtain⟨e1,e2,e3,e4,e5,e6⟩:=adds n
    simp (disch:=omega) only [cT,fk,Int.toNat_natCast,az,bT,List.length_set,if_pos c1,if_pos c2,hx,List.set_set,List.getElem?_set_self,Option.bind_some,eW,e1,e2]
    rfl)
  (fun l n=>by simp only [cT,fk]; rw [az,if_neg (by omega)]) (fun _=>by decide) l n hn (by rw [Tp]; exact hb) hl (fun _ _=>trivial)
 rw [Tp] at h
 exact h
theorem LV (l:List be) (n:Int) (hn:0≤n) (hb:n+3*bo l≤900000000) (hl:l.length≤1048576):fwheldPlaceS (mP l n) n=some (n+3*bo l,()):=by
 have h:=uS (F:=fwheldPlaceS) (B:=bwheldPlaceS_2) (fun _ n=>⟨n,n+1,n+2⟩) (fun _=>3) (fun _=>True) (fun _ _=>rfl)
  (fun l n k x hx hl h0 h1 _=>by
    have hk:=jK hx
    have c1: (k:Int) < (l.length:Int):=by omega
    have c2: (0:Int)≤(k:Int):=by omega
    obtain⟨e1,e2,e3,e4,e5,e6⟩:=adds n
    simp (disch:=omega) only [bwheldPlaceS_2,bwheldPlaceS_2C,Int.toNat_natCast,az,bT,if_pos c1,if_pos c2,hx,Option.bind_some,eW,e1,e2,beq_self_eq_true,Bool.not_true,cI]
    rfl)
  (fun l n=>by simp only [bwheldPlaceS_2,bwheldPlaceS_2C]; rw [az,if_neg (by omega)]) (fun _=>by decide) l n hn (by rw [Tp]; exact hb) hl (fun _ _=>trivial)
 rw [Tp] at h
 exact h
def wC (c:ai):Int:=2+bo c.replicas+bo c.witnesses
def Tb (c:ai) (n:Int):ai:=⟨n,n+1,mI c.replicas (n+2),mI c.witnesses (n+2+bo c.replicas)⟩
theorem MI (c:ai):0≤wC c:=by unfold wC bo; omega
def mC (l:List ai) (n:Int):List ai:=eU Tb wC l n
theorem Kv (l:List ai) (n:Int) (hn:0≤n) (hb:n+cq wC l≤900000000) (hl:l.length≤1048576) (hok: ∀ c∈l,hM 1048576 c):fi l n=some (mC l n,n+cq wC l,()):=
 uR (F:=fi) (B:=cG) Tb wC (hM 1048576) (fun _ _=>rfl)
  (fun l n k x hx hl h0 h1 ok=>by
    have hk:=jK hx
    have c1: (k:Int) < (l.length:Int):=by omega
    have c2: (0:Int)≤(k:Int)∧(k:Int) < (l.length:Int):=by omega
    obtain⟨e1,e2,e3,e4,e5,e6⟩:=adds n
    have z1:=iK x.replicas
    have z2:=iK x.witnesses
    unfold wC at h1
    have m1:=uT x.replicas (n+2) (by omega) (by omega) ok.1
    have m2:=uT x.witnesses (n+2+bo x.replicas) (by omega) (by omega) ok.2
    have e:n+(2+bo x.replicas+bo x.witnesses)=n+2+bo x.replicas+bo x.witnesses:=by omega
    simp (disch:=omega) only [cG,eO,Int.toNat_natCast,az,bT,List.length_set,if_pos c1,if_pos c2,hx,List.set_set,List.getElem?_set_self,Option.bind_some,eW,e1,m1,m2,LS,and_self,if_true,Tb,wC,e]
    rfl)
  (fun l n=>by simp only [cG,eO]; rw [az,if_neg (by omega)]) MI l n hn hb hl hok
theorem Kw (l:List ai) (n:Int) (hn:0≤n) (hb:n+cq wC l≤900000000) (hl:l.length≤1048576) (hok: ∀ c∈l,hM 1048576 c):fwheldConfigS (mC l n) n=some (n+cq wC l,()):=
 uS (F:=fwheldConfigS) (B:=bwheldConfigS_2) Tb wC (hM 1048576) (fun _ _=>rfl)
  (fun l n k x hx hl h0 h1 ok=>by
    have hk:=jK hx
    have c1: (k:Int) < (l.length:Int):=by omega
    have c2: (0:Int)≤(k:Int):=by omega
    obtain⟨e1,e2,e3,e4,e5,e6⟩:=adds n
    have z1:=iK x.replicas
    have z2:=iK x.witnesses
    unfold wC at h1
    have m1:=uU x.replicas (n+2) (by omega) (by omega) ok.1
    have m2:=uU x.witnesses (n+2+bo x.replicas) (by omega) (by omega) ok.2
    have n1: ¬ n+2+bo x.replicas < 0:=by omega
    have n2: ¬ n+2+bo x.replicas+bo x.witnesses < 0:=by omega
    have e:n+(2+bo x.replicas+bo x.witnesses)=n+2+bo x.replicas+bo x.witnesses:=by omega
    simp (disch:=omega) only [bwheldConfigS_2,bwheldConfigS_2C,Int.toNat_natCast,az,bT,if_pos c1,if_pos c2,hx,Option.bind_some,eW,e1,Tb,m1,m2,if_neg n1,if_neg n2,beq_self_eq_true,Bool.not_true,cI,wC,e]
    rfl)
  (fun l n=>by simp only [bwheldConfigS_2,bwheldConfigS_2C]; rw [az,if_neg (by omega)]) MI l n hn hb hl hok
def wS (s:ay):Int:=8+bo s.config.replicas+bo s.config.witnesses+7*bo s.log+7*bo s.learned
def Tc (s:ay) (n:Int):ay:=
 ⟨Int.tmod n 3==0,Int.tmod (n+1) 3==0,n+2,n+3,⟨n+4,n+5,mI s.config.replicas (n+6),mI s.config.witnesses (n+6+bo s.config.replicas)⟩,n+6+bo s.config.replicas+bo s.config.witnesses,mE s.log (n+6+bo s.config.replicas+bo s.config.witnesses+1),n+6+bo s.config.replicas+bo s.config.witnesses+1+7*bo s.log,mE s.learned (n+6+bo s.config.replicas+bo s.config.witnesses+1+7*bo s.log+1)⟩
theorem MJ (s:ay):0≤wS s:=by unfold wS bo; omega
def mS (l:List ay) (n:Int):List ay:=eU Tc wS l n
theorem Kx (l:List ay) (n:Int) (hn:0≤n) (hb:n+cq wS l≤900000000) (hl:l.length≤1048576) (hok: ∀ c∈l,o4 1048576 c):fh l n=some (mS l n,n+cq wS l,()):=
 uR (F:=fh) (B:=cF) Tc wS (o4 1048576) (fun _ _=>rfl)
  (fun l n k x hx hl h0 h1 ok=>by
    have hk:=jK hx
    have c1: (k:Int) < (l.length:Int):=by omega
    have c2: (0:Int)≤(k:Int)∧(k:Int) < (l.length:Int):=by omega
    obtain⟨e1,e2,e3,e4,e5,e6⟩:=adds n
    have z1:=iK x.config.replicas
    have z2:=iK x.config.witnesses
    have z3:=iK x.log
    have z4:=iK x.learned
    unfold wS at h1
    have m1:=uT x.config.replicas (n+6) (by omega) (by omega) ok.1.1
    have m2:=uT x.config.witnesses (n+6+bo x.config.replicas) (by omega) (by omega) ok.1.2
    have m3:=xg x.log (n+6+bo x.config.replicas+bo x.config.witnesses+1) (by omega) (by omega) ok.2.1
    have m4:=xg x.learned (n+6+bo x.config.replicas+bo x.config.witnesses+1+7*bo x.log+1) (by omega) (by omega) ok.2.2
    have e:n+(8+bo x.config.replicas+bo x.config.witnesses+7*bo x.log+7*bo x.learned)=n+6+bo x.config.replicas+bo x.config.witnesses+1+7*bo x.log+1+7*bo x.learned:=by omega
    simp (maxSteps:=2000000) (disch:=omega) only [cF,eN,Int.toNat_natCast,az,bT,List.length_set,if_pos c1,if_pos c2,hx,List.set_set,List.getElem?_set_self,Option.bind_some,eW,e1,e2,e3,e4,e5,m1,m2,m3,m4,LS,PO,and_self,if_true,Tc,wS,e]
    rfl)
  (fun l n=>by simp only [cF,eN]; rw [az,if_neg (by omega)]) MJ l n hn hb hl hok
theorem Ky (l:List ay) (n:Int) (hn:0≤n) (hb:n+cq wS l≤900000000) (hl:l.length≤1048576) (hok: ∀ c∈l,o4 1048576 c):fwheldServerS (mS l n) n=some (n+cq wS l,()):=
 uS (F:=fwheldServerS) (B:=bwheldServerS_2) Tc wS (o4 1048576) (fun _ _=>rfl)
  (fun l n k x hx hl h0 h1 ok=>by
    have hk:=jK hx
    have c1: (k:Int) < (l.length:Int):=by omega
    have c2: (0:Int)≤(k:Int):=by omega
    obtain⟨e1,e2,e3,e4,e5,e6⟩:=adds n
    have z1:=iK x.config.replicas
    have z2:=iK x.config.witnesses
    have z3:=iK x.log
    have z4:=iK x.learned
    unfold wS at h1
    have m1:=uU x.config.replicas (n+6) (by omega) (by omega) ok.1.1
    have m2:=uU x.config.witnesses (n+6+bo x.config.replicas) (by omega) (by omega) ok.1.2
    have m3:=xh x.log (n+6+bo x.config.replicas+bo x.config.witnesses+1) (by omega) (by omega) ok.2.1
    have m4:=xh x.learned (n+6+bo x.config.replicas+bo x.config.witnesses+1+7*bo x.log+1) (by omega) (by omega) ok.2.2
    have n1: ¬ n+6+bo x.config.replicas < 0:=by omega
    have n2: ¬ n+6+bo x.config.replicas+bo x.config.witnesses < 0:=by omega
    have n3: ¬ n+6+bo x.config.replicas+bo x.config.witnesses+1+7*bo x.log < 0:=by omega
    have n4: ¬ n+6+bo x.config.replicas+bo x.config.witnesses+1+7*bo x.log+1+7*bo x.learned < 0:=by omega
    have e:n+(8+bo x.config.replicas+bo x.config.witnesses+7*bo x.log+7*bo x.learned)=n+6+bo x.config.replicas+bo x.config.witnesses+1+7*bo x.log+1+7*bo x.learned:=by omega
    simp (disch:=omega) only [bwheldServerS_2,bwheldServerS_2C,Int.toNat_natCast,az,bT,if_pos c1,if_pos c2,hx,Option.bind_some,eW,e1,e2,e3,e4,e5,Tc,m1,m2,m3,m4,if_neg n1,if_neg n2,if_neg n3,if_neg n4,beq_self_eq_true,Bool.not_true,cI,wS,e]
    rfl)
  (fun l n=>by simp only [bwheldServerS_2,bwheldServerS_2C]; rw [az,if_neg (by omega)]) MJ l n hn hb hl hok
def Q3 (x:aP):Int:=cq wS x.servers+bo x.sides+cq wC x.master.configs+3*bo x.places
theorem PP (x:aP):0≤Q3 x∧Q3 x≤8*Sg x:=by
 have a1:=vj MJ x.servers
 have a2:=vj MI x.master.configs
 have h1:cq wS x.servers≤8*To x.servers:=by
  unfold To
  induction x.servers with
  | nil=>simp [cq,bo]
  | cons s l ih=>
    simp only [cq,bo,List.length_cons,wS,Q0,LR] at ih ⊢
    omega
 have h2:cq wC x.master.configs≤8*Tn x.master:=by
  unfold Tn
  induction x.master.configs with
  | nil=>simp [cq,bo]
  | cons s l ih=>
    simp only [cq,bo,List.length_cons,wC,LR] at ih ⊢
    omega
 have b1:=iK x.sides
 have b2:=iK x.places
 unfold Q3 Sg
 omega
def Rn (x:aP) (n:Int):aP:=
 ⟨x.now,mS x.servers n,mI x.sides (n+cq wS x.servers),⟨mC x.master.configs (n+cq wS x.servers+bo x.sides),x.master.activated⟩,x.masterUp,x.lease,mP x.places (n+cq wS x.servers+bo x.sides+cq wC x.master.configs)⟩
theorem Kz (x:aP) (n:Int) (hn:0≤n) (hb:n+8*Sg x≤900000000) (ok:xd 1048576 x):fm x n=some (Rn x n,n+Q3 x,())∧fwheldCluster (Rn x n) n=some (n+Q3 x,()):=by
 obtain⟨w1,w2⟩:=PP x
 have a1:=vj MJ x.servers
 have a2:=vj MI x.master.configs
 have b1:=iK x.sides
 have b2:=iK x.places
 unfold Q3 at w2
 obtain⟨ok1,ok2,ok3,ok4⟩:=ok
 have e:n+Q3 x=n+cq wS x.servers+bo x.sides+cq wC x.master.configs+3*bo x.places:=by unfold Q3; omega
 have l1: (mS x.servers n).length=x.servers.length:=fo _ _ _ _
 have l2: (mC x.master.configs (n+cq wS x.servers+bo x.sides)).length=x.master.configs.length:=fo _ _ _ _
 have m1:=Kx x.servers n hn (by omega) ok1.1 ok1.2
 have m2:=uT x.sides (n+cq wS x.servers) (by omega) (by omega) ok2
 have m3:=Kv x.master.configs (n+cq wS x.servers+bo x.sides) (by omega) (by omega) ok3.1 ok3.2
 have m4:=LU x.places (n+cq wS x.servers+bo x.sides+cq wC x.master.configs) (by omega) (by omega) ok4
 have h1:=Ky x.servers n hn (by omega) ok1.1 ok1.2
 have h2:=uU x.sides (n+cq wS x.servers) (by omega) (by omega) ok2
 have h3:=Kw x.master.configs (n+cq wS x.servers+bo x.sides) (by omega) (by omega) ok3.1 ok3.2
 have h4:=LV x.places (n+cq wS x.servers+bo x.sides+cq wC x.master.configs) (by omega) (by omega) ok4
 have n1: ¬ n+cq wS x.servers < 0:=by omega
 have n2: ¬ n+cq wS x.servers+bo x.sides < 0:=by omega
 have n3: ¬ n+cq wS x.servers+bo x.sides+cq wC x.master.configs < 0:=by omega
 have n4: ¬ n+cq wS x.servers+bo x.sides+cq wC x.master.configs+3*bo x.places < 0:=by omega
 rw [e]
 constructor
 ·unfold fm iI fj fW Rn
  simp only [m1,m2,m3,m4,Option.bind_some,bT,l1,l2,LS,Sk,if_true]
 ·unfold fwheldCluster fwheldClusterC fwheldMasterLog fwheldMasterLogC Rn
  simp only [h1,h2,h3,h4,Option.bind_some,az,if_neg n1,if_neg n2,if_neg n3,if_neg n4]
end Go.Proofs.YtkcgfceffffmoaaGreat.En
