/- Marks of a cluster: what is written is found again. -/
import Derived.Test.YtkcgfceffffmoaaGreatZPM
namespace Go.Proofs.YtkcgfceffffmoaaGreat.En
open Go
theorem gs1 {α:Type} (l:List α):cI (fun _=>(1:Int)) l=bE l:=by rw [EW]; unfold bE; omega
theorem gs3 {α:Type} (l:List α):cI (fun _=>(3:Int)) l=3*bE l:=by rw [EW]; rfl
theorem gs7 {α:Type} (l:List α):cI (fun _=>(7:Int)) l=7*bE l:=by rw [EW]; rfl
theorem adds (n:Int):n+1+1=n+2∧n+2+1=n+3∧n+3+1=n+4∧n+4+1=n+5∧n+5+1=n+6∧n+6+1=n+7:=by omega
def mI (l:List Int) (n:Int):List Int:=gZ (fun _ n=>n) (fun _=>1) l n
def GW (n:Int):ar:=⟨n,⟨n+1,n+2,n+3,n+4,n+5,n+6⟩⟩
def mE (l:List ar) (n:Int):List ar:=gZ (fun _ n=>GW n) (fun _=>7) l n
def mP (l:List aU) (n:Int):List aU:=gZ (fun _ n=>⟨n,n+1,n+2⟩) (fun _=>3) l n
theorem Wu (l:List Int) (n:Int): (mI l n).length=l.length:=iv _ _ _ _
theorem acW (l:List ar) (n:Int): (mE l n).length=l.length:=iv _ _ _ _
theorem acX (l:List aU) (n:Int): (mP l n).length=l.length:=iv _ _ _ _
theorem BZ (l:List Int) (n:Int) (hn:0≤n) (hb:n+bE l≤900000000) (hl:l.length≤1048576):fG l n=some (mI l n,n+bE l,()):=by
 have h:=BV (F:=fG) (B:=eR) (fun _ n=>n) (fun _=>1) (fun _=>True) (fun _ _=>rfl)
  (fun l n k x hx hl h0 h1 _=>by
    have hk:=jE hx
    have c1: (k:Int) < (l.length:Int):=by omega
    have c2: (0:Int)≤(k:Int)∧(k:Int) < (l.length:Int):=by omega
    simp only [eR,kb,Int.toNat_natCast,aw,be,if_pos c1,if_pos c2,hx,Option.bind_some,ec (n:=n+1) (by omega) (by omega),bF (dH hl) hk])
  (fun l n=>by simp only [eR,kb]; rw [aw,if_neg (by omega)]) (fun _=>by decide) l n hn (by rw [gs1]; exact hb) hl (fun _ _=>trivial)
 rw [gs1] at h
 exact h
theorem B0 (l:List Int) (n:Int) (hn:0≤n) (hb:n+bE l≤900000000) (hl:l.length≤1048576):kM (mI l n) n=some (n+bE l,()):=by
 have h:=BW (F:=kM) (B:=iI) (fun _ n=>n) (fun _=>1) (fun _=>True) (fun _ _=>rfl)
  (fun l n k x hx hl h0 h1 _=>by
    have hk:=jE hx
    have c1: (k:Int) < (l.length:Int):=by omega
    have c2: (0:Int)≤(k:Int):=by omega
    simp only [iI,ol,Int.toNat_natCast,aw,be,if_pos c1,if_pos c2,hx,Option.bind_some,ec (n:=n+1) (by omega) (by omega),bF (dH hl) hk,beq_self_eq_true,Bool.not_true,bJ])
  (fun l n=>by simp only [iI,ol]; rw [aw,if_neg (by omega)]) (fun _=>by decide) l n hn (by rw [gs1]; exact hb) hl (fun _ _=>trivial)
 rw [gs1] at h
 exact h
theorem NR (l:List ar) (n:Int) (hn:0≤n) (hb:n+7*bE l≤900000000) (hl:l.length≤1048576):gX l n=some (mE l n,n+7*bE l,()):=by
 have h:=BV (F:=gX) (B:=dQ) (fun _ n=>GW n) (fun _=>7) (fun _=>True) (fun _ _=>rfl)
  (fun l n k x hx hl h0 h1 _=>by
    have hk:=jE hx
    have c1: (k:Int) < (l.length:Int):=by omega
    have c2: (0:Int)≤(k:Int)∧(k:Int) < (l.length:Int):=by omega
    obtain⟨e1,e2,e3,e4,e5,e6⟩:=adds n
    simp (disch:=omega) only [dQ,ip,Int.toNat_natCast,aw,be,List.length_set,if_pos c1,if_pos c2,hx,List.set_set,List.getElem?_set_self,Option.bind_some,ec,e1,e2,e3,e4,e5,e6,GW]
    rfl)
  (fun l n=>by simp only [dQ,ip]; rw [aw,if_neg (by omega)]) (fun _=>by decide) l n hn (by rw [gs7]; exact hb) hl (fun _ _=>trivial)
 rw [gs7] at h
 exact h
theorem NS (l:List ar) (n:Int) (hn:0≤n) (hb:n+7*bE l≤900000000) (hl:l.length≤1048576):lJ (mE l n) n=some (n+7*bE l,()):=by
 have h:=BW (F:=lJ) (B:=fH) (fun _ n=>GW n) (fun _=>7) (fun _=>True) (fun _ _=>rfl)
  (fun l n k x hx hl h0 h1 _=>by
    have hk:=jE hx
    have c1: (k:Int) < (l.length:Int):=by omega
    have c2: (0:Int)≤(k:Int):=by omega
    obtain⟨e1,e2,e3,e4,e5,e6⟩:=adds n
    simp (disch:=omega) only [fH,lc,Int.toNat_natCast,aw,be,if_pos c1,if_pos c2,hx,Option.bind_some,ec,e1,e2,e3,e4,e5,e6,GW,beq_self_eq_true,Bool.not_true,bJ]
    rfl)
  (fun l n=>by simp only [fH,lc]; rw [aw,if_neg (by omega)]) (fun _=>by decide) l n hn (by rw [gs7]; exact hb) hl (fun _ _=>trivial)
 rw [gs7] at h
 exact h
theorem Wv (l:List aU) (n:Int) (hn:0≤n) (hb:n+3*bE l≤900000000) (hl:l.length≤1048576):jq l n=some (mP l n,n+3*bE l,()):=by
 have h:=BV (F:=jq) (B:=dR) (fun _ n=>⟨n,n+1,n+2⟩) (fun _=>3) (fun _=>True) (fun _ _=>rfl)
  (fun l n k x hx hl h0 h1 _=>by
    have hk:=jE hx
    have c1: (k:Int) < (l.length:Int):=by omega
    have c2: (0:Int)≤(k:Int)∧(k:Int) < (l.length:Int):=by omega
    obtain⟨e1,e2,e3,e4,e5,e6⟩:=adds n
    simp (disch:=omega) only [dR,iu,Int.toNat_natCast,aw,be,List.length_set,if_pos c1,if_pos c2,hx,List.set_set,List.getElem?_set_self,Option.bind_some,ec,e1,e2]
    rfl)
  (fun l n=>by simp only [dR,iu]; rw [aw,if_neg (by omega)]) (fun _=>by decide) l n hn (by rw [gs3]; exact hb) hl (fun _ _=>trivial)
 rw [gs3] at h
 exact h
theorem Ww (l:List aU) (n:Int) (hn:0≤n) (hb:n+3*bE l≤900000000) (hl:l.length≤1048576):nI (mP l n) n=some (n+3*bE l,()):=by
 have h:=BW (F:=nI) (B:=fI) (fun _ n=>⟨n,n+1,n+2⟩) (fun _=>3) (fun _=>True) (fun _ _=>rfl)
  (fun l n k x hx hl h0 h1 _=>by
    have hk:=jE hx
    have c1: (k:Int) < (l.length:Int):=by omega
    have c2: (0:Int)≤(k:Int):=by omega
    obtain⟨e1,e2,e3,e4,e5,e6⟩:=adds n
    simp (disch:=omega) only [fI,lf,Int.toNat_natCast,aw,be,if_pos c1,if_pos c2,hx,Option.bind_some,ec,e1,e2,beq_self_eq_true,Bool.not_true,bJ]
    rfl)
  (fun l n=>by simp only [fI,lf]; rw [aw,if_neg (by omega)]) (fun _=>by decide) l n hn (by rw [gs3]; exact hb) hl (fun _ _=>trivial)
 rw [gs3] at h
 exact h
def wC (c:ai):Int:=2+bE c.replicas+bE c.witnesses
def gCf (c:ai) (n:Int):ai:=⟨n,n+1,mI c.replicas (n+2),mI c.witnesses (n+2+bE c.replicas)⟩
theorem UR (c:ai):0≤wC c:=by unfold wC bE; omega
def mC (l:List ai) (n:Int):List ai:=gZ gCf wC l n
theorem US (l:List ai) (n:Int) (hn:0≤n) (hb:n+cI wC l≤900000000) (hl:l.length≤1048576) (hok: ∀ c∈l,iA 1048576 c):ir l n=some (mC l n,n+cI wC l,()):=
 BV (F:=ir) (B:=dA) gCf wC (iA 1048576) (fun _ _=>rfl)
  (fun l n k x hx hl h0 h1 ok=>by
    have hk:=jE hx
    have c1: (k:Int) < (l.length:Int):=by omega
    have c2: (0:Int)≤(k:Int)∧(k:Int) < (l.length:Int):=by omega
    obtain⟨e1,e2,e3,e4,e5,e6⟩:=adds n
    have z1:=ja x.replicas
    have z2:=ja x.witnesses
    unfold wC at h1
    have m1:=BZ x.replicas (n+2) (by omega) (by omega) ok.1
    have m2:=BZ x.witnesses (n+2+bE x.replicas) (by omega) (by omega) ok.2
    have e:n+(2+bE x.replicas+bE x.witnesses)=n+2+bE x.replicas+bE x.witnesses:=by omega
    simp (disch:=omega) only [dA,gO,Int.toNat_natCast,aw,be,List.length_set,if_pos c1,if_pos c2,hx,List.set_set,List.getElem?_set_self,Option.bind_some,ec,e1,m1,m2,Wu,and_self,if_true,gCf,wC,e]
    rfl)
  (fun l n=>by simp only [dA,gO]; rw [aw,if_neg (by omega)]) UR l n hn hb hl hok
theorem UT (l:List ai) (n:Int) (hn:0≤n) (hb:n+cI wC l≤900000000) (hl:l.length≤1048576) (hok: ∀ c∈l,iA 1048576 c):l9 (mC l n) n=some (n+cI wC l,()):=
 BW (F:=l9) (B:=eT) gCf wC (iA 1048576) (fun _ _=>rfl)
  (fun l n k x hx hl h0 h1 ok=>by
    have hk:=jE hx
    have c1: (k:Int) < (l.length:Int):=by omega
    have c2: (0:Int)≤(k:Int):=by omega
    obtain⟨e1,e2,e3,e4,e5,e6⟩:=adds n
    have z1:=ja x.replicas
    have z2:=ja x.witnesses
    unfold wC at h1
    have m1:=B0 x.replicas (n+2) (by omega) (by omega) ok.1
    have m2:=B0 x.witnesses (n+2+bE x.replicas) (by omega) (by omega) ok.2
    have n1: ¬ n+2+bE x.replicas < 0:=by omega
    have n2: ¬ n+2+bE x.replicas+bE x.witnesses < 0:=by omega
    have e:n+(2+bE x.replicas+bE x.witnesses)=n+2+bE x.replicas+bE x.witnesses:=by omega
    simp (disch:=omega) only [eT,kf,Int.toNat_natCast,aw,be,if_pos c1,if_pos c2,hx,Option.bind_some,ec,e1,gCf,m1,m2,if_neg n1,if_neg n2,beq_self_eq_true,Bool.not_true,bJ,wC,e]
    rfl)
  (fun l n=>by simp only [eT,kf]; rw [aw,if_neg (by omega)]) UR l n hn hb hl hok
def wS (s:am):Int:=8+bE s.config.replicas+bE s.config.witnesses+7*bE s.log+7*bE s.learned
def gSv (s:am) (n:Int):am:=
 ⟨Int.tmod n 3==0,Int.tmod (n+1) 3==0,n+2,n+3,⟨n+4,n+5,mI s.config.replicas (n+6),mI s.config.witnesses (n+6+bE s.config.replicas)⟩,n+6+bE s.config.replicas+bE s.config.witnesses,mE s.log (n+6+bE s.config.replicas+bE s.config.witnesses+1),n+6+bE s.config.replicas+bE s.config.witnesses+1+7*bE s.log,mE s.learned (n+6+bE s.config.replicas+bE s.config.witnesses+1+7*bE s.log+1)⟩
theorem UU (s:am):0≤wS s:=by unfold wS bE; omega
def mS (l:List am) (n:Int):List am:=gZ gSv wS l n
theorem UV (l:List am) (n:Int) (hn:0≤n) (hb:n+cI wS l≤900000000) (hl:l.length≤1048576) (hok: ∀ c∈l,kS 1048576 c):iq l n=some (mS l n,n+cI wS l,()):=
 BV (F:=iq) (B:=dz) gSv wS (kS 1048576) (fun _ _=>rfl)
  (fun l n k x hx hl h0 h1 ok=>by
    have hk:=jE hx
    have c1: (k:Int) < (l.length:Int):=by omega
    have c2: (0:Int)≤(k:Int)∧(k:Int) < (l.length:Int):=by omega
    obtain⟨e1,e2,e3,e4,e5,e6⟩:=adds n
    have z1:=ja x.config.replicas
    have z2:=ja x.config.witnesses
    have z3:=ja x.log
    have z4:=ja x.learned
    unfold wS at h1
    have m1:=BZ x.config.replicas (n+6) (by omega) (by omega) ok.1.1
    have m2:=BZ x.config.witnesses (n+6+bE x.config.replicas) (by omega) (by omega) ok.1.2
    have m3:=NR x.log (n+6+bE x.config.replicas+bE x.config.witnesses+1) (by omega) (by omega) ok.2.1
    have m4:=NR x.learned (n+6+bE x.config.replicas+bE x.config.witnesses+1+7*bE x.log+1) (by omega) (by omega) ok.2.2
    have e:n+(8+bE x.config.replicas+bE x.config.witnesses+7*bE x.log+7*bE x.learned)=n+6+bE x.config.replicas+bE x.config.witnesses+1+7*bE x.log+1+7*bE x.learned:=by omega
    simp (maxSteps:=2000000) (disch:=omega) only [dz,gM,Int.toNat_natCast,aw,be,List.length_set,if_pos c1,if_pos c2,hx,List.set_set,List.getElem?_set_self,Option.bind_some,ec,e1,e2,e3,e4,e5,m1,m2,m3,m4,Wu,acW,and_self,if_true,gSv,wS,e]
    rfl)
  (fun l n=>by simp only [dz,gM]; rw [aw,if_neg (by omega)]) UU l n hn hb hl hok
theorem UW (l:List am) (n:Int) (hn:0≤n) (hb:n+cI wS l≤900000000) (hl:l.length≤1048576) (hok: ∀ c∈l,kS 1048576 c):l8 (mS l n) n=some (n+cI wS l,()):=
 BW (F:=l8) (B:=eS) gSv wS (kS 1048576) (fun _ _=>rfl)
  (fun l n k x hx hl h0 h1 ok=>by
    have hk:=jE hx
    have c1: (k:Int) < (l.length:Int):=by omega
    have c2: (0:Int)≤(k:Int):=by omega
    obtain⟨e1,e2,e3,e4,e5,e6⟩:=adds n
    have z1:=ja x.config.replicas
    have z2:=ja x.config.witnesses
    have z3:=ja x.log
    have z4:=ja x.learned
    unfold wS at h1
    have m1:=B0 x.config.replicas (n+6) (by omega) (by omega) ok.1.1
    have m2:=B0 x.config.witnesses (n+6+bE x.config.replicas) (by omega) (by omega) ok.1.2
    have m3:=NS x.log (n+6+bE x.config.replicas+bE x.config.witnesses+1) (by omega) (by omega) ok.2.1
    have m4:=NS x.learned (n+6+bE x.config.replicas+bE x.config.witnesses+1+7*bE x.log+1) (by omega) (by omega) ok.2.2
    have n1: ¬ n+6+bE x.config.replicas < 0:=by omega
    have n2: ¬ n+6+bE x.config.replicas+bE x.config.witnesses < 0:=by omega
    have n3: ¬ n+6+bE x.config.replicas+bE x.config.witnesses+1+7*bE x.log < 0:=by omega
    have n4: ¬ n+6+bE x.config.replicas+bE x.config.witnesses+1+7*bE x.log+1+7*bE x.learned < 0:=by omega
    have e:n+(8+bE x.config.replicas+bE x.config.witnesses+7*bE x.log+7*bE x.learned)=n+6+bE x.config.replicas+bE x.config.witnesses+1+7*bE x.log+1+7*bE x.learned:=by omega
    simp (disch:=omega) only [eS,ke,Int.toNat_natCast,aw,be,if_pos c1,if_pos c2,hx,Option.bind_some,ec,e1,e2,e3,e4,e5,gSv,m1,m2,m3,m4,if_neg n1,if_neg n2,if_neg n3,if_neg n4,beq_self_eq_true,Bool.not_true,bJ,wS,e]
    rfl)
  (fun l n=>by simp only [eS,ke]; rw [aw,if_neg (by omega)]) UU l n hn hb hl hok
def U3 (x:aj):Int:=cI wS x.servers+bE x.sides+cI wC x.master.configs+3*bE x.places
theorem Sd (x:aj):0≤U3 x∧U3 x≤8*Pz x:=by
 have a1:=wW UU x.servers
 have a2:=wW UR x.master.configs
 have h1:cI wS x.servers≤8*tSs x.servers:=by
  unfold tSs
  induction x.servers with
  | nil=>simp [cI,bE]
  | cons s l ih=>
    simp only [cI,bE,List.length_cons,wS,BX,EX] at ih ⊢
    omega
 have h2:cI wC x.master.configs≤8*tMl x.master:=by
  unfold tMl
  induction x.master.configs with
  | nil=>simp [cI,bE]
  | cons s l ih=>
    simp only [cI,bE,List.length_cons,wC,EX] at ih ⊢
    omega
 have b1:=ja x.sides
 have b2:=ja x.places
 unfold U3 Pz
 omega
def Xe (x:aj) (n:Int):aj:=
 ⟨x.now,mS x.servers n,mI x.sides (n+cI wS x.servers),⟨mC x.master.configs (n+cI wS x.servers+bE x.sides),x.master.activated⟩,x.masterUp,x.lease,mP x.places (n+cI wS x.servers+bE x.sides+cI wC x.master.configs)⟩
theorem acY (x:aj) (n:Int) (hn:0≤n) (hb:n+8*Pz x≤900000000) (ok:rl 1048576 x):dN x n=some (Xe x n,n+U3 x,()):=by
 obtain⟨w1,w2⟩:=Sd x
 have a1:=wW UU x.servers
 have a2:=wW UR x.master.configs
 have b1:=ja x.sides
 have b2:=ja x.places
 unfold U3 at w2
 obtain⟨ok1,ok2,ok3,ok4⟩:=ok
 have e:n+U3 x=n+cI wS x.servers+bE x.sides+cI wC x.master.configs+3*bE x.places:=by unfold U3; omega
 have l1: (mS x.servers n).length=x.servers.length:=iv _ _ _ _
 have l2: (mC x.master.configs (n+cI wS x.servers+bE x.sides)).length=x.master.configs.length:=iv _ _ _ _
 have m1:=UV x.servers n hn (by omega) ok1.1 ok1.2
 have m2:=BZ x.sides (n+cI wS x.servers) (by omega) (by omega) ok2
 have m3:=US x.master.configs (n+cI wS x.servers+bE x.sides) (by omega) (by omega) ok3.1 ok3.2
 have m4:=Wv x.places (n+cI wS x.servers+bE x.sides+cI wC x.master.configs) (by omega) (by omega) ok4
 rw [e]
 unfold dN lI it jC Xe
 simp only [m1,m2,m3,m4,Option.bind_some,be,l1,l2,Wu,acX,if_true]
theorem acZ (x:aj) (n:Int) (hn:0≤n) (hb:n+8*Pz x≤900000000) (ok:rl 1048576 x):eU (Xe x n) n=some (n+U3 x,()):=by
 obtain⟨w1,w2⟩:=Sd x
 have a1:=wW UU x.servers
 have a2:=wW UR x.master.configs
 have b1:=ja x.sides
 have b2:=ja x.places
 unfold U3 at w2
 obtain⟨ok1,ok2,ok3,ok4⟩:=ok
 have e:n+U3 x=n+cI wS x.servers+bE x.sides+cI wC x.master.configs+3*bE x.places:=by unfold U3; omega
 have h1:=UW x.servers n hn (by omega) ok1.1 ok1.2
 have h2:=B0 x.sides (n+cI wS x.servers) (by omega) (by omega) ok2
 have h3:=UT x.master.configs (n+cI wS x.servers+bE x.sides) (by omega) (by omega) ok3.1 ok3.2
 have h4:=Ww x.places (n+cI wS x.servers+bE x.sides+cI wC x.master.configs) (by omega) (by omega) ok4
 have n1: ¬ n+cI wS x.servers < 0:=by omega
 have n2: ¬ n+cI wS x.servers+bE x.sides < 0:=by omega
 have n3: ¬ n+cI wS x.servers+bE x.sides+cI wC x.master.configs < 0:=by omega
 have n4: ¬ n+cI wS x.servers+bE x.sides+cI wC x.master.configs+3*bE x.places < 0:=by omega
 rw [e]
 unfold eU pU ld nk Xe
 simp only [h1,h2,h3,h4,Option.bind_some,aw,if_neg n1,if_neg n2,if_neg n3,if_neg n4]
theorem B3 (x:aj) (n:Int) (hn:0≤n) (hb:n+8*Pz x≤900000000) (ok:rl 1048576 x):dN x n=some (Xe x n,n+U3 x,())∧eU (Xe x n) n=some (n+U3 x,()):=⟨acY x n hn hb ok,acZ x n hn hb ok⟩
end Go.Proofs.YtkcgfceffffmoaaGreat.En
