/- Marks of a cluster: what is written is found again. -/
import Derived.Test.YtkcgfceffffmoaaGreatZPM
namespace Go.Proofs.YtkcgfceffffmoaaGreat.En
open Go
theorem Ta {α:Type} (l:List α):dx (fun _=>(1:Int)) l=db l:=by rw [zx]; unfold db; omega
theorem VO {α:Type} (l:List α):dx (fun _=>(3:Int)) l=3*db l:=by rw [zx]; rfl
theorem VP {α:Type} (l:List α):dx (fun _=>(7:Int)) l=7*db l:=by rw [zx]; rfl
theorem adds (n:Int):n+1+1=n+2∧n+2+1=n+3∧n+3+1=n+4∧n+4+1=n+5∧n+5+1=n+6∧n+6+1=n+7:=by omega
def mI (l:List Int) (n:Int):List Int:=fG (fun _ n=>n) (fun _=>1) l n
def Ke (n:Int):bh:=⟨n,⟨n+1,n+2,n+3,n+4,n+5,n+6⟩⟩
def mE (l:List bh) (n:Int):List bh:=fG (fun _ n=>Ke n) (fun _=>7) l n
def mP (l:List bz) (n:Int):List bz:=fG (fun _ n=>⟨n,n+1,n+2⟩) (fun _=>3) l n
theorem Kf (l:List Int) (n:Int): (mI l n).length=l.length:=fZ _ _ _ _
theorem Uu (l:List bh) (n:Int): (mE l n).length=l.length:=fZ _ _ _ _
theorem Uv (l:List bz) (n:Int): (mP l n).length=l.length:=fZ _ _ _ _
theorem t9 (l:List Int) (n:Int) (hn:0≤n) (hb:n+db l≤900000000) (hl:l.length≤1048576):ec l n=some (mI l n,n+db l,()):=by
 have h:=wK (F:=ec) (B:=eb) (fun _ n=>n) (fun _=>1) (fun _=>True) (fun _ _=>rfl)
  (fun l n k x hx hl h0 h1 _=>by
    have hk:=nv hx
    have c1: (k:Int) < (l.length:Int):=by omega
    have c2: (0:Int)≤(k:Int)∧(k:Int) < (l.length:Int):=by omega
    simp only [eb,iE,Int.toNat_natCast,aA,bR,if_pos c1,if_pos c2,hx,Option.bind_some,gb (n:=n+1) (by omega) (by omega),bD (hZ hl) hk])
  (fun l n=>by simp only [eb,iE]; rw [aA,if_neg (by omega)]) (fun _=>by decide) l n hn (by rw [Ta]; exact hb) hl (fun _ _=>trivial)
 rw [Ta] at h
 exact h
theorem RG (l:List Int) (n:Int) (hn:0≤n) (hb:n+db l≤900000000) (hl:l.length≤1048576):mT (mI l n) n=some (n+db l,()):=by
 have h:=RD (F:=mT) (B:=gl) (fun _ n=>n) (fun _=>1) (fun _=>True) (fun _ _=>rfl)
  (fun l n k x hx hl h0 h1 _=>by
    have hk:=nv hx
    have c1: (k:Int) < (l.length:Int):=by omega
    have c2: (0:Int)≤(k:Int):=by omega
    simp only [gl,lC,Int.toNat_natCast,aA,bR,if_pos c1,if_pos c2,hx,Option.bind_some,gb (n:=n+1) (by omega) (by omega),bD (hZ hl) hk,beq_self_eq_true,Bool.not_true,dz])
  (fun l n=>by simp only [gl,lC]; rw [aA,if_neg (by omega)]) (fun _=>by decide) l n hn (by rw [Ta]; exact hb) hl (fun _ _=>trivial)
 rw [Ta] at h
 exact h
theorem GF (l:List bh) (n:Int) (hn:0≤n) (hb:n+7*db l≤900000000) (hl:l.length≤1048576):fE l n=some (mE l n,n+7*db l,()):=by
 have h:=wK (F:=fE) (B:=dj) (fun _ n=>Ke n) (fun _=>7) (fun _=>True) (fun _ _=>rfl)
  (fun l n k x hx hl h0 h1 _=>by
    have hk:=nv hx
    have c1: (k:Int) < (l.length:Int):=by omega
    have c2: (0:Int)≤(k:Int)∧(k:Int) < (l.length:Int):=by omega
    obtain⟨e1,e2,e3,e4,e5,e6⟩:=adds n
    simp (disch:=omega) only [dj,fT,Int.toNat_natCast,aA,bR,List.length_set,if_pos c1,if_pos c2,hx,List.set_set,List.getElem?_set_self,Option.bind_some,gb,e1,e2,e3,e4,e5,e6,Ke]
    rfl)
  (fun l n=>by simp only [dj,fT]; rw [aA,if_neg (by omega)]) (fun _=>by decide) l n hn (by rw [VP]; exact hb) hl (fun _ _=>trivial)
 rw [VP] at h
 exact h
theorem NV (l:List bz) (n:Int) (hn:0≤n) (hb:n+3*db l≤900000000) (hl:l.length≤1048576):gV l n=some (mP l n,n+3*db l,()):=by
 have h:=wK (F:=gV) (B:=dk) (fun _ n=>⟨n,n+1,n+2⟩) (fun _=>3) (fun _=>True) (fun _ _=>rfl)
  (fun l n k x hx hl h0 h1 _=>by
    have hk:=nv hx
    have c1: (k:Int) < (l.length:Int):=by omega
    have c2: (0:Int)≤(k:Int)∧(k:Int) < (l.length:Int):=by omega
    obtain⟨e1,e2,e3,e4,e5,e6⟩:=adds n
    simp (disch:=omega) only [dk,fX,Int.toNat_natCast,aA,bR,List.length_set,if_pos c1,if_pos c2,hx,List.set_set,List.getElem?_set_self,Option.bind_some,gb,e1,e2]
    rfl)
  (fun l n=>by simp only [dk,fX]; rw [aA,if_neg (by omega)]) (fun _=>by decide) l n hn (by rw [VO]; exact hb) hl (fun _ _=>trivial)
 rw [VO] at h
 exact h
def wC (c:ai):Int:=2+db c.replicas+db c.witnesses
def VI (c:ai) (n:Int):ai:=⟨n,n+1,mI c.replicas (n+2),mI c.witnesses (n+2+db c.replicas)⟩
theorem RH (c:ai):0≤wC c:=by unfold wC db; omega
def mC (l:List ai) (n:Int):List ai:=fG VI wC l n
theorem Mx (l:List ai) (n:Int) (hn:0≤n) (hb:n+dx wC l≤900000000) (hl:l.length≤1048576) (hok: ∀ c∈l,jG 1048576 c):fV l n=some (mC l n,n+dx wC l,()):=
 wK (F:=fV) (B:=cU) VI wC (jG 1048576) (fun _ _=>rfl)
  (fun l n k x hx hl h0 h1 ok=>by
    have hk:=nv hx
    have c1: (k:Int) < (l.length:Int):=by omega
    have c2: (0:Int)≤(k:Int)∧(k:Int) < (l.length:Int):=by omega
    obtain⟨e1,e2,e3,e4,e5,e6⟩:=adds n
    have z1:=qd x.replicas
    have z2:=qd x.witnesses
    unfold wC at h1
    have m1:=t9 x.replicas (n+2) (by omega) (by omega) ok.1
    have m2:=t9 x.witnesses (n+2+db x.replicas) (by omega) (by omega) ok.2
    have e:n+(2+db x.replicas+db x.witnesses)=n+2+db x.replicas+db x.witnesses:=by omega
    simp (disch:=omega) only [cU,fB,Int.toNat_natCast,aA,bR,List.length_set,if_pos c1,if_pos c2,hx,List.set_set,List.getElem?_set_self,Option.bind_some,gb,e1,m1,m2,Kf,and_self,if_true,VI,wC,e]
    rfl)
  (fun l n=>by simp only [cU,fB]; rw [aA,if_neg (by omega)]) RH l n hn hb hl hok
def wS (s:aB):Int:=8+db s.config.replicas+db s.config.witnesses+7*db s.log+7*db s.learned
def VJ (s:aB) (n:Int):aB:=
 ⟨Int.tmod n 3==0,Int.tmod (n+1) 3==0,n+2,n+3,⟨n+4,n+5,mI s.config.replicas (n+6),mI s.config.witnesses (n+6+db s.config.replicas)⟩,n+6+db s.config.replicas+db s.config.witnesses,mE s.log (n+6+db s.config.replicas+db s.config.witnesses+1),n+6+db s.config.replicas+db s.config.witnesses+1+7*db s.log,mE s.learned (n+6+db s.config.replicas+db s.config.witnesses+1+7*db s.log+1)⟩
theorem RI (s:aB):0≤wS s:=by unfold wS db; omega
def mS (l:List aB) (n:Int):List aB:=fG VJ wS l n
theorem My (l:List aB) (n:Int) (hn:0≤n) (hb:n+dx wS l≤900000000) (hl:l.length≤1048576) (hok: ∀ c∈l,rU 1048576 c):fU l n=some (mS l n,n+dx wS l,()):=
 wK (F:=fU) (B:=cT) VJ wS (rU 1048576) (fun _ _=>rfl)
  (fun l n k x hx hl h0 h1 ok=>by
    have hk:=nv hx
    have c1: (k:Int) < (l.length:Int):=by omega
    have c2: (0:Int)≤(k:Int)∧(k:Int) < (l.length:Int):=by omega
    obtain⟨e1,e2,e3,e4,e5,e6⟩:=adds n
    have z1:=qd x.config.replicas
    have z2:=qd x.config.witnesses
    have z3:=qd x.log
    have z4:=qd x.learned
    unfold wS at h1
    have m1:=t9 x.config.replicas (n+6) (by omega) (by omega) ok.1.1
    have m2:=t9 x.config.witnesses (n+6+db x.config.replicas) (by omega) (by omega) ok.1.2
    have m3:=GF x.log (n+6+db x.config.replicas+db x.config.witnesses+1) (by omega) (by omega) ok.2.1
    have m4:=GF x.learned (n+6+db x.config.replicas+db x.config.witnesses+1+7*db x.log+1) (by omega) (by omega) ok.2.2
    have e:n+(8+db x.config.replicas+db x.config.witnesses+7*db x.log+7*db x.learned)=n+6+db x.config.replicas+db x.config.witnesses+1+7*db x.log+1+7*db x.learned:=by omega
    simp (maxSteps:=2000000) (disch:=omega) only [cT,fA,Int.toNat_natCast,aA,bR,List.length_set,if_pos c1,if_pos c2,hx,List.set_set,List.getElem?_set_self,Option.bind_some,gb,e1,e2,e3,e4,e5,m1,m2,m3,m4,Kf,Uu,and_self,if_true,VJ,wS,e]
    rfl)
  (fun l n=>by simp only [cT,fA]; rw [aA,if_neg (by omega)]) RI l n hn hb hl hok
def Tx (x:aG):Int:=dx wS x.servers+db x.sides+dx wC x.master.configs+3*db x.places
theorem RJ (x:aG):0≤Tx x∧Tx x≤8*Ur x:=by
 have a1:=xe RI x.servers
 have a2:=xe RH x.master.configs
 have h1:dx wS x.servers≤8*Vs x.servers:=by
  unfold Vs
  induction x.servers with
  | nil=>simp [dx,db]
  | cons s l ih=>
    simp only [dx,db,List.length_cons,wS,S8,NU] at ih ⊢
    omega
 have h2:dx wC x.master.configs≤8*Vr x.master:=by
  unfold Vr
  induction x.master.configs with
  | nil=>simp [dx,db]
  | cons s l ih=>
    simp only [dx,db,List.length_cons,wC,NU] at ih ⊢
    omega
 have b1:=qd x.sides
 have b2:=qd x.places
 unfold Tx Ur
 omega
def UB (x:aG) (n:Int):aG:=
 ⟨x.now,mS x.servers n,mI x.sides (n+dx wS x.servers),⟨mC x.master.configs (n+dx wS x.servers+db x.sides),x.master.activated⟩,x.masterUp,x.lease,mP x.places (n+dx wS x.servers+db x.sides+dx wC x.master.configs)⟩
theorem Uw (x:aG) (n:Int) (hn:0≤n) (hb:n+8*Ur x≤900000000) (ok:A4 1048576 x):fY x n=some (UB x n,n+Tx x,()):=by
 obtain⟨w1,w2⟩:=RJ x
 have a1:=xe RI x.servers
 have a2:=xe RH x.master.configs
 have b1:=qd x.sides
 have b2:=qd x.places
 unfold Tx at w2
 obtain⟨ok1,ok2,ok3,ok4⟩:=ok
 have e:n+Tx x=n+dx wS x.servers+db x.sides+dx wC x.master.configs+3*db x.places:=by unfold Tx; omega
 have l1: (mS x.servers n).length=x.servers.length:=fZ _ _ _ _
 have l2: (mC x.master.configs (n+dx wS x.servers+db x.sides)).length=x.master.configs.length:=fZ _ _ _ _
 have m1:=My x.servers n hn (by omega) ok1.1 ok1.2
 have m2:=t9 x.sides (n+dx wS x.servers) (by omega) (by omega) ok2
 have m3:=Mx x.master.configs (n+dx wS x.servers+db x.sides) (by omega) (by omega) ok3.1 ok3.2
 have m4:=NV x.places (n+dx wS x.servers+db x.sides+dx wC x.master.configs) (by omega) (by omega) ok4
 rw [e]
 unfold fY jF fW gY UB
 simp only [m1,m2,m3,m4,Option.bind_some,bR,l1,l2,Kf,Uv,if_true]
end Go.Proofs.YtkcgfceffffmoaaGreat.En
