/- Marks of a cluster: what is written is found again. -/
import Derived.Test.YtjnleglhcppgcaaGreatZPM
namespace Go.Proofs.YtjnleglhcppgcaaGreat.En
open Go
theorem Qp {α:Type} (l:List α):eN (fun _=>(1:Int)) l=ev l:=by rw[yF]; unfold ev; omega
theorem To {α:Type} (l:List α):eN (fun _=>(3:Int)) l=3*ev l:=by rw[yF]; rfl
theorem Tp {α:Type} (l:List α):eN (fun _=>(7:Int)) l=7*ev l:=by rw[yF]; rfl
theorem adds (n:Int):n+1+1=n+2/\n+2+1=n+3/\n+3+1=n+4/\n+4+1=n+5/\n+5+1=n+6/\n+6+1=n+7:=by omega
def mI (l:List Int) (n:Int):List Int:=ir (fun _ n=>n) (fun _=>1) l n
def zL (n:Int):ea:=⟨n,⟨n+1,n+2,n+3,n+4,n+5,n+6⟩⟩
def mE (l:List ea) (n:Int):List ea:=ir (fun _ n=>zL n) (fun _=>7) l n
def mP (l:List ew) (n:Int):List ew:=ir (fun _ n=>⟨n,n+1,n+2⟩) (fun _=>3) l n
theorem KY (l:List Int) (n:Int): (mI l n).length=l.length:=iG _ _ _ _
theorem RQ (l:List ea) (n:Int): (mE l n).length=l.length:=iG _ _ _ _
theorem RR (l:List ew) (n:Int): (mP l n).length=l.length:=iG _ _ _ _
theorem wu (l:List Int) (n:Int) (hn:0<=n) (hb:n+ev l<=900000000) (hl:l.length<=1048576):iK l n=some (mI l n,n+ev l,()):=by
 have h:=wr (F:=iK) (B:=jX) (fun _ n=>n) (fun _=>1) (fun _=>True) (fun _ _=>rfl)
  (fun l n k x hx hl h0 h1 _=>by
    have hk:=fR hx;have c1: (k:Int)< (l.length:Int):=by omega
    have c2: (0:Int)<=(k:Int)/\(k:Int)< (l.length:Int):=by omega
    simp only[jX,ao,dV,dZ,if_pos c1,if_pos c2,hx,ae,eK (n:=n+1) (by omega) (by omega),ec (eR hl) hk])
  (fun l n=>by simp only[jX]; rw[dV,if_neg (by omega)]) (fun _=>by decide) l n hn (by rw[Qp]; exact hb) hl (fun _ _=>trivial)
 rw[Qp] at h;exact h
theorem wv (l:List Int) (n:Int) (hn:0<=n) (hb:n+ev l<=900000000) (hl:l.length<=1048576):lH (mI l n) n=some (n+ev l,()):=by
 have h:=wt (F:=lH) (B:=nm) (fun _ n=>n) (fun _=>1) (fun _=>True) (fun _ _=>rfl)
  (fun l n k x hx hl h0 h1 _=>by
    have hk:=fR hx;have c1: (k:Int)< (l.length:Int):=by omega
    have c2: (0:Int)<=(k:Int):=by omega
    simp only[nm,ao,dV,dZ,if_pos c1,if_pos c2,hx,ae,eK (n:=n+1) (by omega) (by omega),ec (eR hl) hk,beq_self_eq_true,bg,ek])
  (fun l n=>by simp only[nm]; rw[dV,if_neg (by omega)]) (fun _=>by decide) l n hn (by rw[Qp]; exact hb) hl (fun _ _=>trivial)
 rw[Qp] at h;exact h
theorem Ed (l:List ea) (n:Int) (hn:0<=n) (hb:n+7*ev l<=900000000) (hl:l.length<=1048576):jY l n=some (mE l n,n+7*ev l,()):=by
 have h:=wr (F:=jY) (B:=iY) (fun _ n=>zL n) (fun _=>7) (fun _=>True) (fun _ _=>rfl)
  (fun l n k x hx hl h0 h1 _=>by
    have hk:=fR hx;have c1: (k:Int)< (l.length:Int):=by omega
    have c2: (0:Int)<=(k:Int)/\(k:Int)< (l.length:Int):=by omega
    obtain⟨e1,e2,e3,e4,e5,e6⟩:=adds n;simp (disch:=omega) only[iY,ao,dV,dZ,du,if_pos c1,if_pos c2,hx,de,cw,ae,eK,e1,e2,e3,e4,e5,e6,zL];rfl)
  (fun l n=>by simp only[iY]; rw[dV,if_neg (by omega)]) (fun _=>by decide) l n hn (by rw[Tp]; exact hb) hl (fun _ _=>trivial)
 rw[Tp] at h;exact h
theorem Ee (l:List ea) (n:Int) (hn:0<=n) (hb:n+7*ev l<=900000000) (hl:l.length<=1048576):nn (mE l n) n=some (n+7*ev l,()):=by
 have h:=wt (F:=nn) (B:=ll) (fun _ n=>zL n) (fun _=>7) (fun _=>True) (fun _ _=>rfl)
  (fun l n k x hx hl h0 h1 _=>by
    have hk:=fR hx;have c1: (k:Int)< (l.length:Int):=by omega
    have c2: (0:Int)<=(k:Int):=by omega
    obtain⟨e1,e2,e3,e4,e5,e6⟩:=adds n;simp (disch:=omega) only[ll,ao,dV,dZ,if_pos c1,if_pos c2,hx,ae,eK,e1,e2,e3,e4,e5,e6,zL,beq_self_eq_true,bg,ek];rfl)
  (fun l n=>by simp only[ll]; rw[dV,if_neg (by omega)]) (fun _=>by decide) l n hn (by rw[Tp]; exact hb) hl (fun _ _=>trivial)
 rw[Tp] at h;exact h
theorem KZ (l:List ew) (n:Int) (hn:0<=n) (hb:n+3*ev l<=900000000) (hl:l.length<=1048576):lU l n=some (mP l n,n+3*ev l,()):=by
 have h:=wr (F:=lU) (B:=iZ) (fun _ n=>⟨n,n+1,n+2⟩) (fun _=>3) (fun _=>True) (fun _ _=>rfl)
  (fun l n k x hx hl h0 h1 _=>by
    have hk:=fR hx;have c1: (k:Int)< (l.length:Int):=by omega
    have c2: (0:Int)<=(k:Int)/\(k:Int)< (l.length:Int):=by omega
    obtain⟨e1,e2,e3,e4,e5,e6⟩:=adds n;simp (disch:=omega) only[iZ,ao,dV,dZ,du,if_pos c1,if_pos c2,hx,de,cw,ae,eK,e1,e2];rfl)
  (fun l n=>by simp only[iZ]; rw[dV,if_neg (by omega)]) (fun _=>by decide) l n hn (by rw[To]; exact hb) hl (fun _ _=>trivial)
 rw[To] at h;exact h
theorem K0 (l:List ew) (n:Int) (hn:0<=n) (hb:n+3*ev l<=900000000) (hl:l.length<=1048576):pj (mP l n) n=some (n+3*ev l,()):=by
 have h:=wt (F:=pj) (B:=ln) (fun _ n=>⟨n,n+1,n+2⟩) (fun _=>3) (fun _=>True) (fun _ _=>rfl)
  (fun l n k x hx hl h0 h1 _=>by
    have hk:=fR hx;have c1: (k:Int)< (l.length:Int):=by omega
    have c2: (0:Int)<=(k:Int):=by omega
    obtain⟨e1,e2,e3,e4,e5,e6⟩:=adds n;simp (disch:=omega) only[ln,ao,dV,dZ,if_pos c1,if_pos c2,hx,ae,eK,e1,e2,beq_self_eq_true,bg,ek];rfl)
  (fun l n=>by simp only[ln]; rw[dV,if_neg (by omega)]) (fun _=>by decide) l n hn (by rw[To]; exact hb) hl (fun _ _=>trivial)
 rw[To] at h;exact h
def wC (c:dW):Int:=2+ev c.replicas+ev c.witnesses
def S7 (c:dW) (n:Int):dW:=⟨n,n+1,mI c.replicas (n+2),mI c.witnesses (n+2+ev c.replicas)⟩
theorem Jy (c:dW):0<=wC c:=by unfold wC ev; omega
def mC (l:List dW) (n:Int):List dW:=ir S7 wC l n
theorem Jz (l:List dW) (n:Int) (hn:0<=n) (hb:n+eN wC l<=900000000) (hl:l.length<=1048576) (hok: ∀c∈l,gK 1048576 c):lj l n=some (mC l n,n+eN wC l,()):=
 wr (F:=lj) (B:=iE) S7 wC (gK 1048576) (fun _ _=>rfl)
  (fun l n k x hx hl h0 h1 ok=>by
    have hk:=fR hx;have c1: (k:Int)< (l.length:Int):=by omega
    have c2: (0:Int)<=(k:Int)/\(k:Int)< (l.length:Int):=by omega
    obtain⟨e1,e2,e3,e4,e5,e6⟩:=adds n;have z1:=jb x.replicas;have z2:=jb x.witnesses;unfold wC at h1;have m1:=wu x.replicas (n+2) (by omega) (by omega) ok.1;have m2:=wu x.witnesses (n+2+ev x.replicas) (by omega) (by omega) ok.2;have e:n+(2+ev x.replicas+ev x.witnesses)=n+2+ev x.replicas+ev x.witnesses:=by omega
    simp (disch:=omega) only[iE,ao,dV,dZ,du,if_pos c1,if_pos c2,hx,de,cw,ae,eK,e1,m1,m2,KY,and_self,if_true,S7,wC,e];rfl)
  (fun l n=>by simp only[iE]; rw[dV,if_neg (by omega)]) Jy l n hn hb hl hok
theorem JA (l:List dW) (n:Int) (hn:0<=n) (hb:n+eN wC l<=900000000) (hl:l.length<=1048576) (hok: ∀c∈l,gK 1048576 c):nW (mC l n) n=some (n+eN wC l,()):=
 wt (F:=nW) (B:=j4) S7 wC (gK 1048576) (fun _ _=>rfl)
  (fun l n k x hx hl h0 h1 ok=>by
    have hk:=fR hx;have c1: (k:Int)< (l.length:Int):=by omega
    have c2: (0:Int)<=(k:Int):=by omega
    obtain⟨e1,e2,e3,e4,e5,e6⟩:=adds n;have z1:=jb x.replicas;have z2:=jb x.witnesses;unfold wC at h1;have m1:=wv x.replicas (n+2) (by omega) (by omega) ok.1;have m2:=wv x.witnesses (n+2+ev x.replicas) (by omega) (by omega) ok.2;have n1: ¬n+2+ev x.replicas<0:=by omega
    have n2: ¬n+2+ev x.replicas+ev x.witnesses<0:=by omega
    have e:n+(2+ev x.replicas+ev x.witnesses)=n+2+ev x.replicas+ev x.witnesses:=by omega
    simp (disch:=omega) only[j4,ao,dV,dZ,if_pos c1,if_pos c2,hx,ae,eK,e1,S7,m1,m2,if_neg n1,if_neg n2,beq_self_eq_true,bg,ek,wC,e];rfl)
  (fun l n=>by simp only[j4]; rw[dV,if_neg (by omega)]) Jy l n hn hb hl hok
def wS (s:dX):Int:=8+ev s.config.replicas+ev s.config.witnesses+7*ev s.log+7*ev s.learned
def S8 (s:dX) (n:Int):dX:=
 ⟨Int.tmod n 3==0,Int.tmod (n+1) 3==0,n+2,n+3,⟨n+4,n+5,mI s.config.replicas (n+6),mI s.config.witnesses (n+6+ev s.config.replicas)⟩,n+6+ev s.config.replicas+ev s.config.witnesses,mE s.log (n+6+ev s.config.replicas+ev s.config.witnesses+1),n+6+ev s.config.replicas+ev s.config.witnesses+1+7*ev s.log,mE s.learned (n+6+ev s.config.replicas+ev s.config.witnesses+1+7*ev s.log+1)⟩
theorem JB (s:dX):0<=wS s:=by unfold wS ev; omega
def mS (l:List dX) (n:Int):List dX:=ir S8 wS l n
theorem JC (l:List dX) (n:Int) (hn:0<=n) (hb:n+eN wS l<=900000000) (hl:l.length<=1048576) (hok: ∀c∈l,gW 1048576 c):li l n=some (mS l n,n+eN wS l,()):=
 wr (F:=li) (B:=iC) S8 wS (gW 1048576) (fun _ _=>rfl)
  (fun l n k x hx hl h0 h1 ok=>by
    have hk:=fR hx;have c1: (k:Int)< (l.length:Int):=by omega
    have c2: (0:Int)<=(k:Int)/\(k:Int)< (l.length:Int):=by omega
    obtain⟨e1,e2,e3,e4,e5,e6⟩:=adds n;have z1:=jb x.config.replicas;have z2:=jb x.config.witnesses;have z3:=jb x.log;have z4:=jb x.learned;unfold wS at h1;have m1:=wu x.config.replicas (n+6) (by omega) (by omega) ok.1.1;have m2:=wu x.config.witnesses (n+6+ev x.config.replicas) (by omega) (by omega) ok.1.2;have m3:=Ed x.log (n+6+ev x.config.replicas+ev x.config.witnesses+1) (by omega) (by omega) ok.2.1;have m4:=Ed x.learned (n+6+ev x.config.replicas+ev x.config.witnesses+1+7*ev x.log+1) (by omega) (by omega) ok.2.2;have e:n+(8+ev x.config.replicas+ev x.config.witnesses+7*ev x.log+7*ev x.learned)=n+6+ev x.config.replicas+ev x.config.witnesses+1+7*ev x.log+1+7*ev x.learned:=by omega
    simp (maxSteps:=2000000) (disch:=omega) only[iC,ao,dV,dZ,du,if_pos c1,if_pos c2,hx,de,cw,ae,eK,e1,e2,e3,e4,e5,m1,m2,m3,m4,KY,RQ,and_self,if_true,S8,wS,e];rfl)
  (fun l n=>by simp only[iC]; rw[dV,if_neg (by omega)]) JB l n hn hb hl hok
theorem JD (l:List dX) (n:Int) (hn:0<=n) (hb:n+eN wS l<=900000000) (hl:l.length<=1048576) (hok: ∀c∈l,gW 1048576 c):nV (mS l n) n=some (n+eN wS l,()):=
 wt (F:=nV) (B:=jZ) S8 wS (gW 1048576) (fun _ _=>rfl)
  (fun l n k x hx hl h0 h1 ok=>by
    have hk:=fR hx;have c1: (k:Int)< (l.length:Int):=by omega
    have c2: (0:Int)<=(k:Int):=by omega
    obtain⟨e1,e2,e3,e4,e5,e6⟩:=adds n;have z1:=jb x.config.replicas;have z2:=jb x.config.witnesses;have z3:=jb x.log;have z4:=jb x.learned;unfold wS at h1;have m1:=wv x.config.replicas (n+6) (by omega) (by omega) ok.1.1;have m2:=wv x.config.witnesses (n+6+ev x.config.replicas) (by omega) (by omega) ok.1.2;have m3:=Ee x.log (n+6+ev x.config.replicas+ev x.config.witnesses+1) (by omega) (by omega) ok.2.1;have m4:=Ee x.learned (n+6+ev x.config.replicas+ev x.config.witnesses+1+7*ev x.log+1) (by omega) (by omega) ok.2.2;have n1: ¬n+6+ev x.config.replicas<0:=by omega
    have n2: ¬n+6+ev x.config.replicas+ev x.config.witnesses<0:=by omega
    have n3: ¬n+6+ev x.config.replicas+ev x.config.witnesses+1+7*ev x.log<0:=by omega
    have n4: ¬n+6+ev x.config.replicas+ev x.config.witnesses+1+7*ev x.log+1+7*ev x.learned<0:=by omega
    have e:n+(8+ev x.config.replicas+ev x.config.witnesses+7*ev x.log+7*ev x.learned)=n+6+ev x.config.replicas+ev x.config.witnesses+1+7*ev x.log+1+7*ev x.learned:=by omega
    simp (disch:=omega) only[jZ,ao,dV,dZ,if_pos c1,if_pos c2,hx,ae,eK,e1,e2,e3,e4,e5,S8,m1,m2,m3,m4,if_neg n1,if_neg n2,if_neg n3,if_neg n4,beq_self_eq_true,bg,ek,wS,e];rfl)
  (fun l n=>by simp only[jZ]; rw[dV,if_neg (by omega)]) JB l n hn hb hl hok
def JL (x:dT):Int:=eN wS x.servers+ev x.sides+eN wC x.master.configs+3*ev x.places
theorem Hs (x:dT):0<=JL x/\JL x<=8*vl x:=by
 have a1:=sY JB x.servers;have a2:=sY Jy x.master.configs
 have h1:eN wS x.servers<=8*RM x.servers:=by
  unfold RM
  induction x.servers with
  |nil=>simp[eN,ev]
  |cons s l ih=>simp only[eN,ev,ba,wS,sB,ue] at ih ⊢;omega
 have h2:eN wC x.master.configs<=8*M6 x.master:=by
  unfold M6
  induction x.master.configs with
  |nil=>simp[eN,ev]
  |cons s l ih=>simp only[eN,ev,ba,wC,ue] at ih ⊢;omega
 have b1:=jb x.sides;have b2:=jb x.places;unfold JL vl;omega
def LR (x:dT) (n:Int):dT:=
 ⟨x.now,mS x.servers n,mI x.sides (n+eN wS x.servers),⟨mC x.master.configs (n+eN wS x.servers+ev x.sides),x.master.activated⟩,x.masterUp,x.lease,mP x.places (n+eN wS x.servers+ev x.sides+eN wC x.master.configs)⟩
theorem RS (x:dT) (n:Int) (hn:0<=n) (hb:n+8*vl x<=900000000) (ok:iq 1048576 x):gz x n=some (LR x n,n+JL x,()):=by
 obtain⟨w1,w2⟩:=Hs x;have a1:=sY JB x.servers;have a2:=sY Jy x.master.configs;have b1:=jb x.sides;have b2:=jb x.places;unfold JL at w2;obtain⟨ok1,ok2,ok3,ok4⟩:=ok;have e:n+JL x=n+eN wS x.servers+ev x.sides+eN wC x.master.configs+3*ev x.places:=by unfold JL; omega
 have l1: (mS x.servers n).length=x.servers.length:=iG _ _ _ _;have l2: (mC x.master.configs (n+eN wS x.servers+ev x.sides)).length=x.master.configs.length:=iG _ _ _ _;have m1:=JC x.servers n hn (by omega) ok1.1 ok1.2;have m2:=wu x.sides (n+eN wS x.servers) (by omega) (by omega) ok2;have m3:=Jz x.master.configs (n+eN wS x.servers+ev x.sides) (by omega) (by omega) ok3.1 ok3.2;have m4:=KZ x.places (n+eN wS x.servers+ev x.sides+eN wC x.master.configs) (by omega) (by omega) ok4;rw[e];unfold gz lG LR;simp only[m1,m2,m3,m4,ae,dZ,l1,l2,KY,RR,if_true]
theorem RT (x:dT) (n:Int) (hn:0<=n) (hb:n+8*vl x<=900000000) (ok:iq 1048576 x):gX (LR x n) n=some (n+JL x,()):=by
 obtain⟨w1,w2⟩:=Hs x;have a1:=sY JB x.servers;have a2:=sY Jy x.master.configs;have b1:=jb x.sides;have b2:=jb x.places;unfold JL at w2;obtain⟨ok1,ok2,ok3,ok4⟩:=ok;have e:n+JL x=n+eN wS x.servers+ev x.sides+eN wC x.master.configs+3*ev x.places:=by unfold JL; omega
 have h1:=JD x.servers n hn (by omega) ok1.1 ok1.2;have h2:=wv x.sides (n+eN wS x.servers) (by omega) (by omega) ok2;have h3:=JA x.master.configs (n+eN wS x.servers+ev x.sides) (by omega) (by omega) ok3.1 ok3.2;have h4:=K0 x.places (n+eN wS x.servers+ev x.sides+eN wC x.master.configs) (by omega) (by omega) ok4;have n1: ¬n+eN wS x.servers<0:=by omega
 have n2: ¬n+eN wS x.servers+ev x.sides<0:=by omega
 have n3: ¬n+eN wS x.servers+ev x.sides+eN wC x.master.configs<0:=by omega
 have n4: ¬n+eN wS x.servers+ev x.sides+eN wC x.master.configs+3*ev x.places<0:=by omega
 rw[e];unfold gX oa LR;simp only[h1,h2,h3,h4,ae,dV,if_neg n1,if_neg n2,if_neg n3,if_neg n4]
theorem ww (x:dT) (n:Int) (hn:0<=n) (hb:n+8*vl x<=900000000) (ok:iq 1048576 x):gz x n=some (LR x n,n+JL x,())/\gX (LR x n) n=some (n+JL x,()):=⟨RS x n hn hb ok,RT x n hn hb ok⟩
end Go.Proofs.YtjnleglhcppgcaaGreat.En
