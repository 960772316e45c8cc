/- What the laws' own helpers compute: sizes, copies, equality. -/
import Derived.Test.YtkcgfceffffmoaaGreatZB
namespace Go.Proofs.YtkcgfceffffmoaaGreat.En
open Go
def j5 (M:Nat) (c:ai):Prop:=c.replicas.length≤M∧c.witnesses.length≤M
def o2 (M:Nat) (s:ak):Prop:=j5 M s.config∧s.log.length≤M∧s.learned.length≤M
def GI (M:Nat) (m:an):Prop:=m.configs.length≤M∧ ∀ c∈m.configs,j5 M c
def sL (M:Nat) (c:ao):Prop:=(c.servers.length≤M∧ ∀ s∈c.servers,o2 M s)∧c.sides.length≤M∧GI M c.master∧c.places.length≤M
theorem Ou:Di of (fun l=>l.length≤maxLen) (fun l=>l.length≤1048576):=JJ (fun _ _=>rfl)
theorem MT:Di lr (fun l=>l.length≤maxLen) (fun l=>l.length≤1048576):=JJ (fun _ _=>rfl)
theorem Sk:Di ny (fun l=>l.length≤maxLen) (fun l=>l.length≤1048576):=JJ (fun _ _=>rfl)
theorem MU:Di fY (j5 maxLen) (j5 1048576):=by
 intro x left hb h0 h1
 unfold fY nT
 obtain⟨n,g1,g2,g3⟩:=Ou x.replicas left hb.1 h0 h1
 simp only [g1,Option.bind_some,aB]
 split
 ·exact⟨-1,rfl,by omega,fun h=>by omega⟩
 ·obtain⟨m,k1,k2,k3⟩:=Ou x.witnesses n hb.2 (by omega) (by omega)
  simp only [k1,Option.bind_some]
  split
  ·exact⟨-1,rfl,by omega,fun h=>by omega⟩
  ·exact⟨m,rfl,by omega,fun h=>⟨g3 (by omega),k3 h⟩⟩
theorem Sl:Di hM (o2 maxLen) (o2 1048576):=by
 intro x left hb h0 h1
 unfold hM nU
 obtain⟨n,g1,g2,g3⟩:=MU x.config left hb.1 h0 h1
 simp only [g1,Option.bind_some,aB]
 split
 ·exact⟨-1,rfl,by omega,fun h=>by omega⟩
 ·obtain⟨m,k1,k2,k3⟩:=MT x.log n hb.2.1 (by omega) (by omega)
  simp only [k1,Option.bind_some]
  split
  ·exact⟨-1,rfl,by omega,fun h=>by omega⟩
  ·obtain⟨q,j1,j2,j3⟩:=MT x.learned m hb.2.2 (by omega) (by omega)
   simp only [j1,Option.bind_some]
   split
   ·exact⟨-1,rfl,by omega,fun h=>by omega⟩
   ·exact⟨q,rfl,by omega,fun h=>⟨g3 (by omega),k3 (by omega),j3 h⟩⟩
theorem Qt:Di lu (fun l=>l.length≤maxLen∧ ∀ s∈l,o2 maxLen s) (fun l=>l.length≤1048576∧ ∀ s∈l,o2 1048576 s):=
 Pe (B:=fE) hM Sl (fun _ _=>rfl) (fun _ _ _=>rfl)
theorem Qu:Di lw (fun l=>l.length≤maxLen∧ ∀ s∈l,j5 maxLen s) (fun l=>l.length≤1048576∧ ∀ s∈l,j5 1048576 s):=
 Pe (B:=fF) fY MU (fun _ _=>rfl) (fun _ _ _=>rfl)
theorem MV:Di fG (GI maxLen) (GI 1048576):=by
 intro x left hb h0 h1
 unfold fG jE
 obtain⟨n,g1,g2,g3⟩:=Qu x.configs left hb h0 h1
 simp only [g1,Option.bind_some,aB]
 split
 ·exact⟨-1,rfl,by omega,fun h=>by omega⟩
 ·exact⟨n,rfl,by omega,g3⟩
theorem Qv:Di gr (sL maxLen) (sL 1048576):=by
 intro x left hb h0 h1
 unfold gr mg
 obtain⟨n,g1,g2,g3⟩:=Qt x.servers left hb.1 h0 h1
 simp only [g1,Option.bind_some,aB]
 split
 ·exact⟨-1,rfl,by omega,fun h=>by omega⟩
 ·obtain⟨m,k1,k2,k3⟩:=Ou x.sides n hb.2.1 (by omega) (by omega)
  simp only [k1,Option.bind_some]
  split
  ·exact⟨-1,rfl,by omega,fun h=>by omega⟩
  ·obtain⟨q,j1,j2,j3⟩:=MV x.master m hb.2.2.1 (by omega) (by omega)
   simp only [j1,Option.bind_some]
   split
   ·exact⟨-1,rfl,by omega,fun h=>by omega⟩
   ·obtain⟨p,i1,i2,i3⟩:=Sk x.places q hb.2.2.2 (by omega) (by omega)
    simp only [i1,Option.bind_some]
    split
    ·exact⟨-1,rfl,by omega,fun h=>by omega⟩
    ·exact⟨p,rfl,by omega,fun h=>⟨g3 (by omega),k3 (by omega),j3 (by omega),i3 h⟩⟩
theorem Ov (l:List Int) (h:l.length≤1048576):ol l=some (l,()):=LP (F:=ol) (B:=lx) (fun x=>some (x,())) 0 8 (fun _=>rfl) (fun _ _ _=>rfl) (by decide) l h (fun _ _=>rfl)
theorem MW (l:List aK) (h:l.length≤1048576):ly l=some (l,()):=LP (F:=ly) (B:=iM) qI ⟨0,⟨0,0,0,0,0,0⟩⟩ 56 (fun _=>rfl) (fun _ _ _=>rfl) (by decide) l h (fun _ _=>rfl)
theorem So (l:List aU) (h:l.length≤1048576):nA l=some (l,()):=LP (F:=nA) (B:=iO) qK ⟨0,0,0⟩ 24 (fun _=>rfl) (fun _ _ _=>rfl) (by decide) l h (fun _ _=>rfl)
theorem MX (x:ai) (h:j5 1048576 x):kg x=some (x,()):=by
 unfold kg pJ
 simp only [Ov _ h.1,Ov _ h.2,Option.bind_some]
theorem Sq (x:ak) (h:o2 1048576 x):lz x=some (x,()):=by
 unfold lz pK
 simp only [MX _ h.1,MW _ h.2.1,MW _ h.2.2,Option.bind_some]
theorem Qw (l:List ak) (h:l.length≤1048576∧ ∀ s∈l,o2 1048576 s):lA l=some (l,()):=LP (F:=lA) (B:=gt) lz ⟨false,false,0,0,⟨0,0,[],[]⟩,0,[],0,[]⟩ 152 (fun _=>rfl) (fun _ _ _=>rfl) (by decide) l h.1 (fun x hx=>Sq x (h.2 x hx))
theorem Qx (l:List ai) (h:l.length≤1048576∧ ∀ s∈l,j5 1048576 s):lB l=some (l,()):=LP (F:=lB) (B:=gv) kg ⟨0,0,[],[]⟩ 64 (fun _=>rfl) (fun _ _ _=>rfl) (by decide) l h.1 (fun x hx=>MX x (h.2 x hx))
theorem MY (x:an) (h:GI 1048576 x):je x=some (x,()):=by
 unfold je lC
 simp only [Qx _ h,Option.bind_some]
theorem TN (x:jC):qJ x=some (x,()):=rfl
theorem Cf (x:ao) (h:sL 1048576 x):fK x=some (x,()):=by
 unfold fK ou
 simp only [Qw _ h.1,Ov _ h.2.1,MY _ h.2.2.1,TN,So _ h.2.2.2,Option.bind_some]
theorem fg {n:Nat} (h:n≤1048576):n≤maxLen:=by unfold maxLen; omega
theorem wk (l:List Int) (h:l.length≤maxLen):oP l l=some (true,()):=vq (F:=oP) (B:=l6) (fun x y=>some (x==y,())) (fun _ _=>rfl) (fun _ _ _=>rfl) l h (fun x _=>by simp)
theorem Qy (x:Op):yI x x=some (true,()):=by
 unfold yI Az
 simp only [beq_self_eq_true,Bool.not_true,cT]
theorem KB (x:aK):nZ x x=some (true,()):=by
 unfold nZ rn
 simp only [beq_self_eq_true,Bool.not_true,cT,Qy,Option.bind_some]
theorem xS (l:List aK) (h:l.length≤maxLen):l7 l l=some (true,()):=vq (F:=l7) (B:=i4) nZ (fun _ _=>rfl) (fun _ _ _=>rfl) l h (fun x _=>KB x)
theorem KC (x:aU):n0 x x=some (true,()):=by
 unfold n0 rq
 simp only [beq_self_eq_true,Bool.not_true,cT]
theorem H0 (l:List aU) (h:l.length≤maxLen):nL l l=some (true,()):=vq (F:=nL) (B:=i5) n0 (fun _ _=>rfl) (fun _ _ _=>rfl) l h (fun x _=>KC x)
theorem xT (x:ai) (h:j5 1048576 x):kp x x=some (true,()):=by
 unfold kp pW
 simp only [beq_self_eq_true,Bool.not_true,cT,wk _ (fg h.1),wk _ (fg h.2),Option.bind_some]
theorem GJ (l:List ai) (h:l.length≤1048576∧ ∀ s∈l,j5 1048576 s):ma l l=some (true,()):=vq (F:=ma) (B:=gJ) kp (fun _ _=>rfl) (fun _ _ _=>rfl) l (fg h.1) (fun x hx=>xT x (h.2 x hx))
theorem H1 (x:ak) (h:o2 1048576 x):l8 x x=some (true,()):=by
 unfold l8 pX
 simp only [beq_self_eq_true,Bool.not_true,cT,xT _ h.1,xS _ (fg h.2.1),xS _ (fg h.2.2),Option.bind_some]
theorem GK (l:List ak) (h:l.length≤1048576∧ ∀ s∈l,o2 1048576 s):l9 l l=some (true,()):=vq (F:=l9) (B:=gH) l8 (fun _ _=>rfl) (fun _ _ _=>rfl) l (fg h.1) (fun x hx=>H1 x (h.2 x hx))
theorem Cg (x:an) (h:GI 1048576 x):jm x x=some (true,()):=by
 unfold jm mb
 simp only [beq_self_eq_true,Bool.not_true,cT,GJ _ h,Option.bind_some]
theorem KD (x:jC):pt x x=some (true,()):=by
 unfold pt rp
 simp only [beq_self_eq_true,Bool.not_true,cT]
theorem wl (x:ao) (h:sL 1048576 x):dL x x=some (true,()):=by
 unfold dL oV
 simp only [beq_self_eq_true,Bool.not_true,cT,GK _ h.1,wk _ (fg h.2.1),Cg _ h.2.2.1,KD,H0 _ (fg h.2.2.2),Option.bind_some]
theorem uf {t:Ty} {x:t.D} {u:Ty} {y:u.D} (h:NP t x) (hs: ∀ z∈u.row y,z∈t.row x):NP u y:=fun z hz=>h z (hs z hz)
theorem Sr {c:ai} (h:NP (.st .config) c):j5 maxLen c:=
 ⟨vp (t:= .i .i64) (uf (u:= .ls (.i .i64)) h fun z hz=>by rw [List.mem_singleton.1 hz]; exact List.mem_of_getElem? (i:=2) rfl),vp (t:= .i .i64) (uf (u:= .ls (.i .i64)) h fun z hz=>by rw [List.mem_singleton.1 hz]; exact List.mem_of_getElem? (i:=3) rfl)⟩
theorem U2 {s:ak} (h:NP (.st .server) s):o2 maxLen s:=
 ⟨Sr (uf (u:= .st .config) (y:=s.config) h fun z hz=>by
   have hz:z∈sS s.config:=hz
   unfold sS at hz
   simp only [List.mem_cons,List.not_mem_nil,or_false] at hz
   rcases hz with rfl | rfl | rfl | rfl
   ·exact List.mem_of_getElem? (i:=4) rfl
   ·exact List.mem_of_getElem? (i:=5) rfl
   ·exact List.mem_of_getElem? (i:=6) rfl
   ·exact List.mem_of_getElem? (i:=7) rfl),
  vp (t:= .st .entry) (uf (u:= .ls (.st .entry)) h fun z hz=>by rw [List.mem_singleton.1 hz]; exact List.mem_of_getElem? (i:=9) rfl),
  vp (t:= .st .entry) (uf (u:= .ls (.st .entry)) h fun z hz=>by rw [List.mem_singleton.1 hz]; exact List.mem_of_getElem? (i:=11) rfl)⟩
theorem VN {c:ao} (h:NP (.st .cluster) c):sL maxLen c:=by
 have h1:NP (.ls (.st .server)) c.servers:=uf (u:= .ls (.st .server)) h fun z hz=>by rw [List.mem_singleton.1 hz]; exact List.mem_of_getElem? (i:=1) rfl
 have h2:NP (.ls (.i .i64)) c.sides:=uf (u:= .ls (.i .i64)) h fun z hz=>by rw [List.mem_singleton.1 hz]; exact List.mem_of_getElem? (i:=2) rfl
 have h3:NP (.ls (.st .config)) c.master.configs:=uf (u:= .ls (.st .config)) h fun z hz=>by rw [List.mem_singleton.1 hz]; exact List.mem_of_getElem? (i:=3) rfl
 have h4:NP (.ls (.st .place)) c.places:=uf (u:= .ls (.st .place)) h fun z hz=>by rw [List.mem_singleton.1 hz]; exact List.mem_of_getElem? (i:=9) rfl
 exact⟨⟨vp h1,fun s hs=>U2 (R0 h1 hs)⟩,vp h2,⟨vp h3,fun s hs=>Sr (R0 h3 hs)⟩,vp h4⟩
end Go.Proofs.YtkcgfceffffmoaaGreat.En
