/- What the laws' own helpers compute: sizes, copies, equality. -/
import Derived.Test.YtkcgfceffffmoaaGreatZB
namespace Go.Proofs.YtkcgfceffffmoaaGreat.En
open Go
def hM (M:Nat) (c:ai):Prop:=c.replicas.length≤M∧c.witnesses.length≤M
def o4 (M:Nat) (s:ay):Prop:=hM M s.config∧s.log.length≤M∧s.learned.length≤M
def Cj (M:Nat) (m:aw):Prop:=m.configs.length≤M∧ ∀ c∈m.configs,hM M c
def xd (M:Nat) (c:aP):Prop:=(c.servers.length≤M∧ ∀ s∈c.servers,o4 M s)∧c.sides.length≤M∧Cj M c.master∧c.places.length≤M
theorem LN:Bq nw (fun l=>l.length≤maxLen) (fun l=>l.length≤1048576):=Hg (fun _ _=>rfl)
theorem Kl:Bq kM (fun l=>l.length≤maxLen) (fun l=>l.length≤1048576):=Hg (fun _ _=>rfl)
theorem PE:Bq mB (fun l=>l.length≤maxLen) (fun l=>l.length≤1048576):=Hg (fun _ _=>rfl)
theorem Km:Bq fK (hM maxLen) (hM 1048576):=by
 intro x left hb h0 h1
 unfold fK m8
 obtain⟨n,g1,g2,g3⟩:=LN x.replicas left hb.1 h0 h1
 simp only [g1,Option.bind_some,az]
 split
 ·exact⟨-1,rfl,by omega,fun h=>by omega⟩
 ·obtain⟨m,k1,k2,k3⟩:=LN x.witnesses n hb.2 (by omega) (by omega)
  simp only [k1,Option.bind_some]
  split
  ·exact⟨-1,rfl,by omega,fun h=>by omega⟩
  ·exact⟨m,rfl,by omega,fun h=>⟨g3 (by omega),k3 h⟩⟩
theorem PF:Bq gE (o4 maxLen) (o4 1048576):=by
 intro x left hb h0 h1
 unfold gE m9
 obtain⟨n,g1,g2,g3⟩:=Km x.config left hb.1 h0 h1
 simp only [g1,Option.bind_some,az]
 split
 ·exact⟨-1,rfl,by omega,fun h=>by omega⟩
 ·obtain⟨m,k1,k2,k3⟩:=Kl x.log n hb.2.1 (by omega) (by omega)
  simp only [k1,Option.bind_some]
  split
  ·exact⟨-1,rfl,by omega,fun h=>by omega⟩
  ·obtain⟨q,j1,j2,j3⟩:=Kl x.learned m hb.2.2 (by omega) (by omega)
   simp only [j1,Option.bind_some]
   split
   ·exact⟨-1,rfl,by omega,fun h=>by omega⟩
   ·exact⟨q,rfl,by omega,fun h=>⟨g3 (by omega),k3 (by omega),j3 h⟩⟩
theorem NK:Bq kN (fun l=>l.length≤maxLen∧ ∀ s∈l,o4 maxLen s) (fun l=>l.length≤1048576∧ ∀ s∈l,o4 1048576 s):=
 Mw (B:=fu) gE PF (fun _ _=>rfl) (fun _ _ _=>rfl)
theorem NL:Bq kO (fun l=>l.length≤maxLen∧ ∀ s∈l,hM maxLen s) (fun l=>l.length≤1048576∧ ∀ s∈l,hM 1048576 s):=
 Mw (B:=fv) fK Km (fun _ _=>rfl) (fun _ _ _=>rfl)
theorem Kn:Bq fw (Cj maxLen) (Cj 1048576):=by
 intro x left hb h0 h1
 unfold fw je
 obtain⟨n,g1,g2,g3⟩:=NL x.configs left hb h0 h1
 simp only [g1,Option.bind_some,az]
 split
 ·exact⟨-1,rfl,by omega,fun h=>by omega⟩
 ·exact⟨n,rfl,by omega,g3⟩
theorem NM:Bq f7 (xd maxLen) (xd 1048576):=by
 intro x left hb h0 h1
 unfold f7 lD
 obtain⟨n,g1,g2,g3⟩:=NK x.servers left hb.1 h0 h1
 simp only [g1,Option.bind_some,az]
 split
 ·exact⟨-1,rfl,by omega,fun h=>by omega⟩
 ·obtain⟨m,k1,k2,k3⟩:=LN x.sides n hb.2.1 (by omega) (by omega)
  simp only [k1,Option.bind_some]
  split
  ·exact⟨-1,rfl,by omega,fun h=>by omega⟩
  ·obtain⟨q,j1,j2,j3⟩:=Kn x.master m hb.2.2.1 (by omega) (by omega)
   simp only [j1,Option.bind_some]
   split
   ·exact⟨-1,rfl,by omega,fun h=>by omega⟩
   ·obtain⟨p,i1,i2,i3⟩:=PE x.places q hb.2.2.2 (by omega) (by omega)
    simp only [i1,Option.bind_some]
    split
    ·exact⟨-1,rfl,by omega,fun h=>by omega⟩
    ·exact⟨p,rfl,by omega,fun h=>⟨g3 (by omega),k3 (by omega),j3 (by omega),i3 h⟩⟩
theorem LO (l:List Int) (h:l.length≤1048576):nz l=some (l,()):=Jq (F:=nz) (B:=kP) (fun x=>some (x,())) 0 8 (fun _=>rfl) (fun _ _ _=>rfl) (by decide) l h (fun _ _=>rfl)
theorem Ko (l:List aB) (h:l.length≤1048576):kQ l=some (l,()):=Jq (F:=kQ) (B:=ip) pI ⟨0,⟨0,0,0,0,0,0⟩⟩ 56 (fun _=>rfl) (fun _ _ _=>rfl) (by decide) l h (fun _ _=>rfl)
theorem PG (l:List be) (h:l.length≤1048576):mF l=some (l,()):=Jq (F:=mF) (B:=iq) pK ⟨0,0,0⟩ 24 (fun _=>rfl) (fun _ _ _=>rfl) (by decide) l h (fun _ _=>rfl)
theorem Kp (x:ai) (h:hM 1048576 x):jL x=some (x,()):=by
 unfold jL oS
 simp only [LO _ h.1,LO _ h.2,Option.bind_some]
theorem PH (x:ay) (h:o4 1048576 x):kR x=some (x,()):=by
 unfold kR oT
 simp only [Kp _ h.1,Ko _ h.2.1,Ko _ h.2.2,Option.bind_some]
theorem NN (l:List ay) (h:l.length≤1048576∧ ∀ s∈l,o4 1048576 s):kT l=some (l,()):=Jq (F:=kT) (B:=f8) kR ⟨false,false,0,0,⟨0,0,[],[]⟩,0,[],0,[]⟩ 152 (fun _=>rfl) (fun _ _ _=>rfl) (by decide) l h.1 (fun x hx=>PH x (h.2 x hx))
theorem NP (l:List ai) (h:l.length≤1048576∧ ∀ s∈l,hM 1048576 s):kU l=some (l,()):=Jq (F:=kU) (B:=f9) jL ⟨0,0,[],[]⟩ 64 (fun _=>rfl) (fun _ _ _=>rfl) (by decide) l h.1 (fun x hx=>Kp x (h.2 x hx))
theorem Kq (x:aw) (h:Cj 1048576 x):iQ x=some (x,()):=by
 unfold iQ kV
 simp only [NP _ h,Option.bind_some]
theorem QW (x:jW):pJ x=some (x,()):=rfl
theorem NQ (x:aP) (h:xd 1048576 x):ga x=some (x,()):=by
 unfold ga nE
 simp only [NN _ h.1,LO _ h.2.1,Kq _ h.2.2.1,QW,PG _ h.2.2.2,Option.bind_some]
theorem fV {n:Nat} (h:n≤1048576):n≤maxLen:=by unfold maxLen; omega
theorem uO (l:List Int) (h:l.length≤maxLen):n0 l l=some (true,()):=t6 (F:=n0) (B:=lr) (fun x y=>some (x==y,())) (fun _ _=>rfl) (fun _ _ _=>rfl) l h (fun x _=>by simp)
theorem NR (x:Op):wX x x=some (true,()):=by
 unfold wX yF
 simp only [beq_self_eq_true,Bool.not_true,cI]
theorem H5 (x:aB):ni x x=some (true,()):=by
 unfold ni qh
 simp only [beq_self_eq_true,Bool.not_true,cI,NR,Option.bind_some]
theorem rn (l:List aB) (h:l.length≤maxLen):gU l l=some (true,()):=t6 (F:=gU) (B:=iC) ni (fun _ _=>rfl) (fun _ _ _=>rfl) l h (fun x _=>H5 x)
theorem H6 (x:be):nj x x=some (true,()):=by
 unfold nj qk
 simp only [beq_self_eq_true,Bool.not_true,cI]
theorem FL (l:List be) (h:l.length≤maxLen):mT l l=some (true,()):=t6 (F:=mT) (B:=iE) nj (fun _ _=>rfl) (fun _ _ _=>rfl) l h (fun x _=>H6 x)
theorem wi (x:ai) (h:hM 1048576 x):jT x x=some (true,()):=by
 unfold jT o2
 simp only [beq_self_eq_true,Bool.not_true,cI,uO _ (fV h.1),uO _ (fV h.2),Option.bind_some]
theorem EG (l:List ai) (h:l.length≤1048576∧ ∀ s∈l,hM 1048576 s):lx l l=some (true,()):=t6 (F:=lx) (B:=gp) jT (fun _ _=>rfl) (fun _ _ _=>rfl) l (fV h.1) (fun x hx=>wi x (h.2 x hx))
theorem FM (x:ay) (h:o4 1048576 x):lu x x=some (true,()):=by
 unfold lu o3
 simp only [beq_self_eq_true,Bool.not_true,cI,wi _ h.1,rn _ (fV h.2.1),rn _ (fV h.2.2),Option.bind_some]
theorem EH (l:List ay) (h:l.length≤1048576∧ ∀ s∈l,o4 1048576 s):lw l l=some (true,()):=t6 (F:=lw) (B:=gn) lu (fun _ _=>rfl) (fun _ _ _=>rfl) l (fV h.1) (fun x hx=>FM x (h.2 x hx))
theorem Aq (x:aw) (h:Cj 1048576 x):i4 x x=some (true,()):=by
 unfold i4 ly
 simp only [beq_self_eq_true,Bool.not_true,cI,EG _ h,Option.bind_some]
theorem H7 (x:jW):oB x x=some (true,()):=by
 unfold oB qj
 simp only [beq_self_eq_true,Bool.not_true,cI]
theorem EI (x:aP) (h:xd 1048576 x):lz x x=some (true,()):=by
 unfold lz n8
 simp only [beq_self_eq_true,Bool.not_true,cI,EH _ h.1,uO _ (fV h.2.1),Aq _ h.2.2.1,H7,FL _ (fV h.2.2.2),Option.bind_some]
theorem sP {t:Ty} {x:t.D} {u:Ty} {y:u.D} (h:Lb t x) (hs: ∀ z∈u.row y,z∈t.row x):Lb u y:=fun z hz=>h z (hs z hz)
theorem PI {c:ai} (h:Lb (.st .config) c):hM maxLen c:=
 ⟨t5 (t:= .i .i64) (sP (u:= .ls (.i .i64)) h fun z hz=>by rw [List.mem_singleton.1 hz]; exact List.mem_of_getElem? (i:=2) rfl),t5 (t:= .i .i64) (sP (u:= .ls (.i .i64)) h fun z hz=>by rw [List.mem_singleton.1 hz]; exact List.mem_of_getElem? (i:=3) rfl)⟩
theorem Se {s:ay} (h:Lb (.st .server) s):o4 maxLen s:=
 ⟨PI (sP (u:= .st .config) (y:=s.config) h fun z hz=>by
   have hz:z∈ry s.config:=hz
   unfold ry at hz
   simp only [List.mem_cons,List.not_mem_nil,or_false] at hz
   rcases hz with rfl | rfl | rfl | rfl
   ·exact List.mem_of_getElem? (i:=4) rfl
   ·exact List.mem_of_getElem? (i:=5) rfl
   ·exact List.mem_of_getElem? (i:=6) rfl
   ·exact List.mem_of_getElem? (i:=7) rfl),
  t5 (t:= .st .entry) (sP (u:= .ls (.st .entry)) h fun z hz=>by rw [List.mem_singleton.1 hz]; exact List.mem_of_getElem? (i:=9) rfl),
  t5 (t:= .st .entry) (sP (u:= .ls (.st .entry)) h fun z hz=>by rw [List.mem_singleton.1 hz]; exact List.mem_of_getElem? (i:=11) rfl)⟩
theorem S9 {c:aP} (h:Lb (.st .cluster) c):xd maxLen c:=by
 have h1:Lb (.ls (.st .server)) c.servers:=sP (u:= .ls (.st .server)) h fun z hz=>by rw [List.mem_singleton.1 hz]; exact List.mem_of_getElem? (i:=1) rfl
 have h2:Lb (.ls (.i .i64)) c.sides:=sP (u:= .ls (.i .i64)) h fun z hz=>by rw [List.mem_singleton.1 hz]; exact List.mem_of_getElem? (i:=2) rfl
 have h3:Lb (.ls (.st .config)) c.master.configs:=sP (u:= .ls (.st .config)) h fun z hz=>by rw [List.mem_singleton.1 hz]; exact List.mem_of_getElem? (i:=3) rfl
 have h4:Lb (.ls (.st .place)) c.places:=sP (u:= .ls (.st .place)) h fun z hz=>by rw [List.mem_singleton.1 hz]; exact List.mem_of_getElem? (i:=9) rfl
 exact⟨⟨t5 h1,fun s hs=>Se (Pj h1 hs)⟩,t5 h2,⟨t5 h3,fun s hs=>PI (Pj h3 hs)⟩,t5 h4⟩
end Go.Proofs.YtkcgfceffffmoaaGreat.En
