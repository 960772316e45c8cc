/- What the laws' own helpers compute: sizes, copies, equality. -/
import Derived.Test.YtkcgfceffffmoaaGreatZB
namespace Go.Proofs.YtkcgfceffffmoaaGreat.En
open Go
def ll (M:Nat) (c:ai):Prop:=c.replicas.length≤M∧c.witnesses.length≤M
def qD (M:Nat) (s:aj):Prop:=ll M s.config∧s.log.length≤M∧s.learned.length≤M
def I2 (M:Nat) (m:an):Prop:=m.configs.length≤M∧ ∀ c∈m.configs,ll M c
def tC (M:Nat) (c:ao):Prop:=(c.servers.length≤M∧ ∀ s∈c.servers,qD M s)∧c.sides.length≤M∧I2 M c.master∧c.places.length≤M
theorem QG:Fw pQ (fun l=>l.length≤maxLen) (fun l=>l.length≤1048576):=LY (fun _ _=>rfl)
theorem Pc:Fw mZ (fun l=>l.length≤maxLen) (fun l=>l.length≤1048576):=LY (fun _ _=>rfl)
theorem UJ:Fw o9 (fun l=>l.length≤maxLen) (fun l=>l.length≤1048576):=LY (fun _ _=>rfl)
theorem Pd:Fw ia (ll maxLen) (ll 1048576):=by
 intro x left hb h0 h1
 unfold ia pw
 obtain⟨n,g1,g2,g3⟩:=QG x.replicas left hb.1 h0 h1
 simp only [g1,Option.bind_some,ay]
 split
 ·exact⟨-1,rfl,by omega,fun h=>by omega⟩
 ·obtain⟨m,k1,k2,k3⟩:=QG x.witnesses n hb.2 (by omega) (by omega)
  simp only [k1,Option.bind_some]
  split
  ·exact⟨-1,rfl,by omega,fun h=>by omega⟩
  ·exact⟨m,rfl,by omega,fun h=>⟨g3 (by omega),k3 h⟩⟩
theorem UK:Fw i9 (qD maxLen) (qD 1048576):=by
 intro x left hb h0 h1
 unfold i9 pz
 obtain⟨n,g1,g2,g3⟩:=Pd x.config left hb.1 h0 h1
 simp only [g1,Option.bind_some,ay]
 split
 ·exact⟨-1,rfl,by omega,fun h=>by omega⟩
 ·obtain⟨m,k1,k2,k3⟩:=Pc x.log n hb.2.1 (by omega) (by omega)
  simp only [k1,Option.bind_some]
  split
  ·exact⟨-1,rfl,by omega,fun h=>by omega⟩
  ·obtain⟨q,j1,j2,j3⟩:=Pc x.learned m hb.2.2 (by omega) (by omega)
   simp only [j1,Option.bind_some]
   split
   ·exact⟨-1,rfl,by omega,fun h=>by omega⟩
   ·exact⟨q,rfl,by omega,fun h=>⟨g3 (by omega),k3 (by omega),j3 h⟩⟩
theorem SM:Fw m0 (fun l=>l.length≤maxLen∧ ∀ s∈l,qD maxLen s) (fun l=>l.length≤1048576∧ ∀ s∈l,qD 1048576 s):=
 Rp (B:=gF) i9 UK (fun _ _=>rfl) (fun _ _ _=>rfl)
theorem SN:Fw m8 (fun l=>l.length≤maxLen∧ ∀ s∈l,ll maxLen s) (fun l=>l.length≤1048576∧ ∀ s∈l,ll 1048576 s):=
 Rp (B:=gG) ia Pd (fun _ _=>rfl) (fun _ _ _=>rfl)
theorem Pe:Fw gH (I2 maxLen) (I2 1048576):=by
 intro x left hb h0 h1
 unfold gH kH
 obtain⟨n,g1,g2,g3⟩:=SN x.configs left hb h0 h1
 simp only [g1,Option.bind_some,ay]
 split
 ·exact⟨-1,rfl,by omega,fun h=>by omega⟩
 ·exact⟨n,rfl,by omega,g3⟩
theorem SO:Fw iy (tC maxLen) (tC 1048576):=by
 intro x left hb h0 h1
 unfold iy n0
 obtain⟨n,g1,g2,g3⟩:=SM x.servers left hb.1 h0 h1
 simp only [g1,Option.bind_some,ay]
 split
 ·exact⟨-1,rfl,by omega,fun h=>by omega⟩
 ·obtain⟨m,k1,k2,k3⟩:=QG x.sides n hb.2.1 (by omega) (by omega)
  simp only [k1,Option.bind_some]
  split
  ·exact⟨-1,rfl,by omega,fun h=>by omega⟩
  ·obtain⟨q,j1,j2,j3⟩:=Pe x.master m hb.2.2.1 (by omega) (by omega)
   simp only [j1,Option.bind_some]
   split
   ·exact⟨-1,rfl,by omega,fun h=>by omega⟩
   ·obtain⟨p,i1,i2,i3⟩:=UJ x.places q hb.2.2.2 (by omega) (by omega)
    simp only [i1,Option.bind_some]
    split
    ·exact⟨-1,rfl,by omega,fun h=>by omega⟩
    ·exact⟨p,rfl,by omega,fun h=>⟨g3 (by omega),k3 (by omega),j3 (by omega),i3 h⟩⟩
theorem QH (l:List Int) (h:l.length≤1048576):pT l=some (l,()):=N7 (F:=pT) (B:=m9) (fun x=>some (x,())) 0 8 (fun _=>rfl) (fun _ _ _=>rfl) (by decide) l h (fun _ _=>rfl)
theorem Pf (l:List az) (h:l.length≤1048576):na l=some (l,()):=N7 (F:=na) (B:=jP) sH ⟨0,⟨0,0,0,0,0,0⟩⟩ 56 (fun _=>rfl) (fun _ _ _=>rfl) (by decide) l h (fun _ _=>rfl)
theorem UL (l:List aU) (h:l.length≤1048576):pb l=some (l,()):=N7 (F:=pb) (B:=jQ) sJ ⟨0,0,0⟩ 24 (fun _=>rfl) (fun _ _ _=>rfl) (by decide) l h (fun _ _=>rfl)
theorem Pg (x:ai) (h:ll 1048576 x):lz x=some (x,()):=by
 unfold lz rr
 simp only [QH _ h.1,QH _ h.2,Option.bind_some]
theorem UM (x:aj) (h:qD 1048576 x):nc x=some (x,()):=by
 unfold nc rt
 simp only [Pg _ h.1,Pf _ h.2.1,Pf _ h.2.2,Option.bind_some]
theorem SP (l:List aj) (h:l.length≤1048576∧ ∀ s∈l,qD 1048576 s):ne l=some (l,()):=N7 (F:=ne) (B:=iz) nc ⟨false,false,0,0,⟨0,0,[],[]⟩,0,[],0,[]⟩ 152 (fun _=>rfl) (fun _ _ _=>rfl) (by decide) l h.1 (fun x hx=>UM x (h.2 x hx))
theorem SQ (l:List ai) (h:l.length≤1048576∧ ∀ s∈l,ll 1048576 s):nf l=some (l,()):=N7 (F:=nf) (B:=iA) lz ⟨0,0,[],[]⟩ 64 (fun _=>rfl) (fun _ _ _=>rfl) (by decide) l h.1 (fun x hx=>Pg x (h.2 x hx))
theorem Ph (x:an) (h:I2 1048576 x):kh x=some (x,()):=by
 unfold kh nh
 simp only [SQ _ h,Option.bind_some]
theorem VZ (x:jO):sI x=some (x,()):=rfl
theorem Er (x:ao) (h:tC 1048576 x):gO x=some (x,()):=by
 unfold gO pY
 simp only [SP _ h.1,QH _ h.2.1,Ph _ h.2.2.1,VZ,UL _ h.2.2.2,Option.bind_some]
theorem eX {n:Nat} (h:n≤1048576):n≤maxLen:=by unfold maxLen; omega
theorem yq (l:List Int) (h:l.length≤maxLen):qq l l=some (true,()):=xq (F:=qq) (B:=nP) (fun x y=>some (x==y,())) (fun _ _=>rfl) (fun _ _ _=>rfl) l h (fun x _=>by simp)
theorem SR (x:Op):A0 x x=some (true,()):=by
 unfold A0 CG
 simp only [beq_self_eq_true,Bool.not_true,cW]
theorem MT (x:az):pD x x=some (true,()):=by
 unfold pD tf
 simp only [beq_self_eq_true,Bool.not_true,cW,SR,Option.bind_some]
theorem Ah (l:List az) (h:l.length≤maxLen):nQ l l=some (true,()):=xq (F:=nQ) (B:=j5) pD (fun _ _=>rfl) (fun _ _ _=>rfl) l h (fun x _=>MT x)
theorem MU (x:aU):pE x x=some (true,()):=by
 unfold pE th
 simp only [beq_self_eq_true,Bool.not_true,cW]
theorem Km (l:List aU) (h:l.length≤maxLen):pn l l=some (true,()):=xq (F:=pn) (B:=j6) pE (fun _ _=>rfl) (fun _ _ _=>rfl) l h (fun x _=>MU x)
theorem Ai (x:ai) (h:ll 1048576 x):lJ x x=some (true,()):=by
 unfold lJ rJ
 simp only [beq_self_eq_true,Bool.not_true,cW,yq _ (eX h.1),yq _ (eX h.2),Option.bind_some]
theorem I3 (l:List ai) (h:l.length≤1048576∧ ∀ s∈l,ll 1048576 s):nT l l=some (true,()):=xq (F:=nT) (B:=iQ) lJ (fun _ _=>rfl) (fun _ _ _=>rfl) l (eX h.1) (fun x hx=>Ai x (h.2 x hx))
theorem Kn (x:aj) (h:qD 1048576 x):nR x x=some (true,()):=by
 unfold nR rK
 simp only [beq_self_eq_true,Bool.not_true,cW,Ai _ h.1,Ah _ (eX h.2.1),Ah _ (eX h.2.2),Option.bind_some]
theorem I4 (l:List aj) (h:l.length≤1048576∧ ∀ s∈l,qD 1048576 s):nS l l=some (true,()):=xq (F:=nS) (B:=iP) nR (fun _ _=>rfl) (fun _ _ _=>rfl) l (eX h.1) (fun x hx=>Kn x (h.2 x hx))
theorem Es (x:an) (h:I2 1048576 x):kq x x=some (true,()):=by
 unfold kq nU
 simp only [beq_self_eq_true,Bool.not_true,cW,I3 _ h,Option.bind_some]
theorem MV (x:jO):q9 x x=some (true,()):=by
 unfold q9 tg
 simp only [beq_self_eq_true,Bool.not_true,cW]
theorem yr (x:ao) (h:tC 1048576 x):eB x x=some (true,()):=by
 unfold eB qw
 simp only [beq_self_eq_true,Bool.not_true,cW,I4 _ h.1,yq _ (eX h.2.1),Es _ h.2.2.1,MV,Km _ (eX h.2.2.2),Option.bind_some]
theorem vZ {t:Ty} {x:t.D} {u:Ty} {y:u.D} (h:P5 t x) (hs: ∀ z∈u.row y,z∈t.row x):P5 u y:=fun z hz=>h z (hs z hz)
theorem UN {c:ai} (h:P5 (.st .config) c):ll maxLen c:=
 ⟨xp (t:= .i .i64) (vZ (u:= .ls (.i .i64)) h fun z hz=>by rw [List.mem_singleton.1 hz]; exact List.mem_of_getElem? (i:=2) rfl),xp (t:= .i .i64) (vZ (u:= .ls (.i .i64)) h fun z hz=>by rw [List.mem_singleton.1 hz]; exact List.mem_of_getElem? (i:=3) rfl)⟩
theorem Xe {s:aj} (h:P5 (.st .server) s):qD maxLen s:=
 ⟨UN (vZ (u:= .st .config) (y:=s.config) h fun z hz=>by
   have hz:z∈uM s.config:=hz
   unfold uM at hz
   simp only [List.mem_cons,List.not_mem_nil,or_false] at hz
   rcases hz with rfl | rfl | rfl | rfl
   ·exact List.mem_of_getElem? (i:=4) rfl
   ·exact List.mem_of_getElem? (i:=5) rfl
   ·exact List.mem_of_getElem? (i:=6) rfl
   ·exact List.mem_of_getElem? (i:=7) rfl),
  xp (t:= .st .entry) (vZ (u:= .ls (.st .entry)) h fun z hz=>by rw [List.mem_singleton.1 hz]; exact List.mem_of_getElem? (i:=9) rfl),
  xp (t:= .st .entry) (vZ (u:= .ls (.st .entry)) h fun z hz=>by rw [List.mem_singleton.1 hz]; exact List.mem_of_getElem? (i:=11) rfl)⟩
theorem XZ {c:ao} (h:P5 (.st .cluster) c):tC maxLen c:=by
 have h1:P5 (.ls (.st .server)) c.servers:=vZ (u:= .ls (.st .server)) h fun z hz=>by rw [List.mem_singleton.1 hz]; exact List.mem_of_getElem? (i:=1) rfl
 have h2:P5 (.ls (.i .i64)) c.sides:=vZ (u:= .ls (.i .i64)) h fun z hz=>by rw [List.mem_singleton.1 hz]; exact List.mem_of_getElem? (i:=2) rfl
 have h3:P5 (.ls (.st .config)) c.master.configs:=vZ (u:= .ls (.st .config)) h fun z hz=>by rw [List.mem_singleton.1 hz]; exact List.mem_of_getElem? (i:=3) rfl
 have h4:P5 (.ls (.st .place)) c.places:=vZ (u:= .ls (.st .place)) h fun z hz=>by rw [List.mem_singleton.1 hz]; exact List.mem_of_getElem? (i:=9) rfl
 exact⟨⟨xp h1,fun s hs=>Xe (Uq h1 hs)⟩,xp h2,⟨xp h3,fun s hs=>UN (Uq h3 hs)⟩,xp h4⟩
end Go.Proofs.YtkcgfceffffmoaaGreat.En
