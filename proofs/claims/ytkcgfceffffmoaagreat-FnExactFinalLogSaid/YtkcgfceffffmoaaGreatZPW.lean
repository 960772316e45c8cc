/- What the laws' own helpers compute: sizes, copies, equality. -/
import Derived.Test.YtkcgfceffffmoaaGreatZB
namespace Go.Proofs.YtkcgfceffffmoaaGreat.En
open Go
def iM (M:Nat) (c:ai):Prop:=c.replicas.length≤M∧c.witnesses.length≤M
def qv (M:Nat) (s:ay):Prop:=iM M s.config∧s.log.length≤M∧s.learned.length≤M
def Cr (M:Nat) (m:aw):Prop:=m.configs.length≤M∧ ∀ c∈m.configs,iM M c
def yZ (M:Nat) (c:aQ):Prop:=(c.servers.length≤M∧ ∀ s∈c.servers,qv M s)∧c.sides.length≤M∧Cr M c.master∧c.places.length≤M
theorem LV:Bz nx (fun l=>l.length≤maxLen) (fun l=>l.length≤1048576):=Hp (fun _ _=>rfl)
theorem Kv:Bz kM (fun l=>l.length≤maxLen) (fun l=>l.length≤1048576):=Hp (fun _ _=>rfl)
theorem PN:Bz mF (fun l=>l.length≤maxLen) (fun l=>l.length≤1048576):=Hp (fun _ _=>rfl)
theorem Kw:Bz fK (iM maxLen) (iM 1048576):=by
 intro x left hb h0 h1
 unfold fK na
 obtain⟨n,g1,g2,g3⟩:=LV x.replicas left hb.1 h0 h1
 simp only [g1,Option.bind_some,aE]
 split
 ·exact⟨-1,rfl,by omega,fun h=>by omega⟩
 ·obtain⟨m,k1,k2,k3⟩:=LV x.witnesses n hb.2 (by omega) (by omega)
  simp only [k1,Option.bind_some]
  split
  ·exact⟨-1,rfl,by omega,fun h=>by omega⟩
  ·exact⟨m,rfl,by omega,fun h=>⟨g3 (by omega),k3 h⟩⟩
theorem PO:Bz gF (qv maxLen) (qv 1048576):=by
 intro x left hb h0 h1
 unfold gF nc
 obtain⟨n,g1,g2,g3⟩:=Kw x.config left hb.1 h0 h1
 simp only [g1,Option.bind_some,aE]
 split
 ·exact⟨-1,rfl,by omega,fun h=>by omega⟩
 ·obtain⟨m,k1,k2,k3⟩:=Kv x.log n hb.2.1 (by omega) (by omega)
  simp only [k1,Option.bind_some]
  split
  ·exact⟨-1,rfl,by omega,fun h=>by omega⟩
  ·obtain⟨q,j1,j2,j3⟩:=Kv x.learned m hb.2.2 (by omega) (by omega)
   simp only [j1,Option.bind_some]
   split
   ·exact⟨-1,rfl,by omega,fun h=>by omega⟩
   ·exact⟨q,rfl,by omega,fun h=>⟨g3 (by omega),k3 (by omega),j3 h⟩⟩
theorem NR:Bz kN (fun l=>l.length≤maxLen∧ ∀ s∈l,qv maxLen s) (fun l=>l.length≤1048576∧ ∀ s∈l,qv 1048576 s):=
 ME (B:=ft) gF PO (fun _ _=>rfl) (fun _ _ _=>rfl)
theorem NS:Bz kO (fun l=>l.length≤maxLen∧ ∀ s∈l,iM maxLen s) (fun l=>l.length≤1048576∧ ∀ s∈l,iM 1048576 s):=
 ME (B:=fu) fK Kw (fun _ _=>rfl) (fun _ _ _=>rfl)
theorem Kx:Bz fv (Cr maxLen) (Cr 1048576):=by
 intro x left hb h0 h1
 unfold fv jg
 obtain⟨n,g1,g2,g3⟩:=NS x.configs left hb h0 h1
 simp only [g1,Option.bind_some,aE]
 split
 ·exact⟨-1,rfl,by omega,fun h=>by omega⟩
 ·exact⟨n,rfl,by omega,g3⟩
theorem NT:Bz f8 (yZ maxLen) (yZ 1048576):=by
 intro x left hb h0 h1
 unfold f8 lD
 obtain⟨n,g1,g2,g3⟩:=NR x.servers left hb.1 h0 h1
 simp only [g1,Option.bind_some,aE]
 split
 ·exact⟨-1,rfl,by omega,fun h=>by omega⟩
 ·obtain⟨m,k1,k2,k3⟩:=LV x.sides n hb.2.1 (by omega) (by omega)
  simp only [k1,Option.bind_some]
  split
  ·exact⟨-1,rfl,by omega,fun h=>by omega⟩
  ·obtain⟨q,j1,j2,j3⟩:=Kx x.master m hb.2.2.1 (by omega) (by omega)
   simp only [j1,Option.bind_some]
   split
   ·exact⟨-1,rfl,by omega,fun h=>by omega⟩
   ·obtain⟨p,i1,i2,i3⟩:=PN x.places q hb.2.2.2 (by omega) (by omega)
    simp only [i1,Option.bind_some]
    split
    ·exact⟨-1,rfl,by omega,fun h=>by omega⟩
    ·exact⟨p,rfl,by omega,fun h=>⟨g3 (by omega),k3 (by omega),j3 (by omega),i3 h⟩⟩
theorem LW (l:List Int) (h:l.length≤1048576):nA l=some (l,()):=JA (F:=nA) (B:=kP) (fun x=>some (x,())) 0 8 (fun _=>rfl) (fun _ _ _=>rfl) (by decide) l h (fun _ _=>rfl)
theorem Ky (l:List aA) (h:l.length≤1048576):kQ l=some (l,()):=JA (F:=kQ) (B:=ir) pK ⟨0,⟨0,0,0,0,0,0⟩⟩ 56 (fun _=>rfl) (fun _ _ _=>rfl) (by decide) l h (fun _ _=>rfl)
theorem PP (l:List bh) (h:l.length≤1048576):mH l=some (l,()):=JA (F:=mH) (B:=it) pM ⟨0,0,0⟩ 24 (fun _=>rfl) (fun _ _ _=>rfl) (by decide) l h (fun _ _=>rfl)
theorem Kz (x:ai) (h:iM 1048576 x):jL x=some (x,()):=by
 unfold jL oT
 simp only [LW _ h.1,LW _ h.2,Option.bind_some]
theorem PQ (x:ay) (h:qv 1048576 x):kR x=some (x,()):=by
 unfold kR oU
 simp only [Kz _ h.1,Ky _ h.2.1,Ky _ h.2.2,Option.bind_some]
theorem NU (l:List ay) (h:l.length≤1048576∧ ∀ s∈l,qv 1048576 s):kT l=some (l,()):=JA (F:=kT) (B:=f9) kR ⟨false,false,0,0,⟨0,0,[],[]⟩,0,[],0,[]⟩ 152 (fun _=>rfl) (fun _ _ _=>rfl) (by decide) l h.1 (fun x hx=>PQ x (h.2 x hx))
theorem NV (l:List ai) (h:l.length≤1048576∧ ∀ s∈l,iM 1048576 s):kU l=some (l,()):=JA (F:=kU) (B:=ga) jL ⟨0,0,[],[]⟩ 64 (fun _=>rfl) (fun _ _ _=>rfl) (by decide) l h.1 (fun x hx=>Kz x (h.2 x hx))
theorem KA (x:aw) (h:Cr 1048576 x):iT x=some (x,()):=by
 unfold iT kV
 simp only [NV _ h,Option.bind_some]
theorem Q9 (x:jV):pL x=some (x,()):=rfl
theorem NW (x:aQ) (h:yZ 1048576 x):gb x=some (x,()):=by
 unfold gb nF
 simp only [NU _ h.1,LW _ h.2.1,KA _ h.2.2.1,Q9,PP _ h.2.2.2,Option.bind_some]
theorem f7 {n:Nat} (h:n≤1048576):n≤maxLen:=by unfold maxLen; omega
theorem uU (l:List Int) (h:l.length≤maxLen):n5 l l=some (true,()):=uc (F:=n5) (B:=lr) (fun x y=>some (x==y,())) (fun _ _=>rfl) (fun _ _ _=>rfl) l h (fun x _=>by simp)
theorem NX (x:Op):w5 x x=some (true,()):=by
 unfold w5 yM
 simp only [beq_self_eq_true,Bool.not_true,dh]
theorem Ig (x:aA):nk x x=some (true,()):=by
 unfold nk qj
 simp only [beq_self_eq_true,Bool.not_true,dh,NX,Option.bind_some]
theorem rt (l:List aA) (h:l.length≤maxLen):gV l l=some (true,()):=uc (F:=gV) (B:=iG) nk (fun _ _=>rfl) (fun _ _ _=>rfl) l h (fun x _=>Ig x)
theorem Ih (x:bh):nl x x=some (true,()):=by
 unfold nl qn
 simp only [beq_self_eq_true,Bool.not_true,dh]
theorem FU (l:List bh) (h:l.length≤maxLen):mW l l=some (true,()):=uc (F:=mW) (B:=iH) nl (fun _ _=>rfl) (fun _ _ _=>rfl) l h (fun x _=>Ih x)
theorem wl (x:ai) (h:iM 1048576 x):jT x x=some (true,()):=by
 unfold jT o3
 simp only [beq_self_eq_true,Bool.not_true,dh,uU _ (f7 h.1),uU _ (f7 h.2),Option.bind_some]
theorem EN (l:List ai) (h:l.length≤1048576∧ ∀ s∈l,iM 1048576 s):lx l l=some (true,()):=uc (F:=lx) (B:=gq) jT (fun _ _=>rfl) (fun _ _ _=>rfl) l (f7 h.1) (fun x hx=>wl x (h.2 x hx))
theorem FV (x:ay) (h:qv 1048576 x):lu x x=some (true,()):=by
 unfold lu o4
 simp only [beq_self_eq_true,Bool.not_true,dh,wl _ h.1,rt _ (f7 h.2.1),rt _ (f7 h.2.2),Option.bind_some]
theorem EO (l:List ay) (h:l.length≤1048576∧ ∀ s∈l,qv 1048576 s):lw l l=some (true,()):=uc (F:=lw) (B:=gp) lu (fun _ _=>rfl) (fun _ _ _=>rfl) l (f7 h.1) (fun x hx=>FV x (h.2 x hx))
theorem AA (x:aw) (h:Cr 1048576 x):i6 x x=some (true,()):=by
 unfold i6 ly
 simp only [beq_self_eq_true,Bool.not_true,dh,EN _ h,Option.bind_some]
theorem Ii (x:jV):oC x x=some (true,()):=by
 unfold oC qm
 simp only [beq_self_eq_true,Bool.not_true,dh]
theorem EP (x:aQ) (h:yZ 1048576 x):lz x x=some (true,()):=by
 unfold lz n9
 simp only [beq_self_eq_true,Bool.not_true,dh,EO _ h.1,uU _ (f7 h.2.1),AA _ h.2.2.1,Ii,FU _ (f7 h.2.2.2),Option.bind_some]
theorem sV {t:Ty} {x:t.D} {u:Ty} {y:u.D} (h:Li t x) (hs: ∀ z∈u.row y,z∈t.row x):Li u y:=fun z hz=>h z (hs z hz)
theorem PR {c:ai} (h:Li (.st .config) c):iM maxLen c:=
 ⟨ub (t:= .i .i64) (sV (u:= .ls (.i .i64)) h fun z hz=>by rw [List.mem_singleton.1 hz]; exact List.mem_of_getElem? (i:=2) rfl),ub (t:= .i .i64) (sV (u:= .ls (.i .i64)) h fun z hz=>by rw [List.mem_singleton.1 hz]; exact List.mem_of_getElem? (i:=3) rfl)⟩
theorem Su {s:ay} (h:Li (.st .server) s):qv maxLen s:=
 ⟨PR (sV (u:= .st .config) (y:=s.config) h fun z hz=>by
   have hz:z∈rC s.config:=hz
   unfold rC at hz
   simp only [List.mem_cons,List.not_mem_nil,or_false] at hz
   rcases hz with rfl | rfl | rfl | rfl
   ·exact List.mem_of_getElem? (i:=4) rfl
   ·exact List.mem_of_getElem? (i:=5) rfl
   ·exact List.mem_of_getElem? (i:=6) rfl
   ·exact List.mem_of_getElem? (i:=7) rfl),
  ub (t:= .st .entry) (sV (u:= .ls (.st .entry)) h fun z hz=>by rw [List.mem_singleton.1 hz]; exact List.mem_of_getElem? (i:=9) rfl),
  ub (t:= .st .entry) (sV (u:= .ls (.st .entry)) h fun z hz=>by rw [List.mem_singleton.1 hz]; exact List.mem_of_getElem? (i:=11) rfl)⟩
theorem To {c:aQ} (h:Li (.st .cluster) c):yZ maxLen c:=by
 have h1:Li (.ls (.st .server)) c.servers:=sV (u:= .ls (.st .server)) h fun z hz=>by rw [List.mem_singleton.1 hz]; exact List.mem_of_getElem? (i:=1) rfl
 have h2:Li (.ls (.i .i64)) c.sides:=sV (u:= .ls (.i .i64)) h fun z hz=>by rw [List.mem_singleton.1 hz]; exact List.mem_of_getElem? (i:=2) rfl
 have h3:Li (.ls (.st .config)) c.master.configs:=sV (u:= .ls (.st .config)) h fun z hz=>by rw [List.mem_singleton.1 hz]; exact List.mem_of_getElem? (i:=3) rfl
 have h4:Li (.ls (.st .place)) c.places:=sV (u:= .ls (.st .place)) h fun z hz=>by rw [List.mem_singleton.1 hz]; exact List.mem_of_getElem? (i:=9) rfl
 exact⟨⟨ub h1,fun s hs=>Su (Pt h1 hs)⟩,ub h2,⟨ub h3,fun s hs=>PR (Pt h3 hs)⟩,ub h4⟩
end Go.Proofs.YtkcgfceffffmoaaGreat.En
