/- What the laws' own helpers compute: sizes, copies, equality. -/
import Derived.Test.YtkcgfceffffmoaaGreatZB
namespace Go.Proofs.YtkcgfceffffmoaaGreat.En
open Go
def jQ (M:Nat) (c:ai):Prop:=c.replicas.length≤M∧c.witnesses.length≤M
def uc (M:Nat) (s:aZ):Prop:=jQ M s.config∧s.log.length≤M∧s.learned.length≤M
def DF (M:Nat) (m:aD):Prop:=m.configs.length≤M∧ ∀ c∈m.configs,jQ M c
def zn (M:Nat) (c:ax):Prop:=(c.servers.length≤M∧ ∀ s∈c.servers,uc M s)∧c.sides.length≤M∧DF M c.master∧c.places.length≤M
theorem Li:Au oL (fun l=>l.length≤maxLen) (fun l=>l.length≤1048576):=Gv (fun _ _=>rfl)
theorem JQ:Au mp (fun l=>l.length≤maxLen) (fun l=>l.length≤1048576):=Gv (fun _ _=>rfl)
theorem O4:Au oa (fun l=>l.length≤maxLen) (fun l=>l.length≤1048576):=Gv (fun _ _=>rfl)
theorem JR:Au jt (jQ maxLen) (jQ 1048576):=by
 intro x left hb h0 h1
 unfold jt oM
 obtain⟨n,g1,g2,g3⟩:=Li x.replicas left hb.1 h0 h1
 simp only [g1,Option.bind_some,aR]
 split
 ·exact⟨-1,rfl,by omega,fun h=>by omega⟩
 ·obtain⟨m,k1,k2,k3⟩:=Li x.witnesses n hb.2 (by omega) (by omega)
  simp only [k1,Option.bind_some]
  split
  ·exact⟨-1,rfl,by omega,fun h=>by omega⟩
  ·exact⟨m,rfl,by omega,fun h=>⟨g3 (by omega),k3 h⟩⟩
theorem O5:Au kq (uc maxLen) (uc 1048576):=by
 intro x left hb h0 h1
 unfold kq oO
 obtain⟨n,g1,g2,g3⟩:=JR x.config left hb.1 h0 h1
 simp only [g1,Option.bind_some,aR]
 split
 ·exact⟨-1,rfl,by omega,fun h=>by omega⟩
 ·obtain⟨m,k1,k2,k3⟩:=JQ x.log n hb.2.1 (by omega) (by omega)
  simp only [k1,Option.bind_some]
  split
  ·exact⟨-1,rfl,by omega,fun h=>by omega⟩
  ·obtain⟨q,j1,j2,j3⟩:=JQ x.learned m hb.2.2 (by omega) (by omega)
   simp only [j1,Option.bind_some]
   split
   ·exact⟨-1,rfl,by omega,fun h=>by omega⟩
   ·exact⟨q,rfl,by omega,fun h=>⟨g3 (by omega),k3 (by omega),j3 h⟩⟩
theorem M8:Au mO (fun l=>l.length≤maxLen∧ ∀ s∈l,uc maxLen s) (fun l=>l.length≤1048576∧ ∀ s∈l,uc 1048576 s):=
 LX (B:=fI) kq O5 (fun _ _=>rfl) (fun _ _ _=>rfl)
theorem M9:Au mP (fun l=>l.length≤maxLen∧ ∀ s∈l,jQ maxLen s) (fun l=>l.length≤1048576∧ ∀ s∈l,jQ 1048576 s):=
 LX (B:=fJ) jt JR (fun _ _=>rfl) (fun _ _ _=>rfl)
theorem JS:Au im (DF maxLen) (DF 1048576):=by
 intro x left hb h0 h1
 unfold im kr
 obtain⟨n,g1,g2,g3⟩:=M9 x.configs left hb h0 h1
 simp only [g1,Option.bind_some,aR]
 split
 ·exact⟨-1,rfl,by omega,fun h=>by omega⟩
 ·exact⟨n,rfl,by omega,g3⟩
theorem Na:Au kt (zn maxLen) (zn 1048576):=by
 intro x left hb h0 h1
 unfold kt nm
 obtain⟨n,g1,g2,g3⟩:=M8 x.servers left hb.1 h0 h1
 simp only [g1,Option.bind_some,aR]
 split
 ·exact⟨-1,rfl,by omega,fun h=>by omega⟩
 ·obtain⟨m,k1,k2,k3⟩:=Li x.sides n hb.2.1 (by omega) (by omega)
  simp only [k1,Option.bind_some]
  split
  ·exact⟨-1,rfl,by omega,fun h=>by omega⟩
  ·obtain⟨q,j1,j2,j3⟩:=JS x.master m hb.2.2.1 (by omega) (by omega)
   simp only [j1,Option.bind_some]
   split
   ·exact⟨-1,rfl,by omega,fun h=>by omega⟩
   ·obtain⟨p,i1,i2,i3⟩:=O4 x.places q hb.2.2.2 (by omega) (by omega)
    simp only [i1,Option.bind_some]
    split
    ·exact⟨-1,rfl,by omega,fun h=>by omega⟩
    ·exact⟨p,rfl,by omega,fun h=>⟨g3 (by omega),k3 (by omega),j3 (by omega),i3 h⟩⟩
theorem Lj (l:List Int) (h:l.length≤1048576):nn l=some (l,()):=IT (F:=nn) (B:=ku) (fun x=>some (x,())) 0 8 (fun _=>rfl) (fun _ _ _=>rfl) (by decide) l h (fun _ _=>rfl)
theorem JT (l:List bK) (h:l.length≤1048576):kv l=some (l,()):=IT (F:=kv) (B:=gU) pH ⟨0,⟨0,0,0,0,0,0⟩⟩ 56 (fun _=>rfl) (fun _ _ _=>rfl) (by decide) l h (fun _ _=>rfl)
theorem O6 (l:List bk) (h:l.length≤1048576):mr l=some (l,()):=IT (F:=mr) (B:=gV) pJ ⟨0,0,0⟩ 24 (fun _=>rfl) (fun _ _ _=>rfl) (by decide) l h (fun _ _=>rfl)
theorem JU (x:ai) (h:jQ 1048576 x):ju x=some (x,()):=by
 unfold ju oP
 simp only [Lj _ h.1,Lj _ h.2,Option.bind_some]
theorem O7 (x:aZ) (h:uc 1048576 x):kw x=some (x,()):=by
 unfold kw oQ
 simp only [JU _ h.1,JT _ h.2.1,JT _ h.2.2,Option.bind_some]
theorem Nb (l:List aZ) (h:l.length≤1048576∧ ∀ s∈l,uc 1048576 s):kx l=some (l,()):=IT (F:=kx) (B:=fK) kw ⟨false,false,0,0,⟨0,0,[],[]⟩,0,[],0,[]⟩ 152 (fun _=>rfl) (fun _ _ _=>rfl) (by decide) l h.1 (fun x hx=>O7 x (h.2 x hx))
theorem Nc (l:List ai) (h:l.length≤1048576∧ ∀ s∈l,jQ 1048576 s):ky l=some (l,()):=IT (F:=ky) (B:=fL) ju ⟨0,0,[],[]⟩ 64 (fun _=>rfl) (fun _ _ _=>rfl) (by decide) l h.1 (fun x hx=>JU x (h.2 x hx))
theorem JV (x:aD) (h:DF 1048576 x):ir x=some (x,()):=by
 unfold ir kz
 simp only [Nc _ h,Option.bind_some]
theorem Qf (x:fC):pI x=some (x,()):=rfl
theorem Nd (x:ax) (h:zn 1048576 x):gW x=some (x,()):=by
 unfold gW nu
 simp only [Nb _ h.1,Lj _ h.2.1,JV _ h.2.2.1,Qf,O6 _ h.2.2.2,Option.bind_some]
theorem fo {n:Nat} (h:n≤1048576):n≤maxLen:=by unfold maxLen; omega
theorem ud (l:List Int) (h:l.length≤maxLen):nQ l l=some (true,()):=tw (F:=nQ) (B:=kX) (fun x y=>some (x==y,())) (fun _ _=>rfl) (fun _ _ _=>rfl) l h (fun x _=>by simp)
theorem Nf (x:Op):wj x x=some (true,()):=by
 unfold wj xJ
 simp only [beq_self_eq_true,Bool.not_true,cT]
theorem Hq (x:bK):mW x x=some (true,()):=by
 unfold mW qg
 simp only [beq_self_eq_true,Bool.not_true,cT,Nf,Option.bind_some]
theorem vp (l:List bK) (h:l.length≤maxLen):kY l l=some (true,()):=tw (F:=kY) (B:=ii) mW (fun _ _=>rfl) (fun _ _ _=>rfl) l h (fun x _=>Hq x)
theorem Hr (x:bk):mX x x=some (true,()):=by
 unfold mX qi
 simp only [beq_self_eq_true,Bool.not_true,cT]
theorem EZ (l:List bk) (h:l.length≤maxLen):mH l l=some (true,()):=tw (F:=mH) (B:=ij) mX (fun _ _=>rfl) (fun _ _ _=>rfl) l h (fun x _=>Hr x)
theorem vq (x:ai) (h:jQ 1048576 x):jB x x=some (true,()):=by
 unfold jB o5
 simp only [beq_self_eq_true,Bool.not_true,cT,ud _ (fo h.1),ud _ (fo h.2),Option.bind_some]
theorem DG (l:List ai) (h:l.length≤1048576∧ ∀ s∈l,jQ 1048576 s):la l l=some (true,()):=tw (F:=la) (B:=fU) jB (fun _ _=>rfl) (fun _ _ _=>rfl) l (fo h.1) (fun x hx=>vq x (h.2 x hx))
theorem E0 (x:aZ) (h:uc 1048576 x):kZ x x=some (true,()):=by
 unfold kZ o6
 simp only [beq_self_eq_true,Bool.not_true,cT,vq _ h.1,vp _ (fo h.2.1),vp _ (fo h.2.2),Option.bind_some]
theorem DH (l:List aZ) (h:l.length≤1048576∧ ∀ s∈l,uc 1048576 s):k9 l l=some (true,()):=tw (F:=k9) (B:=fT) kZ (fun _ _=>rfl) (fun _ _ _=>rfl) l (fo h.1) (fun x hx=>E0 x (h.2 x hx))
theorem zo (x:aD) (h:DF 1048576 x):iE x x=some (true,()):=by
 unfold iE lb
 simp only [beq_self_eq_true,Bool.not_true,cT,DG _ h,Option.bind_some]
theorem Hs (x:fC):ow x x=some (true,()):=by
 unfold ow qh
 simp only [beq_self_eq_true,Bool.not_true,cT]
theorem DI (x:ax) (h:zn 1048576 x):lc x x=some (true,()):=by
 unfold lc nV
 simp only [beq_self_eq_true,Bool.not_true,cT,DH _ h.1,ud _ (fo h.2.1),zo _ h.2.2.1,Hs,EZ _ (fo h.2.2.2),Option.bind_some]
theorem so {t:Ty} {x:t.D} {u:Ty} {y:u.D} (h:KD t x) (hs: ∀ z∈u.row y,z∈t.row x):KD u y:=fun z hz=>h z (hs z hz)
theorem O8 {c:ai} (h:KD (.st .config) c):jQ maxLen c:=
 ⟨tu (t:= .i .i64) (so (u:= .ls (.i .i64)) h fun z hz=>by rw [List.mem_singleton.1 hz]; exact List.mem_of_getElem? (i:=2) rfl),tu (t:= .i .i64) (so (u:= .ls (.i .i64)) h fun z hz=>by rw [List.mem_singleton.1 hz]; exact List.mem_of_getElem? (i:=3) rfl)⟩
theorem Rt {s:aZ} (h:KD (.st .server) s):uc maxLen s:=
 ⟨O8 (so (u:= .st .config) (y:=s.config) h fun z hz=>by
   have hz:z∈rh s.config:=hz
   unfold rh at hz
   simp only [List.mem_cons,List.not_mem_nil,or_false] at hz
   rcases hz with rfl | rfl | rfl | rfl
   ·exact List.mem_of_getElem? (i:=4) rfl
   ·exact List.mem_of_getElem? (i:=5) rfl
   ·exact List.mem_of_getElem? (i:=6) rfl
   ·exact List.mem_of_getElem? (i:=7) rfl),
  tu (t:= .st .entry) (so (u:= .ls (.st .entry)) h fun z hz=>by rw [List.mem_singleton.1 hz]; exact List.mem_of_getElem? (i:=9) rfl),
  tu (t:= .st .entry) (so (u:= .ls (.st .entry)) h fun z hz=>by rw [List.mem_singleton.1 hz]; exact List.mem_of_getElem? (i:=11) rfl)⟩
theorem Sd {c:ax} (h:KD (.st .cluster) c):zn maxLen c:=by
 have h1:KD (.ls (.st .server)) c.servers:=so (u:= .ls (.st .server)) h fun z hz=>by rw [List.mem_singleton.1 hz]; exact List.mem_of_getElem? (i:=1) rfl
 have h2:KD (.ls (.i .i64)) c.sides:=so (u:= .ls (.i .i64)) h fun z hz=>by rw [List.mem_singleton.1 hz]; exact List.mem_of_getElem? (i:=2) rfl
 have h3:KD (.ls (.st .config)) c.master.configs:=so (u:= .ls (.st .config)) h fun z hz=>by rw [List.mem_singleton.1 hz]; exact List.mem_of_getElem? (i:=3) rfl
 have h4:KD (.ls (.st .place)) c.places:=so (u:= .ls (.st .place)) h fun z hz=>by rw [List.mem_singleton.1 hz]; exact List.mem_of_getElem? (i:=9) rfl
 exact⟨⟨tu h1,fun s hs=>Rt (OK h1 hs)⟩,tu h2,⟨tu h3,fun s hs=>O8 (OK h3 hs)⟩,tu h4⟩
end Go.Proofs.YtkcgfceffffmoaaGreat.En
