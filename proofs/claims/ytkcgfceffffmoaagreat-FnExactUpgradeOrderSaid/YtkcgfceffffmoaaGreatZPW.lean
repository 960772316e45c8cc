/- What the laws' own helpers compute: sizes, copies, equality. -/
import Derived.Test.YtkcgfceffffmoaaGreatZB
namespace Go.Proofs.YtkcgfceffffmoaaGreat.En
open Go
def jG (M:Nat) (c:ai):Prop:=c.replicas.length≤M∧c.witnesses.length≤M
def rU (M:Nat) (s:aB):Prop:=jG M s.config∧s.log.length≤M∧s.learned.length≤M
def Ee (M:Nat) (m:ay):Prop:=m.configs.length≤M∧ ∀ c∈m.configs,jG M c
def A4 (M:Nat) (c:aG):Prop:=(c.servers.length≤M∧ ∀ s∈c.servers,rU M s)∧c.sides.length≤M∧Ee M c.master∧c.places.length≤M
theorem NQ:Dm o0 (fun l=>l.length≤maxLen) (fun l=>l.length≤1048576):=Jk (fun _ _=>rfl)
theorem Mm:Dm l6 (fun l=>l.length≤maxLen) (fun l=>l.length≤1048576):=Jk (fun _ _=>rfl)
theorem Rv:Dm oh (fun l=>l.length≤maxLen) (fun l=>l.length≤1048576):=Jk (fun _ _=>rfl)
theorem Mn:Dm gJ (jG maxLen) (jG 1048576):=by
 intro x left hb h0 h1
 unfold gJ oH
 obtain⟨n,g1,g2,g3⟩:=NQ x.replicas left hb.1 h0 h1
 simp only [g1,Option.bind_some,aA]
 split
 ·exact⟨-1,rfl,by omega,fun h=>by omega⟩
 ·obtain⟨m,k1,k2,k3⟩:=NQ x.witnesses n hb.2 (by omega) (by omega)
  simp only [k1,Option.bind_some]
  split
  ·exact⟨-1,rfl,by omega,fun h=>by omega⟩
  ·exact⟨m,rfl,by omega,fun h=>⟨g3 (by omega),k3 h⟩⟩
theorem Rx:Dm iL (rU maxLen) (rU 1048576):=by
 intro x left hb h0 h1
 unfold iL oI
 obtain⟨n,g1,g2,g3⟩:=Mn x.config left hb.1 h0 h1
 simp only [g1,Option.bind_some,aA]
 split
 ·exact⟨-1,rfl,by omega,fun h=>by omega⟩
 ·obtain⟨m,k1,k2,k3⟩:=Mm x.log n hb.2.1 (by omega) (by omega)
  simp only [k1,Option.bind_some]
  split
  ·exact⟨-1,rfl,by omega,fun h=>by omega⟩
  ·obtain⟨q,j1,j2,j3⟩:=Mm x.learned m hb.2.2 (by omega) (by omega)
   simp only [j1,Option.bind_some]
   split
   ·exact⟨-1,rfl,by omega,fun h=>by omega⟩
   ·exact⟨q,rfl,by omega,fun h=>⟨g3 (by omega),k3 (by omega),j3 h⟩⟩
theorem PH:Dm l7 (fun l=>l.length≤maxLen∧ ∀ s∈l,rU maxLen s) (fun l=>l.length≤1048576∧ ∀ s∈l,rU 1048576 s):=
 Ow (B:=gf) iL Rx (fun _ _=>rfl) (fun _ _ _=>rfl)
theorem PI:Dm l8 (fun l=>l.length≤maxLen∧ ∀ s∈l,jG maxLen s) (fun l=>l.length≤1048576∧ ∀ s∈l,jG 1048576 s):=
 Ow (B:=gg) gJ Mn (fun _ _=>rfl) (fun _ _ _=>rfl)
theorem Mo:Dm gi (Ee maxLen) (Ee 1048576):=by
 intro x left hb h0 h1
 unfold gi j8
 obtain⟨n,g1,g2,g3⟩:=PI x.configs left hb h0 h1
 simp only [g1,Option.bind_some,aA]
 split
 ·exact⟨-1,rfl,by omega,fun h=>by omega⟩
 ·exact⟨n,rfl,by omega,g3⟩
theorem PJ:Dm ic (A4 maxLen) (A4 1048576):=by
 intro x left hb h0 h1
 unfold ic mY
 obtain⟨n,g1,g2,g3⟩:=PH x.servers left hb.1 h0 h1
 simp only [g1,Option.bind_some,aA]
 split
 ·exact⟨-1,rfl,by omega,fun h=>by omega⟩
 ·obtain⟨m,k1,k2,k3⟩:=NQ x.sides n hb.2.1 (by omega) (by omega)
  simp only [k1,Option.bind_some]
  split
  ·exact⟨-1,rfl,by omega,fun h=>by omega⟩
  ·obtain⟨q,j1,j2,j3⟩:=Mo x.master m hb.2.2.1 (by omega) (by omega)
   simp only [j1,Option.bind_some]
   split
   ·exact⟨-1,rfl,by omega,fun h=>by omega⟩
   ·obtain⟨p,i1,i2,i3⟩:=Rv x.places q hb.2.2.2 (by omega) (by omega)
    simp only [i1,Option.bind_some]
    split
    ·exact⟨-1,rfl,by omega,fun h=>by omega⟩
    ·exact⟨p,rfl,by omega,fun h=>⟨g3 (by omega),k3 (by omega),j3 (by omega),i3 h⟩⟩
theorem NR (l:List Int) (h:l.length≤1048576):o3 l=some (l,()):=Lp (F:=o3) (B:=l9) (fun x=>some (x,())) 0 8 (fun _=>rfl) (fun _ _ _=>rfl) (by decide) l h (fun _ _=>rfl)
theorem Mp (l:List bh) (h:l.length≤1048576):ma l=some (l,()):=Lp (F:=ma) (B:=jn) q9 ⟨0,⟨0,0,0,0,0,0⟩⟩ 56 (fun _=>rfl) (fun _ _ _=>rfl) (by decide) l h (fun _ _=>rfl)
theorem Ry (l:List bz) (h:l.length≤1048576):om l=some (l,()):=Lp (F:=om) (B:=jo) rd ⟨0,0,0⟩ 24 (fun _=>rfl) (fun _ _ _=>rfl) (by decide) l h (fun _ _=>rfl)
theorem Mq (x:ai) (h:jG 1048576 x):kI x=some (x,()):=by
 unfold kI qh
 simp only [NR _ h.1,NR _ h.2,Option.bind_some]
theorem Rz (x:aB) (h:rU 1048576 x):mb x=some (x,()):=by
 unfold mb qi
 simp only [Mq _ h.1,Mp _ h.2.1,Mp _ h.2.2,Option.bind_some]
theorem PK (l:List aB) (h:l.length≤1048576∧ ∀ s∈l,rU 1048576 s):mc l=some (l,()):=Lp (F:=mc) (B:=ig) mb ⟨false,false,0,0,⟨0,0,[],[]⟩,0,[],0,[]⟩ 152 (fun _=>rfl) (fun _ _ _=>rfl) (by decide) l h.1 (fun x hx=>Rz x (h.2 x hx))
theorem PL (l:List ai) (h:l.length≤1048576∧ ∀ s∈l,jG 1048576 s):md l=some (l,()):=Lp (F:=md) (B:=ii) kI ⟨0,0,[],[]⟩ 64 (fun _=>rfl) (fun _ _ _=>rfl) (by decide) l h.1 (fun x hx=>Mq x (h.2 x hx))
theorem Mr (x:ay) (h:Ee 1048576 x):jL x=some (x,()):=by
 unfold jL me
 simp only [PL _ h,Option.bind_some]
theorem S5 (x:kV):rc x=some (x,()):=rfl
theorem PM (x:aG) (h:A4 1048576 x):ij x=some (x,()):=by
 unfold ij o8
 simp only [PK _ h.1,NR _ h.2.1,Mr _ h.2.2.1,S5,Ry _ h.2.2.2,Option.bind_some]
theorem hZ {n:Nat} (h:n≤1048576):n≤maxLen:=by unfold maxLen; omega
theorem sK (l:List Int) (h:l.length≤maxLen):ln l l=some (true,()):=vM (F:=ln) (B:=mJ) (fun x y=>some (x==y,())) (fun _ _=>rfl) (fun _ _ _=>rfl) l h (fun x _=>by simp)
theorem PN (x:Op):zk x x=some (true,()):=by
 unfold zk AX
 simp only [beq_self_eq_true,Bool.not_true,dz]
theorem J7 (x:bh):oP x x=some (true,()):=by
 unfold oP rM
 simp only [beq_self_eq_true,Bool.not_true,dz,PN,Option.bind_some]
theorem yh (l:List bh) (h:l.length≤maxLen):mL l l=some (true,()):=vM (F:=mL) (B:=jB) oP (fun _ _=>rfl) (fun _ _ _=>rfl) l h (fun x _=>J7 x)
theorem J8 (x:bz):oQ x x=some (true,()):=by
 unfold oQ rO
 simp only [beq_self_eq_true,Bool.not_true,dz]
theorem HK (l:List bz) (h:l.length≤maxLen):oz l l=some (true,()):=vM (F:=oz) (B:=jC) oQ (fun _ _=>rfl) (fun _ _ _=>rfl) l h (fun x _=>J8 x)
theorem yi (x:ai) (h:jG 1048576 x):kQ x x=some (true,()):=by
 unfold kQ qq
 simp only [beq_self_eq_true,Bool.not_true,dz,sK _ (hZ h.1),sK _ (hZ h.2),Option.bind_some]
theorem Gy (l:List ai) (h:l.length≤1048576∧ ∀ s∈l,jG 1048576 s):mO l l=some (true,()):=vM (F:=mO) (B:=iv) kQ (fun _ _=>rfl) (fun _ _ _=>rfl) l (hZ h.1) (fun x hx=>yi x (h.2 x hx))
theorem HL (x:aB) (h:rU 1048576 x):mM x x=some (true,()):=by
 unfold mM qs
 simp only [beq_self_eq_true,Bool.not_true,dz,yi _ h.1,yh _ (hZ h.2.1),yh _ (hZ h.2.2),Option.bind_some]
theorem Gz (l:List aB) (h:l.length≤1048576∧ ∀ s∈l,rU 1048576 s):mN l l=some (true,()):=vM (F:=mN) (B:=iu) mM (fun _ _=>rfl) (fun _ _ _=>rfl) l (hZ h.1) (fun x hx=>HL x (h.2 x hx))
theorem Co (x:ay) (h:Ee 1048576 x):jU x x=some (true,()):=by
 unfold jU mQ
 simp only [beq_self_eq_true,Bool.not_true,dz,Gy _ h,Option.bind_some]
theorem J9 (x:kV):pX x x=some (true,()):=by
 unfold pX rN
 simp only [beq_self_eq_true,Bool.not_true,dz]
theorem GA (x:aG) (h:A4 1048576 x):mR x x=some (true,()):=by
 unfold mR pz
 simp only [beq_self_eq_true,Bool.not_true,dz,Gz _ h.1,sK _ (hZ h.2.1),Co _ h.2.2.1,J9,HK _ (hZ h.2.2.2),Option.bind_some]
theorem uE {t:Ty} {x:t.D} {u:Ty} {y:u.D} (h:Nf t x) (hs: ∀ z∈u.row y,z∈t.row x):Nf u y:=fun z hz=>h z (hs z hz)
theorem RA {c:ai} (h:Nf (.st .config) c):jG maxLen c:=
 ⟨vL (t:= .i .i64) (uE (u:= .ls (.i .i64)) h fun z hz=>by rw [List.mem_singleton.1 hz]; exact List.mem_of_getElem? (i:=2) rfl),vL (t:= .i .i64) (uE (u:= .ls (.i .i64)) h fun z hz=>by rw [List.mem_singleton.1 hz]; exact List.mem_of_getElem? (i:=3) rfl)⟩
theorem Up {s:aB} (h:Nf (.st .server) s):rU maxLen s:=
 ⟨RA (uE (u:= .st .config) (y:=s.config) h fun z hz=>by
   have hz:z∈tg s.config:=hz
   unfold tg at hz
   simp only [List.mem_cons,List.not_mem_nil,or_false] at hz
   rcases hz with rfl | rfl | rfl | rfl
   ·exact List.mem_of_getElem? (i:=4) rfl
   ·exact List.mem_of_getElem? (i:=5) rfl
   ·exact List.mem_of_getElem? (i:=6) rfl
   ·exact List.mem_of_getElem? (i:=7) rfl),
  vL (t:= .st .entry) (uE (u:= .ls (.st .entry)) h fun z hz=>by rw [List.mem_singleton.1 hz]; exact List.mem_of_getElem? (i:=9) rfl),
  vL (t:= .st .entry) (uE (u:= .ls (.st .entry)) h fun z hz=>by rw [List.mem_singleton.1 hz]; exact List.mem_of_getElem? (i:=11) rfl)⟩
theorem Vg {c:aG} (h:Nf (.st .cluster) c):A4 maxLen c:=by
 have h1:Nf (.ls (.st .server)) c.servers:=uE (u:= .ls (.st .server)) h fun z hz=>by rw [List.mem_singleton.1 hz]; exact List.mem_of_getElem? (i:=1) rfl
 have h2:Nf (.ls (.i .i64)) c.sides:=uE (u:= .ls (.i .i64)) h fun z hz=>by rw [List.mem_singleton.1 hz]; exact List.mem_of_getElem? (i:=2) rfl
 have h3:Nf (.ls (.st .config)) c.master.configs:=uE (u:= .ls (.st .config)) h fun z hz=>by rw [List.mem_singleton.1 hz]; exact List.mem_of_getElem? (i:=3) rfl
 have h4:Nf (.ls (.st .place)) c.places:=uE (u:= .ls (.st .place)) h fun z hz=>by rw [List.mem_singleton.1 hz]; exact List.mem_of_getElem? (i:=9) rfl
 exact⟨⟨vL h1,fun s hs=>Up (Rc h1 hs)⟩,vL h2,⟨vL h3,fun s hs=>RA (Rc h3 hs)⟩,vL h4⟩
end Go.Proofs.YtkcgfceffffmoaaGreat.En
