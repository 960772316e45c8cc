/- What the laws' own helpers compute: sizes, copies, equality. -/
import Derived.Test.YtkcgfceffffmoaaGreatZB
namespace Go.Proofs.YtkcgfceffffmoaaGreat.En
open Go
def iA (M:Nat) (c:ai):Prop:=c.replicas.length≤M∧c.witnesses.length≤M
def kS (M:Nat) (s:am):Prop:=iA M s.config∧s.log.length≤M∧s.learned.length≤M
def AE (M:Nat) (m:ak):Prop:=m.configs.length≤M∧ ∀ c∈m.configs,iA M c
def rl (M:Nat) (c:aj):Prop:=(c.servers.length≤M∧ ∀ s∈c.servers,kS M s)∧c.sides.length≤M∧AE M c.master∧c.places.length≤M
theorem Wq:JH sw (fun l=>l.length≤maxLen) (fun l=>l.length≤1048576):=Q7 (fun _ _=>rfl)
theorem UG:JH oX (fun l=>l.length≤maxLen) (fun l=>l.length≤1048576):=Q7 (fun _ _=>rfl)
theorem Z6:JH rz (fun l=>l.length≤maxLen) (fun l=>l.length≤1048576):=Q7 (fun _ _=>rfl)
theorem UH:JH jc (iA maxLen) (iA 1048576):=by
 intro x left hb h0 h1
 unfold jc rU
 obtain⟨n,g1,g2,g3⟩:=Wq x.replicas left hb.1 h0 h1
 simp only [g1,Option.bind_some,aw]
 split
 ·exact⟨-1,rfl,by omega,fun h=>by omega⟩
 ·obtain⟨m,k1,k2,k3⟩:=Wq x.witnesses n hb.2 (by omega) (by omega)
  simp only [k1,Option.bind_some]
  split
  ·exact⟨-1,rfl,by omega,fun h=>by omega⟩
  ·exact⟨m,rfl,by omega,fun h=>⟨g3 (by omega),k3 h⟩⟩
theorem Z7:JH kp (kS maxLen) (kS 1048576):=by
 intro x left hb h0 h1
 unfold kp rV
 obtain⟨n,g1,g2,g3⟩:=UH x.config left hb.1 h0 h1
 simp only [g1,Option.bind_some,aw]
 split
 ·exact⟨-1,rfl,by omega,fun h=>by omega⟩
 ·obtain⟨m,k1,k2,k3⟩:=UG x.log n hb.2.1 (by omega) (by omega)
  simp only [k1,Option.bind_some]
  split
  ·exact⟨-1,rfl,by omega,fun h=>by omega⟩
  ·obtain⟨q,j1,j2,j3⟩:=UG x.learned m hb.2.2 (by omega) (by omega)
   simp only [j1,Option.bind_some]
   split
   ·exact⟨-1,rfl,by omega,fun h=>by omega⟩
   ·exact⟨q,rfl,by omega,fun h=>⟨g3 (by omega),k3 (by omega),j3 h⟩⟩
theorem Yf:JH oY (fun l=>l.length≤maxLen∧ ∀ s∈l,kS maxLen s) (fun l=>l.length≤1048576∧ ∀ s∈l,kS 1048576 s):=
 W6 (B:=iC) kp Z7 (fun _ _=>rfl) (fun _ _ _=>rfl)
theorem Yg:JH oZ (fun l=>l.length≤maxLen∧ ∀ s∈l,iA maxLen s) (fun l=>l.length≤1048576∧ ∀ s∈l,iA 1048576 s):=
 W6 (B:=iE) jc UH (fun _ _=>rfl) (fun _ _ _=>rfl)
theorem UI:JH iG (AE maxLen) (AE 1048576):=by
 intro x left hb h0 h1
 unfold iG mq
 obtain⟨n,g1,g2,g3⟩:=Yg x.configs left hb h0 h1
 simp only [g1,Option.bind_some,aw]
 split
 ·exact⟨-1,rfl,by omega,fun h=>by omega⟩
 ·exact⟨n,rfl,by omega,g3⟩
theorem Yh:JH jM (rl maxLen) (rl 1048576):=by
 intro x left hb h0 h1
 unfold jM pX
 obtain⟨n,g1,g2,g3⟩:=Yf x.servers left hb.1 h0 h1
 simp only [g1,Option.bind_some,aw]
 split
 ·exact⟨-1,rfl,by omega,fun h=>by omega⟩
 ·obtain⟨m,k1,k2,k3⟩:=Wq x.sides n hb.2.1 (by omega) (by omega)
  simp only [k1,Option.bind_some]
  split
  ·exact⟨-1,rfl,by omega,fun h=>by omega⟩
  ·obtain⟨q,j1,j2,j3⟩:=UI x.master m hb.2.2.1 (by omega) (by omega)
   simp only [j1,Option.bind_some]
   split
   ·exact⟨-1,rfl,by omega,fun h=>by omega⟩
   ·obtain⟨p,i1,i2,i3⟩:=Z6 x.places q hb.2.2.2 (by omega) (by omega)
    simp only [i1,Option.bind_some]
    split
    ·exact⟨-1,rfl,by omega,fun h=>by omega⟩
    ·exact⟨p,rfl,by omega,fun h=>⟨g3 (by omega),k3 (by omega),j3 (by omega),i3 h⟩⟩
theorem Wr (l:List Int) (h:l.length≤1048576):sA l=some (l,()):=TE (F:=sA) (B:=o0) (fun x=>some (x,())) 0 8 (fun _=>rfl) (fun _ _ _=>rfl) (by decide) l h (fun _ _=>rfl)
theorem UJ (l:List ar) (h:l.length≤1048576):o3 l=some (l,()):=TE (F:=o3) (B:=lj) vh ⟨0,⟨0,0,0,0,0,0⟩⟩ 56 (fun _=>rfl) (fun _ _ _=>rfl) (by decide) l h (fun _ _=>rfl)
theorem Z8 (l:List aU) (h:l.length≤1048576):rB l=some (l,()):=TE (F:=rB) (B:=ll) vj ⟨0,0,0⟩ 24 (fun _=>rfl) (fun _ _ _=>rfl) (by decide) l h (fun _ _=>rfl)
theorem UK (x:ai) (h:iA 1048576 x):nv x=some (x,()):=by
 unfold nv t9
 simp only [Wr _ h.1,Wr _ h.2,Option.bind_some]
theorem Z9 (x:am) (h:kS 1048576 x):o4 x=some (x,()):=by
 unfold o4 ua
 simp only [UK _ h.1,UJ _ h.2.1,UJ _ h.2.2,Option.bind_some]
theorem Yi (l:List am) (h:l.length≤1048576∧ ∀ s∈l,kS 1048576 s):o5 l=some (l,()):=TE (F:=o5) (B:=jN) o4 ⟨false,false,0,0,⟨0,0,[],[]⟩,0,[],0,[]⟩ 152 (fun _=>rfl) (fun _ _ _=>rfl) (by decide) l h.1 (fun x hx=>Z9 x (h.2 x hx))
theorem Yj (l:List ai) (h:l.length≤1048576∧ ∀ s∈l,iA 1048576 s):o6 l=some (l,()):=TE (F:=o6) (B:=jO) nv ⟨0,0,[],[]⟩ 64 (fun _=>rfl) (fun _ _ _=>rfl) (by decide) l h.1 (fun x hx=>UK x (h.2 x hx))
theorem UL (x:ak) (h:AE 1048576 x):lO x=some (x,()):=by
 unfold lO o7
 simp only [Yj _ h,Option.bind_some]
theorem abv (x:eg):vi x=some (x,()):=rfl
theorem IB (x:aj) (h:rl 1048576 x):iJ x=some (x,()):=by
 unfold iJ sF
 simp only [Yi _ h.1,Wr _ h.2.1,UL _ h.2.2.1,abv,Z8 _ h.2.2.2,Option.bind_some]
theorem dH {n:Nat} (h:n≤1048576):n≤maxLen:=by unfold maxLen; omega
theorem BS (l:List Int) (h:l.length≤maxLen):s4 l l=some (true,()):=AZ (F:=s4) (B:=pM) (fun x y=>some (x==y,())) (fun _ _=>rfl) (fun _ _ _=>rfl) l h (fun x _=>by simp)
theorem Yk (x:Op):EG x x=some (true,()):=by
 unfold EG GB
 simp only [beq_self_eq_true,Bool.not_true,bJ]
theorem R7 (x:ar):se x x=some (true,()):=by
 unfold se vT
 simp only [beq_self_eq_true,Bool.not_true,bJ,Yk,Option.bind_some]
theorem DA (l:List ar) (h:l.length≤maxLen):pN l l=some (true,()):=AZ (F:=pN) (B:=lE) se (fun _ _=>rfl) (fun _ _ _=>rfl) l h (fun x _=>R7 x)
theorem R8 (x:aU):sf x x=some (true,()):=by
 unfold sf vV
 simp only [beq_self_eq_true,Bool.not_true,bJ]
theorem Px (l:List aU) (h:l.length≤maxLen):rN l l=some (true,()):=AZ (F:=rN) (B:=lF) sf (fun _ _=>rfl) (fun _ _ _=>rfl) l h (fun x _=>R8 x)
theorem DB (x:ai) (h:iA 1048576 x):nE x x=some (true,()):=by
 unfold nE ut
 simp only [beq_self_eq_true,Bool.not_true,bJ,BS _ (dH h.1),BS _ (dH h.2),Option.bind_some]
theorem NK (l:List ai) (h:l.length≤1048576∧ ∀ s∈l,iA 1048576 s):pQ l l=some (true,()):=AZ (F:=pQ) (B:=j4) nE (fun _ _=>rfl) (fun _ _ _=>rfl) l (dH h.1) (fun x hx=>DB x (h.2 x hx))
theorem Py (x:am) (h:kS 1048576 x):pO x x=some (true,()):=by
 unfold pO uu
 simp only [beq_self_eq_true,Bool.not_true,bJ,DB _ h.1,DA _ (dH h.2.1),DA _ (dH h.2.2),Option.bind_some]
theorem NL (l:List am) (h:l.length≤1048576∧ ∀ s∈l,kS 1048576 s):pP l l=some (true,()):=AZ (F:=pP) (B:=jZ) pO (fun _ _=>rfl) (fun _ _ _=>rfl) l (dH h.1) (fun x hx=>Py x (h.2 x hx))
theorem IC (x:ak) (h:AE 1048576 x):l7 x x=some (true,()):=by
 unfold l7 pR
 simp only [beq_self_eq_true,Bool.not_true,bJ,NK _ h,Option.bind_some]
theorem R9 (x:eg):tQ x x=some (true,()):=by
 unfold tQ vU
 simp only [beq_self_eq_true,Bool.not_true,bJ]
theorem BT (x:aj) (h:rl 1048576 x):fi x x=some (true,()):=by
 unfold fi s9
 simp only [beq_self_eq_true,Bool.not_true,bJ,NL _ h.1,BS _ (dH h.2.1),IC _ h.2.2.1,R9,Px _ (dH h.2.2.2),Option.bind_some]
theorem zm {t:Ty} {x:t.D} {u:Ty} {y:u.D} (h:VI t x) (hs: ∀ z∈u.row y,z∈t.row x):VI u y:=fun z hz=>h z (hs z hz)
theorem aaa {c:ai} (h:VI (.st .config) c):iA maxLen c:=
 ⟨AY (t:= .i .i64) (zm (u:= .ls (.i .i64)) h fun z hz=>by rw [List.mem_singleton.1 hz]; exact List.mem_of_getElem? (i:=2) rfl),AY (t:= .i .i64) (zm (u:= .ls (.i .i64)) h fun z hz=>by rw [List.mem_singleton.1 hz]; exact List.mem_of_getElem? (i:=3) rfl)⟩
theorem acT {s:am} (h:VI (.st .server) s):kS maxLen s:=
 ⟨aaa (zm (u:= .st .config) (y:=s.config) h fun z hz=>by
   have hz:z∈xC s.config:=hz
   unfold xC at hz
   simp only [List.mem_cons,List.not_mem_nil,or_false] at hz
   rcases hz with rfl | rfl | rfl | rfl
   ·exact List.mem_of_getElem? (i:=4) rfl
   ·exact List.mem_of_getElem? (i:=5) rfl
   ·exact List.mem_of_getElem? (i:=6) rfl
   ·exact List.mem_of_getElem? (i:=7) rfl),
  AY (t:= .st .entry) (zm (u:= .ls (.st .entry)) h fun z hz=>by rw [List.mem_singleton.1 hz]; exact List.mem_of_getElem? (i:=9) rfl),
  AY (t:= .st .entry) (zm (u:= .ls (.st .entry)) h fun z hz=>by rw [List.mem_singleton.1 hz]; exact List.mem_of_getElem? (i:=11) rfl)⟩
theorem adI {c:aj} (h:VI (.st .cluster) c):rl maxLen c:=by
 have h1:VI (.ls (.st .server)) c.servers:=zm (u:= .ls (.st .server)) h fun z hz=>by rw [List.mem_singleton.1 hz]; exact List.mem_of_getElem? (i:=1) rfl
 have h2:VI (.ls (.i .i64)) c.sides:=zm (u:= .ls (.i .i64)) h fun z hz=>by rw [List.mem_singleton.1 hz]; exact List.mem_of_getElem? (i:=2) rfl
 have h3:VI (.ls (.st .config)) c.master.configs:=zm (u:= .ls (.st .config)) h fun z hz=>by rw [List.mem_singleton.1 hz]; exact List.mem_of_getElem? (i:=3) rfl
 have h4:VI (.ls (.st .place)) c.places:=zm (u:= .ls (.st .place)) h fun z hz=>by rw [List.mem_singleton.1 hz]; exact List.mem_of_getElem? (i:=9) rfl
 exact⟨⟨AY h1,fun s hs=>acT (ZQ h1 hs)⟩,AY h2,⟨AY h3,fun s hs=>aaa (ZQ h3 hs)⟩,AY h4⟩
end Go.Proofs.YtkcgfceffffmoaaGreat.En
