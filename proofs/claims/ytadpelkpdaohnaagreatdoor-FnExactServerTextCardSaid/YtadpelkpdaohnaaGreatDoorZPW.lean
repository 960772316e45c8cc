/- What the laws' own helpers compute: sizes, copies, equality. -/
import Derived.Test.YtadpelkpdaohnaaGreatDoorZB
namespace Go.Proofs.YtadpelkpdaohnaaGreatDoor.En
open Go
def iK (M:Nat) (c:dA):Prop:=c.replicas.length<=M/\c.witnesses.length<=M
def lP (M:Nat) (s:ek):Prop:=iK M s.config/\s.log.length<=M/\s.learned.length<=M
def uS (M:Nat) (m:dT):Prop:=m.configs.length<=M/\ ∀c∈m.configs,iK M c
def qV (M:Nat) (c:ev):Prop:=(c.servers.length<=M/\ ∀s∈c.servers,lP M s)/\c.sides.length<=M/\uS M c.master/\c.places.length<=M
theorem AI:rF lA (fun l=>l.length<=maxLen) (fun l=>l.length<=1048576):=wB (fun _ _=>rfl)
theorem zb:rF jM (fun l=>l.length<=maxLen) (fun l=>l.length<=1048576):=wB (fun _ _=>rfl)
theorem EB:rF lB (fun l=>l.length<=maxLen) (fun l=>l.length<=1048576):=wB (fun _ _=>rfl)
theorem zd:rF ga (iK maxLen) (iK 1048576):=by
 intro x left hb h0 h1;unfold ga;obtain⟨n,g1,g2,g3⟩:=AI x.replicas left hb.1 h0 h1;simp only[g1,af,dx];split
 ·exact⟨-1,rfl,by omega,fun h=>by omega⟩
 ·obtain⟨m,k1,k2,k3⟩:=AI x.witnesses n hb.2 (by omega) (by omega);simp only[k1,af];split
  ·exact⟨-1,rfl,by omega,fun h=>by omega⟩
  ·exact⟨m,rfl,by omega,fun h=>⟨g3 (by omega),k3 h⟩⟩
theorem EC:rF gM (lP maxLen) (lP 1048576):=by
 intro x left hb h0 h1;unfold gM;obtain⟨n,g1,g2,g3⟩:=zd x.config left hb.1 h0 h1;simp only[g1,af,dx];split
 ·exact⟨-1,rfl,by omega,fun h=>by omega⟩
 ·obtain⟨m,k1,k2,k3⟩:=zb x.log n hb.2.1 (by omega) (by omega);simp only[k1,af];split
  ·exact⟨-1,rfl,by omega,fun h=>by omega⟩
  ·obtain⟨q,j1,j2,j3⟩:=zb x.learned m hb.2.2 (by omega) (by omega);simp only[j1,af];split
   ·exact⟨-1,rfl,by omega,fun h=>by omega⟩
   ·exact⟨q,rfl,by omega,fun h=>⟨g3 (by omega),k3 (by omega),j3 h⟩⟩
theorem CG:rF ke (fun l=>l.length<=maxLen/\ ∀s∈l,lP maxLen s) (fun l=>l.length<=1048576/\ ∀s∈l,lP 1048576 s):=
 Bs (B:=iV) gM EC (fun _ _=>rfl) (fun _ _ _=>rfl)
theorem CH:rF kf (fun l=>l.length<=maxLen/\ ∀s∈l,iK maxLen s) (fun l=>l.length<=1048576/\ ∀s∈l,iK 1048576 s):=
 Bs (B:=iW) ga zd (fun _ _=>rfl) (fun _ _ _=>rfl)
theorem zf:rF gb (uS maxLen) (uS 1048576):=by
 intro x left hb h0 h1;unfold gb;obtain⟨n,g1,g2,g3⟩:=CH x.configs left hb h0 h1;simp only[g1,af,dx];split
 ·exact⟨-1,rfl,by omega,fun h=>by omega⟩
 ·exact⟨n,rfl,by omega,g3⟩
theorem CI:rF gF (qV maxLen) (qV 1048576):=by
 intro x left hb h0 h1;unfold gF;obtain⟨n,g1,g2,g3⟩:=CG x.servers left hb.1 h0 h1;simp only[g1,af,dx];split
 ·exact⟨-1,rfl,by omega,fun h=>by omega⟩
 ·obtain⟨m,k1,k2,k3⟩:=AI x.sides n hb.2.1 (by omega) (by omega);simp only[k1,af];split
  ·exact⟨-1,rfl,by omega,fun h=>by omega⟩
  ·obtain⟨q,j1,j2,j3⟩:=zf x.master m hb.2.2.1 (by omega) (by omega);simp only[j1,af];split
   ·exact⟨-1,rfl,by omega,fun h=>by omega⟩
   ·obtain⟨p,i1,i2,i3⟩:=EB x.places q hb.2.2.2 (by omega) (by omega);simp only[i1,af];split
    ·exact⟨-1,rfl,by omega,fun h=>by omega⟩
    ·exact⟨p,rfl,by omega,fun h=>⟨g3 (by omega),k3 (by omega),j3 (by omega),i3 h⟩⟩
theorem AJ (l:List Int) (h:l.length<=1048576):lC l=some (l,()):=yC (F:=lC) (B:=mY) (fun x=>some (x,())) 0 8 (fun _=>rfl) (fun _ _ _=>rfl) (by decide) l h (fun _ _=>rfl)
theorem zg (l:List ff) (h:l.length<=1048576):jN l=some (l,()):=yC (F:=jN) (B:=kQ) oy ⟨0,⟨0,0,0,0,0,0⟩⟩ 56 (fun _=>rfl) (fun _ _ _=>rfl) (by decide) l h (fun _ _=>rfl)
theorem ED (l:List fA) (h:l.length<=1048576):lD l=some (l,()):=yC (F:=lD) (B:=kR) oA ⟨0,0,0⟩ 24 (fun _=>rfl) (fun _ _ _=>rfl) (by decide) l h (fun _ _=>rfl)
theorem zh (x:dA) (h:iK 1048576 x):jb x=some (x,()):=by unfold jb;simp only[AJ _ h.1,AJ _ h.2,af]
theorem EE (x:ek) (h:lP 1048576 x):jO x=some (x,()):=by unfold jO;simp only[zh _ h.1,zg _ h.2.1,zg _ h.2.2,af]
theorem CJ (l:List ek) (h:l.length<=1048576/\ ∀s∈l,lP 1048576 s):kg l=some (l,()):=yC (F:=kg) (B:=jY) jO ⟨false,false,0,0,⟨0,0,[],[]⟩,0,[],0,[]⟩ 152 (fun _=>rfl) (fun _ _ _=>rfl) (by decide) l h.1 (fun x hx=>EE x (h.2 x hx))
theorem CK (l:List dA) (h:l.length<=1048576/\ ∀s∈l,iK 1048576 s):kh l=some (l,()):=yC (F:=kh) (B:=jZ) jb ⟨0,0,[],[]⟩ 64 (fun _=>rfl) (fun _ _ _=>rfl) (by decide) l h.1 (fun x hx=>zh x (h.2 x hx))
theorem zi (x:dT) (h:uS 1048576 x):iX x=some (x,()):=by unfold iX;simp only[CK _ h,af]
theorem F8 (x:mu):oz x=some (x,()):=rfl
theorem CL (x:ev) (h:qV 1048576 x):iw x=some (x,()):=by unfold iw;simp only[CJ _ h.1,AJ _ h.2.1,zi _ h.2.2.1,F8,ED _ h.2.2.2,af]
theorem fo {n:Nat} (h:n<=1048576):n<=maxLen:=by unfold maxLen; omega
theorem n7 (l:List Int) (h:l.length<=maxLen):lN l l=some (true,()):=nQ (F:=lN) (B:=m9) (fun x y=>some (x==y,())) (fun _ _=>rfl) (fun _ _ _=>rfl) l h (fun x _=>by simp)
theorem CM (x:Op):tR x x=some (true,()):=by unfold tR;simp only[beq_self_eq_true,bu,dV]
theorem wW (x:ff):lj x x=some (true,()):=by unfold lj;simp only[beq_self_eq_true,bu,dV,CM,af]
theorem o5 (l:List ff) (h:l.length<=maxLen):jT l l=some (true,()):=nQ (F:=jT) (B:=kX) lj (fun _ _=>rfl) (fun _ _ _=>rfl) l h (fun x _=>wW x)
theorem wX (x:fA):ll x x=some (true,()):=by unfold ll;simp only[beq_self_eq_true,bu,dV]
theorem uT (l:List fA) (h:l.length<=maxLen):lO l l=some (true,()):=nQ (F:=lO) (B:=kY) ll (fun _ _=>rfl) (fun _ _ _=>rfl) l h (fun x _=>wX x)
theorem o6 (x:dA) (h:iK 1048576 x):je x x=some (true,()):=by unfold je;simp only[beq_self_eq_true,bu,dV,n7 _ (fo h.1),n7 _ (fo h.2),af]
theorem tS (l:List dA) (h:l.length<=1048576/\ ∀s∈l,iK 1048576 s):kr l l=some (true,()):=nQ (F:=kr) (B:=j8) je (fun _ _=>rfl) (fun _ _ _=>rfl) l (fo h.1) (fun x hx=>o6 x (h.2 x hx))
theorem uU (x:ek) (h:lP 1048576 x):jU x x=some (true,()):=by unfold jU;simp only[beq_self_eq_true,bu,dV,o6 _ h.1,o5 _ (fo h.2.1),o5 _ (fo h.2.2),af]
theorem tT (l:List ek) (h:l.length<=1048576/\ ∀s∈l,lP 1048576 s):kp l l=some (true,()):=nQ (F:=kp) (B:=j6) jU (fun _ _=>rfl) (fun _ _ _=>rfl) l (fo h.1) (fun x hx=>uU x (h.2 x hx))
theorem qW (x:dT) (h:uS 1048576 x):i5 x x=some (true,()):=by unfold i5;simp only[beq_self_eq_true,bu,dV,tS _ h,af]
theorem wY (x:mu):mL x x=some (true,()):=by unfold mL;simp only[beq_self_eq_true,bu,dV]
theorem tU (x:ev) (h:qV 1048576 x):kt x x=some (true,()):=by unfold kt;simp only[beq_self_eq_true,bu,dV,tT _ h.1,n7 _ (fo h.2.1),qW _ h.2.2.1,wY,uT _ (fo h.2.2.2),af]
theorem na {t:Ty} {x:t.D} {u:Ty} {y:u.D} (h:Ag t x) (hs: ∀z∈u.row y,z∈t.row x):Ag u y:=fun z hz=>h z (hs z hz)
theorem EF {c:dA} (h:Ag (.st .config) c):iK maxLen c:=
 ⟨nN (t:= .i .i64) (na (u:= .ls (.i .i64)) h fun z hz=>by rw[ay.1 hz]; exact ap (i:=2) rfl),nN (t:= .i .i64) (na (u:= .ls (.i .i64)) h fun z hz=>by rw[ay.1 hz]; exact ap (i:=3) rfl)⟩
theorem Hs {s:ek} (h:Ag (.st .server) s):lP maxLen s:=
 ⟨EF (na (u:= .st .config) (y:=s.config) h fun z hz=>by
   have hz:z∈mw s.config:=hz;unfold mw at hz;simp only[aX,List.not_mem_nil,or_false] at hz;rcases hz with rfl|rfl|rfl|rfl
   ·exact ap (i:=4) rfl
   ·exact ap (i:=5) rfl
   ·exact ap (i:=6) rfl
   ·exact ap (i:=7) rfl),
  nN (t:= .st .entry) (na (u:= .ls (.st .entry)) h fun z hz=>by rw[ay.1 hz]; exact ap (i:=9) rfl),
  nN (t:= .st .entry) (na (u:= .ls (.st .entry)) h fun z hz=>by rw[ay.1 hz]; exact ap (i:=11) rfl)⟩
theorem Io {c:ev} (h:Ag (.st .cluster) c):qV maxLen c:=by
 have h1:Ag (.ls (.st .server)) c.servers:=na (u:= .ls (.st .server)) h fun z hz=>by rw[ay.1 hz]; exact ap (i:=1) rfl
 have h2:Ag (.ls (.i .i64)) c.sides:=na (u:= .ls (.i .i64)) h fun z hz=>by rw[ay.1 hz]; exact ap (i:=2) rfl
 have h3:Ag (.ls (.st .config)) c.master.configs:=na (u:= .ls (.st .config)) h fun z hz=>by rw[ay.1 hz]; exact ap (i:=3) rfl
 have h4:Ag (.ls (.st .place)) c.places:=na (u:= .ls (.st .place)) h fun z hz=>by rw[ay.1 hz]; exact ap (i:=9) rfl
 exact⟨⟨nN h1,fun s hs=>Hs (Er h1 hs)⟩,nN h2,⟨nN h3,fun s hs=>EF (Er h3 hs)⟩,nN h4⟩
end Go.Proofs.YtadpelkpdaohnaaGreatDoor.En
