/- What the laws' own helpers compute: sizes, copies, equality. -/
import Derived.Test.YtadpelkpdaohnaaGreatDoorZB
namespace Go.Proofs.YtadpelkpdaohnaaGreatDoor.En
open Go
def gX (M:Nat) (c:dM):Prop:=c.replicas.length<=M/\c.witnesses.length<=M
def ne (M:Nat) (s:eL):Prop:=gX M s.config/\s.log.length<=M/\s.learned.length<=M
def tY (M:Nat) (m:ec):Prop:=m.configs.length<=M/\ ∀c∈m.configs,gX M c
def o5 (M:Nat) (c:dX):Prop:=(c.servers.length<=M/\ ∀s∈c.servers,ne M s)/\c.sides.length<=M/\tY M c.master/\c.places.length<=M
theorem CI:tP mJ (fun l=>l.length<=maxLen) (fun l=>l.length<=1048576):=yI (fun _ _=>rfl)
theorem Bl:tP kT (fun l=>l.length<=maxLen) (fun l=>l.length<=1048576):=yI (fun _ _=>rfl)
theorem Gz:tP mL (fun l=>l.length<=maxLen) (fun l=>l.length<=1048576):=yI (fun _ _=>rfl)
theorem Bm:tP gZ (gX maxLen) (gX 1048576):=by
 intro x left hb h0 h1;unfold gZ;obtain⟨n,g1,g2,g3⟩:=CI x.replicas left hb.1 h0 h1;simp only[g1,af,dI];split
 ·exact⟨-1,rfl,by omega,fun h=>by omega⟩
 ·obtain⟨m,k1,k2,k3⟩:=CI x.witnesses n hb.2 (by omega) (by omega);simp only[k1,af];split
  ·exact⟨-1,rfl,by omega,fun h=>by omega⟩
  ·exact⟨m,rfl,by omega,fun h=>⟨g3 (by omega),k3 h⟩⟩
theorem GA:tP iJ (ne maxLen) (ne 1048576):=by
 intro x left hb h0 h1;unfold iJ;obtain⟨n,g1,g2,g3⟩:=Bm x.config left hb.1 h0 h1;simp only[g1,af,dI];split
 ·exact⟨-1,rfl,by omega,fun h=>by omega⟩
 ·obtain⟨m,k1,k2,k3⟩:=Bl x.log n hb.2.1 (by omega) (by omega);simp only[k1,af];split
  ·exact⟨-1,rfl,by omega,fun h=>by omega⟩
  ·obtain⟨q,j1,j2,j3⟩:=Bl x.learned m hb.2.2 (by omega) (by omega);simp only[j1,af];split
   ·exact⟨-1,rfl,by omega,fun h=>by omega⟩
   ·exact⟨q,rfl,by omega,fun h=>⟨g3 (by omega),k3 (by omega),j3 h⟩⟩
theorem EC:tP lq (fun l=>l.length<=maxLen/\ ∀s∈l,ne maxLen s) (fun l=>l.length<=1048576/\ ∀s∈l,ne 1048576 s):=
 Dp (B:=jP) iJ GA (fun _ _=>rfl) (fun _ _ _=>rfl)
theorem ED:tP lr (fun l=>l.length<=maxLen/\ ∀s∈l,gX maxLen s) (fun l=>l.length<=1048576/\ ∀s∈l,gX 1048576 s):=
 Dp (B:=jQ) gZ Bm (fun _ _=>rfl) (fun _ _ _=>rfl)
theorem Bn:tP hO (tY maxLen) (tY 1048576):=by
 intro x left hb h0 h1;unfold hO;obtain⟨n,g1,g2,g3⟩:=ED x.configs left hb h0 h1;simp only[g1,af,dI];split
 ·exact⟨-1,rfl,by omega,fun h=>by omega⟩
 ·exact⟨n,rfl,by omega,g3⟩
theorem EE:tP iB (o5 maxLen) (o5 1048576):=by
 intro x left hb h0 h1;unfold iB;obtain⟨n,g1,g2,g3⟩:=EC x.servers left hb.1 h0 h1;simp only[g1,af,dI];split
 ·exact⟨-1,rfl,by omega,fun h=>by omega⟩
 ·obtain⟨m,k1,k2,k3⟩:=CI x.sides n hb.2.1 (by omega) (by omega);simp only[k1,af];split
  ·exact⟨-1,rfl,by omega,fun h=>by omega⟩
  ·obtain⟨q,j1,j2,j3⟩:=Bn x.master m hb.2.2.1 (by omega) (by omega);simp only[j1,af];split
   ·exact⟨-1,rfl,by omega,fun h=>by omega⟩
   ·obtain⟨p,i1,i2,i3⟩:=Gz x.places q hb.2.2.2 (by omega) (by omega);simp only[i1,af];split
    ·exact⟨-1,rfl,by omega,fun h=>by omega⟩
    ·exact⟨p,rfl,by omega,fun h=>⟨g3 (by omega),k3 (by omega),j3 (by omega),i3 h⟩⟩
theorem CJ (l:List Int) (h:l.length<=1048576):mM l=some (l,()):=AO (F:=mM) (B:=oH) (fun x=>some (x,())) 0 8 (fun _=>rfl) (fun _ _ _=>rfl) (by decide) l h (fun _ _=>rfl)
theorem Bo (l:List fO) (h:l.length<=1048576):kU l=some (l,()):=AO (F:=kU) (B:=l8) p8 ⟨0,⟨0,0,0,0,0,0⟩⟩ 56 (fun _=>rfl) (fun _ _ _=>rfl) (by decide) l h (fun _ _=>rfl)
theorem GB (l:List fZ) (h:l.length<=1048576):mN l=some (l,()):=AO (F:=mN) (B:=l9) qa ⟨0,0,0⟩ 24 (fun _=>rfl) (fun _ _ _=>rfl) (by decide) l h (fun _ _=>rfl)
theorem Bp (x:dM) (h:gX 1048576 x):kb x=some (x,()):=by unfold kb;simp only[CJ _ h.1,CJ _ h.2,af]
theorem GC (x:eL) (h:ne 1048576 x):kV x=some (x,()):=by unfold kV;simp only[Bp _ h.1,Bo _ h.2.1,Bo _ h.2.2,af]
theorem EF (l:List eL) (h:l.length<=1048576/\ ∀s∈l,ne 1048576 s):lu l=some (l,()):=AO (F:=lu) (B:=ld) kV ⟨false,false,0,0,⟨0,0,[],[]⟩,0,[],0,[]⟩ 152 (fun _=>rfl) (fun _ _ _=>rfl) (by decide) l h.1 (fun x hx=>GC x (h.2 x hx))
theorem EG (l:List dM) (h:l.length<=1048576/\ ∀s∈l,gX 1048576 s):lw l=some (l,()):=AO (F:=lw) (B:=lf) kb ⟨0,0,[],[]⟩ 64 (fun _=>rfl) (fun _ _ _=>rfl) (by decide) l h.1 (fun x hx=>Bp x (h.2 x hx))
theorem Bq (x:ec) (h:tY 1048576 x):jR x=some (x,()):=by unfold jR;simp only[EG _ h,af]
theorem H5 (x:mF):p9 x=some (x,()):=rfl
theorem EH (x:dX) (h:o5 1048576 x):jl x=some (x,()):=by unfold jl;simp only[EF _ h.1,CJ _ h.2.1,Bq _ h.2.2.1,H5,GB _ h.2.2.2,af]
theorem gx {n:Nat} (h:n<=1048576):n<=maxLen:=by unfold maxLen; omega
theorem pJ (l:List Int) (h:l.length<=maxLen):na l l=some (true,()):=pv (F:=na) (B:=oK) (fun x y=>some (x==y,())) (fun _ _=>rfl) (fun _ _ _=>rfl) l h (fun x _=>by simp)
theorem EI (x:Op):vP x x=some (true,()):=by unfold vP;simp only[beq_self_eq_true,bq,eu]
theorem yZ (x:fO):mr x x=some (true,()):=by unfold mr;simp only[beq_self_eq_true,bq,eu,EI,af]
theorem qD (l:List fO) (h:l.length<=maxLen):kY l l=some (true,()):=pv (F:=kY) (B:=me) mr (fun _ _=>rfl) (fun _ _ _=>rfl) l h (fun x _=>yZ x)
theorem za (x:fZ):mt x x=some (true,()):=by unfold mt;simp only[beq_self_eq_true,bq,eu]
theorem wW (l:List fZ) (h:l.length<=maxLen):nc l l=some (true,()):=pv (F:=nc) (B:=mf) mt (fun _ _=>rfl) (fun _ _ _=>rfl) l h (fun x _=>za x)
theorem qE (x:dM) (h:gX 1048576 x):ki x x=some (true,()):=by unfold ki;simp only[beq_self_eq_true,bq,eu,pJ _ (gx h.1),pJ _ (gx h.2),af]
theorem vQ (l:List dM) (h:l.length<=1048576/\ ∀s∈l,gX 1048576 s):lH l l=some (true,()):=pv (F:=lH) (B:=lj) ki (fun _ _=>rfl) (fun _ _ _=>rfl) l (gx h.1) (fun x hx=>qE x (h.2 x hx))
theorem wX (x:eL) (h:ne 1048576 x):kZ x x=some (true,()):=by unfold kZ;simp only[beq_self_eq_true,bq,eu,qE _ h.1,qD _ (gx h.2.1),qD _ (gx h.2.2),af]
theorem vR (l:List eL) (h:l.length<=1048576/\ ∀s∈l,ne 1048576 s):lG l l=some (true,()):=pv (F:=lG) (B:=li) kZ (fun _ _=>rfl) (fun _ _ _=>rfl) l (gx h.1) (fun x hx=>wX x (h.2 x hx))
theorem s6 (x:ec) (h:tY 1048576 x):jX x x=some (true,()):=by unfold jX;simp only[beq_self_eq_true,bq,eu,vQ _ h,af]
theorem zb (x:mF):ow x x=some (true,()):=by unfold ow;simp only[beq_self_eq_true,bq,eu]
theorem vS (x:dX) (h:o5 1048576 x):lI x x=some (true,()):=by unfold lI;simp only[beq_self_eq_true,bq,eu,vR _ h.1,pJ _ (gx h.2.1),s6 _ h.2.2.1,zb,wW _ (gx h.2.2.2),af]
theorem oM {t:Ty} {x:t.D} {u:Ty} {y:u.D} (h:Ck t x) (hs: ∀z∈u.row y,z∈t.row x):Ck u y:=fun z hz=>h z (hs z hz)
theorem GD {c:dM} (h:Ck (.st .config) c):gX maxLen c:=
 ⟨pu (t:= .i .i64) (oM (u:= .ls (.i .i64)) h fun z hz=>by rw[ay.1 hz]; exact aq (i:=2) rfl),pu (t:= .i .i64) (oM (u:= .ls (.i .i64)) h fun z hz=>by rw[ay.1 hz]; exact aq (i:=3) rfl)⟩
theorem Jy {s:eL} (h:Ck (.st .server) s):ne maxLen s:=
 ⟨GD (oM (u:= .st .config) (y:=s.config) h fun z hz=>by
   have hz:z∈n5 s.config:=hz;unfold n5 at hz;simp only[aR,List.not_mem_nil,or_false] at hz;rcases hz with rfl|rfl|rfl|rfl
   ·exact aq (i:=4) rfl
   ·exact aq (i:=5) rfl
   ·exact aq (i:=6) rfl
   ·exact aq (i:=7) rfl),
  pu (t:= .st .entry) (oM (u:= .ls (.st .entry)) h fun z hz=>by rw[ay.1 hz]; exact aq (i:=9) rfl),
  pu (t:= .st .entry) (oM (u:= .ls (.st .entry)) h fun z hz=>by rw[ay.1 hz]; exact aq (i:=11) rfl)⟩
theorem Ks {c:dX} (h:Ck (.st .cluster) c):o5 maxLen c:=by
 have h1:Ck (.ls (.st .server)) c.servers:=oM (u:= .ls (.st .server)) h fun z hz=>by rw[ay.1 hz]; exact aq (i:=1) rfl
 have h2:Ck (.ls (.i .i64)) c.sides:=oM (u:= .ls (.i .i64)) h fun z hz=>by rw[ay.1 hz]; exact aq (i:=2) rfl
 have h3:Ck (.ls (.st .config)) c.master.configs:=oM (u:= .ls (.st .config)) h fun z hz=>by rw[ay.1 hz]; exact aq (i:=3) rfl
 have h4:Ck (.ls (.st .place)) c.places:=oM (u:= .ls (.st .place)) h fun z hz=>by rw[ay.1 hz]; exact aq (i:=9) rfl
 exact⟨⟨pu h1,fun s hs=>Jy (Gr h1 hs)⟩,pu h2,⟨pu h3,fun s hs=>GD (Gr h3 hs)⟩,pu h4⟩
end Go.Proofs.YtadpelkpdaohnaaGreatDoor.En
