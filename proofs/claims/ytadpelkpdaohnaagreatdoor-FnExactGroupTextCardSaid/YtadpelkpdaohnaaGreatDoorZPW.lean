/- What the laws' own helpers compute: sizes, copies, equality. -/
import Derived.Test.YtadpelkpdaohnaaGreatDoorZB
namespace Go.Proofs.YtadpelkpdaohnaaGreatDoor.En
open Go
def gE (M:Nat) (c:dM):Prop:=c.replicas.length<=M/\c.witnesses.length<=M
def mr (M:Nat) (s:eK):Prop:=gE M s.config/\s.log.length<=M/\s.learned.length<=M
def sW (M:Nat) (m:dZ):Prop:=m.configs.length<=M/\ ∀c∈m.configs,gE M c
def ol (M:Nat) (c:ek):Prop:=(c.servers.length<=M/\ ∀s∈c.servers,mr M s)/\c.sides.length<=M/\sW M c.master/\c.places.length<=M
theorem Bn:sN l6 (fun l=>l.length<=maxLen) (fun l=>l.length<=1048576):=xn (fun _ _=>rfl)
theorem zY:sN kp (fun l=>l.length<=maxLen) (fun l=>l.length<=1048576):=xn (fun _ _=>rfl)
theorem Ff:sN l7 (fun l=>l.length<=maxLen) (fun l=>l.length<=1048576):=xn (fun _ _=>rfl)
theorem zZ:sN gG (gE maxLen) (gE 1048576):=by
 intro x left hb h0 h1;unfold gG;obtain⟨n,g1,g2,g3⟩:=Bn x.replicas left hb.1 h0 h1;simp only[g1,af,dH];split
 ·exact⟨-1,rfl,by omega,fun h=>by omega⟩
 ·obtain⟨m,k1,k2,k3⟩:=Bn x.witnesses n hb.2 (by omega) (by omega);simp only[k1,af];split
  ·exact⟨-1,rfl,by omega,fun h=>by omega⟩
  ·exact⟨m,rfl,by omega,fun h=>⟨g3 (by omega),k3 h⟩⟩
theorem Fg:sN ik (mr maxLen) (mr 1048576):=by
 intro x left hb h0 h1;unfold ik;obtain⟨n,g1,g2,g3⟩:=zZ x.config left hb.1 h0 h1;simp only[g1,af,dH];split
 ·exact⟨-1,rfl,by omega,fun h=>by omega⟩
 ·obtain⟨m,k1,k2,k3⟩:=zY x.log n hb.2.1 (by omega) (by omega);simp only[k1,af];split
  ·exact⟨-1,rfl,by omega,fun h=>by omega⟩
  ·obtain⟨q,j1,j2,j3⟩:=zY x.learned m hb.2.2 (by omega) (by omega);simp only[j1,af];split
   ·exact⟨-1,rfl,by omega,fun h=>by omega⟩
   ·exact⟨q,rfl,by omega,fun h=>⟨g3 (by omega),k3 (by omega),j3 h⟩⟩
theorem Db:sN kL (fun l=>l.length<=maxLen/\ ∀s∈l,mr maxLen s) (fun l=>l.length<=1048576/\ ∀s∈l,mr 1048576 s):=
 B7 (B:=jv) ik Fg (fun _ _=>rfl) (fun _ _ _=>rfl)
theorem Dc:sN kM (fun l=>l.length<=maxLen/\ ∀s∈l,gE maxLen s) (fun l=>l.length<=1048576/\ ∀s∈l,gE 1048576 s):=
 B7 (B:=jw) gG zZ (fun _ _=>rfl) (fun _ _ _=>rfl)
theorem z0:sN gH (sW maxLen) (sW 1048576):=by
 intro x left hb h0 h1;unfold gH;obtain⟨n,g1,g2,g3⟩:=Dc x.configs left hb h0 h1;simp only[g1,af,dH];split
 ·exact⟨-1,rfl,by omega,fun h=>by omega⟩
 ·exact⟨n,rfl,by omega,g3⟩
theorem Dd:sN ic (ol maxLen) (ol 1048576):=by
 intro x left hb h0 h1;unfold ic;obtain⟨n,g1,g2,g3⟩:=Db x.servers left hb.1 h0 h1;simp only[g1,af,dH];split
 ·exact⟨-1,rfl,by omega,fun h=>by omega⟩
 ·obtain⟨m,k1,k2,k3⟩:=Bn x.sides n hb.2.1 (by omega) (by omega);simp only[k1,af];split
  ·exact⟨-1,rfl,by omega,fun h=>by omega⟩
  ·obtain⟨q,j1,j2,j3⟩:=z0 x.master m hb.2.2.1 (by omega) (by omega);simp only[j1,af];split
   ·exact⟨-1,rfl,by omega,fun h=>by omega⟩
   ·obtain⟨p,i1,i2,i3⟩:=Ff x.places q hb.2.2.2 (by omega) (by omega);simp only[i1,af];split
    ·exact⟨-1,rfl,by omega,fun h=>by omega⟩
    ·exact⟨p,rfl,by omega,fun h=>⟨g3 (by omega),k3 (by omega),j3 (by omega),i3 h⟩⟩
theorem Bo (l:List Int) (h:l.length<=1048576):l8 l=some (l,()):=zA (F:=l8) (B:=nW) (fun x=>some (x,())) 0 8 (fun _=>rfl) (fun _ _ _=>rfl) (by decide) l h (fun _ _=>rfl)
theorem z3 (l:List fG) (h:l.length<=1048576):kr l=some (l,()):=zA (F:=kr) (B:=lB) pm ⟨0,⟨0,0,0,0,0,0⟩⟩ 56 (fun _=>rfl) (fun _ _ _=>rfl) (by decide) l h (fun _ _=>rfl)
theorem Fh (l:List fR) (h:l.length<=1048576):l9 l=some (l,()):=zA (F:=l9) (B:=lC) po ⟨0,0,0⟩ 24 (fun _=>rfl) (fun _ _ _=>rfl) (by decide) l h (fun _ _=>rfl)
theorem z4 (x:dM) (h:gE 1048576 x):jG x=some (x,()):=by unfold jG;simp only[Bo _ h.1,Bo _ h.2,af]
theorem Fi (x:eK) (h:mr 1048576 x):kt x=some (x,()):=by unfold kt;simp only[z4 _ h.1,z3 _ h.2.1,z3 _ h.2.2,af]
theorem De (l:List eK) (h:l.length<=1048576/\ ∀s∈l,mr 1048576 s):kN l=some (l,()):=zA (F:=kN) (B:=kC) kt ⟨false,false,0,0,⟨0,0,[],[]⟩,0,[],0,[]⟩ 152 (fun _=>rfl) (fun _ _ _=>rfl) (by decide) l h.1 (fun x hx=>Fi x (h.2 x hx))
theorem Df (l:List dM) (h:l.length<=1048576/\ ∀s∈l,gE 1048576 s):kO l=some (l,()):=zA (F:=kO) (B:=kD) jG ⟨0,0,[],[]⟩ 64 (fun _=>rfl) (fun _ _ _=>rfl) (by decide) l h.1 (fun x hx=>z4 x (h.2 x hx))
theorem z5 (x:dZ) (h:sW 1048576 x):jx x=some (x,()):=by unfold jx;simp only[Df _ h,af]
theorem GH (x:l4):pn x=some (x,()):=rfl
theorem Dg (x:ek) (h:ol 1048576 x):i6 x=some (x,()):=by unfold i6;simp only[De _ h.1,Bo _ h.2.1,z5 _ h.2.2.1,GH,Fh _ h.2.2.2,af]
theorem gk {n:Nat} (h:n<=1048576):n<=maxLen:=by unfold maxLen; omega
theorem o1 (l:List Int) (h:l.length<=maxLen):mp l l=some (true,()):=oM (F:=mp) (B:=nZ) (fun x y=>some (x==y,())) (fun _ _=>rfl) (fun _ _ _=>rfl) l h (fun x _=>by simp)
theorem Dh (x:Op):uQ x x=some (true,()):=by unfold uQ;simp only[beq_self_eq_true,bq,en]
theorem xJ (x:fG):lP x x=some (true,()):=by unfold lP;simp only[beq_self_eq_true,bq,en,Dh,af]
theorem pT (l:List fG) (h:l.length<=maxLen):ky l l=some (true,()):=oM (F:=ky) (B:=lG) lP (fun _ _=>rfl) (fun _ _ _=>rfl) l h (fun x _=>xJ x)
theorem xK (x:fR):lQ x x=some (true,()):=by unfold lQ;simp only[beq_self_eq_true,bq,en]
theorem vN (l:List fR) (h:l.length<=maxLen):mq l l=some (true,()):=oM (F:=mq) (B:=lH) lQ (fun _ _=>rfl) (fun _ _ _=>rfl) l h (fun x _=>xK x)
theorem pU (x:dM) (h:gE 1048576 x):jK x x=some (true,()):=by unfold jK;simp only[beq_self_eq_true,bq,en,o1 _ (gk h.1),o1 _ (gk h.2),af]
theorem uR (l:List dM) (h:l.length<=1048576/\ ∀s∈l,gE 1048576 s):kX l l=some (true,()):=oM (F:=kX) (B:=kH) jK (fun _ _=>rfl) (fun _ _ _=>rfl) l (gk h.1) (fun x hx=>pU x (h.2 x hx))
theorem vO (x:eK) (h:mr 1048576 x):kz x x=some (true,()):=by unfold kz;simp only[beq_self_eq_true,bq,en,pU _ h.1,pT _ (gk h.2.1),pT _ (gk h.2.2),af]
theorem uS (l:List eK) (h:l.length<=1048576/\ ∀s∈l,mr 1048576 s):kW l l=some (true,()):=oM (F:=kW) (B:=kG) kz (fun _ _=>rfl) (fun _ _ _=>rfl) l (gk h.1) (fun x hx=>vO x (h.2 x hx))
theorem rX (x:dZ) (h:sW 1048576 x):jA x x=some (true,()):=by unfold jA;simp only[beq_self_eq_true,bq,en,uR _ h,af]
theorem xL (x:l4):nJ x x=some (true,()):=by unfold nJ;simp only[beq_self_eq_true,bq,en]
theorem uT (x:ek) (h:ol 1048576 x):kY x x=some (true,()):=by unfold kY;simp only[beq_self_eq_true,bq,en,uS _ h.1,o1 _ (gk h.2.1),rX _ h.2.2.1,xL,vN _ (gk h.2.2.2),af]
theorem n5 {t:Ty} {x:t.D} {u:Ty} {y:u.D} (h:A1 t x) (hs: ∀z∈u.row y,z∈t.row x):A1 u y:=fun z hz=>h z (hs z hz)
theorem Fj {c:dM} (h:A1 (.st .config) c):gE maxLen c:=
 ⟨oK (t:= .i .i64) (n5 (u:= .ls (.i .i64)) h fun z hz=>by rw[ax.1 hz]; exact aq (i:=2) rfl),oK (t:= .i .i64) (n5 (u:= .ls (.i .i64)) h fun z hz=>by rw[ax.1 hz]; exact aq (i:=3) rfl)⟩
theorem H2 {s:eK} (h:A1 (.st .server) s):mr maxLen s:=
 ⟨Fj (n5 (u:= .st .config) (y:=s.config) h fun z hz=>by
   have hz:z∈nr s.config:=hz;unfold nr at hz;simp only[aU,List.not_mem_nil,or_false] at hz;rcases hz with rfl|rfl|rfl|rfl
   ·exact aq (i:=4) rfl
   ·exact aq (i:=5) rfl
   ·exact aq (i:=6) rfl
   ·exact aq (i:=7) rfl),
  oK (t:= .st .entry) (n5 (u:= .ls (.st .entry)) h fun z hz=>by rw[ax.1 hz]; exact aq (i:=9) rfl),
  oK (t:= .st .entry) (n5 (u:= .ls (.st .entry)) h fun z hz=>by rw[ax.1 hz]; exact aq (i:=11) rfl)⟩
theorem I4 {c:ek} (h:A1 (.st .cluster) c):ol maxLen c:=by
 have h1:A1 (.ls (.st .server)) c.servers:=n5 (u:= .ls (.st .server)) h fun z hz=>by rw[ax.1 hz]; exact aq (i:=1) rfl
 have h2:A1 (.ls (.i .i64)) c.sides:=n5 (u:= .ls (.i .i64)) h fun z hz=>by rw[ax.1 hz]; exact aq (i:=2) rfl
 have h3:A1 (.ls (.st .config)) c.master.configs:=n5 (u:= .ls (.st .config)) h fun z hz=>by rw[ax.1 hz]; exact aq (i:=3) rfl
 have h4:A1 (.ls (.st .place)) c.places:=n5 (u:= .ls (.st .place)) h fun z hz=>by rw[ax.1 hz]; exact aq (i:=9) rfl
 exact⟨⟨oK h1,fun s hs=>H2 (E8 h1 hs)⟩,oK h2,⟨oK h3,fun s hs=>Fj (E8 h3 hs)⟩,oK h4⟩
end Go.Proofs.YtadpelkpdaohnaaGreatDoor.En
