/- What the laws' own helpers compute: sizes, copies, equality. -/
import Derived.Test.YtjnleglhcppgcaaGreatZB
namespace Go.Proofs.YtjnleglhcppgcaaGreat.En
open Go
def gK (M:Nat) (c:dW):Prop:=c.replicas.length<=M/\c.witnesses.length<=M
def gW (M:Nat) (s:dX):Prop:=gK M s.config/\s.log.length<=M/\s.learned.length<=M
def uF (M:Nat) (m:dY):Prop:=m.configs.length<=M/\ ∀c∈m.configs,gK M c
def iq (M:Nat) (c:dT):Prop:=(c.servers.length<=M/\ ∀s∈c.servers,gW M s)/\c.sides.length<=M/\uF M c.master/\c.places.length<=M
theorem KU:BG rF (fun l=>l.length<=maxLen) (fun l=>l.length<=1048576):=GO (fun _ _=>rfl)
theorem Jq:BG pG (fun l=>l.length<=maxLen) (fun l=>l.length<=1048576):=GO (fun _ _=>rfl)
theorem OH:BG rG (fun l=>l.length<=maxLen) (fun l=>l.length<=1048576):=GO (fun _ _=>rfl)
theorem Jr:BG ki (gK maxLen) (gK 1048576):=by
 intro x left hb h0 h1;unfold ki;obtain⟨n,g1,g2,g3⟩:=KU x.replicas left hb.1 h0 h1;simp only[g1,ae,dV];split
 ·exact⟨-1,rfl,by omega,fun h=>by omega⟩
 ·obtain⟨m,k1,k2,k3⟩:=KU x.witnesses n hb.2 (by omega) (by omega);simp only[k1,ae];split
  ·exact⟨-1,rfl,by omega,fun h=>by omega⟩
  ·exact⟨m,rfl,by omega,fun h=>⟨g3 (by omega),k3 h⟩⟩
theorem OI:BG lB (gW maxLen) (gW 1048576):=by
 intro x left hb h0 h1;unfold lB;obtain⟨n,g1,g2,g3⟩:=Jr x.config left hb.1 h0 h1;simp only[g1,ae,dV];split
 ·exact⟨-1,rfl,by omega,fun h=>by omega⟩
 ·obtain⟨m,k1,k2,k3⟩:=Jq x.log n hb.2.1 (by omega) (by omega);simp only[k1,ae];split
  ·exact⟨-1,rfl,by omega,fun h=>by omega⟩
  ·obtain⟨q,j1,j2,j3⟩:=Jq x.learned m hb.2.2 (by omega) (by omega);simp only[j1,ae];split
   ·exact⟨-1,rfl,by omega,fun h=>by omega⟩
   ·exact⟨q,rfl,by omega,fun h=>⟨g3 (by omega),k3 (by omega),j3 h⟩⟩
theorem MO:BG qk (fun l=>l.length<=maxLen/\ ∀s∈l,gW maxLen s) (fun l=>l.length<=1048576/\ ∀s∈l,gW 1048576 s):=
 LM (B:=nC) lB OI (fun _ _=>rfl) (fun _ _ _=>rfl)
theorem MP:BG qm (fun l=>l.length<=maxLen/\ ∀s∈l,gK maxLen s) (fun l=>l.length<=1048576/\ ∀s∈l,gK 1048576 s):=
 LM (B:=nD) ki Jr (fun _ _=>rfl) (fun _ _ _=>rfl)
theorem Js:BG kj (uF maxLen) (uF 1048576):=by
 intro x left hb h0 h1;unfold kj;obtain⟨n,g1,g2,g3⟩:=MP x.configs left hb h0 h1;simp only[g1,ae,dV];split
 ·exact⟨-1,rfl,by omega,fun h=>by omega⟩
 ·exact⟨n,rfl,by omega,g3⟩
theorem MQ:BG lr (iq maxLen) (iq 1048576):=by
 intro x left hb h0 h1;unfold lr;obtain⟨n,g1,g2,g3⟩:=MO x.servers left hb.1 h0 h1;simp only[g1,ae,dV];split
 ·exact⟨-1,rfl,by omega,fun h=>by omega⟩
 ·obtain⟨m,k1,k2,k3⟩:=KU x.sides n hb.2.1 (by omega) (by omega);simp only[k1,ae];split
  ·exact⟨-1,rfl,by omega,fun h=>by omega⟩
  ·obtain⟨q,j1,j2,j3⟩:=Js x.master m hb.2.2.1 (by omega) (by omega);simp only[j1,ae];split
   ·exact⟨-1,rfl,by omega,fun h=>by omega⟩
   ·obtain⟨p,i1,i2,i3⟩:=OH x.places q hb.2.2.2 (by omega) (by omega);simp only[i1,ae];split
    ·exact⟨-1,rfl,by omega,fun h=>by omega⟩
    ·exact⟨p,rfl,by omega,fun h=>⟨g3 (by omega),k3 (by omega),j3 (by omega),i3 h⟩⟩
theorem KV (l:List Int) (h:l.length<=1048576):rH l=some (l,()):=IV (F:=rH) (B:=ux) (fun x=>some (x,())) 0 8 (fun _=>rfl) (fun _ _ _=>rfl) (by decide) l h (fun _ _=>rfl)
theorem Jt (l:List ea) (h:l.length<=1048576):pH l=some (l,()):=IV (F:=pH) (B:=qY) wR ⟨0,⟨0,0,0,0,0,0⟩⟩ 56 (fun _=>rfl) (fun _ _ _=>rfl) (by decide) l h (fun _ _=>rfl)
theorem OJ (l:List ew) (h:l.length<=1048576):rI l=some (l,()):=IV (F:=rI) (B:=qZ) wU ⟨0,0,0⟩ 24 (fun _=>rfl) (fun _ _ _=>rfl) (by decide) l h (fun _ _=>rfl)
theorem Ju (x:dW) (h:gK 1048576 x):od x=some (x,()):=by unfold od;simp only[KV _ h.1,KV _ h.2,ae]
theorem OK (x:dX) (h:gW 1048576 x):pI x=some (x,()):=by unfold pI;simp only[Ju _ h.1,Jt _ h.2.1,Jt _ h.2.2,ae]
theorem MR (l:List dX) (h:l.length<=1048576/\ ∀s∈l,gW 1048576 s):qn l=some (l,()):=IV (F:=qn) (B:=p6) pI ⟨false,false,0,0,⟨0,0,[],[]⟩,0,[],0,[]⟩ 152 (fun _=>rfl) (fun _ _ _=>rfl) (by decide) l h.1 (fun x hx=>OK x (h.2 x hx))
theorem MS (l:List dW) (h:l.length<=1048576/\ ∀s∈l,gK 1048576 s):qo l=some (l,()):=IV (F:=qo) (B:=p7) od ⟨0,0,[],[]⟩ 64 (fun _=>rfl) (fun _ _ _=>rfl) (by decide) l h.1 (fun x hx=>Ju x (h.2 x hx))
theorem Jv (x:dY) (h:uF 1048576 x):nE x=some (x,()):=by unfold nE;simp only[MS _ h,ae]
theorem Ql (x:fE):wT x=some (x,()):=rfl
theorem AR (x:dT) (h:iq 1048576 x):j8 x=some (x,()):=by unfold j8;simp only[MR _ h.1,KV _ h.2.1,Jv _ h.2.2.1,Ql,OJ _ h.2.2.2,ae]
theorem eR {n:Nat} (h:n<=1048576):n<=maxLen:=by unfold maxLen; omega
theorem wk (l:List Int) (h:l.length<=maxLen):sq l l=some (true,()):=vE (F:=sq) (B:=uE) (fun x y=>some (x==y,())) (fun _ _=>rfl) (fun _ _ _=>rfl) l h (fun x _=>by simp)
theorem MT (x:Op):D3 x x=some (true,()):=by unfold D3;simp only[beq_self_eq_true,bg,ek]
theorem Hn (x:ea):rr x x=some (true,()):=by unfold rr;simp only[beq_self_eq_true,bg,ek,MT,ae]
theorem xP (l:List ea) (h:l.length<=maxLen):pV l l=some (true,()):=vE (F:=pV) (B:=rd) rr (fun _ _=>rfl) (fun _ _ _=>rfl) l h (fun x _=>Hn x)
theorem Ho (x:ew):rt x x=some (true,()):=by unfold rt;simp only[beq_self_eq_true,bg,ek]
theorem Fr (l:List ew) (h:l.length<=maxLen):sr l l=some (true,()):=vE (F:=sr) (B:=rf) rt (fun _ _=>rfl) (fun _ _ _=>rfl) l h (fun x _=>Ho x)
theorem xQ (x:dW) (h:gK 1048576 x):om x x=some (true,()):=by unfold om;simp only[beq_self_eq_true,bg,ek,wk _ (eR h.1),wk _ (eR h.2),ae]
theorem D8 (l:List dW) (h:l.length<=1048576/\ ∀s∈l,gK 1048576 s):qD l l=some (true,()):=vE (F:=qD) (B:=qf) om (fun _ _=>rfl) (fun _ _ _=>rfl) l (eR h.1) (fun x hx=>xQ x (h.2 x hx))
theorem Fs (x:dX) (h:gW 1048576 x):pW x x=some (true,()):=by unfold pW;simp only[beq_self_eq_true,bg,ek,xQ _ h.1,xP _ (eR h.2.1),xP _ (eR h.2.2),ae]
theorem D9 (l:List dX) (h:l.length<=1048576/\ ∀s∈l,gW 1048576 s):qC l l=some (true,()):=vE (F:=qC) (B:=qe) pW (fun _ _=>rfl) (fun _ _ _=>rfl) l (eR h.1) (fun x hx=>Fs x (h.2 x hx))
theorem AU (x:dY) (h:uF 1048576 x):nU x x=some (true,()):=by unfold nU;simp only[beq_self_eq_true,bg,ek,D8 _ h,ae]
theorem Hp (x:fE):ud x x=some (true,()):=by unfold ud;simp only[beq_self_eq_true,bg,ek]
theorem wl (x:dT) (h:iq 1048576 x):ig x x=some (true,()):=by unfold ig;simp only[beq_self_eq_true,bg,ek,D9 _ h.1,wk _ (eR h.2.1),AU _ h.2.2.1,Hp,Fr _ (eR h.2.2.2),ae]
theorem uG {t:Ty} {x:t.D} {u:Ty} {y:u.D} (h:Ks t x) (hs: ∀z∈u.row y,z∈t.row x):Ks u y:=fun z hz=>h z (hs z hz)
theorem OL {c:dW} (h:Ks (.st .config) c):gK maxLen c:=
 ⟨vD (t:= .i .i64) (uG (u:= .ls (.i .i64)) h fun z hz=>by rw[ax.1 hz]; exact aq (i:=2) rfl),vD (t:= .i .i64) (uG (u:= .ls (.i .i64)) h fun z hz=>by rw[ax.1 hz]; exact aq (i:=3) rfl)⟩
theorem RL {s:dX} (h:Ks (.st .server) s):gW maxLen s:=
 ⟨OL (uG (u:= .st .config) (y:=s.config) h fun z hz=>by
   have hz:z∈tG s.config:=hz;unfold tG at hz;simp only[aR,List.not_mem_nil,or_false] at hz;rcases hz with rfl|rfl|rfl|rfl
   ·exact aq (i:=4) rfl
   ·exact aq (i:=5) rfl
   ·exact aq (i:=6) rfl
   ·exact aq (i:=7) rfl),
  vD (t:= .st .entry) (uG (u:= .ls (.st .entry)) h fun z hz=>by rw[ax.1 hz]; exact aq (i:=9) rfl),
  vD (t:= .st .entry) (uG (u:= .ls (.st .entry)) h fun z hz=>by rw[ax.1 hz]; exact aq (i:=11) rfl)⟩
theorem S5 {c:dT} (h:Ks (.st .cluster) c):iq maxLen c:=by
 have h1:Ks (.ls (.st .server)) c.servers:=uG (u:= .ls (.st .server)) h fun z hz=>by rw[ax.1 hz]; exact aq (i:=1) rfl
 have h2:Ks (.ls (.i .i64)) c.sides:=uG (u:= .ls (.i .i64)) h fun z hz=>by rw[ax.1 hz]; exact aq (i:=2) rfl
 have h3:Ks (.ls (.st .config)) c.master.configs:=uG (u:= .ls (.st .config)) h fun z hz=>by rw[ax.1 hz]; exact aq (i:=3) rfl
 have h4:Ks (.ls (.st .place)) c.places:=uG (u:= .ls (.st .place)) h fun z hz=>by rw[ax.1 hz]; exact aq (i:=9) rfl
 exact⟨⟨vD h1,fun s hs=>RL (OC h1 hs)⟩,vD h2,⟨vD h3,fun s hs=>OL (OC h3 hs)⟩,vD h4⟩
end Go.Proofs.YtjnleglhcppgcaaGreat.En
