/- What the laws' own helpers compute: sizes, copies, equality. -/
import Derived.Test.YtjnleglhcppgcaaGreatZB
namespace Go.Proofs.YtjnleglhcppgcaaGreat.En
open Go
def iH (M:Nat) (c:ej):Prop:=c.replicas.length<=M/\c.witnesses.length<=M
def iZ (M:Nat) (s:eo):Prop:=iH M s.config/\s.log.length<=M/\s.learned.length<=M
def wL (M:Nat) (m:ev):Prop:=m.configs.length<=M/\ ∀c∈m.configs,iH M c
def gX (M:Nat) (c:eg):Prop:=(c.servers.length<=M/\ ∀s∈c.servers,iZ M s)/\c.sides.length<=M/\wL M c.master/\c.places.length<=M
theorem M6:Dx tP (fun l=>l.length<=maxLen) (fun l=>l.length<=1048576):=IT (fun _ _=>rfl)
theorem Lu:Dx qP (fun l=>l.length<=maxLen) (fun l=>l.length<=1048576):=IT (fun _ _=>rfl)
theorem Re:Dx tQ (fun l=>l.length<=maxLen) (fun l=>l.length<=1048576):=IT (fun _ _=>rfl)
theorem Lw:Dx lx (iH maxLen) (iH 1048576):=by
 intro x left hb h0 h1;unfold lx;obtain⟨n,g1,g2,g3⟩:=M6 x.replicas left hb.1 h0 h1;simp only[g1,ae,ei];split
 ·exact⟨-1,rfl,by omega,fun h=>by omega⟩
 ·obtain⟨m,k1,k2,k3⟩:=M6 x.witnesses n hb.2 (by omega) (by omega);simp only[k1,ae];split
  ·exact⟨-1,rfl,by omega,fun h=>by omega⟩
  ·exact⟨m,rfl,by omega,fun h=>⟨g3 (by omega),k3 h⟩⟩
theorem Rf:Dx mB (iZ maxLen) (iZ 1048576):=by
 intro x left hb h0 h1;unfold mB;obtain⟨n,g1,g2,g3⟩:=Lw x.config left hb.1 h0 h1;simp only[g1,ae,ei];split
 ·exact⟨-1,rfl,by omega,fun h=>by omega⟩
 ·obtain⟨m,k1,k2,k3⟩:=Lu x.log n hb.2.1 (by omega) (by omega);simp only[k1,ae];split
  ·exact⟨-1,rfl,by omega,fun h=>by omega⟩
  ·obtain⟨q,j1,j2,j3⟩:=Lu x.learned m hb.2.2 (by omega) (by omega);simp only[j1,ae];split
   ·exact⟨-1,rfl,by omega,fun h=>by omega⟩
   ·exact⟨q,rfl,by omega,fun h=>⟨g3 (by omega),k3 (by omega),j3 h⟩⟩
theorem Pg:Dx rF (fun l=>l.length<=maxLen/\ ∀s∈l,iZ maxLen s) (fun l=>l.length<=1048576/\ ∀s∈l,iZ 1048576 s):=
 N2 (B:=oH) mB Rf (fun _ _=>rfl) (fun _ _ _=>rfl)
theorem Ph:Dx rG (fun l=>l.length<=maxLen/\ ∀s∈l,iH maxLen s) (fun l=>l.length<=1048576/\ ∀s∈l,iH 1048576 s):=
 N2 (B:=oI) lx Lw (fun _ _=>rfl) (fun _ _ _=>rfl)
theorem Lx:Dx ly (wL maxLen) (wL 1048576):=by
 intro x left hb h0 h1;unfold ly;obtain⟨n,g1,g2,g3⟩:=Ph x.configs left hb h0 h1;simp only[g1,ae,ei];split
 ·exact⟨-1,rfl,by omega,fun h=>by omega⟩
 ·exact⟨n,rfl,by omega,g3⟩
theorem Pi:Dx mt (gX maxLen) (gX 1048576):=by
 intro x left hb h0 h1;unfold mt;obtain⟨n,g1,g2,g3⟩:=Pg x.servers left hb.1 h0 h1;simp only[g1,ae,ei];split
 ·exact⟨-1,rfl,by omega,fun h=>by omega⟩
 ·obtain⟨m,k1,k2,k3⟩:=M6 x.sides n hb.2.1 (by omega) (by omega);simp only[k1,ae];split
  ·exact⟨-1,rfl,by omega,fun h=>by omega⟩
  ·obtain⟨q,j1,j2,j3⟩:=Lx x.master m hb.2.2.1 (by omega) (by omega);simp only[j1,ae];split
   ·exact⟨-1,rfl,by omega,fun h=>by omega⟩
   ·obtain⟨p,i1,i2,i3⟩:=Re x.places q hb.2.2.2 (by omega) (by omega);simp only[i1,ae];split
    ·exact⟨-1,rfl,by omega,fun h=>by omega⟩
    ·exact⟨p,rfl,by omega,fun h=>⟨g3 (by omega),k3 (by omega),j3 (by omega),i3 h⟩⟩
theorem M7 (l:List Int) (h:l.length<=1048576):tT l=some (l,()):=KW (F:=tT) (B:=wy) (fun x=>some (x,())) 0 8 (fun _=>rfl) (fun _ _ _=>rfl) (by decide) l h (fun _ _=>rfl)
theorem Ly (l:List eu) (h:l.length<=1048576):qQ l=some (l,()):=KW (F:=qQ) (B:=sW) zd ⟨0,⟨0,0,0,0,0,0⟩⟩ 56 (fun _=>rfl) (fun _ _ _=>rfl) (by decide) l h (fun _ _=>rfl)
theorem Rg (l:List eN) (h:l.length<=1048576):tU l=some (l,()):=KW (F:=tU) (B:=sX) zg ⟨0,0,0⟩ 24 (fun _=>rfl) (fun _ _ _=>rfl) (by decide) l h (fun _ _=>rfl)
theorem Lz (x:ej) (h:iH 1048576 x):pf x=some (x,()):=by unfold pf;simp only[M7 _ h.1,M7 _ h.2,ae]
theorem Ri (x:eo) (h:iZ 1048576 x):qR x=some (x,()):=by unfold qR;simp only[Lz _ h.1,Ly _ h.2.1,Ly _ h.2.2,ae]
theorem Pj (l:List eo) (h:l.length<=1048576/\ ∀s∈l,iZ 1048576 s):rH l=some (l,()):=KW (F:=rH) (B:=rt) qR ⟨false,false,0,0,⟨0,0,[],[]⟩,0,[],0,[]⟩ 152 (fun _=>rfl) (fun _ _ _=>rfl) (by decide) l h.1 (fun x hx=>Ri x (h.2 x hx))
theorem Pk (l:List ej) (h:l.length<=1048576/\ ∀s∈l,iH 1048576 s):rI l=some (l,()):=KW (F:=rI) (B:=ru) pf ⟨0,0,[],[]⟩ 64 (fun _=>rfl) (fun _ _ _=>rfl) (by decide) l h.1 (fun x hx=>Lz x (h.2 x hx))
theorem LA (x:ev) (h:wL 1048576 x):oJ x=some (x,()):=by unfold oJ;simp only[Pk _ h,ae]
theorem Tf (x:fW):zf x=some (x,()):=rfl
theorem Pm (x:eg) (h:gX 1048576 x):nM x=some (x,()):=by unfold nM;simp only[Pj _ h.1,M7 _ h.2.1,LA _ h.2.2.1,Tf,Rg _ h.2.2.2,ae]
theorem ff {n:Nat} (h:n<=1048576):n<=maxLen:=by unfold maxLen; omega
theorem yA (l:List Int) (h:l.length<=maxLen):uB l l=some (true,()):=xQ (F:=uB) (B:=wK) (fun x y=>some (x==y,())) (fun _ _=>rfl) (fun _ _ _=>rfl) l h (fun x _=>by simp)
theorem Pn (x:Op):FS x x=some (true,()):=by unfold FS;simp only[beq_self_eq_true,aY,eB]
theorem Jr (x:eu):tz x x=some (true,()):=by unfold tz;simp only[beq_self_eq_true,aY,eB,Pn,ae]
theorem Af (l:List eu) (h:l.length<=maxLen):rk l l=some (true,()):=xQ (F:=rk) (B:=tf) tz (fun _ _=>rfl) (fun _ _ _=>rfl) l h (fun x _=>Jr x)
theorem Js (x:eN):tA x x=some (true,()):=by unfold tA;simp only[beq_self_eq_true,aY,eB]
theorem Hd (l:List eN) (h:l.length<=maxLen):uC l l=some (true,()):=xQ (F:=uC) (B:=tg) tA (fun _ _=>rfl) (fun _ _ _=>rfl) l h (fun x _=>Js x)
theorem Ag (x:ej) (h:iH 1048576 x):pt x x=some (true,()):=by unfold pt;simp only[beq_self_eq_true,aY,eB,yA _ (ff h.1),yA _ (ff h.2),ae]
theorem FT (l:List ej) (h:l.length<=1048576/\ ∀s∈l,iH 1048576 s):sf l l=some (true,()):=xQ (F:=sf) (B:=rC) pt (fun _ _=>rfl) (fun _ _ _=>rfl) l (ff h.1) (fun x hx=>Ag x (h.2 x hx))
theorem He (x:eo) (h:iZ 1048576 x):rn x x=some (true,()):=by unfold rn;simp only[beq_self_eq_true,aY,eB,Ag _ h.1,Af _ (ff h.2.1),Af _ (ff h.2.2),ae]
theorem FU (l:List eo) (h:l.length<=1048576/\ ∀s∈l,iZ 1048576 s):sd l l=some (true,()):=xQ (F:=sd) (B:=rB) rn (fun _ _=>rfl) (fun _ _ _=>rfl) l (ff h.1) (fun x hx=>He x (h.2 x hx))
theorem CN (x:ev) (h:wL 1048576 x):o5 x x=some (true,()):=by unfold o5;simp only[beq_self_eq_true,aY,eB,FT _ h,ae]
theorem Jt (x:fW):wg x x=some (true,()):=by unfold wg;simp only[beq_self_eq_true,aY,eB]
theorem FV (x:eg) (h:gX 1048576 x):sg x x=some (true,()):=by unfold sg;simp only[beq_self_eq_true,aY,eB,FU _ h.1,yA _ (ff h.2.1),CN _ h.2.2.1,Jt,Hd _ (ff h.2.2.2),ae]
theorem wM {t:Ty} {x:t.D} {u:Ty} {y:u.D} (h:MB t x) (hs: ∀z∈u.row y,z∈t.row x):MB u y:=fun z hz=>h z (hs z hz)
theorem Rj {c:ej} (h:MB (.st .config) c):iH maxLen c:=
 ⟨xO (t:= .i .i64) (wM (u:= .ls (.i .i64)) h fun z hz=>by rw[az.1 hz]; exact ao (i:=2) rfl),xO (t:= .i .i64) (wM (u:= .ls (.i .i64)) h fun z hz=>by rw[az.1 hz]; exact ao (i:=3) rfl)⟩
theorem UP {s:eo} (h:MB (.st .server) s):iZ maxLen s:=
 ⟨Rj (wM (u:= .st .config) (y:=s.config) h fun z hz=>by
   have hz:z∈vF s.config:=hz;unfold vF at hz;simp only[aW,List.not_mem_nil,or_false] at hz;rcases hz with rfl|rfl|rfl|rfl
   ·exact ao (i:=4) rfl
   ·exact ao (i:=5) rfl
   ·exact ao (i:=6) rfl
   ·exact ao (i:=7) rfl),
  xO (t:= .st .entry) (wM (u:= .ls (.st .entry)) h fun z hz=>by rw[az.1 hz]; exact ao (i:=9) rfl),
  xO (t:= .st .entry) (wM (u:= .ls (.st .entry)) h fun z hz=>by rw[az.1 hz]; exact ao (i:=11) rfl)⟩
theorem VV {c:eg} (h:MB (.st .cluster) c):gX maxLen c:=by
 have h1:MB (.ls (.st .server)) c.servers:=wM (u:= .ls (.st .server)) h fun z hz=>by rw[az.1 hz]; exact ao (i:=1) rfl
 have h2:MB (.ls (.i .i64)) c.sides:=wM (u:= .ls (.i .i64)) h fun z hz=>by rw[az.1 hz]; exact ao (i:=2) rfl
 have h3:MB (.ls (.st .config)) c.master.configs:=wM (u:= .ls (.st .config)) h fun z hz=>by rw[az.1 hz]; exact ao (i:=3) rfl
 have h4:MB (.ls (.st .place)) c.places:=wM (u:= .ls (.st .place)) h fun z hz=>by rw[az.1 hz]; exact ao (i:=9) rfl
 exact⟨⟨xO h1,fun s hs=>UP (Q5 h1 hs)⟩,xO h2,⟨xO h3,fun s hs=>Rj (Q5 h3 hs)⟩,xO h4⟩
end Go.Proofs.YtjnleglhcppgcaaGreat.En
