/- What the laws' own helpers compute: sizes, copies, equality. -/
import Derived.Test.YtkcgfceffffmoaaGreatZB
namespace Go.Proofs.YtkcgfceffffmoaaGreat.En
open Go
def nm (M:Nat) (c:dW):Prop:=c.replicas.length<=M/\c.witnesses.length<=M
def nX (M:Nat) (s:eb):Prop:=nm M s.config/\s.log.length<=M/\s.learned.length<=M
def JQ (M:Nat) (m:ei):Prop:=m.configs.length<=M/\ ∀ c∈m.configs,nm M c
def pg (M:Nat) (c:dV):Prop:=(c.servers.length<=M/\ ∀ s∈c.servers,nX M s)/\c.sides.length<=M/\JQ M c.master/\c.places.length<=M
theorem akC:Wo BH (fun l=>l.length<=maxLen) (fun l=>l.length<=1048576):=aeL (fun _ _=>rfl)
theorem aiR:Wo wM (fun l=>l.length<=maxLen) (fun l=>l.length<=1048576):=aeL (fun _ _=>rfl)
theorem aoO:Wo AL (fun l=>l.length<=maxLen) (fun l=>l.length<=1048576):=aeL (fun _ _=>rfl)
theorem aiS:Wo oV (nm maxLen) (nm 1048576):=by
 intro x left hb h0 h1;unfold oV D6;obtain⟨n,g1,g2,g3⟩:=akC x.replicas left hb.1 h0 h1;simp only [g1,ae,ec];split
 ·exact⟨-1,rfl,by omega,fun h=>by omega⟩
 ·obtain⟨m,k1,k2,k3⟩:=akC x.witnesses n hb.2 (by omega) (by omega);simp only [k1,ae];split
  ·exact⟨-1,rfl,by omega,fun h=>by omega⟩
  ·exact⟨m,rfl,by omega,fun h=>⟨g3 (by omega),k3 h⟩⟩
theorem aoP:Wo qa (nX maxLen) (nX 1048576):=by
 intro x left hb h0 h1;unfold qa D7;obtain⟨n,g1,g2,g3⟩:=aiS x.config left hb.1 h0 h1;simp only [g1,ae,ec];split
 ·exact⟨-1,rfl,by omega,fun h=>by omega⟩
 ·obtain⟨m,k1,k2,k3⟩:=aiR x.log n hb.2.1 (by omega) (by omega);simp only [k1,ae];split
  ·exact⟨-1,rfl,by omega,fun h=>by omega⟩
  ·obtain⟨q,j1,j2,j3⟩:=aiR x.learned m hb.2.2 (by omega) (by omega);simp only [j1,ae];split
   ·exact⟨-1,rfl,by omega,fun h=>by omega⟩
   ·exact⟨q,rfl,by omega,fun h=>⟨g3 (by omega),k3 (by omega),j3 h⟩⟩
theorem amO:Wo wN (fun l=>l.length<=maxLen/\ ∀ s∈l,nX maxLen s) (fun l=>l.length<=1048576/\ ∀ s∈l,nX 1048576 s):=
 alv (B:=n0) qa aoP (fun _ _=>rfl) (fun _ _ _=>rfl)
theorem amP:Wo wO (fun l=>l.length<=maxLen/\ ∀ s∈l,nm maxLen s) (fun l=>l.length<=1048576/\ ∀ s∈l,nm 1048576 s):=
 alv (B:=n6) oV aiS (fun _ _=>rfl) (fun _ _ _=>rfl)
theorem aiT:Wo n7 (JQ maxLen) (JQ 1048576):=by
 intro x left hb h0 h1;unfold n7 wP;obtain⟨n,g1,g2,g3⟩:=amP x.configs left hb h0 h1;simp only [g1,ae,ec];split
 ·exact⟨-1,rfl,by omega,fun h=>by omega⟩
 ·exact⟨n,rfl,by omega,g3⟩
theorem amQ:Wo pn (pg maxLen) (pg 1048576):=by
 intro x left hb h0 h1;unfold pn BI;obtain⟨n,g1,g2,g3⟩:=amO x.servers left hb.1 h0 h1;simp only [g1,ae,ec];split
 ·exact⟨-1,rfl,by omega,fun h=>by omega⟩
 ·obtain⟨m,k1,k2,k3⟩:=akC x.sides n hb.2.1 (by omega) (by omega);simp only [k1,ae];split
  ·exact⟨-1,rfl,by omega,fun h=>by omega⟩
  ·obtain⟨q,j1,j2,j3⟩:=aiT x.master m hb.2.2.1 (by omega) (by omega);simp only [j1,ae];split
   ·exact⟨-1,rfl,by omega,fun h=>by omega⟩
   ·obtain⟨p,i1,i2,i3⟩:=aoO x.places q hb.2.2.2 (by omega) (by omega);simp only [i1,ae];split
    ·exact⟨-1,rfl,by omega,fun h=>by omega⟩
    ·exact⟨p,rfl,by omega,fun h=>⟨g3 (by omega),k3 (by omega),j3 (by omega),i3 h⟩⟩
theorem akD (l:List Int) (h:l.length<=1048576):BJ l=some (l,()):=ahF (F:=BJ) (B:=wQ) (fun x=>some (x,())) 0 8 (fun _=>rfl) (fun _ _ _=>rfl) (by decide) l h (fun _ _=>rfl)
theorem aiU (l:List ed) (h:l.length<=1048576):wR l=some (l,()):=ahF (F:=wR) (B:=rf) FF ⟨0,⟨0,0,0,0,0,0⟩⟩ 56 (fun _=>rfl) (fun _ _ _=>rfl) (by decide) l h (fun _ _=>rfl)
theorem aoQ (l:List ey) (h:l.length<=1048576):AM l=some (l,()):=ahF (F:=AM) (B:=rg) FH ⟨0,0,0⟩ 24 (fun _=>rfl) (fun _ _ _=>rfl) (by decide) l h (fun _ _=>rfl)
theorem aiV (x:dW) (h:nm 1048576 x):uh x=some (x,()):=by
 unfold uh GJ;simp only [akD _ h.1,akD _ h.2,ae]
theorem aoR (x:eb) (h:nX 1048576 x):wS x=some (x,()):=by
 unfold wS GK;simp only [aiV _ h.1,aiU _ h.2.1,aiU _ h.2.2,ae]
theorem amR (l:List eb) (h:l.length<=1048576/\ ∀ s∈l,nX 1048576 s):wT l=some (l,()):=ahF (F:=wT) (B:=po) wS ⟨false,false,0,0,⟨0,0,[],[]⟩,0,[],0,[]⟩ 152 (fun _=>rfl) (fun _ _ _=>rfl) (by decide) l h.1 (fun x hx=>aoR x (h.2 x hx))
theorem amS (l:List dW) (h:l.length<=1048576/\ ∀ s∈l,nm 1048576 s):wU l=some (l,()):=ahF (F:=wU) (B:=pp) uh ⟨0,0,[],[]⟩ 64 (fun _=>rfl) (fun _ _ _=>rfl) (by decide) l h.1 (fun x hx=>aiV x (h.2 x hx))
theorem aiW (x:ei) (h:JQ 1048576 x):rV x=some (x,()):=by
 unfold rV BL;simp only [amS _ h,ae]
theorem aqk (x:ir):FG x=some (x,()):=rfl
theorem amT (x:dV) (h:pg 1048576 x):rh x=some (x,()):=by
 unfold rh E5;simp only [amR _ h.1,akD _ h.2.1,aiW _ h.2.2.1,aqk,aoQ _ h.2.2.2,ae]
theorem gJ {n:Nat} (h:n<=1048576):n<=maxLen:=by unfold maxLen; omega
theorem MG (l:List Int) (h:l.length<=maxLen):CT l l=some (true,()):=Le (F:=CT) (B:=xR) (fun x y=>some (x==y,())) (fun _ _=>rfl) (fun _ _ _=>rfl) l h (fun x _=>by simp)
theorem amU (x:Op):Ql x x=some (true,()):=by
 unfold Ql X7;simp only [beq_self_eq_true,bw,fA]
theorem agf (x:ed):Bq x x=some (true,()):=by
 unfold Bq JJ;simp only [beq_self_eq_true,bw,fA,amU,ae]
theorem OQ (l:List ed) (h:l.length<=maxLen):xS l l=some (true,()):=Le (F:=xS) (B:=rR) Bq (fun _ _=>rfl) (fun _ _ _=>rfl) l h (fun x _=>agf x)
theorem agh (x:ey):Br x x=some (true,()):=by
 unfold Br JO;simp only [beq_self_eq_true,bw,fA]
theorem ac8 (l:List ey) (h:l.length<=maxLen):Bd l l=some (true,()):=Le (F:=Bd) (B:=rS) Br (fun _ _=>rfl) (fun _ _ _=>rfl) l h (fun x _=>agh x)
theorem OS (x:dW) (h:nm 1048576 x):uJ x x=some (true,()):=by
 unfold uJ Hi;simp only [beq_self_eq_true,bw,fA,MG _ (gJ h.1),MG _ (gJ h.2),ae]
theorem aaZ (l:List dW) (h:l.length<=1048576/\ ∀ s∈l,nm 1048576 s):xV l l=some (true,()):=Le (F:=xV) (B:=pN) uJ (fun _ _=>rfl) (fun _ _ _=>rfl) l (gJ h.1) (fun x hx=>OS x (h.2 x hx))
theorem ac9 (x:eb) (h:nX 1048576 x):xT x x=some (true,()):=by
 unfold xT Hj;simp only [beq_self_eq_true,bw,fA,OS _ h.1,OQ _ (gJ h.2.1),OQ _ (gJ h.2.2),ae]
theorem aa0 (l:List eb) (h:l.length<=1048576/\ ∀ s∈l,nX 1048576 s):xU l l=some (true,()):=Le (F:=xU) (B:=pM) xT (fun _ _=>rfl) (fun _ _ _=>rfl) l (gJ h.1) (fun x hx=>ac9 x (h.2 x hx))
theorem Vc (x:ei) (h:JQ 1048576 x):sr x x=some (true,()):=by
 unfold sr CV;simp only [beq_self_eq_true,bw,fA,aaZ _ h,ae]
theorem agi (x:ir):Dq x x=some (true,()):=by
 unfold Dq JN;simp only [beq_self_eq_true,bw,fA]
theorem aa1 (x:dV) (h:pg 1048576 x):xW x x=some (true,()):=by
 unfold xW Fx;simp only [beq_self_eq_true,bw,fA,aa0 _ h.1,MG _ (gJ h.2.1),Vc _ h.2.2.1,agi,ac8 _ (gJ h.2.2.2),ae]
theorem JR {t:Ty} {x:t.D} {u:Ty} {y:u.D} (h:bdT t x) (hs: ∀ z∈u.row y,z∈t.row x):bdT u y:=fun z hz=>h z (hs z hz)
theorem aoS {c:dW} (h:bdT (.st .config) c):nm maxLen c:=
 ⟨Ld (t:= .i .i64) (JR (u:= .ls (.i .i64)) h fun z hz=>by rw [aD.1 hz]; exact au (i:=2) rfl),Ld (t:= .i .i64) (JR (u:= .ls (.i .i64)) h fun z hz=>by rw [aD.1 hz]; exact au (i:=3) rfl)⟩
theorem arI {s:eb} (h:bdT (.st .server) s):nX maxLen s:=
 ⟨aoS (JR (u:= .st .config) (y:=s.config) h fun z hz=>by
   have hz:z∈HW s.config:=hz;unfold HW at hz;simp only [ba,List.not_mem_nil,or_false] at hz;rcases hz with rfl | rfl | rfl | rfl
   ·exact au (i:=4) rfl
   ·exact au (i:=5) rfl
   ·exact au (i:=6) rfl
   ·exact au (i:=7) rfl),
  Ld (t:= .st .entry) (JR (u:= .ls (.st .entry)) h fun z hz=>by rw [aD.1 hz]; exact au (i:=9) rfl),
  Ld (t:= .st .entry) (JR (u:= .ls (.st .entry)) h fun z hz=>by rw [aD.1 hz]; exact au (i:=11) rfl)⟩
theorem asF {c:dV} (h:bdT (.st .cluster) c):pg maxLen c:=by
 have h1:bdT (.ls (.st .server)) c.servers:=JR (u:= .ls (.st .server)) h fun z hz=>by rw [aD.1 hz]; exact au (i:=1) rfl
 have h2:bdT (.ls (.i .i64)) c.sides:=JR (u:= .ls (.i .i64)) h fun z hz=>by rw [aD.1 hz]; exact au (i:=2) rfl
 have h3:bdT (.ls (.st .config)) c.master.configs:=JR (u:= .ls (.st .config)) h fun z hz=>by rw [aD.1 hz]; exact au (i:=3) rfl
 have h4:bdT (.ls (.st .place)) c.places:=JR (u:= .ls (.st .place)) h fun z hz=>by rw [aD.1 hz]; exact au (i:=9) rfl
 exact⟨⟨Ld h1,fun s hs=>arI (aox h1 hs)⟩,Ld h2,⟨Ld h3,fun s hs=>aoS (aox h3 hs)⟩,Ld h4⟩
end Go.Proofs.YtkcgfceffffmoaaGreat.En
