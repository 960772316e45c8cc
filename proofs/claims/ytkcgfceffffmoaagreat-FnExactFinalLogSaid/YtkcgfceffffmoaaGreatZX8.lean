import Derived.Test.YtkcgfceffffmoaaGreatZX7
namespace Go.Proofs.YtkcgfceffffmoaaGreat.En
open Go
section
variable {ρ:Type} {P:Program} {Θ:gF} {S:TS} {Y:jl}
end
end Go.Proofs.YtkcgfceffffmoaaGreat.En
namespace Go.Proofs.YtkcgfceffffmoaaGreat.En
open Go
def V1.all:V1→List Cl | .cl c=> [c] | .agg cs=>cs | .fn _ cs=>cs
def V.all:V→List Cl | .v x=>x.all | .tup _=> []
end Go.Proofs.YtkcgfceffffmoaaGreat.En
namespace Go.Proofs.YtkcgfceffffmoaaGreat.En
open Go
inductive Sh where
 | int (k:IntKind) | bl | str | ro (t:Ty) | own (r:Nat) (t:Ty) | ptr (n j:Nat) | em | dead | pro (t:Ty) | fc (g:Nat)
abbrev Sh.D:Sh→Type
 | .int _=>Int | .bl=>Bool | .str=>ByteArray | .ro t=>List t.D | .pro t=>t.D | _=>Unit
abbrev gt.D:List Sh→Type
 | [] =>Unit
 | s::l=>s.D×gt.D l
inductive il where
 | cl (s:Sh) | agg (l:List Sh) | st (n:Sn) | fn (f:FuncId) (l:List Sh)
abbrev il.D:il→Type
 | .cl s=>s.D | .agg l=>gt.D l | .st n=>n.D | .fn _ l=>gt.D l
abbrev jB.D:List (Nat×il)→Type
 | [] =>Unit
 | x::l=>x.2.D×jB.D l
abbrev jC.D:List (List Sh)→Type
 | [] =>Unit
 | x::l=>gt.D x×jC.D l
abbrev fj.D:List Ty→Type
 | [] =>Unit
 | t::l=>List t.D×fj.D l
structure bS where
 env:List (Nat×il)
 bx:List (List Sh)
 gh:List Ty
 fz:Nat
 nt:Nat
abbrev bS.D (L:bS):Type:=jB.D L.env×jC.D L.bx×fj.D L.gh
def kg (G:List (Option bR)) (r:Nat):Nat:=match iz G r with | some (some tr)=>tr.l.length | _=>0
def Sh.mk (G:List (Option bR)): (s:Sh)→s.D→Cl
 | .int k,n=> .c (.sc (.int k n)) | .bl,v=> .c (.sc (.bool v)) | .str,v=> .c (.sc (.string v)) | .ro t,l=> .c (.ls t l)
 | .own r t,_=> .own ⟨r,[]⟩ t.width 0 (kg G r) true | .ptr n j,_=> .ptrB n j | .em,_=> .em | .dead,_=> .dead | .pro t,x=> .pro (t.flat x) | .fc g,_=> .c (.sc (.func (.func g) #[] #[]))
def gt.mk (G:List (Option bR)): (l:List Sh)→gt.D l→List Cl
 | [],_=> []
 | s::l,x=>s.mk G x.1::gt.mk G l x.2
def il.mk (G:List (Option bR)): (v:il)→v.D→V
 | .cl s,x=> .v (.cl (s.mk G x)) | .agg l,x=> .v (.agg (gt.mk G l x)) | .st n,x=> .v (.agg ((n.flat x).map .c)) | .fn f l,x=> .v (.fn f (gt.mk G l x))
def jB.mk (G:List (Option bR)): (l:List (Nat×il))→jB.D l→List (Nat×V)
 | [],_=> []
 | x::l,d=>(x.1,x.2.mk G d.1)::jB.mk G l d.2
def jC.mk (G:List (Option bR)): (l:List (List Sh))→jC.D l→List (List Cl)
 | [],_=> []
 | x::l,d=>gt.mk G x d.1::jC.mk G l d.2
def fj.mk: (l:List Ty)→fj.D l→List (Option bR)
 | [],_=> []
 | t::l,d=>some ⟨t,d.1,none⟩::fj.mk l d.2
def bS.mk' (L:bS) (d:L.D):TS:= { env:=jB.mk (fj.mk L.gh d.2.2) L.env d.1,bx:=jC.mk (fj.mk L.gh d.2.2) L.bx d.2.1,gh:=fj.mk L.gh d.2.2,fz:=L.fz,nt:=L.nt }
section
variable {ρ:Type}
end
end Go.Proofs.YtkcgfceffffmoaaGreat.En
namespace Go.Proofs.YtkcgfceffffmoaaGreat.En
open Go
inductive kI where
 | t (x:Nat) (t:Ty)
 | b (n j:Nat) (t:Ty)
section
variable {P:Program} {Θ:gF} {Y:jl} {Λ:jy}
end
end Go.Proofs.YtkcgfceffffmoaaGreat.En
namespace Go.Proofs.YtkcgfceffffmoaaGreat.En
open Go
abbrev jn.D:List Ty→Type
 | [] =>Unit
 | t::l=>t.D×jn.D l
theorem jU (t:Ty) (x:t.D): (kn t x).ok [] :=by
 unfold kn
 cases t.ag with
 | true=>
   intro c hc
   obtain⟨y,_,rfl⟩:=List.mem_map.1 hc
   trivial
 | false=>
   simp only [cond_false]
   split
   ·rename_i c hc
    have :c∈(t.flat x).map Cl.c:=by rw [hc]; exact List.mem_singleton.2 rfl
    obtain⟨y,_,rfl⟩:=List.mem_map.1 this
    trivial
   ·trivial
end Go.Proofs.YtkcgfceffffmoaaGreat.En
namespace Go.Proofs.YtkcgfceffffmoaaGreat.En
open Go
def Sh.fit (n:Nat):Sh→Bool | .own r _=>Nat.blt r n | _=>true
def il.fit (n:Nat):il→Bool | .cl s=>s.fit n | .agg l=>l.all (Sh.fit n) | .st _=>true | .fn _ l=>l.all (Sh.fit n)
def bS.fit (L:bS):Bool:=L.env.all (fun x=>x.2.fit L.gh.length)&&L.bx.all (fun l=>l.all (Sh.fit L.gh.length))
theorem fj.mk_length: ∀ (l:List Ty) (d:fj.D l),(fj.mk l d).length=l.length
 | [],_=>rfl
 | t::l,d=>by simp [fj.mk,fj.mk_length l d.2]
theorem Sh.mk_ok {G:List (Option bR)} {s:Sh} (h:s.fit G.length=true) (x:s.D): (s.mk G x).ok G:=by
 cases s with
 | own r t=>
   refine⟨Nat.le_of_ble_eq_true h,fun _=>⟨rfl,rfl,fun tr htr=> ?_⟩⟩
   unfold cf at htr
   unfold kg
   have htr': (iz G r).getD none=some tr:=htr
   cases hn:iz G r with
   | none=>rw [hn] at htr'; cases htr'
   | some y=>rw [hn] at htr'; simp only [Option.getD_some] at htr'; subst htr'; rfl
 | _=>trivial
theorem gt.mk_ok {G:List (Option bR)}: ∀ {l:List Sh},l.all (Sh.fit G.length)=true→ ∀ (x:gt.D l),∀ c∈gt.mk G l x,c.ok G
 | [],_,x,c,hc=>by cases hc
 | s::l,h,x,c,hc=>by
   simp only [List.all_cons,Bool.and_eq_true] at h
   rcases List.mem_cons.1 hc with rfl | hc
   ·exact Sh.mk_ok h.1 x.1
   ·exact gt.mk_ok h.2 x.2 c hc
theorem il.mk_ok {G:List (Option bR)} {v:il} (h:v.fit G.length=true) (x:v.D): (v.mk G x).ok G:=by
 cases v with
 | cl s=>exact Sh.mk_ok h x
 | agg l=>exact gt.mk_ok h x
 | st n=>
   intro c hc
   obtain⟨y,_,rfl⟩:=List.mem_map.1 hc
   trivial
 | fn f l=>exact gt.mk_ok h x
theorem bS.mk'_ok {L:bS} (h:L.fit=true) (d:L.D): (L.mk' d).ok:=by
 unfold bS.fit at h
 simp only [Bool.and_eq_true] at h
 have hlen: (fj.mk L.gh d.2.2).length=L.gh.length:=fj.mk_length _ _
 rw [←hlen] at h
 have env: ∀ {l:List (Nat×il)},l.all (fun x=>x.2.fit (fj.mk L.gh d.2.2).length)=true→ ∀ (e:jB.D l),∀ x∈jB.mk (fj.mk L.gh d.2.2) l e,x.2.ok (fj.mk L.gh d.2.2):=by
  intro l
  induction l with
  | nil=>intro _ e x hx; cases hx
  | cons y l ih=>
    intro h e x hx
    simp only [List.all_cons,Bool.and_eq_true] at h
    rcases List.mem_cons.1 hx with rfl | hx
    ·exact il.mk_ok h.1 e.1
    ·exact ih h.2 e.2 x hx
 have bxs: ∀ {l:List (List Sh)},l.all (fun l=>l.all (Sh.fit (fj.mk L.gh d.2.2).length))=true→ ∀ (e:jC.D l),∀ cs∈jC.mk (fj.mk L.gh d.2.2) l e,∀ c∈cs,c.ok (fj.mk L.gh d.2.2):=by
  intro l
  induction l with
  | nil=>intro _ e x hx; cases hx
  | cons y l ih=>
    intro h e x hx
    simp only [List.all_cons,Bool.and_eq_true] at h
    rcases List.mem_cons.1 hx with rfl | hx
    ·exact gt.mk_ok h.1 e.1
    ·exact ih h.2 e.2 x hx
 exact⟨env h.1 d.1,bxs h.2 d.2.1⟩
abbrev ce.D:List (X×bS)→Type
 | [] =>Empty
 | [x] =>x.2.D
 | x::y::l=>x.2.D⊕ce.D (y::l)
def ce.k {R:Type}: (l:List (X×bS))→ce.D l→(X→TS→R)→R
 | [],e,_=>e.elim
 | [x],d,κ=>κ x.1 (x.2.mk' d)
 | x::y::l,e,κ=>Sum.elim (fun d=>κ x.1 (x.2.mk' d)) (fun e=>ce.k (y::l) e κ) e
def ce.e (l:List (X×bS)) (d:ce.D l):X×TS:=ce.k l d Prod.mk
def kv (x:X×bS):Bool:=(match x.1 with | .nor=>false | _=>true)&&x.2.fit
theorem ce.ok: ∀ (l:List (X×bS)) (d:ce.D l),l.all kv=true→(ce.e l d).1≠ .nor∧(ce.e l d).2.ok
 | [],e,_=>e.elim
 | [x],d,h=>by
   simp only [List.all_cons,Bool.and_eq_true,kv] at h
   refine⟨fun e=> ?_,bS.mk'_ok h.1.2 d⟩
   have e:x.1= .nor:=e
   rw [e] at h
   cases h.1.1
 | x::_::_, .inl d,h=>by
   simp only [List.all_cons,Bool.and_eq_true,kv] at h
   refine⟨fun e=> ?_,bS.mk'_ok h.1.2 d⟩
   have e:x.1= .nor:=e
   rw [e] at h
   cases h.1.1
 | _::y::l, .inr e,h=>ce.ok (y::l) e (by
   simp only [List.all_cons,Bool.and_eq_true] at h ⊢
   exact h.2)
section
variable {P:Program} {Θ:gF} {Y:jl} {Λ:jy}
end
end Go.Proofs.YtkcgfceffffmoaaGreat.En
namespace Go.Proofs.YtkcgfceffffmoaaGreat.En
open Go
end Go.Proofs.YtkcgfceffffmoaaGreat.En
namespace Go.Proofs.YtkcgfceffffmoaaGreat.En
open Go
section
variable {P:Program} {t:TypeId}
end
end Go.Proofs.YtkcgfceffffmoaaGreat.En
namespace Go.Proofs.YtkcgfceffffmoaaGreat.En
open Go
section
variable {σ ε:Type}
def eV (B:σ→Option (σ⊕ε)):Nat→σ→Option ε
 | 0,_=>none
 | n+1,s=>(B s).bind (Sum.elim (eV B n) some)
theorem ei (B:σ→Option (σ⊕ε)): ∀ {n m:Nat} {s:σ} {e:ε},n≤m→eV B n s=some e→eV B m s=some e
 | 0,_,_,_,_,h=>by cases h
 | n+1,0,_,_,hm,_=>by omega
 | n+1,m+1,s,e,hm,h=>by
   unfold eV at h ⊢
   cases hB:B s with
   | none=>rw [hB] at h; cases h
   | some x=>
     rw [hB] at h
     cases x with
     | inl s'=>exact ei B (by omega) h
     | inr e'=>exact h
noncomputable def cH (B:σ→Option (σ⊕ε)) (s:σ):Option ε:=open Classical in if h: ∃ n,(eV B n s).isSome=true then eV B (Classical.choose h) s else none
theorem eW {B:σ→Option (σ⊕ε)} {s:σ} {e:ε}:cH B s=some e↔ ∃ n,eV B n s=some e:=by
 classical
 constructor
 ·intro h
  unfold cH at h
  split at h
  ·rename_i hx
   exact⟨_,h⟩
  ·cases h
 ·rintro⟨n,h⟩
  have hx: ∃ n,(eV B n s).isSome=true:=⟨n,by rw [h]; rfl⟩
  unfold cH
  rw [dif_pos hx]
  obtain⟨e',he⟩:=Option.isSome_iff_exists.1 (Classical.choose_spec hx)
  have h1:=ei B (Nat.le_max_left (Classical.choose hx) n) he
  have h2:=ei B (Nat.le_max_right (Classical.choose hx) n) h
  rw [h1] at h2
  cases h2
  exact he
theorem dP (B:σ→Option (σ⊕ε)) (s:σ):cH B s=(B s).bind (Sum.elim (cH B) some):=by
 apply Option.ext
 intro e
 rw [eW]
 constructor
 ·rintro⟨n,h⟩
  cases n with
  | zero=>cases h
  | succ n=>
    unfold eV at h
    cases hB:B s with
    | none=>rw [hB] at h; cases h
    | some x=>
      rw [hB] at h
      cases x with
      | inl s'=>exact eW.2 ⟨n,h⟩
      | inr e'=>exact h
 ·intro h
  cases hB:B s with
  | none=>rw [hB] at h; cases h
  | some x=>
    rw [hB] at h
    cases x with
    | inl s'=>
      obtain⟨n,h⟩:=eW.1 (show cH B s'=some e from h)
      exact⟨n+1,by unfold eV; rw [hB]; exact h⟩
    | inr e'=>exact⟨1,by unfold eV; rw [hB]; exact h⟩
end
inductive jV where
 | ty (t:Ty) | pr (t:Ty) | fc (g:Nat) | fn (g:Nat) (caps:List Ty)
abbrev jV.D:jV→Type
 | .ty t=>t.D
 | .pr t=>t.D
 | .fc _=>Unit
 | .fn _ caps=>jn.D caps
abbrev kw.D:List jV→Type
 | [] =>Unit
 | p::l=>p.D×kw.D l
def gR: (l:List Ty)→jn.D l→List Cl
 | [],_=> []
 | t::l,x=> .pro (t.flat x.1)::gR l x.2
def jV.v1: (p:jV)→p.D→V1
 | .ty t,x=>kn t x
 | .pr t,x=> .cl (.pro (t.flat x))
 | .fc g,_=> .cl (.c (.sc (.func (.func g) #[] #[])))
 | .fn g caps,x=> .fn g (gR caps x)
theorem fw (G:List (Option bR)): ∀ (l:List Ty) (x:jn.D l),∀ c∈gR l x,c.ok G
 | [],x,c,h=>by cases h
 | t::l,x,c,h=>by
   rcases List.mem_cons.1 h with rfl | h
   ·trivial
   ·exact fw G l x.2 c h
theorem jV.ok (p:jV) (x:p.D): (p.v1 x).ok [] :=by
 cases p with
 | ty t=>exact jU t x
 | pr t=>trivial
 | fc g=>trivial
 | fn g caps=>exact fw [] caps x
end Go.Proofs.YtkcgfceffffmoaaGreat.En
