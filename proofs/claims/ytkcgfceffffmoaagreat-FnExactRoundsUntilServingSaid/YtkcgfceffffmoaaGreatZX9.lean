import Derived.Test.YtkcgfceffffmoaaGreatZX8
import Derived.ProofKit
import Derived.ChangeOld
import Derived.Deep.Slices
import Derived.OpenShut
import Derived.Below
import Derived.Carry
import Derived.WideShapes
namespace Go.Proofs.YtkcgfceffffmoaaGreat.En
section
open Go
section
variable {σ ε:Type}
def Pc (B:σ->Option (σ⊕ε)):Nat->σ->Option ε
 | 0,_=>none
 | n+1,s=>(B s).bind (Sum.elim (Pc B n) some)
theorem TB (B:σ->Option (σ⊕ε)): ∀ {n m:Nat} {s:σ} {e:ε},n<=m->Pc B n s=some e->Pc B m s=some e
 | 0,_,_,_,_,h=>by cases h
 | n+1,0,_,_,hm,_=>by omega
 | n+1,m+1,s,e,hm,h=>by
   unfold Pc at h ⊢;cases hB:B s with
   | none=>rw [hB] at h; cases h
   | some x=>
     rw [hB] at h;cases x with
     | inl s'=>exact TB B (by omega) h
     | inr e'=>exact h
theorem aeD {p:Nat->Prop} (h: ∃ n,p n): ∃ n,p n/\ ∀ m,p m->n<=m:=by
 obtain⟨n,hn⟩:=h
 induction n using Nat.strongRecOn with
 | _ n ih=>
   by_cases hx: ∃ m,m < n/\p m
   ·obtain⟨m,hm,hp⟩:=hx;exact ih m hm hp
   ·exact⟨n,hn,fun m hm=>Nat.le_of_not_lt fun hlt=>hx ⟨m,hlt,hm⟩⟩
noncomputable def mw (B:σ->Option (σ⊕ε)) (s:σ):Option ε:=open Classical in if h: ∃ n,(Pc B n s).isSome=true then Pc B (Classical.choose h) s else none
noncomputable def ju (B:σ->Option (σ⊕ε)) (s:σ):Nat:=open Classical in if h: ∃ n,(Pc B n s).isSome=true then Classical.choose (aeD h) else 0
theorem Lb {B:σ->Option (σ⊕ε)} {s:σ} {e:ε}:mw B s=some e↔ ∃ n,Pc B n s=some e:=by
 classical
 constructor
 ·intro h;unfold mw at h;split at h
  ·rename_i hx;exact⟨_,h⟩
  ·cases h
 ·rintro⟨n,h⟩
  have hx: ∃ n,(Pc B n s).isSome=true:=⟨n,by rw [h]; rfl⟩
  unfold mw;rw [dif_pos hx];obtain⟨e',he⟩:=bE.1 (Classical.choose_spec hx);have h1:=TB B (Nat.le_max_left (Classical.choose hx) n) he;have h2:=TB B (Nat.le_max_right (Classical.choose hx) n) h;rw [h1] at h2;cases h2;exact he
theorem Lc (B:σ->Option (σ⊕ε)) (s:σ):mw B s=(B s).bind (Sum.elim (mw B) some):=by
 apply Option.ext;intro e;rw [Lb];constructor
 ·rintro⟨n,h⟩
  cases n with
  | zero=>cases h
  | succ n=>
    unfold Pc at h;cases hB:B s with
    | none=>rw [hB] at h; cases h
    | some x=>
      rw [hB] at h;cases x with
      | inl s'=>exact Lb.2 ⟨n,h⟩
      | inr e'=>exact h
 ·intro h;cases hB:B s with
  | none=>rw [hB] at h; cases h
  | some x=>
    rw [hB] at h;cases x with
    | inl s'=>
      obtain⟨n,h⟩:=Lb.1 (show mw B s'=some e from h);exact⟨n+1,by unfold Pc; rw [hB]; exact h⟩
    | inr e'=>exact⟨1,by unfold Pc; rw [hB]; exact h⟩
theorem ev (B:σ->Option (σ⊕ε)) (s:σ) (e:ε) (h:mw B s=some e):aok (mw B) (ju B) s e (B s):=by
 classical
 have h0:=h;rw [Lc] at h;cases hB:B s with
 | none=>rw [hB] at h; cases h
 | some x=>
   rw [hB] at h;cases x with
   | inl s'=>
     refine⟨?_,h⟩
     have hx: ∃ n,(Pc B n s).isSome=true:=by
      obtain⟨n,hn⟩:=Lb.1 h0;exact⟨n,by rw [hn]; rfl⟩
     have hx': ∃ n,(Pc B n s').isSome=true:=by
      obtain⟨n,hn⟩:=Lb.1 (show mw B s'=some e from h);exact⟨n,by rw [hn]; rfl⟩
     unfold ju;rw [dif_pos hx,dif_pos hx'];have:=(Classical.choose_spec (aeD hx)).1;cases hn:Classical.choose (aeD hx) with
     | zero=>rw [hn] at this; cases this
     | succ n=>
       rw [hn] at this;unfold Pc at this;rw [hB] at this;exact Nat.lt_succ_of_le ((Classical.choose_spec (aeD hx')).2 n this)
   | inr e'=>exact (Option.some.inj h)
end
theorem fU {α β γ δ:Type} (x:α⊕β) (f:α->Option γ) (g:β->Option γ) (h:γ->Option δ): (Sum.elim f g x).bind h=Sum.elim (fun a=>(f a).bind h) (fun a=>(g a).bind h) x:=by cases x <;> rfl
inductive Par where
 | ty (t:Ty) | pr (t:Ty) | fc (g:Nat) | fn (g:Nat) (caps:List Ty) | nl
abbrev Par.D:Par->Type
 | .ty t=>t.D
 | .pr t=>t.D
 | .fc _=>Unit
 | .fn _ caps=>KH.D caps
 | .nl=>Unit
abbrev H3.D:List Par->Type
 | [] =>Unit
 | p::l=>p.D×H3.D l
def aeF: (l:List Ty)->KH.D l->List Cl
 | [],_=> []
 | t::l,x=> .pro (t.flat x.1)::aeF l x.2
def Par.v1: (p:Par)->p.D->V1
 | .ty t,x=>arg t x
 | .pr t,x=> .cl (.pro (t.flat x))
 | .fc g,_=> .cl (.c (.sc (.func (.func g) #[] #[])))
 | .fn g caps,x=> .fn g (aeF caps x)
 | .nl,_=> .cl .em
def Da: (l:List Par)->H3.D l->List V1
 | [],_=> []
 | p::l,x=>p.v1 x.1::Da l x.2
def aqe {ρ:Type} (t:Ty) (c:Cl) (κ:t.D->Option ρ):Option ρ:=match c with
 | .pro xs=>(match t.unflat xs with | some x=>κ x | none=>none)
 | _=>none
def TC {ρ:Type}: (l:List Ty)->List Cl->(KH.D l->Option ρ)->Option ρ
 | [],[],κ=>κ ()
 | t::l,c::cs,κ=>aqe t c fun x=>TC l cs fun y=>κ (x,y)
 | _,_,_=>none
def unE {ρ:Type}: (t:Ty)->V1->(t.D->Option ρ)->Option ρ
 | .ls _, .cl .em,κ=>κ []
 | t,a,κ=>un t a κ
def unP {ρ:Type}: (p:Par)->V1->(p.D->Option ρ)->Option ρ
 | .ty t,a,κ=>unE t a κ
 | .pr t, .cl c,κ=>aqe t c κ
 | .fc g, .cl (.c (.sc (.func (.func g') cs ts))),κ=>bif Nat.beq g' g&&Nat.beq cs.size 0&&Nat.beq ts.size 0 then κ () else none
 | .fn g caps, .fn g' cs,κ=>bif Nat.beq g' g then TC caps cs κ else none
 | .nl, .cl .em,κ=>κ ()
 | _,_,_=>none
def Y0 {ρ:Type}: (l:List Par)->List V1->(H3.D l->Option ρ)->Option ρ
 | [],[],κ=>κ ()
 | p::l,a::as,κ=>unP p a fun x=>Y0 l as fun y=>κ (x,y)
 | _,_,_=>none
def eJ (ps:List Par) (rs:List Ty) (G:H3.D ps->Option (KH.D rs)):eG:=fun args _ κ=>Y0 ps args fun x=>(G x).bind fun y=>ret (GI rs y) κ
theorem adA {ρ:Type} {t:Ty} {c:Cl} {κ:t.D->Option ρ} {r:ρ} (h:aqe t c κ=some r): ∃ x,c= .pro (t.flat x)/\κ x=some r:=by
 unfold aqe at h;split at h
 ·split at h
  ·rename_i x hx;exact⟨x,by rw [t.unflat_some _ _ hx],h⟩
  ·cases h
 ·cases h
theorem Vv {ρ:Type}: ∀ {l:List Ty} {cs:List Cl} {κ:KH.D l->Option ρ} {r:ρ},TC l cs κ=some r-> ∃ x,cs=aeF l x/\κ x=some r
 | [],[],κ,r,h=>⟨(),rfl,h⟩
 | t::l,c::cs,κ,r,h=>by
   unfold TC at h;obtain⟨x,h1,h⟩:=adA h;obtain⟨y,h2,h⟩:=Vv h;exact⟨(x,y),by rw [h1,h2]; rfl,h⟩
 | [],_::_,κ,r,h=>by simp [TC] at h
 | _::_,[],κ,r,h=>by simp [TC] at h
theorem aoo {ρ:Type} {t:Ty} {a:V1} {κ:t.D->Option ρ} {r:ρ} (h:unE t a κ=some r): ∃ x,(a.av=(arg t x).av\/(a.av= .em/\ ∃ s,(arg t x).av= .ro s []))/\κ x=some r:=by
 unfold unE at h;split at h
 ·exact⟨[], .inr ⟨rfl,_,rfl⟩,h⟩
 ·obtain⟨x,e,h'⟩:=un_some h;exact⟨x, .inl (by rw [e]),h'⟩
theorem aop {ρ:Type} {p:Par} {a:V1} {κ:p.D->Option ρ} {r:ρ} (h:unP p a κ=some r): ∃ x,(a.av=(p.v1 x).av\/(a.av= .em/\ ∃ s,(p.v1 x).av= .ro s []))/\κ x=some r:=by
 unfold unP at h;split at h
 ·exact aoo h
 ·obtain⟨x,h1,h⟩:=adA h;exact⟨x, .inl (by rw [h1]; rfl),h⟩
 ·obtain⟨h1,h⟩:=eE h;simp only [ax] at h1;obtain⟨⟨h1,h2⟩,h3⟩:=h1;have h1:=ay h1;have h2:=cF (ay h2);have h3:=cF (ay h3);exact⟨(), .inl (by rw [h1,h2,h3]; rfl),h⟩
 ·obtain⟨h1,h⟩:=eE h;obtain⟨x,h2,h⟩:=Vv h;exact⟨x, .inl (by rw [ay h1,h2]; rfl),h⟩
 ·exact⟨(), .inl rfl,h⟩
 ·cases h
theorem M4 {ρ:Type}: ∀ {l:List Par} {as:List V1} {κ:H3.D l->Option ρ} {r:ρ},Y0 l as κ=some r-> ∃ x,Nav (as.map V1.av) ((Da l x).map V1.av)/\κ x=some r
 | [],[],κ,r,h=>⟨(),Nav.refl _,h⟩
 | p::l,a::as,κ,r,h=>by
   unfold Y0 at h;obtain⟨x,h1,h⟩:=aop h;obtain⟨y,h2,h⟩:=M4 h;exact⟨(x,y),Nav.cons h1 h2,h⟩
 | [],_::_,κ,r,h=>by simp [Y0] at h
 | _::_,[],κ,r,h=>by simp [Y0] at h
theorem adB (G:List (Option gK)): ∀ (l:List Ty) (x:KH.D l),∀ c∈aeF l x,c.ok G
 | [],x,c,h=>by cases h
 | t::l,x,c,h=>by
   rcases ba.1 h with rfl | h
   ·trivial
   ·exact adB G l x.2 c h
theorem Par.ok (p:Par) (x:p.D): (p.v1 x).ok [] :=by
 cases p with
 | ty t=>exact arj t x
 | pr t=>trivial
 | fc g=>trivial
 | fn g caps=>exact adB [] caps x
 | nl=>trivial
theorem M5: ∀ (l:List Par) (x:H3.D l),∀ a∈Da l x,a.ok []
 | [],x,a,h=>by cases h
 | p::l,x,a,h=>by
   rcases ba.1 h with rfl | h
   ·exact p.ok x.1
   ·exact M5 l x.2 a h
theorem dY {P:Program} {Θ:Du} {Y:Tj} {Λ:FZ} (hΘ:mu P Θ) (hY:ef P Y) (hm:P.follows .mixedOrders=true) {f:FuncId} {fn:Func} (hf:fnT P f=some fn) (hL: ∀ c,fn.body=some c->nZ P Λ (nE c)) {ps:List Par} {rs:List Ty} {G:H3.D ps->Option (KH.D rs)} (hk:Nat.blt f 1048576=true)
  (F:H3.D ps->Option (KH.D rs)) (hF: ∀ x,fnK Θ Y Λ fn (Da ps x) (fun v g=>some (v,g))=(F x).bind fun y=>ret (GI rs y) (fun v g=>some (v,g))) (hG: ∀ x y,G x=some y->F x=some y):eh P f (eJ ps rs G):=by
 intro args ρ κ r hr;unfold eJ at hr;obtain⟨x,hn,hr2⟩:=M4 hr;obtain⟨y,h1,hr3⟩:=ao.1 hr2;exact⟨_,_, .of_fn (Hq.norm hn (are hΘ hY hm hf hL (M5 ps x) (by rw [hF,hG x y h1]; rfl))) (aF hk),aon _,hr3⟩
def aoq (el:Ty) (ps:List Par) (rs:List Ty) (G:List el.D->H3.D ps->Option (KH.D rs)):eG:=fun args _ κ=>match args with
 | .cl (.c (.ls t l))::as=>(match K5 t el l with
   | some l=>Y0 ps as fun x=>(G l x).bind fun y=>ret (GI rs y) κ
   | none=>none)
 | _=>none
def asi {ρ:Type} (el:Ty) (rs:List Ty) (y:List el.D×KH.D rs) (κ:V->List gK->Option ρ):Option ρ:=κ (Tn (Vq 1 (GI rs y.2))) (⟨el,y.1,none⟩::QD (GI rs y.2))
def aor (el:Ty) (ps:List Par) (rs:List Ty) (G:List el.D->H3.D ps->Option (List el.D×KH.D rs)):eG:=fun args _ κ=>match args with
 | .cl (.c (.ls t l))::as=>(match K5 t el l with
   | some l=>Y0 ps as fun x=>(G l x).bind fun y=>asi el rs y κ
   | none=>none)
 | _=>none
theorem aeG {P:Program} {Θ:Du} {Y:Tj} {Λ:FZ} (hΘ:mu P Θ) (hY:ef P Y) (hm:P.follows .mixedOrders=true) {f:FuncId} {fn:Func} (hf:fnT P f=some fn) (hL: ∀ c,fn.body=some c->nZ P Λ (nE c)) {el:Ty} {ps:List Par} {rs:List Ty} {G:List el.D->H3.D ps->Option (KH.D rs)}
  (F:List el.D->H3.D ps->Option (KH.D rs)) (hF: ∀ l x,apE Θ Y Λ fn 0 el l (Da ps x) (fun v g=>some (v,g))=(F l x).bind fun y=>ret (GI rs y) (fun v g=>some (v,g))) (hG: ∀ l x y,G l x=some y->F l x=some y):eh P (Tl f) (aoq el ps rs G):=by
 intro args ρ κ r hr;unfold aoq at hr;split at hr
 ·rename_i t l as;split at hr
  ·rename_i l' hl;obtain⟨e,hl⟩:=nF hl;subst e;have hl:l=l':=hl;subst hl;obtain⟨x,hn,hr2⟩:=M4 hr;obtain⟨y,h1,hr3⟩:=ao.1 hr2;exact⟨_,_, .of_mv ⟨.ls _,l,_,rfl,BE.norm (Nav.cons (.inl rfl) hn) (ali hΘ hY hm hf hL (aK 1) (M5 ps x) (by rw [hF,hG l x y h1]; rfl))⟩,aon _,hr3⟩
  ·cases hr
 ·cases hr
theorem aqf (el:Ty) (l:List el.D) (ys:List ((t:Ty)×t.D)): (Tn (Vq 1 ys)).ok ((⟨el,l,none⟩::QD ys).map some):=by
 have h:=YY ys [⟨el,l,none⟩];simp only [cj,List.singleton_append] at h
 match Vq 1 ys,h with
 | [],_=>exact fun x hx=>by cases hx
 | [v],h=>exact h v aN
 | v::u::vs,h=>exact h
theorem aeH {P:Program} {Θ:Du} {Y:Tj} {Λ:FZ} (hΘ:mu P Θ) (hY:ef P Y) (hm:P.follows .mixedOrders=true) {f:FuncId} {fn:Func} (hf:fnT P f=some fn) (hL: ∀ c,fn.body=some c->nZ P Λ (nE c)) {el:Ty} {ps:List Par} {rs:List Ty} {G:List el.D->H3.D ps->Option (List el.D×KH.D rs)} (hk:Nat.blt f 1048576=true)
  (F:List el.D->H3.D ps->Option (List el.D×KH.D rs)) (hF: ∀ l x,apE Θ Y Λ fn 1 el l (Da ps x) (fun v g=>some (v,g))=(F l x).bind fun y=>asi el rs y (fun v g=>some (v,g))) (hG: ∀ l x y,G l x=some y->F l x=some y):eh P (Nl f) (aor el ps rs G):=by
 intro args ρ κ r hr;unfold aor at hr;split at hr
 ·rename_i t l as;split at hr
  ·rename_i l' hl;obtain⟨e,hl⟩:=nF hl;subst e;have hl:l=l':=hl;subst hl;obtain⟨x,hn,hr2⟩:=M4 hr;obtain⟨y,h1,hr3⟩:=ao.1 hr2;exact⟨_,_, .of_io ⟨.ls _,l,_,rfl,BE.norm (Nav.cons (.inl rfl) hn) (ali hΘ hY hm hf hL (aE 1) (M5 ps x) (by rw [hF,hG l x y h1]; rfl))⟩ (aF hk),aqf _ _ (GI rs y.2),hr3⟩
  ·cases hr
 ·cases hr
def aos (p:List V1->Bool) (e1 e2:eG):eG:=fun args ρ κ=>bif p args then e1 args ρ κ else e2 args ρ κ
theorem aot {P:Program} {f:FuncId} {p:List V1->Bool} {e1 e2:eG} (h1:eh P f e1) (h2:eh P f e2):eh P f (aos p e1 e2):=by
 intro args ρ κ r hr;unfold aos at hr;cases hp:p args with
 | true=>rw [hp] at hr; exact h1 args ρ κ r hr
 | false=>rw [hp] at hr; exact h2 args ρ κ r hr
def asj (n g:Nat) (args:List V1):Bool:=match C1 args n with
 | some (.fn g' _)=>Nat.beq g' g
 | some (.cl (.c (.sc (.func (.func g') _ _))))=>Nat.beq g' g
 | _=>false
def fo (fn:Func):Code:=match fn.body with | some c=>c | none=> .skip
def fm (c:Code) (n:Nat):Code:=(C1 (nE c) n).getD .skip
theorem ej {P:Program} {Λ:FZ} {fn:Func} {cs:List Code} (h:nE (fo fn)=cs) (H:nZ P Λ cs) (c:Code) (hc:fn.body=some c):nZ P Λ (nE c):=by
 have :fo fn=c:=by unfold fo; rw [hc]
 rw [<-this,h];exact H
theorem fV {P:Program} {Λ:FZ} {c:Code} {cs:List Code} (h:nE c=cs) (H:nZ P Λ cs):nZ P Λ (nE c):=by rw [h]; exact H
end
section
open Go
inductive Kc where | i (k:IntKind) | b | s | ls (t:Ty)
 deriving DecidableEq
def aou:List (Option Ty)->List Value->List Kc
 | some t::l,_::m=> .ls t::aou l m
 | none::l, .int k _::m=> .i k::aou l m
 | none::l, .bool _::m=> .b::aou l m
 | none::l,_::m=> .s::aou l m
 | _,_=> []
def Ty.kc (t:Ty):List Kc:=aou t.csh t.zvs
def H4:List Kc->List C->Prop
 | [],[] =>True
 | .i k::l,c::m=>(∃ n,c= .sc (.int k n))/\H4 l m
 | .b::l,c::m=>(∃ v,c= .sc (.bool v))/\H4 l m
 | .s::l,c::m=>(∃ v,c= .sc (.string v))/\H4 l m
 | .ls t::l,c::m=>(∃ v,c= .ls t v)/\H4 l m
 | _,_=>False
theorem QK {cs:List C} (h:H4 [] cs):cs= [] :=by cases cs with | nil=>rfl | cons=>exact h.elim
theorem aqO {k:IntKind} {l:List Kc} {cs:List C} (h:H4 (.i k::l) cs): ∃ n r,cs= .sc (.int k n)::r/\H4 l r:=by
 cases cs with
 | nil=>exact h.elim
 | cons c r=>obtain⟨⟨n,rfl⟩,h⟩:=h; exact⟨n,r,rfl,h⟩
theorem aqP {l:List Kc} {cs:List C} (h:H4 (.b::l) cs): ∃ n r,cs= .sc (.bool n)::r/\H4 l r:=by
 cases cs with
 | nil=>exact h.elim
 | cons c r=>obtain⟨⟨n,rfl⟩,h⟩:=h; exact⟨n,r,rfl,h⟩
theorem aqQ {l:List Kc} {cs:List C} (h:H4 (.s::l) cs): ∃ n r,cs= .sc (.string n)::r/\H4 l r:=by
 cases cs with
 | nil=>exact h.elim
 | cons c r=>obtain⟨⟨n,rfl⟩,h⟩:=h; exact⟨n,r,rfl,h⟩
theorem aqR {t:Ty} {l:List Kc} {cs:List C} (h:H4 (.ls t::l) cs): ∃ n r,cs= .ls t n::r/\H4 l r:=by
 cases cs with
 | nil=>exact h.elim
 | cons c r=>obtain⟨⟨n,rfl⟩,h⟩:=h; exact⟨n,r,rfl,h⟩
theorem adC (t:Ty) {cs:List C} (h:H4 t.kc cs): ∃ x,t.flat x=cs:=by
 have : (t.unflat cs).isSome=true:=by
  cases t with
  | st n=>
    cases n
    all_goals
     repeat ((first | replace h:=aqO h | replace h:=aqP h | replace h:=aqR h | replace h:=aqQ h); obtain⟨_,_,rfl,h⟩:=h)
     cases QK h;rfl
  | i k=>replace h:=aqO h; obtain⟨_,_,rfl,h⟩:=h; cases QK h; simp [Ty.unflat,gI,gN]
  | b=>replace h:=aqP h; obtain⟨_,_,rfl,h⟩:=h; cases QK h; rfl
  | s=>replace h:=aqQ h; obtain⟨_,_,rfl,h⟩:=h; cases QK h; rfl
  | ls u=>replace h:=aqR h; obtain⟨_,_,rfl,h⟩:=h; cases QK h; simp [Ty.unflat,gL,gN]
 obtain⟨x,hx⟩:=bE.1 this;exact⟨x,t.unflat_some _ _ hx⟩
inductive T.bd:T->Prop where
 | int {k:IntKind} {n:Int} (h:k.min<=n/\n<=k.max):T.bd (.sc (.int k n))
 | bool (v:Bool):T.bd (.sc (.bool v))
 | str (v:ByteArray):T.bd (.sc (.string v))
 | sl {sz:Nat} {rows:List (List T)} (hl:rows.length<=maxLen) (h: ∀ r∈rows,∀ x∈r,T.bd x):T.bd (.sl sz rows)
def bdT (t:Ty) (x:t.D):Prop:= ∀ y∈t.row x,T.bd y
def aeI (P:Program) (e:TypeId->List Kc->Bool):List Field->Nat->List Kc->Bool
 | [],_,[] =>true
 | [],_,_::_=>false
 | f::fs,off,ks=>Nat.beq f.offset off&&Nat.ble (P.cellsOf f.type) ks.length&&e f.type (ks.take (P.cellsOf f.type))&&aeI P e fs (off+P.cellsOf f.type) (ks.drop (P.cellsOf f.type))
def Vw (P:Program) (Θ:Du):Nat->TypeId->List Kc->Bool
 | 0,_,_=>false
 | d+1,t,ks=>match P.underlying t with
   | some (.int k)=>decide (ks= [.i k])
   | some .bool=>decide (ks= [.b])
   | some (.slice e)=>(match yX Θ e with
     | some ti=>decide (ks= [.ls ti.ty])&&Vw P Θ d e ti.ty.kc&&Nat.beq (P.cellsOf e) ti.ty.width&&Nat.blt 0 ti.ty.width
     | none=>false)
   | some (.struct fs)=>aeI P (Vw P Θ d) fs.toList 0 ks&&Nat.beq (P.cellsOf t) ks.length
   | _=>false
theorem ahE: ∀ {k l:List Kc} {cs ds:List C},H4 k cs->H4 l ds->H4 (k++l) (cs++ds)
 | [],l,[],ds,_,h=>h
 | [],_,_::_,_,h,_=>h.elim
 | a::k,_,[],_,h,_=>by cases a <;> exact h.elim
 | a::k,l,c::cs,ds,h,h2=>by cases a <;> exact⟨h.1,ahE h.2 h2⟩
theorem Vx: ∀ {k:List Kc} {cs:List C},H4 k cs->cs.length=k.length
 | [],[],_=>rfl
 | [],_::_,h=>h.elim
 | a::k,[],h=>by cases a <;> exact h.elim
 | a::k,c::cs,h=>by cases a <;> simp [Vx h.2]
section
variable {H:Type} {enc:TypeId×Value->H} {P:Program} {w:World} {base:Nat} {sp:Nat->Bool} {held:Bool} {Θ:Du}
structure Cs (w:World) (cs:List Value) (Xs:List C):Prop where
 len:Xs.length=cs.length
 one: ∀ u∈cs,u.oneCell'=true
 ro: ∀ (k:Nat) (c:C) (u:Value),Xs[k]? =some c->cs[k]? =some u->RO w (fun b=>b < w.heap.size) c.tree u
 bd: ∀ c∈Xs,T.bd c.tree
theorem Cs.nil:Cs w [] [] :=⟨rfl,fun _ h=>(by cases h),fun _ _ _ h=>(by cases h),fun _ h=>(by cases h)⟩
theorem Cs.one_mk {u:Value} {c:C} (h1:u.oneCell'=true) (h2:RO w (fun b=>b < w.heap.size) c.tree u) (h3:T.bd c.tree):Cs w [u] [c] :=by
 refine⟨rfl,fun v hv=> ?_,fun k c' u' hk hu=> ?_,fun c' hc=> ?_⟩
 ·rw [aD.1 hv]; exact h1
 ·cases k with
  | zero=>cases hk; cases hu; exact h2
  | succ k=>simp at hk
 ·rw [aD.1 hc]; exact h3
theorem Cs.app {cs ds:List Value} {Xs Ys:List C} (h:Cs w cs Xs) (k:Cs w ds Ys):Cs w (cs++ds) (Xs++Ys):=by
 refine⟨by rw [bk,bk,h.len,k.len],fun u hu=> ?_,fun j c u hj hu=> ?_,fun c hc=> ?_⟩
 ·rcases bu.1 hu with hu | hu
  ·exact h.one u hu
  ·exact k.one u hu
 ·by_cases hlt:j < Xs.length
  ·rw [aP hlt] at hj;rw [aP (by rw [<-h.len]; exact hlt)] at hu;exact h.ro j c u hj hu
  ·rw [aW (by omega)] at hj;rw [aW (by rw [<-h.len]; omega),<-h.len] at hu;exact k.ro _ c u hj hu
 ·rcases bu.1 hc with hc | hc
  ·exact h.bd c hc
  ·exact k.bd c hc
theorem aeJ (hΘ:mu P Θ): ∀ (d:Nat) {t:TypeId} {ks:List Kc} {n:Nat} {cs:List Value} {y:DataW H×List MemPlace},Vw P Θ d t ks=true->DataW.trod enc P w base sp held n t cs=some y-> ∃ Xs:List C,H4 ks Xs/\Cs w cs Xs
 | 0,t,ks,n,cs,y,hb,_=>by cases hb
 | d+1,t,ks,n,cs,y,hb,h=>by
   unfold Vw at hb;split at hb
   ·rename_i k hu;have:=of_decide_eq_true hb;subst this;obtain⟨v,rfl,_,hw⟩:=DataW.trod_int hu h;simp only [Lit.wf,ax,decide_eq_true_eq] at hw;exact⟨[.sc (.int k v)],⟨⟨v,rfl⟩,trivial⟩,Cs.one_mk rfl (.sc rfl) (.int hw)⟩
   ·rename_i hu;have:=of_decide_eq_true hb;subst this;obtain⟨v,rfl,_⟩:=DataW.trod_bool hu h;exact⟨[.sc (.bool v)],⟨⟨v,rfl⟩,trivial⟩,Cs.one_mk rfl (.sc rfl) (.bool v)⟩
   ·rename_i e hu;split at hb
    ·rename_i ti hti;simp only [ax,decide_eq_true_eq] at hb;obtain⟨⟨⟨rfl,hb⟩,hw⟩,hpos⟩:=hb;have hw:=ay hw;have hpos:0 < ti.ty.width:=aF hpos;rcases Go.Deep.open_slice hu h with ⟨rfl,_⟩ | ⟨ad,len,cap,m,n',D,Pl,rfl,_,hl,hm,hmm,_,hx⟩
     ·exact⟨[.ls ti.ty []],⟨⟨[],rfl⟩,trivial⟩,Cs.one_mk rfl (.em _ _ _) (.sl (aK _) fun r hr=>by cases hr)⟩
     ·have hlm:len<=m:=by rw [hmm]; split <;> omega
      have each: ∀ i:Fin len,∃ z:ti.ty.D,∃ cs',w.cells? base (ad.add (i.1*P.cellsOf e)) (P.cellsOf e)=some cs'/\Cs w cs' (ti.ty.flat z):=by
       intro i;obtain⟨cs',h1,h2⟩:=hx i.1 (by have:=i.2; omega);obtain⟨Xs,h3,h4⟩:=aeJ hΘ d hb h2;obtain⟨z,rfl⟩:=adC _ h3;exact⟨z,cs',h1,h4⟩
      let l:List ti.ty.D:=List.ofFn fun i=>(each i).choose
      have hll:l.length=len:=by simp [l]
      have row: ∀ (i:Nat) (r:List T),(l.map ti.ty.row)[i]? =some r-> ∃ hi:i < len,∃ cs',w.cells? base (ad.add (i*P.cellsOf e)) (P.cellsOf e)=some cs'/\ ∃ z,r=(ti.ty.flat z).map C.tree/\Cs w cs' (ti.ty.flat z):=by
       intro i r hr;rw [ar,ap] at hr;obtain⟨z,hz,rfl⟩:=hr;obtain⟨h1,h2⟩:=aj.1 hz;have hi:i < len:=by rw [hll] at h1; exact h1
       refine⟨hi,(each ⟨i,hi⟩).choose_spec.choose,(each ⟨i,hi⟩).choose_spec.choose_spec.1,z,ti.ty.row_flat z,?_⟩;have e1:z=(each ⟨i,hi⟩).choose:=by rw [<-h2]; simp [l]
       rw [e1];exact (each ⟨i,hi⟩).choose_spec.choose_spec.2
      refine⟨[.ls ti.ty l],⟨⟨l,rfl⟩,trivial⟩,Cs.one_mk rfl ?_ ?_⟩
      ·show RO w _ (.sl ti.ty.width (l.map ti.ty.row)) _;by_cases h0:len=0
       ·have :l= [] :=cY.1 (by rw [hll,h0]);rw [this,h0];exact .em _ _ _
       ·have hlr: (l.map ti.ty.row).length=len:=by rw [aJ,hll]
        have hlen: ∀ (i:Nat) (r:List T),(l.map ti.ty.row)[i]? =some r->r.length=ti.ty.width:=by
         intro i r hr;obtain⟨hi,cs',h1,z,rfl,h2⟩:=row i r hr;obtain⟨_,h3,_⟩:=World.cells?_some h1;rw [aJ,h2.len,h3,hw]
        have hcell: ∀ (i:Nat) (r:List T) (j:Nat) (x:T),(l.map ti.ty.row)[i]? =some r->r[j]? =some x-> ∃ u,w.cell? (ad.add (i*ti.ty.width+j))=some u/\RO w (fun b=>b < w.heap.size) x u:=by
         intro i r j x hr hx;obtain⟨hi,cs',h1,z,rfl,h2⟩:=row i r hr;obtain⟨_,h3,h4⟩:=World.cells?_some h1;rw [ar,ap] at hx;obtain⟨c,hc,rfl⟩:=hx;have hj:j < cs'.length:=by rw [<-h2.len]; exact (aj.1 hc).1
         refine⟨cs'[j],?_,h2.ro j c _ hc (ai hj)⟩;rw [<-Go.Deep.add_add,<-hw,h4 j (by omega),ai hj]
        have hne: ∃ u,w.cell? ad=some u:=by
         obtain⟨r,hr⟩: ∃ r,(l.map ti.ty.row)[0]? =some r:=⟨_,ai (by omega)⟩
         have h5:=hlen 0 r hr;obtain⟨x,hx⟩: ∃ x,r[0]? =some x:=⟨_,ai (by omega)⟩
         obtain⟨u,hu',_⟩:=hcell 0 r 0 x hr hx;simp only [cB,aY,Addr.add,if_true] at hu';exact⟨u,hu'⟩
        obtain⟨u0,hu0⟩:=hne;rw [<-hlr];refine .sl (fun i j=>((w.cell? (ad.add (i*ti.ty.width+j))).getD undef)) (by omega) ?_ (World.block_lt_of_cell? w _ hu0) hlen ?_ ?_
        ·cases hsp:ad.spot with
         | none=>rfl
         | some s=>
           unfold World.cell? at hu0;rw [hsp] at hu0;split at hu0
           ·simp at hu0
           ·cases hu0
        ·intro i r j x hr hx;obtain⟨u,h1,_⟩:=hcell i r j x hr hx;rw [h1];rfl
        ·intro i r j x hr hx;obtain⟨u,h1,h2⟩:=hcell i r j x hr hx;rw [h1];exact h2
      ·refine .sl (by rw [aJ,hll]; unfold maxLen at hm ⊢; omega) fun r hr x hx=> ?_;obtain⟨i,hi⟩:=List.getElem?_of_mem hr;obtain⟨_,cs',_,z,rfl,h2⟩:=row i r hi;obtain⟨c,hc,rfl⟩:=aQ.1 hx;exact h2.bd c hc
    ·cases hb
   ·rename_i fs hu;simp only [ax] at hb;obtain⟨hb,hkl0⟩:=hb;have hkl0:=ay hkl0;obtain⟨xs,m,_,_,hl,hlen,hf⟩:=DataW.trod_struct hu h
    have fC: ∀ (gs:List Field) (off i0:Nat) (ks:List Kc),aeI P (Vw P Θ d) gs off ks=true->(∀ (i:Nat) (f:Field),gs[i]? =some f->fs[i0+i]? =some f)-> ∃ Xs:List C,H4 ks Xs/\Cs w ((cs.drop off).take ks.length) Xs/\off+ks.length<=max off cs.length:=by
     intro gs
     induction gs with
     | nil=>
       intro off i0 ks hk _;cases ks with
       | nil=>exact⟨[],trivial,by simpa using Cs.nil,by simp; omega⟩
       | cons=>cases hk
     | cons f gs ih=>
       intro off i0 ks hk hg;simp only [aeI,ax] at hk;obtain⟨⟨⟨ho,hle⟩,h1⟩,h2⟩:=hk;have ho:=ay ho;have hle:P.cellsOf f.type<=ks.length:=aF hle;have hfi:fs[i0]? =some f:=by have:=hg 0 f rfl; simpa using this
       have hi0:i0 < xs.length:=by rw [hlen]; exact (aU.1 hfi).1
       have h3:=hf i0 f hfi;rw [ai hi0,ho] at h3;obtain⟨Xs,k1,k2⟩:=aeJ hΘ d h1 h3;obtain⟨Ys,k3,k4,k5⟩:=ih (off+P.cellsOf f.type) (i0+1) _ h2 (fun i g hgi=>by have:=hg (i+1) g hgi; rw [show i0+1+i=i0+(i+1) by omega]; exact this);have hkl:=Vx k1;have hcl:=k2.len;rw [cm,cw,hkl,cm] at hcl;have hq:P.cellsOf f.type<=cs.length - off:=by omega
       refine⟨Xs++Ys,?_,?_,?_⟩
       ·have:=ahE k1 k3
        rwa [dc] at this
       ·have hsplit: (cs.drop off).take ks.length=((cs.drop off).take (P.cellsOf f.type))++((cs.drop (off+P.cellsOf f.type)).take (ks.drop (P.cellsOf f.type)).length):=by
         rw [cw,<-b6];have :ks.length=P.cellsOf f.type+(ks.length - P.cellsOf f.type):=by omega
         conv=>lhs; rw [this]
         exact List.take_add
        rw [hsplit];exact k2.app k4
       ·rw [cw] at k5;omega
    obtain⟨Xs,k1,k2,k3⟩:=fC fs.toList 0 0 ks hb (fun i f hi=>by rw [cy] at hi; simpa using hi);refine⟨Xs,k1,?_⟩
    have hfull: (cs.drop 0).take ks.length=cs:=by
     rw [bM];exact bi (by omega)
    rwa [hfull] at k2
   ·cases hb
end
end
section
open Go Go.ChangeShapes Go.WideShapes Go.RowKit
theorem Vy (t:Ty) (x:t.D):t.unflat (t.flat x)=some x:=by
 cases t with
 | st n=>cases n <;> rfl
 | i k=>simp [Ty.unflat,Ty.flat,gI,gN]
 | b=>rfl
 | s=>rfl
 | ls u=>simp [Ty.unflat,Ty.flat,gL,gN]
theorem aov (l:List C):aer (l.map Cl.c)=some l:=by
 induction l with
 | nil=>rfl
 | cons a l ih=>simp [aer,ih]
theorem ark {ρ:Type} (t:Ty) (x:t.D) (κ:t.D->Option ρ):un t (arg t x) κ=κ x:=by
 unfold arg;cases hag:t.ag with
 | true=>simp only [cond_true,un,hag,aov,Vy]
 | false=>
   simp only [cond_false];have h1: ∃ c,t.flat x= [c] :=by cases t <;> first | exact⟨_,rfl⟩ | (simp [Ty.ag] at hag)
   obtain⟨c,hc⟩:=h1;rw [hc];have:=Vy t x;rw [hc] at this;simp only [aX,cn,un,hag,cond_false,this]
theorem aqg {ρ:Type} (t:Ty) (x:t.D) (κ:t.D->Option ρ):unE t (arg t x) κ=κ x:=by
 rw [<-ark t x κ];cases t with
 | st n=>cases n <;> rfl
 | _=>rfl
theorem als {ρ:Type}: ∀ (l:List Ty) (x:H3.D (l.map .ty)) (κ:H3.D (l.map .ty)->Option ρ),Y0 (l.map .ty) (Da (l.map .ty) x) κ=κ x
 | [],x,κ=>rfl
 | t::l,x,κ=>by
   show (unP (.ty t) (arg t x.1) fun a=>Y0 (l.map .ty) (Da (l.map .ty) x.2) fun b=>κ (a,b))=κ x;show (unE t (arg t x.1) fun a=>Y0 (l.map .ty) (Da (l.map .ty) x.2) fun b=>κ (a,b))=κ x;rw [aqg,als l x.2];rfl
def bdP: (l:List Ty)->H3.D (l.map .ty)->Prop
 | [],_=>True
 | t::l,x=>bdT t x.1/\bdP l x.2
def aqh (P:Program) (Θ:Du) (t:TypeId) (τ:Ty):Bool:=Vw P Θ 9 t τ.kc&&(match yX Θ t with | some ti=>decide (ti.ty=τ) | none=>false)&&P.readableRec t&&Nat.blt t P.types.size
def Y1 (P:Program) (Θ:Du):List TypeId->List Ty->Bool
 | [],[] =>true
 | t::ts,τ::τs=>aqh P Θ t τ&&Y1 P Θ ts τs
 | _,_=>false
section
variable {H:Type} {enc:TypeId×Value->H} {P:Program} {W:World} {Θ:Du} {base:Nat}
theorem C.VR {c:C} {u:Value} {bt:Bt} (hA:bt.A=fun b=>b < W.heap.size) (h:RO W (fun b=>b < W.heap.size) c.tree u) (hg:c.good=true):En.VR W bt c.av u:=by
 cases c with
 | sc v=>
   cases h with
   | sc h=>exact .sc h
 | ls t l=>exact .ro (by rw [hA]; exact h)
theorem arl (hΘ:mu P Θ) {bt:Bt} (hA:bt.A=fun b=>b < W.heap.size) {t:TypeId} {τ:Ty} {v:Value} {d:DataW H} {p:List MemPlace} (hp:aqh P Θ t τ=true) (hv:Value.okWide P W .any base t v) (h:DataW.Trod enc P W 0 (fun _=>true) true t v d p):
  ∃ x:τ.D,VR W bt (arg τ x).av v/\bdT τ x:=by
 unfold aqh at hp;simp only [ax] at hp;obtain⟨⟨⟨h1,h2⟩,h3⟩,h4⟩:=hp;split at h2
 case h_2=>cases h2
 rename_i ti hti;have h2:=of_decide_eq_true h2;subst h2;have hok:=hΘ t ti hti;obtain⟨n,hn⟩:=h;obtain⟨Xs,k1,k2⟩:=aeJ hΘ 9 h1 hn;obtain⟨x,rfl⟩:=adC _ k1
 have bd:bdT ti.ty x:=by
  intro y hy;rw [Ty.row_flat] at hy;obtain⟨c,hc,rfl⟩:=aQ.1 hy;exact k2.bd c hc
 have good: ∀ c∈ti.ty.flat x,c.good=true:=by
  intro c hc;have:=k2.bd c hc;cases c with
  | sc v=>cases this <;> rfl
  | ls t l=>rfl
 refine⟨x,?_,bd⟩;have hag:=hok.ag;unfold arg;cases ha:ti.ty.ag with
 | true=>
   rw [ha] at hag
   have hst: ∃ fs,P.underlying t=some (.struct fs):=by
    have hpl:=hok.pl ha;unfold Vw at h1;split at h1
    ·rename_i hu; simp [agT,hu] at hag
    ·rename_i hu; simp [agT,hu] at hag
    ·rename_i hu; simp [agT,hu] at hag
    ·rename_i fs hu; exact⟨fs,hu⟩
    ·cases h1
   obtain⟨fs,hu⟩:=hst;obtain⟨us,rfl,_⟩:=okWide_struct hu hv;simp only [cond_true,V1.av];have : (Value.agg us)= .agg us.toList.toArray:=by simp
   rw [this];have hus: (Value.agg us).cells.toList=us.toList:=rfl;rw [hus] at k2;refine .agg (by simp [k2.len]) k2.one fun k c u hk hu=> ?_;simp only [bB,ar,ap] at hk;obtain⟨c',hc,rfl⟩:=hk;exact C.VR hA (k2.ro k c' u hc hu) (good c' (au hc))
 | false=>
   rw [ha] at hag
   have hcells:v.cells.toList= [v] :=by
    unfold Vw at h1;split at h1
    ·rename_i hu; obtain⟨_,rfl⟩:=okWide_int hu hv; rfl
    ·rename_i hu; obtain⟨_,rfl⟩:=okWide_bool hu hv; rfl
    ·rename_i hu; obtain⟨_,_,_,rfl⟩:=okWide_slice hu hv; rfl
    ·rename_i fs hu; simp [agT,hu] at hag
    ·cases h1
   rw [hcells] at k2;have hl:=k2.len;obtain⟨c,hc⟩:=List.length_eq_one_iff.1 hl;simp only [cond_false,hc,aX,cn,V1.av];exact C.VR hA (k2.ro 0 c v (by rw [hc]; rfl) rfl) (good c (by rw [hc]; exact aD.2 rfl))
theorem alu (hΘ:mu P Θ) {bt:Bt} (hA:bt.A=fun b=>b < W.heap.size): ∀ {ts:List TypeId} {τs:List Ty} {vs:List Value} {ds:List (DataW H)} {p:List MemPlace},Y1 P Θ ts τs=true->(∀ (j:Nat) t v,ts[j]? =some t->vs[j]? =some v->Value.okWide P W .any base t v)->DataW.TrodAll enc P W 0 (fun _=>true) true ts vs ds p->
  ∃ x:H3.D (τs.map .ty),vs.length=τs.length/\(∀ (k:Nat) (v:AV) (u:Value),((Da (τs.map .ty) x).map V1.av)[k]? =some v->vs[k]? =some u->VR W bt v u)/\bdP τs x
 | [],[],vs,ds,p,_,_,h=>by
   obtain⟨rfl,_,_⟩:=trodAll_nil h;exact⟨(),rfl,fun k v u hk hu=>(by cases hu),trivial⟩
 | t::ts,τ::τs,vs,ds,p,hb,hv,h=>by
   obtain⟨v,vs',d,ds',q,q',rfl,rfl,rfl,h1,h2⟩:=trodAll_cons h;unfold Y1 at hb;simp only [ax] at hb;obtain⟨x,k1,k2⟩:=arl hΘ hA hb.1 (hv 0 t v rfl rfl) h1;obtain⟨y,k3,k4,k5⟩:=alu hΘ hA hb.2 (fun j t' v' ht hv'=>hv (j+1) t' v' ht hv') h2;refine⟨(x,y),by simp [k3],fun k v' u hk hu=> ?_,k2,k5⟩;cases k with
   | zero=>
     have hk:some (arg τ x).av=some v':=hk;cases hk;cases hu;exact k1
   | succ k=>exact k4 k v' u hk hu
 | [],_::_,_,_,_,hb,_,_=>by cases hb
 | _::_,[],_,_,_,hb,_,_=>by cases hb
theorem NS {W':World} (hl:laidOutB P=true) (hb:Below W.heap.size W W'): ∀ {ts:List TypeId} {τs:List Ty} {vs:List Value} {ds:List (DataW H)} {p:List MemPlace},Y1 P Θ ts τs=true->DataW.TrodAll enc P W 0 (fun _=>true) true ts vs ds p->DataW.TrodAll enc P W' 0 (fun b=>decide (b < W.heap.size)) true ts vs ds p
 | [],[],vs,ds,p,_,h=>by
   obtain⟨rfl,rfl,rfl⟩:=trodAll_nil h;exact rfl
 | t::ts,τ::τs,vs,ds,p,hp,h=>by
   obtain⟨v,vs',d,ds',q,q',rfl,rfl,rfl,h1,h2⟩:=trodAll_cons h;unfold Y1 aqh at hp;simp only [ax] at hp;obtain⟨⟨⟨_,hr⟩,hs⟩,hrest⟩:=hp;refine trodAll_cons_mk (Below.trod hl hr (aF hs) h1 hb ?_) (NS hl hb hrest h2);intro x hx;obtain⟨m,hm⟩:=h1;exact DataW.trod_lt m _ _ _ hm x hx
 | [],_::_,_,_,_,hb,_=>by cases hb
 | _::_,[],_,_,_,hb,_=>by cases hb
theorem amd (hΘ:mu P Θ) {f:FuncId} {τs:List Ty} {G:H3.D (τs.map .ty)->Option (KH.D [.b])} (he:eh P f (eJ (τs.map .ty) [.b] G)) (hG: ∀ x,bdP τs x->G x=some (true,()))
  {ts:List TypeId} {vs:List Value} {ds:List (DataW H)} {p:List MemPlace} (hp:Y1 P Θ ts τs=true) (hv: ∀ (j:Nat) t v,ts[j]? =some t->vs[j]? =some v->Value.okWide P W .any base t v) (h:DataW.TrodAll enc P W 0 (fun _=>true) true ts vs ds p) (hk:Nat.blt f 1048576=true:=by rfl):
  Calls P f vs.toArray W fun e W'=>e= .returned (.bool true)/\Below W.heap.size W W':=by
 let bt:Bt:=⟨fun _=>0,fun _=>0,fun _=>0,0,0,fun b=>b < W.heap.size⟩
 obtain⟨x,h1,h2,h3⟩:=alu (bt:=bt) hΘ rfl hp hv h;have hg:=hG x h3
 obtain⟨res,out,k1,k2,k3⟩:=he (Da (τs.map .ty) x) (V×List gK) (fun v g=>some (v,g)) (.v (.cl (.c (.sc (.bool true)))),[]) (by
  unfold eJ;rw [als,hg];rfl)
 cases k3
 have:=k1.fn (aF hk) W (fun _=>False) bt vs (akX W bt fun b hb=>hb) (by
  rw [h1,aJ];clear h1 h2 h3 hg k1 hG he
  have : ∀ (l:List Ty) (x:H3.D (l.map .ty)),l.length=(Da (l.map .ty) x).length:=by
   intro l
   induction l with
   | nil=>intro x; rfl
   | cons t l ih=>intro x; show l.length+1=(Da (l.map .ty) x.2).length+1; rw [ih x.2]
  exact this τs x) h2
 refine this.2.mono fun e W' hx=> ?_;obtain⟨v,btn,rfl,hI,_,_,hvr⟩:=hx;refine⟨?_,Qt hI⟩;cases hvr with
 | sc=>rfl
end
end
section
open Go
section
variable {α β σ ε:Type}
theorem mU {B:σ->Option (σ⊕ε)} (l:List α) (mk:Nat->β->σ) (J:Nat->β->Prop) (g:Nat->List α->β->ε)
  (hn: ∀ b,J l.length b->B (mk l.length b)=some (.inr (g l.length [] b)))
  (hc: ∀ k b x,l[k]? =some x->J k b->(∃ b',B (mk k b)=some (.inl (mk (k+1) b'))/\J (k+1) b'/\g k (x::l.drop (k+1)) b=g (k+1) (l.drop (k+1)) b')\/B (mk k b)=some (.inr (g k (x::l.drop (k+1)) b))):
  ∀ k b,k<=l.length->J k b->mw B (mk k b)=some (g k (l.drop k) b):=by
 intro k b hk hJ;generalize hn0:l.length - k=n
 induction n generalizing k b with
 | zero=>
   obtain rfl:k=l.length:=by omega
   rw [Lc,hn b hJ,List.drop_length];rfl
 | succ n ih=>
   have hlt:k < l.length:=by omega
   rw [bR hlt];rcases hc k b l[k] (ai hlt) hJ with ⟨b',h1,h2,h3⟩ | h1
   ·rw [Lc,h1,h3];exact ih (k+1) b' (by omega) h2 (by omega)
   ·rw [Lc,h1];rfl
theorem E4 {B:σ->Option (σ⊕ε)} (I:σ->Prop) (μ:σ->Nat) (E:ε->Prop)
  (h: ∀ s,I s->(∃ s',B s=some (.inl s')/\I s'/\μ s' < μ s)\/ ∃ e,B s=some (.inr e)/\E e) {s:σ} (hs:I s): ∃ e,mw B s=some e/\E e:=by
 generalize hn:μ s=n
 induction n using Nat.strongRecOn generalizing s with
 | _ n ih=>
   rcases h s hs with ⟨s',h1,h2,h3⟩ | ⟨e,h1,h2⟩
   ·rw [Lc,h1];exact ih (μ s') (by omega) h2 rfl
   ·exact⟨e,by rw [Lc,h1]; rfl,h2⟩
theorem ew (x y:α):br true x y=x:=rfl
theorem fA (x y:α):br false x y=y:=rfl
theorem aow (b:Bool) (x y:α):br b x y=if b=true then x else y:=by cases b <;> rfl
theorem ec (p:Prop) [Decidable p] (x y:α):br (decide p) x y=if p then x else y:=by unfold br; by_cases h:p <;> simp [h]
theorem jT {p:Prop} [Decidable p] (h:p) (x y:α):eg p x y=x:=if_pos h
theorem ez (p:Prop) [Decidable p] (x y:α):eg p x y=if p then x else y:=rfl
end
theorem iY {n:Int} (h1: -9223372036854775808<=n) (h2:n < 9223372036854775808):IntKind.wrap .i64 n=n:=by
 simp only [IntKind.wrap,IntKind.bits,IntKind.signed,Bool.true_and];split
 ·rename_i h;have h:=of_decide_eq_true h;omega
 ·rename_i h;have h: ¬ (n % 2 ^ 64≥2 ^ (64 - 1)):=fun hh=>h (decide_eq_true hh);omega
theorem nG {α:Type} {l:List α} {k:Nat} {x:α} (h:l[k]? =some x):k < l.length:=(aj.1 h).1
theorem Ld {t:Ty} {l:List t.D} (h:bdT (.ls t) l):l.length<=maxLen:=by
 have:=h (.sl t.width (l.map t.row)) (aD.2 rfl);cases this with
 | sl hl _=>simpa using hl
theorem aox {t:Ty} {l:List t.D} (h:bdT (.ls t) l) {x:t.D} (hx:x∈l):bdT t x:=by
 have:=h (.sl t.width (l.map t.row)) (aD.2 rfl);cases this with
 | sl _ h=>exact h (t.row x) (aQ.2 ⟨x,hx,rfl⟩)
theorem Dv {α:Type} {l:List α} {k:Nat} (y:α) (h:k < l.length): (l.set k y).take (k+1)=l.take k++ [y] :=by
 rw [bD,List.getElem?_set_self h];simp [List.take_set_of_le]
theorem aeK {α ρ:Type} (l:List α) (n:Nat) (κ:List α×Unit->Option ρ):anC l (amb (κ ([],())) (eg ((([]:List α)++l).length*n<=2 ^ 40) (κ (([]:List α)++l,())) none) none) (eg ((([]:List α)++l).length*n<=2 ^ 40) (κ (([]:List α)++l,())) none)=(eg (l.length*n<=2 ^ 40) (some (l,())) none).bind κ:=by
 cases l with
 | nil=>
   have :eg ((([]:List α)++ []).length*n<=2 ^ 40) (κ (([]:List α)++ [],())) none=κ ([],()):=by
    unfold eg;rw [if_pos (by simp)];rfl
   rw [this];show amb _ _ _=_;rw [an5];unfold eg;rw [if_pos (by simp)];rfl
 | cons x l=>
   show eg _ _ _=_;simp only [bq];unfold eg;split <;> rfl
end
section
open Go
section
variable {σ ε σ1 ε1 σ2 ε2 α β:Type}
theorem kF {B:σ->Option (σ⊕ε)} {s:σ} {e:ε} (h:B s=some (.inr e)):mw B s=some e:=by rw [Lc,h]; rfl
theorem rd {B:σ->Option (σ⊕ε)} {s s':σ} (h:B s=some (.inl s')):mw B s=mw B s':=by rw [Lc,h]; rfl
theorem ug {B1:σ1->Option (σ1⊕ε1)} {B2:σ2->Option (σ2⊕ε2)} (n:Nat) (m1:Nat->σ1) (m2:Nat->σ2) (t1:ε1) (t2:ε2) (f1:Nat->ε1) (f2:Nat->ε2) (P Q:Nat->Prop)
  (h1:B1 (m1 n)=some (.inr t1)) (h2:B2 (m2 n)=some (.inr t2))
  (h: ∀ k,k < n->(B1 (m1 k)=some (.inl (m1 (k+1)))/\B2 (m2 k)=some (.inl (m2 (k+1)))/\P k)\/(B1 (m1 k)=some (.inr (f1 k))/\B2 (m2 k)=some (.inr (f2 k))/\Q k)):
  (mw B1 (m1 0)=some t1/\mw B2 (m2 0)=some t2/\ ∀ k,k < n->P k)\/ ∃ k,k < n/\mw B1 (m1 0)=some (f1 k)/\mw B2 (m2 0)=some (f2 k)/\Q k:=by
 have fC: ∀ d j,j+d=n->(mw B1 (m1 j)=some t1/\mw B2 (m2 j)=some t2/\ ∀ k,j<=k->k < n->P k)\/ ∃ k,k < n/\mw B1 (m1 j)=some (f1 k)/\mw B2 (m2 j)=some (f2 k)/\Q k:=by
  intro d
  induction d with
  | zero=>
    intro j hj;have :j=n:=by omega
    subst this;exact .inl ⟨kF h1,kF h2,fun k a b=>by omega⟩
  | succ d ih=>
    intro j hj;rcases h j (by omega) with ⟨g1,g2,g3⟩ | ⟨g1,g2,g3⟩
    ·rw [rd g1,rd g2];rcases ih (j+1) (by omega) with ⟨k1,k2,k3⟩ | k
     ·refine .inl ⟨k1,k2,fun k a b=> ?_⟩;rcases dR a with rfl | a
      ·exact g3
      ·exact k3 k a b
     ·exact .inr k
    ·exact .inr ⟨j,by omega,kF g1,kF g2,g3⟩
 rcases fC n 0 (by omega) with ⟨a,b,c⟩ | h
 ·exact .inl ⟨a,b,fun k hk=>c k (aK _) hk⟩
 ·exact .inr h
def NT (x y:Option (β×Unit)):Prop:= ∃ b,x=some (b,())/\y=some (b,())
theorem eB {n k:Nat} (hn:n<=maxLen) (hk:k < n):IntKind.wrap .i64 ((k:Int)+1)=((k+1:Nat):Int):=by
 unfold maxLen at hn;rw [iY (by omega) (by omega)];rfl
theorem vm {k:Nat} (hk:0 < k) (h:k<=maxLen):IntKind.wrap .i64 ((k:Int) - 1)=((k - 1:Nat):Int):=by
 unfold maxLen at h;rw [iY (by omega) (by omega)];omega
theorem ahF {α:Type} {F:List α->Option (List α×Unit)} {B: (List α×Unit×Int×Unit)×Unit×(List α×Unit)->Option (((List α×Unit×Int×Unit)×Unit×(List α×Unit))⊕((Unit×Unit)×Unit×(List α×Unit)))} (f:α->Option (α×Unit)) (z:α) (n:Nat)
  (hF: ∀ l,F l=eg (0<=(l.length:Int)/\(l.length:Int)=(l.length:Int)/\(l.length:Int)*((n:Nat):Int)<=2 ^ 40) ((mw B ((l,(),0,()),(),(List.replicate (l.length:Int).toNat z,()))).bind fun e=>some (e.2.2.1,())) none)
  (hB: ∀ (l v:List α) (k:Int),B ((l,(),k,()),(),(v,()))=br (decide (k < (l.length:Int))) (eg (0<=k) ((l[k.toNat]?).bind fun x=>(f x).bind fun y=>eg (0<=k/\k < (v.length:Int)) ((v[k.toNat]?).bind fun _=>some (.inl ((l,(),IntKind.wrap .i64 (k+1),()),(),(v.set k.toNat y.1,())))) none) none) (some (.inr (((),()),(),(v,())))))
  (hn:n<=1048576) (l:List α) (hl:l.length<=1048576) (h: ∀ x∈l,f x=some (x,())):F l=some (l,()):=by
 have fC:=mU (B:=B) l (fun k (b:List α)=>((l,(),(k:Int),()),(),(b,()))) (fun _ b=>b.length=l.length) (fun k r b=>(((),()),(),(b.take k++r,())))
  (fun b hb=>by
    rw [hB,ec,if_neg (by omega),bG,bi (by omega)])
  (fun k b x hx hb=>by
    have hk:=nG hx;refine .inl ⟨b.set k x,?_,by simp [hb],?_⟩
    ·rw [hB,ec,if_pos (by omega),jT (by omega),aw,hx,ae,h x (au hx),ae,jT (by omega),ai (by omega),ae,eB (n:=l.length) (by unfold maxLen; omega) hk]
    ·rw [Dv _ (by omega)];simp)
  0 (List.replicate l.length z) (aK _) (dD)
 have hm: (l.length:Int)*((n:Nat):Int)<=2 ^ 40:=by
  have h1:l.length*n<=1048576*1048576:=Nat.mul_le_mul hl hn;have h2: ((l.length*n:Nat):Int)<=((1048576*1048576:Nat):Int):=by exact_mod_cast h1
  have h3: ((l.length*n:Nat):Int)=(l.length:Int)*(n:Int):=Int.natCast_mul _ _;have h4: ((1048576*1048576:Nat):Int)=2 ^ 40:=by decide
  omega
 rw [hF,jT ⟨by omega,rfl,hm⟩,aw];have fC:mw B ((l,(),0,()),(),(List.replicate l.length z,()))=some (((),()),(),(l,())):=by simpa using fC
 rw [fC];rfl
theorem Le {α:Type} {F:List α->List α->Option (Bool×Unit)} {B: (List α×List α×Int×Unit)×Unit×Unit->Option (((List α×List α×Int×Unit)×Unit×Unit)⊕(((Bool×Unit)×Unit×Unit)⊕((Unit×Unit)×Unit×Unit)))} (f:α->α->Option (Bool×Unit))
  (hF: ∀ a b,F a b=br (!((a.length:Int)==(b.length:Int))) (some (false,())) ((mw B ((a,b,0,()),(),())).bind fun e=>Sum.elim (fun e=>some (e.1.1,())) (fun _=>some (true,())) e))
  (hB: ∀ (a b:List α) (k:Int),B ((a,b,k,()),(),())=br (decide (k < (a.length:Int))) (eg (0<=k) ((a[k.toNat]?).bind fun x=>eg (0<=k) ((b[k.toNat]?).bind fun y=>(f x y).bind fun r=>br (!r.1) (some (.inr (.inl ((false,()),(),())))) (some (.inl ((a,b,IntKind.wrap .i64 (k+1),()),(),())))) none) none) (some (.inr (.inr (((),()),(),())))))
  (l:List α) (hl:l.length<=maxLen) (h: ∀ x∈l,f x x=some (true,())):F l l=some (true,()):=by
 have fC:=mU (B:=B) l (fun k (b:Unit)=>((l,l,(k:Int),()),(),())) (fun _ _=>True) (fun k r b=> .inr (((),()),(),()))
  (fun b hb=>by rw [hB,ec,if_neg (by omega)])
  (fun k b x hx hb=>by
    have hk:=nG hx;refine .inl ⟨(),?_,trivial,rfl⟩;rw [hB,ec,if_pos (by omega),jT (by omega),aw,hx,ae,jT (by omega),ae,h x (au hx),ae,eB hl hk];rfl)
  0 () (aK _) trivial
 rw [hF,aow,if_neg (by simp),show mw B ((l,l,0,()),(),())=_ from fC];rfl
def Wo (F:α->Int->Option (Int×Unit)) (bd sm:α->Prop):Prop:= ∀ x left,bd x->0<=left->left<=1048576-> ∃ n,F x left=some (n,())/\n<=left/\(0<=n->sm x)
theorem aeL {F:List α->Int->Option (Int×Unit)} (hF: ∀ l left,F l left=br (decide (IntKind.wrap .i64 (left - (l.length:Int)) < 0)) (some (-1,())) (some (IntKind.wrap .i64 (left - (l.length:Int)),()))):Wo F (fun l=>l.length<=maxLen) (fun l=>l.length<=1048576):=by
 intro l left hl h0 h1;unfold maxLen at hl;rw [hF,iY (by omega) (by omega),ec];split
 ·exact⟨_,rfl,by omega,fun h=>by omega⟩
 ·exact⟨_,rfl,by omega,fun h=>by omega⟩
theorem alv {F:List α->Int->Option (Int×Unit)} {B: (List α×Int×Int×Unit)×Unit×Unit->Option (((List α×Int×Int×Unit)×Unit×Unit)⊕(((Int×Int×Unit)×Unit×Unit)⊕((Int×Unit×Unit)×Unit×Unit)))} (f:α->Int->Option (Int×Unit)) {bd sm:α->Prop} (hf:Wo f bd sm)
  (hF: ∀ l left,F l left=br (decide (IntKind.wrap .i64 (left - (l.length:Int)) < 0)) (some (-1,())) ((mw B ((l,IntKind.wrap .i64 (left - (l.length:Int)),0,()),(),())).bind fun e=>Sum.elim (fun e=>some (e.1.2.1,())) (fun e=>some (e.1.1,())) e))
  (hB: ∀ (l:List α) (v k:Int),B ((l,v,k,()),(),())=br (decide (k < (l.length:Int))) (eg (0<=k) ((l[k.toNat]?).bind fun x=>(f x v).bind fun y=>br (decide (y.1 < 0)) (some (.inr (.inl ((y.1,-1,()),(),())))) (some (.inl ((l,y.1,IntKind.wrap .i64 (k+1),()),(),())))) none) (some (.inr (.inr ((v,(),()),(),()))))):
  Wo F (fun l=>l.length<=maxLen/\ ∀ x∈l,bd x) (fun l=>l.length<=1048576/\ ∀ x∈l,sm x):=by
 intro l left hl h0 h1;obtain⟨hl,hbd⟩:=hl;have hl':=hl;unfold maxLen at hl';rw [hF,iY (by omega) (by omega),ec];split
 ·exact⟨_,rfl,by omega,fun h=>by omega⟩
 ·rename_i hge
  have fC:=E4 (B:=B) (fun s=> ∃ (k:Nat) (v:Int),s=((l,v,(k:Int),()),(),())/\k<=l.length/\0<=v/\v<=left - (l.length:Int)/\ ∀ (j:Nat) x,j < k->l[j]? =some x->sm x) (fun s=>l.length - s.1.2.2.1.toNat)
   (fun e=>(∃ y,e= .inl ((y,-1,()),(),()))\/ ∃ v,e= .inr ((v,(),()),(),())/\v<=left - (l.length:Int)/\ ∀ x∈l,sm x)
   (fun s hs=>by
     obtain⟨k,v,rfl,hk,hv0,hv1,hsm⟩:=hs;rw [hB,ec];by_cases hlt:k < l.length
     ·rw [if_pos (by omega),jT (by omega),aw,ai hlt,ae];obtain⟨n,g1,g2,g3⟩:=hf l[k] v (hbd _ (bc _)) hv0 (by omega);rw [g1,ae,ec];split
      ·exact .inr ⟨_,rfl, .inl ⟨_,rfl⟩⟩
      ·refine .inl ⟨_,rfl,⟨k+1,n,by rw [eB hl hlt],by omega,by omega,by omega,fun j x hj hx=> ?_⟩,?_⟩
       ·rcases Nat.lt_succ_iff_lt_or_eq.1 hj with h | rfl
        ·exact hsm j x h hx
        ·rw [ai hlt] at hx;cases hx;exact g3 (by omega)
       ·simp only [eB hl hlt,aw];omega
     ·rw [if_neg (by omega)];refine .inr ⟨_,rfl, .inr ⟨v,rfl,hv1,fun x hx=> ?_⟩⟩;obtain⟨j,hj,he⟩:=aM hx;exact hsm j x (by omega) (by rw [ai hj,he]))
   (s:=((l,left - (l.length:Int),0,()),(),())) ⟨0,_,rfl,aK _,by omega,by omega,fun j x hj=>by omega⟩
  obtain⟨e,h2,h3⟩:=fC;rw [h2];rcases h3 with ⟨y,rfl⟩ | ⟨v,rfl,hv,hsm⟩
  ·exact⟨-1,rfl,by omega,fun h=>by omega⟩
  ·exact⟨v,rfl,by omega,fun h=>⟨by omega,hsm⟩⟩
end
end
end Go.Proofs.YtkcgfceffffmoaaGreat.En
