import Derived.Test.YtkcgfceffffmoaaGreatZX8
import Derived.ProofKit
import Derived.ChangeOld
import Derived.Deep.Slices
import Derived.OpenShut
import Derived.Below
import Derived.Carry
import Derived.WideShapes
namespace Go.Proofs.YtkcgfceffffmoaaGreat.En
open Go
section
variable {σ ε:Type}
def yF (B:σ→Option (σ⊕ε)):Nat→σ→Option ε
 | 0,_=>none
 | n+1,s=>(B s).bind (Sum.elim (yF B n) some)
theorem Bz (B:σ→Option (σ⊕ε)): ∀ {n m:Nat} {s:σ} {e:ε},n≤m→yF B n s=some e→yF B m s=some e
 | 0,_,_,_,_,h=>by cases h
 | n+1,0,_,_,hm,_=>by omega
 | n+1,m+1,s,e,hm,h=>by
   unfold yF at h ⊢
   cases hB:B s with
   | none=>rw [hB] at h; cases h
   | some x=>
     rw [hB] at h
     cases x with
     | inl s'=>exact Bz B (by omega) h
     | inr e'=>exact h
theorem Jf {p:Nat→Prop} (h: ∃ n,p n): ∃ n,p n∧ ∀ m,p m→n≤m:=by
 obtain⟨n,hn⟩:=h
 induction n using Nat.strongRecOn with
 | _ n ih=>
   by_cases hx: ∃ m,m < n∧p m
   ·obtain⟨m,hm,hp⟩:=hx
    exact ih m hm hp
   ·exact⟨n,hn,fun m hm=>Nat.le_of_not_lt fun hlt=>hx ⟨m,hlt,hm⟩⟩
noncomputable def jm (B:σ→Option (σ⊕ε)) (s:σ):Option ε:=open Classical in if h: ∃ n,(yF B n s).isSome=true then yF B (Classical.choose h) s else none
noncomputable def gH (B:σ→Option (σ⊕ε)) (s:σ):Nat:=open Classical in if h: ∃ n,(yF B n s).isSome=true then Classical.choose (Jf h) else 0
theorem vJ {B:σ→Option (σ⊕ε)} {s:σ} {e:ε}:jm B s=some e↔ ∃ n,yF B n s=some e:=by
 classical
 constructor
 ·intro h
  unfold jm at h
  split at h
  ·rename_i hx
   exact⟨_,h⟩
  ·cases h
 ·rintro⟨n,h⟩
  have hx: ∃ n,(yF B n s).isSome=true:=⟨n,by rw [h]; rfl⟩
  unfold jm
  rw [dif_pos hx]
  obtain⟨e',he⟩:=Option.isSome_iff_exists.1 (Classical.choose_spec hx)
  have h1:=Bz B (Nat.le_max_left (Classical.choose hx) n) he
  have h2:=Bz B (Nat.le_max_right (Classical.choose hx) n) h
  rw [h1] at h2
  cases h2
  exact he
theorem vK (B:σ→Option (σ⊕ε)) (s:σ):jm B s=(B s).bind (Sum.elim (jm B) some):=by
 apply Option.ext
 intro e
 rw [vJ]
 constructor
 ·rintro⟨n,h⟩
  cases n with
  | zero=>cases h
  | succ n=>
    unfold yF at h
    cases hB:B s with
    | none=>rw [hB] at h; cases h
    | some x=>
      rw [hB] at h
      cases x with
      | inl s'=>exact vJ.2 ⟨n,h⟩
      | inr e'=>exact h
 ·intro h
  cases hB:B s with
  | none=>rw [hB] at h; cases h
  | some x=>
    rw [hB] at h
    cases x with
    | inl s'=>
      obtain⟨n,h⟩:=vJ.1 (show jm B s'=some e from h)
      exact⟨n+1,by unfold yF; rw [hB]; exact h⟩
    | inr e'=>exact⟨1,by unfold yF; rw [hB]; exact h⟩
theorem aP (B:σ→Option (σ⊕ε)) (s:σ) (e:ε) (h:jm B s=some e):Q2 (jm B) (gH B) s e (B s):=by
 classical
 have h0:=h
 rw [vK] at h
 cases hB:B s with
 | none=>rw [hB] at h; cases h
 | some x=>
   rw [hB] at h
   cases x with
   | inl s'=>
     refine⟨?_,h⟩
     have hx: ∃ n,(yF B n s).isSome=true:=by
      obtain⟨n,hn⟩:=vJ.1 h0
      exact⟨n,by rw [hn]; rfl⟩
     have hx': ∃ n,(yF B n s').isSome=true:=by
      obtain⟨n,hn⟩:=vJ.1 (show jm B s'=some e from h)
      exact⟨n,by rw [hn]; rfl⟩
     unfold gH
     rw [dif_pos hx,dif_pos hx']
     have:=(Classical.choose_spec (Jf hx)).1
     cases hn:Classical.choose (Jf hx) with
     | zero=>rw [hn] at this; cases this
     | succ n=>
       rw [hn] at this
       unfold yF at this
       rw [hB] at this
       exact Nat.lt_succ_of_le ((Classical.choose_spec (Jf hx')).2 n this)
   | inr e'=>exact (Option.some.inj h)
end
theorem co {α β γ δ:Type} (x:α⊕β) (f:α→Option γ) (g:β→Option γ) (h:γ→Option δ): (Sum.elim f g x).bind h=Sum.elim (fun a=>(f a).bind h) (fun a=>(g a).bind h) x:=by cases x <;> rfl
inductive GZ where
 | ty (t:Ty) | pr (t:Ty) | fc (g:Nat) | fn (g:Nat) (caps:List Ty) | nl
abbrev GZ.D:GZ→Type
 | .ty t=>t.D
 | .pr t=>t.D
 | .fc _=>Unit
 | .fn _ caps=>rV.D caps
 | .nl=>Unit
abbrev rr.D:List GZ→Type
 | [] =>Unit
 | p::l=>p.D×rr.D l
def Jg: (l:List Ty)→rV.D l→List Cl
 | [],_=> []
 | t::l,x=> .pro (t.flat x.1)::Jg l x.2
def GZ.v1: (p:GZ)→p.D→V1
 | .ty t,x=>K0 t x
 | .pr t,x=> .cl (.pro (t.flat x))
 | .fc g,_=> .cl (.c (.sc (.func (.func g) #[] #[])))
 | .fn g caps,x=> .fn g (Jg caps x)
 | .nl,_=> .cl .em
def oZ: (l:List GZ)→rr.D l→List V1
 | [],_=> []
 | p::l,x=>p.v1 x.1::oZ l x.2
def SS {ρ:Type} (t:Ty) (c:Cl) (κ:t.D→Option ρ):Option ρ:=match c with
 | .pro xs=>(match t.unflat xs with | some x=>κ x | none=>none)
 | _=>none
def BA {ρ:Type}: (l:List Ty)→List Cl→(rV.D l→Option ρ)→Option ρ
 | [],[],κ=>κ ()
 | t::l,c::cs,κ=>SS t c fun x=>BA l cs fun y=>κ (x,y)
 | _,_,_=>none
def UU {ρ:Type}: (t:Ty)→V1→(t.D→Option ρ)→Option ρ
 | .ls _, .cl .em,κ=>κ []
 | t,a,κ=>un t a κ
def Vq {ρ:Type}: (p:GZ)→V1→(p.D→Option ρ)→Option ρ
 | .ty t,a,κ=>UU t a κ
 | .pr t, .cl c,κ=>SS t c κ
 | .fc g, .cl (.c (.sc (.func (.func g') cs ts))),κ=>bif Nat.beq g' g&&Nat.beq cs.size 0&&Nat.beq ts.size 0 then κ () else none
 | .fn g caps, .fn g' cs,κ=>bif Nat.beq g' g then BA caps cs κ else none
 | .nl, .cl .em,κ=>κ ()
 | _,_,_=>none
def Dl {ρ:Type}: (l:List GZ)→List V1→(rr.D l→Option ρ)→Option ρ
 | [],[],κ=>κ ()
 | p::l,a::as,κ=>Vq p a fun x=>Dl l as fun y=>κ (x,y)
 | _,_,_=>none
def bV (ps:List GZ) (rs:List Ty) (G:rr.D ps→Option (rV.D rs)):bF:=fun args _ κ=>Dl ps args fun x=>(G x).bind fun y=>ret (aI rs y) κ
theorem H9 {ρ:Type} {t:Ty} {c:Cl} {κ:t.D→Option ρ} {r:ρ} (h:SS t c κ=some r): ∃ x,c= .pro (t.flat x)∧κ x=some r:=by
 unfold SS at h
 split at h
 ·split at h
  ·rename_i x hx
   exact⟨x,by rw [t.unflat_some _ _ hx],h⟩
  ·cases h
 ·cases h
theorem CJ {ρ:Type}: ∀ {l:List Ty} {cs:List Cl} {κ:rV.D l→Option ρ} {r:ρ},BA l cs κ=some r→ ∃ x,cs=Jg l x∧κ x=some r
 | [],[],κ,r,h=>⟨(),rfl,h⟩
 | t::l,c::cs,κ,r,h=>by
   unfold BA at h
   obtain⟨x,h1,h⟩:=H9 h
   obtain⟨y,h2,h⟩:=CJ h
   exact⟨(x,y),by rw [h1,h2]; rfl,h⟩
 | [],_::_,κ,r,h=>by simp [BA] at h
 | _::_,[],κ,r,h=>by simp [BA] at h
theorem Q6 {ρ:Type} {t:Ty} {a:V1} {κ:t.D→Option ρ} {r:ρ} (h:UU t a κ=some r): ∃ x,(a.av=(K0 t x).av∨(a.av= .em∧ ∃ s,(K0 t x).av= .ro s []))∧κ x=some r:=by
 unfold UU at h
 split at h
 ·exact⟨[], .inr ⟨rfl,_,rfl⟩,h⟩
 ·obtain⟨x,e,h'⟩:=un_some h
  exact⟨x, .inl (by rw [e]),h'⟩
theorem Q7 {ρ:Type} {p:GZ} {a:V1} {κ:p.D→Option ρ} {r:ρ} (h:Vq p a κ=some r): ∃ x,(a.av=(p.v1 x).av∨(a.av= .em∧ ∃ s,(p.v1 x).av= .ro s []))∧κ x=some r:=by
 unfold Vq at h
 split at h
 ·exact Q6 h
 ·obtain⟨x,h1,h⟩:=H9 h
  exact⟨x, .inl (by rw [h1]; rfl),h⟩
 ·obtain⟨h1,h⟩:=ap h
  simp only [Bool.and_eq_true] at h1
  obtain⟨⟨h1,h2⟩,h3⟩:=h1
  have h1:=Nat.eq_of_beq_eq_true h1
  have h2:=Array.eq_empty_of_size_eq_zero (Nat.eq_of_beq_eq_true h2)
  have h3:=Array.eq_empty_of_size_eq_zero (Nat.eq_of_beq_eq_true h3)
  exact⟨(), .inl (by rw [h1,h2,h3]; rfl),h⟩
 ·obtain⟨h1,h⟩:=ap h
  obtain⟨x,h2,h⟩:=CJ h
  exact⟨x, .inl (by rw [Nat.eq_of_beq_eq_true h1,h2]; rfl),h⟩
 ·exact⟨(), .inl rfl,h⟩
 ·cases h
theorem tw {ρ:Type}: ∀ {l:List GZ} {as:List V1} {κ:rr.D l→Option ρ} {r:ρ},Dl l as κ=some r→ ∃ x,Nd (as.map V1.av) ((oZ l x).map V1.av)∧κ x=some r
 | [],[],κ,r,h=>⟨(),Nd.refl _,h⟩
 | p::l,a::as,κ,r,h=>by
   unfold Dl at h
   obtain⟨x,h1,h⟩:=Q7 h
   obtain⟨y,h2,h⟩:=tw h
   exact⟨(x,y),Nd.cons h1 h2,h⟩
 | [],_::_,κ,r,h=>by simp [Dl] at h
 | _::_,[],κ,r,h=>by simp [Dl] at h
theorem Ia (G:List (Option bO)): ∀ (l:List Ty) (x:rV.D l),∀ c∈Jg l x,c.ok G
 | [],x,c,h=>by cases h
 | t::l,x,c,h=>by
   rcases List.mem_cons.1 h with rfl | h
   ·trivial
   ·exact Ia G l x.2 c h
theorem GZ.ok (p:GZ) (x:p.D): (p.v1 x).ok [] :=by
 cases p with
 | ty t=>exact T1 t x
 | pr t=>trivial
 | fc g=>trivial
 | fn g caps=>exact Ia [] caps x
 | nl=>trivial
theorem tz: ∀ (l:List GZ) (x:rr.D l),∀ a∈oZ l x,a.ok []
 | [],x,a,h=>by cases h
 | p::l,x,a,h=>by
   rcases List.mem_cons.1 h with rfl | h
   ·exact p.ok x.1
   ·exact tz l x.2 a h
theorem al {P:Program} {Θ:pI} {Y:zO} {Λ:pK} (hΘ:eo P Θ) (hY:ax P Y) (hm:P.follows .mixedOrders=true) {f:FuncId} {fn:Func} (hf:N0 P f=some fn) (hL: ∀ c,fn.body=some c→fb P Λ (eW c)) {ps:List GZ} {rs:List Ty} {G:rr.D ps→Option (rV.D rs)} (hk:Nat.blt f 1048576=true)
  (F:rr.D ps→Option (rV.D rs)) (hF: ∀ x,Vy Θ Y Λ fn (oZ ps x) (fun v g=>some (v,g))=(F x).bind fun y=>ret (aI rs y) (fun v g=>some (v,g))) (hG: ∀ x y,G x=some y→F x=some y):aH P f (bV ps rs G):=by
 intro args ρ κ r hr
 unfold bV at hr
 obtain⟨x,hn,hr2⟩:=tw hr
 obtain⟨y,h1,hr3⟩:=Option.bind_eq_some_iff.1 hr2
 exact⟨_,_, .of_fn (sO.norm hn (TX hΘ hY hm hf hL (tz ps x) (by rw [hF,hG x y h1]; rfl))) (Nat.le_of_ble_eq_true hk),Q5 _,hr3⟩
def Q8 (el:Ty) (ps:List GZ) (rs:List Ty) (G:List el.D→rr.D ps→Option (rV.D rs)):bF:=fun args _ κ=>match args with
 | .cl (.c (.ls t l))::as=>(match vE t el l with
   | some l=>Dl ps as fun x=>(G l x).bind fun y=>ret (aI rs y) κ
   | none=>none)
 | _=>none
def G0 {ρ:Type} (el:Ty) (rs:List Ty) (y:List el.D×rV.D rs) (κ:V→List bO→Option ρ):Option ρ:=κ (xg (xE 1 (aI rs y.2))) (⟨el,y.1,none⟩::xF (aI rs y.2))
def G1 (el:Ty) (ps:List GZ) (rs:List Ty) (G:List el.D→rr.D ps→Option (List el.D×rV.D rs)):bF:=fun args _ κ=>match args with
 | .cl (.c (.ls t l))::as=>(match vE t el l with
   | some l=>Dl ps as fun x=>(G l x).bind fun y=>G0 el rs y κ
   | none=>none)
 | _=>none
theorem Jh {P:Program} {Θ:pI} {Y:zO} {Λ:pK} (hΘ:eo P Θ) (hY:ax P Y) (hm:P.follows .mixedOrders=true) {f:FuncId} {fn:Func} (hf:N0 P f=some fn) (hL: ∀ c,fn.body=some c→fb P Λ (eW c)) {el:Ty} {ps:List GZ} {rs:List Ty} {G:List el.D→rr.D ps→Option (rV.D rs)}
  (F:List el.D→rr.D ps→Option (rV.D rs)) (hF: ∀ l x,Sb Θ Y Λ fn 0 el l (oZ ps x) (fun v g=>some (v,g))=(F l x).bind fun y=>ret (aI rs y) (fun v g=>some (v,g))) (hG: ∀ l x y,G l x=some y→F l x=some y):aH P (Bk f) (Q8 el ps rs G):=by
 intro args ρ κ r hr
 unfold Q8 at hr
 split at hr
 ·rename_i t l as
  split at hr
  ·rename_i l' hl
   obtain⟨e,hl⟩:=fJ hl
   subst e
   have hl:l=l':=hl
   subst hl
   obtain⟨x,hn,hr2⟩:=tw hr
   obtain⟨y,h1,hr3⟩:=Option.bind_eq_some_iff.1 hr2
   exact⟨_,_, .of_mv ⟨.ls _,l,_,rfl,nr.norm (Nd.cons (.inl rfl) hn) (Oh hΘ hY hm hf hL (Nat.zero_le 1) (tz ps x) (by rw [hF,hG l x y h1]; rfl))⟩,Q5 _,hr3⟩
  ·cases hr
 ·cases hr
theorem ST (el:Ty) (l:List el.D) (ys:List ((t:Ty)×t.D)): (xg (xE 1 ys)).ok ((⟨el,l,none⟩::xF ys).map some):=by
 have h:=zY ys [⟨el,l,none⟩]
 simp only [List.length_singleton,List.singleton_append] at h
 match xE 1 ys,h with
 | [],_=>exact fun x hx=>by cases hx
 | [v],h=>exact h v List.mem_cons_self
 | v::u::vs,h=>exact h
theorem sf {P:Program} {Θ:pI} {Y:zO} {Λ:pK} (hΘ:eo P Θ) (hY:ax P Y) (hm:P.follows .mixedOrders=true) {f:FuncId} {fn:Func} (hf:N0 P f=some fn) (hL: ∀ c,fn.body=some c→fb P Λ (eW c)) {el:Ty} {ps:List GZ} {rs:List Ty} {G:List el.D→rr.D ps→Option (List el.D×rV.D rs)} (hk:Nat.blt f 1048576=true)
  (F:List el.D→rr.D ps→Option (List el.D×rV.D rs)) (hF: ∀ l x,Sb Θ Y Λ fn 1 el l (oZ ps x) (fun v g=>some (v,g))=(F l x).bind fun y=>G0 el rs y (fun v g=>some (v,g))) (hG: ∀ l x y,G l x=some y→F l x=some y):aH P (mX f) (G1 el ps rs G):=by
 intro args ρ κ r hr
 unfold G1 at hr
 split at hr
 ·rename_i t l as
  split at hr
  ·rename_i l' hl
   obtain⟨e,hl⟩:=fJ hl
   subst e
   have hl:l=l':=hl
   subst hl
   obtain⟨x,hn,hr2⟩:=tw hr
   obtain⟨y,h1,hr3⟩:=Option.bind_eq_some_iff.1 hr2
   exact⟨_,_, .of_io ⟨.ls _,l,_,rfl,nr.norm (Nd.cons (.inl rfl) hn) (Oh hΘ hY hm hf hL (Nat.le_refl 1) (tz ps x) (by rw [hF,hG l x y h1]; rfl))⟩ (Nat.le_of_ble_eq_true hk),ST _ _ (aI rs y.2),hr3⟩
  ·cases hr
 ·cases hr
def SU {ρ:Type} (t:Ty) (rs:List Ty) (y:t.D×rV.D rs) (κ:V→List bO→Option ρ):Option ρ:=κ (xg (xE (nu (t.flat y.1)).length (aI rs y.2))) (nu (t.flat y.1)++xF (aI rs y.2))
def SW (t:Ty) (ps:List GZ) (rs:List Ty) (G:t.D→rr.D ps→Option (t.D×rV.D rs)):bF:=fun args _ κ=>match args with
 | a::as=>un t a fun x=>Dl ps as fun p=>(G x p).bind fun y=>SU t rs y κ
 | [] =>none
theorem Ot {P:Program} {Θ:pI} {Y:zO} {Λ:pK} (hΘ:eo P Θ) (hY:ax P Y) (hm:P.follows .mixedOrders=true) {f:FuncId} {fn:Func} (hf:N0 P f=some fn) (hL: ∀ c,fn.body=some c→fb P Λ (eW c)) {t:Ty} {ps:List GZ} {rs:List Ty} {G:t.D→rr.D ps→Option (t.D×rV.D rs)} (hk:Nat.blt f 1048576=true)
  (F:t.D→rr.D ps→Option (t.D×rV.D rs)) (hF: ∀ l x,TV Θ Y Λ fn t l (oZ ps x) (fun v g=>some (v,g))=(F l x).bind fun y=>SU t rs y (fun v g=>some (v,g))) (hG: ∀ l x y,G l x=some y→F l x=some y):aH P (mX f) (SW t ps rs G):=by
 intro args ρ κ r hr
 unfold SW at hr
 split at hr
 ·rename_i a as
  obtain⟨l,rfl,hr1⟩:=un_some hr
  obtain⟨x,hn,hr2⟩:=tw hr1
  obtain⟨y,h1,hr3⟩:=Option.bind_eq_some_iff.1 hr2
  refine⟨_,_, .of_io ⟨t,l,_,rfl,nr.norm (Nd.cons (.inl rfl) hn) (SH hΘ hY hm hf hL (tz ps x) (by rw [hF,hG l x y h1]; rfl))⟩ (Nat.le_of_ble_eq_true hk),?_,hr3⟩
  have h:=zY (aI rs y.2) (nu (t.flat y.1))
  match xE (nu (t.flat y.1)).length (aI rs y.2),h with
  | [],_=>exact fun x hx=>by cases hx
  | [v],h=>exact h v List.mem_cons_self
  | v::u::vs,h=>exact h
 ·cases hr
def cg (fn:Func):Code:=match fn.body with | some c=>c | none=> .skip
def cm (c:Code) (n:Nat):Code:=(pJ (eW c) n).getD .skip
theorem aM {P:Program} {Λ:pK} {fn:Func} {cs:List Code} (h:eW (cg fn)=cs) (H:fb P Λ cs) (c:Code) (hc:fn.body=some c):fb P Λ (eW c):=by
 have :cg fn=c:=by unfold cg; rw [hc]
 rw [←this,h]
 exact H
theorem dM {P:Program} {Λ:pK} {c:Code} {cs:List Code} (h:eW c=cs) (H:fb P Λ cs):fb P Λ (eW c):=by rw [h]; exact H
end Go.Proofs.YtkcgfceffffmoaaGreat.En
namespace Go.Proofs.YtkcgfceffffmoaaGreat.En
open Go
inductive Kc where | i (k:IntKind) | b | s | ls (t:Ty)
 deriving DecidableEq
def Q9:List (Option Ty)→List Value→List Kc
 | some t::l,_::m=> .ls t::Q9 l m
 | none::l, .int k _::m=> .i k::Q9 l m
 | none::l, .bool _::m=> .b::Q9 l m
 | none::l,_::m=> .s::Q9 l m
 | _,_=> []
def Ty.kc (t:Ty):List Kc:=Q9 t.csh t.zvs
def tA:List Kc→List C→Prop
 | [],[] =>True
 | .i k::l,c::m=>(∃ n,c= .sc (.int k n))∧tA l m
 | .b::l,c::m=>(∃ v,c= .sc (.bool v))∧tA l m
 | .s::l,c::m=>(∃ v,c= .sc (.string v))∧tA l m
 | .ls t::l,c::m=>(∃ v,c= .ls t v)∧tA l m
 | _,_=>False
theorem zZ {cs:List C} (h:tA [] cs):cs= [] :=by cases cs with | nil=>rfl | cons=>exact h.elim
theorem Ts {k:IntKind} {l:List Kc} {cs:List C} (h:tA (.i k::l) cs): ∃ n r,cs= .sc (.int k n)::r∧tA l r:=by
 cases cs with
 | nil=>exact h.elim
 | cons c r=>obtain⟨⟨n,rfl⟩,h⟩:=h; exact⟨n,r,rfl,h⟩
theorem Tt {l:List Kc} {cs:List C} (h:tA (.b::l) cs): ∃ n r,cs= .sc (.bool n)::r∧tA l r:=by
 cases cs with
 | nil=>exact h.elim
 | cons c r=>obtain⟨⟨n,rfl⟩,h⟩:=h; exact⟨n,r,rfl,h⟩
theorem Tu {l:List Kc} {cs:List C} (h:tA (.s::l) cs): ∃ n r,cs= .sc (.string n)::r∧tA l r:=by
 cases cs with
 | nil=>exact h.elim
 | cons c r=>obtain⟨⟨n,rfl⟩,h⟩:=h; exact⟨n,r,rfl,h⟩
theorem Tv {t:Ty} {l:List Kc} {cs:List C} (h:tA (.ls t::l) cs): ∃ n r,cs= .ls t n::r∧tA l r:=by
 cases cs with
 | nil=>exact h.elim
 | cons c r=>obtain⟨⟨n,rfl⟩,h⟩:=h; exact⟨n,r,rfl,h⟩
theorem Ib (t:Ty) {cs:List C} (h:tA t.kc cs): ∃ x,t.flat x=cs:=by
 have : (t.unflat cs).isSome=true:=by
  cases t with
  | st n=>
    cases n
    all_goals
     repeat ((first | replace h:=Ts h | replace h:=Tt h | replace h:=Tv h | replace h:=Tu h); obtain⟨_,_,rfl,h⟩:=h)
     cases zZ h
     rfl
  | i k=>replace h:=Ts h; obtain⟨_,_,rfl,h⟩:=h; cases zZ h; simp [Ty.unflat,gI,gN]
  | b=>replace h:=Tt h; obtain⟨_,_,rfl,h⟩:=h; cases zZ h; rfl
  | s=>replace h:=Tu h; obtain⟨_,_,rfl,h⟩:=h; cases zZ h; rfl
  | ls u=>replace h:=Tv h; obtain⟨_,_,rfl,h⟩:=h; cases zZ h; simp [Ty.unflat,gL,gN]
 obtain⟨x,hx⟩:=Option.isSome_iff_exists.1 this
 exact⟨x,t.unflat_some _ _ hx⟩
inductive T.bd:T→Prop where
 | int {k:IntKind} {n:Int} (h:k.min≤n∧n≤k.max):T.bd (.sc (.int k n))
 | bool (v:Bool):T.bd (.sc (.bool v))
 | str (v:ByteArray):T.bd (.sc (.string v))
 | sl {sz:Nat} {rows:List (List T)} (hl:rows.length≤maxLen) (h: ∀ r∈rows,∀ x∈r,T.bd x):T.bd (.sl sz rows)
def Nf (t:Ty) (x:t.D):Prop:= ∀ y∈t.row x,T.bd y
def Ji (P:Program) (e:TypeId→List Kc→Bool):List Field→Nat→List Kc→Bool
 | [],_,[] =>true
 | [],_,_::_=>false
 | f::fs,off,ks=>Nat.beq f.offset off&&Nat.ble (P.cellsOf f.type) ks.length&&e f.type (ks.take (P.cellsOf f.type))&&Ji P e fs (off+P.cellsOf f.type) (ks.drop (P.cellsOf f.type))
def CK (P:Program) (Θ:pI):Nat→TypeId→List Kc→Bool
 | 0,_,_=>false
 | d+1,t,ks=>match P.underlying t with
   | some (.int k)=>decide (ks= [.i k])
   | some .bool=>decide (ks= [.b])
   | some (.slice e)=>(match ns Θ e with
     | some ti=>decide (ks= [.ls ti.ty])&&CK P Θ d e ti.ty.kc&&Nat.beq (P.cellsOf e) ti.ty.width&&Nat.blt 0 ti.ty.width
     | none=>false)
   | some (.struct fs)=>Ji P (CK P Θ d) fs.toList 0 ks&&Nat.beq (P.cellsOf t) ks.length
   | _=>false
theorem Lo: ∀ {k l:List Kc} {cs ds:List C},tA k cs→tA l ds→tA (k++l) (cs++ds)
 | [],l,[],ds,_,h=>h
 | [],_,_::_,_,h,_=>h.elim
 | a::k,_,[],_,h,_=>by cases a <;> exact h.elim
 | a::k,l,c::cs,ds,h,h2=>by cases a <;> exact⟨h.1,Lo h.2 h2⟩
theorem CL: ∀ {k:List Kc} {cs:List C},tA k cs→cs.length=k.length
 | [],[],_=>rfl
 | [],_::_,h=>h.elim
 | a::k,[],h=>by cases a <;> exact h.elim
 | a::k,c::cs,h=>by cases a <;> simp [CL h.2]
section
variable {H:Type} {enc:TypeId×Value→H} {P:Program} {w:World} {base:Nat} {sp:Nat→Bool} {held:Bool} {Θ:pI}
structure Cs (w:World) (cs:List Value) (Xs:List C):Prop where
 len:Xs.length=cs.length
 one: ∀ u∈cs,u.oneCell'=true
 ro: ∀ (k:Nat) (c:C) (u:Value),Xs[k]? =some c→cs[k]? =some u→RO w (fun b=>b < w.heap.size) c.tree u
 bd: ∀ c∈Xs,T.bd c.tree
theorem Cs.nil:Cs w [] [] :=⟨rfl,fun _ h=>(by cases h),fun _ _ _ h=>(by cases h),fun _ h=>(by cases h)⟩
theorem Cs.one_mk {u:Value} {c:C} (h1:u.oneCell'=true) (h2:RO w (fun b=>b < w.heap.size) c.tree u) (h3:T.bd c.tree):Cs w [u] [c] :=by
 refine⟨rfl,fun v hv=> ?_,fun k c' u' hk hu=> ?_,fun c' hc=> ?_⟩
 ·rw [List.mem_singleton.1 hv]; exact h1
 ·cases k with
  | zero=>cases hk; cases hu; exact h2
  | succ k=>simp at hk
 ·rw [List.mem_singleton.1 hc]; exact h3
theorem Cs.app {cs ds:List Value} {Xs Ys:List C} (h:Cs w cs Xs) (k:Cs w ds Ys):Cs w (cs++ds) (Xs++Ys):=by
 refine⟨by rw [List.length_append,List.length_append,h.len,k.len],fun u hu=> ?_,fun j c u hj hu=> ?_,fun c hc=> ?_⟩
 ·rcases List.mem_append.1 hu with hu | hu
  ·exact h.one u hu
  ·exact k.one u hu
 ·by_cases hlt:j < Xs.length
  ·rw [List.getElem?_append_left hlt] at hj
   rw [List.getElem?_append_left (by rw [←h.len]; exact hlt)] at hu
   exact h.ro j c u hj hu
  ·rw [List.getElem?_append_right (by omega)] at hj
   rw [List.getElem?_append_right (by rw [←h.len]; omega),←h.len] at hu
   exact k.ro _ c u hj hu
 ·rcases List.mem_append.1 hc with hc | hc
  ·exact h.bd c hc
  ·exact k.bd c hc
theorem Jj (hΘ:eo P Θ): ∀ (d:Nat) {t:TypeId} {ks:List Kc} {n:Nat} {cs:List Value} {y:DataW H×List MemPlace},CK P Θ d t ks=true→DataW.trod enc P w base sp held n t cs=some y→ ∃ Xs:List C,tA ks Xs∧Cs w cs Xs
 | 0,t,ks,n,cs,y,hb,_=>by cases hb
 | d+1,t,ks,n,cs,y,hb,h=>by
   unfold CK at hb
   split at hb
   ·rename_i k hu
    have:=of_decide_eq_true hb
    subst this
    obtain⟨v,rfl,_,hw⟩:=DataW.trod_int hu h
    simp only [Lit.wf,Bool.and_eq_true,decide_eq_true_eq] at hw
    exact⟨[.sc (.int k v)],⟨⟨v,rfl⟩,trivial⟩,Cs.one_mk rfl (.sc rfl) (.int hw)⟩
   ·rename_i hu
    have:=of_decide_eq_true hb
    subst this
    obtain⟨v,rfl,_⟩:=DataW.trod_bool hu h
    exact⟨[.sc (.bool v)],⟨⟨v,rfl⟩,trivial⟩,Cs.one_mk rfl (.sc rfl) (.bool v)⟩
   ·rename_i e hu
    split at hb
    ·rename_i ti hti
     simp only [Bool.and_eq_true,decide_eq_true_eq] at hb
     obtain⟨⟨⟨rfl,hb⟩,hw⟩,hpos⟩:=hb
     have hw:=Nat.eq_of_beq_eq_true hw
     have hpos:0 < ti.ty.width:=Nat.le_of_ble_eq_true hpos
     rcases Go.Deep.open_slice hu h with ⟨rfl,_⟩ | ⟨ad,len,cap,m,n',D,Pl,rfl,_,hl,hm,hmm,_,hx⟩
     ·exact⟨[.ls ti.ty []],⟨⟨[],rfl⟩,trivial⟩,Cs.one_mk rfl (.em _ _ _) (.sl (Nat.zero_le _) fun r hr=>by cases hr)⟩
     ·have hlm:len≤m:=by rw [hmm]; split <;> omega
      have each: ∀ i:Fin len,∃ z:ti.ty.D,∃ cs',w.cells? base (ad.add (i.1*P.cellsOf e)) (P.cellsOf e)=some cs'∧Cs w cs' (ti.ty.flat z):=by
       intro i
       obtain⟨cs',h1,h2⟩:=hx i.1 (by have:=i.2; omega)
       obtain⟨Xs,h3,h4⟩:=Jj hΘ d hb h2
       obtain⟨z,rfl⟩:=Ib _ h3
       exact⟨z,cs',h1,h4⟩
      let l:List ti.ty.D:=List.ofFn fun i=>(each i).choose
      have hll:l.length=len:=by simp [l]
      have row: ∀ (i:Nat) (r:List T),(l.map ti.ty.row)[i]? =some r→ ∃ hi:i < len,∃ cs',w.cells? base (ad.add (i*P.cellsOf e)) (P.cellsOf e)=some cs'∧ ∃ z,r=(ti.ty.flat z).map C.tree∧Cs w cs' (ti.ty.flat z):=by
       intro i r hr
       rw [List.getElem?_map,Option.map_eq_some_iff] at hr
       obtain⟨z,hz,rfl⟩:=hr
       obtain⟨h1,h2⟩:=List.getElem?_eq_some_iff.1 hz
       have hi:i < len:=by rw [hll] at h1; exact h1
       refine⟨hi,(each ⟨i,hi⟩).choose_spec.choose,(each ⟨i,hi⟩).choose_spec.choose_spec.1,z,ti.ty.row_flat z,?_⟩
       have e1:z=(each ⟨i,hi⟩).choose:=by rw [←h2]; simp [l]
       rw [e1]
       exact (each ⟨i,hi⟩).choose_spec.choose_spec.2
      refine⟨[.ls ti.ty l],⟨⟨l,rfl⟩,trivial⟩,Cs.one_mk rfl ?_ ?_⟩
      ·show RO w _ (.sl ti.ty.width (l.map ti.ty.row)) _
       by_cases h0:len=0
       ·have :l= [] :=List.length_eq_zero_iff.1 (by rw [hll,h0])
        rw [this,h0]
        exact .em _ _ _
       ·have hlr: (l.map ti.ty.row).length=len:=by rw [List.length_map,hll]
        have hlen: ∀ (i:Nat) (r:List T),(l.map ti.ty.row)[i]? =some r→r.length=ti.ty.width:=by
         intro i r hr
         obtain⟨hi,cs',h1,z,rfl,h2⟩:=row i r hr
         obtain⟨_,h3,_⟩:=World.cells?_some h1
         rw [List.length_map,h2.len,h3,hw]
        have hcell: ∀ (i:Nat) (r:List T) (j:Nat) (x:T),(l.map ti.ty.row)[i]? =some r→r[j]? =some x→ ∃ u,w.cell? (ad.add (i*ti.ty.width+j))=some u∧RO w (fun b=>b < w.heap.size) x u:=by
         intro i r j x hr hx
         obtain⟨hi,cs',h1,z,rfl,h2⟩:=row i r hr
         obtain⟨_,h3,h4⟩:=World.cells?_some h1
         rw [List.getElem?_map,Option.map_eq_some_iff] at hx
         obtain⟨c,hc,rfl⟩:=hx
         have hj:j < cs'.length:=by rw [←h2.len]; exact (List.getElem?_eq_some_iff.1 hc).1
         refine⟨cs'[j],?_,h2.ro j c _ hc (List.getElem?_eq_getElem hj)⟩
         rw [←Go.Deep.add_add,←hw,h4 j (by omega),List.getElem?_eq_getElem hj]
        have hne: ∃ u,w.cell? ad=some u:=by
         obtain⟨r,hr⟩: ∃ r,(l.map ti.ty.row)[0]? =some r:=⟨_,List.getElem?_eq_getElem (by omega)⟩
         have h5:=hlen 0 r hr
         obtain⟨x,hx⟩: ∃ x,r[0]? =some x:=⟨_,List.getElem?_eq_getElem (by omega)⟩
         obtain⟨u,hu',_⟩:=hcell 0 r 0 x hr hx
         simp only [Nat.zero_mul,Nat.zero_add,Addr.add,if_true] at hu'
         exact⟨u,hu'⟩
        obtain⟨u0,hu0⟩:=hne
        rw [←hlr]
        refine .sl (fun i j=>((w.cell? (ad.add (i*ti.ty.width+j))).getD undef)) (by omega) ?_ (World.block_lt_of_cell? w _ hu0) hlen ?_ ?_
        ·cases hsp:ad.spot with
         | none=>rfl
         | some s=>
           unfold World.cell? at hu0
           rw [hsp] at hu0
           split at hu0
           ·simp at hu0
           ·cases hu0
        ·intro i r j x hr hx
         obtain⟨u,h1,_⟩:=hcell i r j x hr hx
         rw [h1]
         rfl
        ·intro i r j x hr hx
         obtain⟨u,h1,h2⟩:=hcell i r j x hr hx
         rw [h1]
         exact h2
      ·refine .sl (by rw [List.length_map,hll]; unfold maxLen at hm ⊢; omega) fun r hr x hx=> ?_
       obtain⟨i,hi⟩:=List.getElem?_of_mem hr
       obtain⟨_,cs',_,z,rfl,h2⟩:=row i r hi
       obtain⟨c,hc,rfl⟩:=List.mem_map.1 hx
       exact h2.bd c hc
    ·cases hb
   ·rename_i fs hu
    simp only [Bool.and_eq_true] at hb
    obtain⟨hb,hkl0⟩:=hb
    have hkl0:=Nat.eq_of_beq_eq_true hkl0
    obtain⟨xs,m,_,_,hl,hlen,hf⟩:=DataW.trod_struct hu h
    have b7: ∀ (gs:List Field) (off i0:Nat) (ks:List Kc),Ji P (CK P Θ d) gs off ks=true→(∀ (i:Nat) (f:Field),gs[i]? =some f→fs[i0+i]? =some f)→ ∃ Xs:List C,tA ks Xs∧Cs w ((cs.drop off).take ks.length) Xs∧off+ks.length≤max off cs.length:=by
     intro gs
     induction gs with
     | nil=>
       intro off i0 ks hk _
       cases ks with
       | nil=>exact⟨[],trivial,by simpa using Cs.nil,by simp; omega⟩
       | cons=>cases hk
     | cons f gs ih=>
       intro off i0 ks hk hg
       simp only [Ji,Bool.and_eq_true] at hk
       obtain⟨⟨⟨ho,hle⟩,h1⟩,h2⟩:=hk
       have ho:=Nat.eq_of_beq_eq_true ho
       have hle:P.cellsOf f.type≤ks.length:=Nat.le_of_ble_eq_true hle
       have hfi:fs[i0]? =some f:=by have:=hg 0 f rfl; simpa using this
       have hi0:i0 < xs.length:=by rw [hlen]; exact (Array.getElem?_eq_some_iff.1 hfi).1
       have h3:=hf i0 f hfi
       rw [List.getElem?_eq_getElem hi0,ho] at h3
       obtain⟨Xs,k1,k2⟩:=Jj hΘ d h1 h3
       obtain⟨Ys,k3,k4,k5⟩:=ih (off+P.cellsOf f.type) (i0+1) _ h2 (fun i g hgi=>by have:=hg (i+1) g hgi; rw [show i0+1+i=i0+(i+1) by omega]; exact this)
       have hkl:=CL k1
       have hcl:=k2.len
       rw [List.length_take,List.length_drop,hkl,List.length_take] at hcl
       have hq:P.cellsOf f.type≤cs.length - off:=by omega
       refine⟨Xs++Ys,?_,?_,?_⟩
       ·have:=Lo k1 k3
        rwa [List.take_append_drop] at this
       ·have hsplit: (cs.drop off).take ks.length=((cs.drop off).take (P.cellsOf f.type))++((cs.drop (off+P.cellsOf f.type)).take (ks.drop (P.cellsOf f.type)).length):=by
         rw [List.length_drop,←List.drop_drop]
         have :ks.length=P.cellsOf f.type+(ks.length - P.cellsOf f.type):=by omega
         conv=>lhs; rw [this]
         exact List.take_add
        rw [hsplit]
        exact k2.app k4
       ·rw [List.length_drop] at k5
        omega
    obtain⟨Xs,k1,k2,k3⟩:=b7 fs.toList 0 0 ks hb (fun i f hi=>by rw [Array.getElem?_toList] at hi; simpa using hi)
    refine⟨Xs,k1,?_⟩
    have hfull: (cs.drop 0).take ks.length=cs:=by
     rw [List.drop_zero]
     exact List.take_of_length_le (by omega)
    rwa [hfull] at k2
   ·cases hb
end
end Go.Proofs.YtkcgfceffffmoaaGreat.En
namespace Go.Proofs.YtkcgfceffffmoaaGreat.En
open Go Go.ChangeShapes Go.WideShapes Go.RowKit
theorem CM (t:Ty) (x:t.D):t.unflat (t.flat x)=some x:=by
 cases t with
 | st n=>cases n <;> rfl
 | i k=>simp [Ty.unflat,Ty.flat,gI,gN]
 | b=>rfl
 | s=>rfl
 | ls u=>simp [Ty.unflat,Ty.flat,gL,gN]
theorem Ra (l:List C):I2 (l.map Cl.c)=some l:=by
 induction l with
 | nil=>rfl
 | cons a l ih=>simp [I2,ih]
theorem T2 {ρ:Type} (t:Ty) (x:t.D) (κ:t.D→Option ρ):un t (K0 t x) κ=κ x:=by
 unfold K0
 cases hag:t.ag with
 | true=>simp only [cond_true,un,hag,Ra,CM]
 | false=>
   simp only [cond_false]
   have h1: ∃ c,t.flat x= [c] :=by cases t <;> first | exact⟨_,rfl⟩ | (simp [Ty.ag] at hag)
   obtain⟨c,hc⟩:=h1
   rw [hc]
   have:=CM t x
   rw [hc] at this
   simp only [List.map_cons,List.map_nil,un,hag,cond_false,this]
theorem SX {ρ:Type} (t:Ty) (x:t.D) (κ:t.D→Option ρ):UU t (K0 t x) κ=κ x:=by
 rw [←T2 t x κ]
 cases t with
 | st n=>cases n <;> rfl
 | _=>rfl
theorem Ou {ρ:Type}: ∀ (l:List Ty) (x:rr.D (l.map .ty)) (κ:rr.D (l.map .ty)→Option ρ),Dl (l.map .ty) (oZ (l.map .ty) x) κ=κ x
 | [],x,κ=>rfl
 | t::l,x,κ=>by
   show (Vq (.ty t) (K0 t x.1) fun a=>Dl (l.map .ty) (oZ (l.map .ty) x.2) fun b=>κ (a,b))=κ x
   show (UU t (K0 t x.1) fun a=>Dl (l.map .ty) (oZ (l.map .ty) x.2) fun b=>κ (a,b))=κ x
   rw [SX,Ou l x.2]
   rfl
def VB: (l:List Ty)→rr.D (l.map .ty)→Prop
 | [],_=>True
 | t::l,x=>Nf t x.1∧VB l x.2
def SY (P:Program) (Θ:pI) (t:TypeId) (τ:Ty):Bool:=CK P Θ 9 t τ.kc&&(match ns Θ t with | some ti=>decide (ti.ty=τ) | none=>false)&&P.readableRec t&&Nat.blt t P.types.size
def Fo (P:Program) (Θ:pI):List TypeId→List Ty→Bool
 | [],[] =>true
 | t::ts,τ::τs=>SY P Θ t τ&&Fo P Θ ts τs
 | _,_=>false
section
variable {H:Type} {enc:TypeId×Value→H} {P:Program} {W:World} {Θ:pI} {base:Nat}
theorem C.VR {c:C} {u:Value} {bt:Bt} (hA:bt.A=fun b=>b < W.heap.size) (h:RO W (fun b=>b < W.heap.size) c.tree u) (hg:c.good=true):En.VR W bt c.av u:=by
 cases c with
 | sc v=>
   cases h with
   | sc h=>exact .sc h
 | ls t l=>exact .ro (by rw [hA]; exact h)
theorem T3 (hΘ:eo P Θ) {bt:Bt} (hA:bt.A=fun b=>b < W.heap.size) {t:TypeId} {τ:Ty} {v:Value} {d:DataW H} {p:List MemPlace} (hp:SY P Θ t τ=true) (hv:Value.okWide P W .any base t v) (h:DataW.Trod enc P W 0 (fun _=>true) true t v d p):
  ∃ x:τ.D,VR W bt (K0 τ x).av v∧Nf τ x:=by
 unfold SY at hp
 simp only [Bool.and_eq_true] at hp
 obtain⟨⟨⟨h1,h2⟩,h3⟩,h4⟩:=hp
 split at h2
 case h_2=>cases h2
 rename_i ti hti
 have h2:=of_decide_eq_true h2
 subst h2
 have hok:=hΘ t ti hti
 obtain⟨n,hn⟩:=h
 obtain⟨Xs,k1,k2⟩:=Jj hΘ 9 h1 hn
 obtain⟨x,rfl⟩:=Ib _ k1
 have bd:Nf ti.ty x:=by
  intro y hy
  rw [Ty.row_flat] at hy
  obtain⟨c,hc,rfl⟩:=List.mem_map.1 hy
  exact k2.bd c hc
 have good: ∀ c∈ti.ty.flat x,c.good=true:=by
  intro c hc
  have:=k2.bd c hc
  cases c with
  | sc v=>cases this <;> rfl
  | ls t l=>rfl
 refine⟨x,?_,bd⟩
 have hag:=hok.ag
 unfold K0
 cases ha:ti.ty.ag with
 | true=>
   rw [ha] at hag
   have hst: ∃ fs,P.underlying t=some (.struct fs):=by
    have hpl:=hok.pl ha
    unfold CK at h1
    split at h1
    ·rename_i hu; simp [GH,hu] at hag
    ·rename_i hu; simp [GH,hu] at hag
    ·rename_i hu; simp [GH,hu] at hag
    ·rename_i fs hu; exact⟨fs,hu⟩
    ·cases h1
   obtain⟨fs,hu⟩:=hst
   obtain⟨us,rfl,_⟩:=okWide_struct hu hv
   simp only [cond_true,V1.av]
   have : (Value.agg us)= .agg us.toList.toArray:=by simp
   rw [this]
   have hus: (Value.agg us).cells.toList=us.toList:=rfl
   rw [hus] at k2
   refine .agg (by simp [k2.len]) k2.one fun k c u hk hu=> ?_
   simp only [List.map_map,List.getElem?_map,Option.map_eq_some_iff] at hk
   obtain⟨c',hc,rfl⟩:=hk
   exact C.VR hA (k2.ro k c' u hc hu) (good c' (List.mem_of_getElem? hc))
 | false=>
   rw [ha] at hag
   have hcells:v.cells.toList= [v] :=by
    unfold CK at h1
    split at h1
    ·rename_i hu; obtain⟨_,rfl⟩:=okWide_int hu hv; rfl
    ·rename_i hu; obtain⟨_,rfl⟩:=okWide_bool hu hv; rfl
    ·rename_i hu; obtain⟨_,_,_,rfl⟩:=okWide_slice hu hv; rfl
    ·rename_i fs hu; simp [GH,hu] at hag
    ·cases h1
   rw [hcells] at k2
   have hl:=k2.len
   obtain⟨c,hc⟩:=List.length_eq_one_iff.1 hl
   simp only [cond_false,hc,List.map_cons,List.map_nil,V1.av]
   exact C.VR hA (k2.ro 0 c v (by rw [hc]; rfl) rfl) (good c (by rw [hc]; exact List.mem_singleton.2 rfl))
theorem Ov (hΘ:eo P Θ) {bt:Bt} (hA:bt.A=fun b=>b < W.heap.size): ∀ {ts:List TypeId} {τs:List Ty} {vs:List Value} {ds:List (DataW H)} {p:List MemPlace},Fo P Θ ts τs=true→(∀ (j:Nat) t v,ts[j]? =some t→vs[j]? =some v→Value.okWide P W .any base t v)→DataW.TrodAll enc P W 0 (fun _=>true) true ts vs ds p→
  ∃ x:rr.D (τs.map .ty),vs.length=τs.length∧(∀ (k:Nat) (v:AV) (u:Value),((oZ (τs.map .ty) x).map V1.av)[k]? =some v→vs[k]? =some u→VR W bt v u)∧VB τs x
 | [],[],vs,ds,p,_,_,h=>by
   obtain⟨rfl,_,_⟩:=trodAll_nil h
   exact⟨(),rfl,fun k v u hk hu=>(by cases hu),trivial⟩
 | t::ts,τ::τs,vs,ds,p,hb,hv,h=>by
   obtain⟨v,vs',d,ds',q,q',rfl,rfl,rfl,h1,h2⟩:=trodAll_cons h
   unfold Fo at hb
   simp only [Bool.and_eq_true] at hb
   obtain⟨x,k1,k2⟩:=T3 hΘ hA hb.1 (hv 0 t v rfl rfl) h1
   obtain⟨y,k3,k4,k5⟩:=Ov hΘ hA hb.2 (fun j t' v' ht hv'=>hv (j+1) t' v' ht hv') h2
   refine⟨(x,y),by simp [k3],fun k v' u hk hu=> ?_,k2,k5⟩
   cases k with
   | zero=>
     have hk:some (K0 τ x).av=some v':=hk
     cases hk
     cases hu
     exact k1
   | succ k=>exact k4 k v' u hk hu
 | [],_::_,_,_,_,hb,_,_=>by cases hb
 | _::_,[],_,_,_,hb,_,_=>by cases hb
theorem xH {W':World} (hl:laidOutB P=true) (hb:Below W.heap.size W W'): ∀ {ts:List TypeId} {τs:List Ty} {vs:List Value} {ds:List (DataW H)} {p:List MemPlace},Fo P Θ ts τs=true→DataW.TrodAll enc P W 0 (fun _=>true) true ts vs ds p→DataW.TrodAll enc P W' 0 (fun b=>decide (b < W.heap.size)) true ts vs ds p
 | [],[],vs,ds,p,_,h=>by
   obtain⟨rfl,rfl,rfl⟩:=trodAll_nil h
   exact rfl
 | t::ts,τ::τs,vs,ds,p,hp,h=>by
   obtain⟨v,vs',d,ds',q,q',rfl,rfl,rfl,h1,h2⟩:=trodAll_cons h
   unfold Fo SY at hp
   simp only [Bool.and_eq_true] at hp
   obtain⟨⟨⟨_,hr⟩,hs⟩,hrest⟩:=hp
   refine trodAll_cons_mk (Below.trod hl hr (Nat.le_of_ble_eq_true hs) h1 hb ?_) (xH hl hb hrest h2)
   intro x hx
   obtain⟨m,hm⟩:=h1
   exact DataW.trod_lt m _ _ _ hm x hx
 | [],_::_,_,_,_,hb,_=>by cases hb
 | _::_,[],_,_,_,hb,_=>by cases hb
theorem Ph (hΘ:eo P Θ) {f:FuncId} {τs:List Ty} {G:rr.D (τs.map .ty)→Option (rV.D [.b])} (he:aH P f (bV (τs.map .ty) [.b] G)) (hG: ∀ x,VB τs x→G x=some (true,()))
  {ts:List TypeId} {vs:List Value} {ds:List (DataW H)} {p:List MemPlace} (hp:Fo P Θ ts τs=true) (hv: ∀ (j:Nat) t v,ts[j]? =some t→vs[j]? =some v→Value.okWide P W .any base t v) (h:DataW.TrodAll enc P W 0 (fun _=>true) true ts vs ds p) (hk:Nat.blt f 1048576=true:=by rfl):
  Calls P f vs.toArray W fun e W'=>e= .returned (.bool true)∧Below W.heap.size W W':=by
 let bt:Bt:=⟨fun _=>0,fun _=>0,fun _=>0,0,0,fun b=>b < W.heap.size⟩
 obtain⟨x,h1,h2,h3⟩:=Ov (bt:=bt) hΘ rfl hp hv h
 have hg:=hG x h3
 obtain⟨res,out,k1,k2,k3⟩:=he (oZ (τs.map .ty) x) (V×List bO) (fun v g=>some (v,g)) (.v (.cl (.c (.sc (.bool true)))),[]) (by
  unfold bV
  rw [Ou,hg]
  rfl)
 cases k3
 have:=k1.fn (Nat.le_of_ble_eq_true hk) W (fun _=>False) bt vs (NX W bt fun b hb=>hb) (by
  rw [h1,List.length_map]
  clear h1 h2 h3 hg k1 hG he
  have : ∀ (l:List Ty) (x:rr.D (l.map .ty)),l.length=(oZ (l.map .ty) x).length:=by
   intro l
   induction l with
   | nil=>intro x; rfl
   | cons t l ih=>intro x; show l.length+1=(oZ (l.map .ty) x.2).length+1; rw [ih x.2]
  exact this τs x) h2
 refine this.2.mono fun e W' hx=> ?_
 obtain⟨v,btn,rfl,hI,_,_,hvr⟩:=hx
 refine⟨?_,zE hI⟩
 cases hvr with
 | sc=>rfl
end
end Go.Proofs.YtkcgfceffffmoaaGreat.En
namespace Go.Proofs.YtkcgfceffffmoaaGreat.En
open Go
section
variable {α β σ ε:Type}
theorem nC {B:σ→Option (σ⊕ε)} (l:List α) (mk:Nat→β→σ) (J:Nat→β→Prop) (g:Nat→List α→β→ε)
  (hn: ∀ b,J l.length b→B (mk l.length b)=some (.inr (g l.length [] b)))
  (hc: ∀ k b x,l[k]? =some x→J k b→(∃ b',B (mk k b)=some (.inl (mk (k+1) b'))∧J (k+1) b'∧g k (x::l.drop (k+1)) b=g (k+1) (l.drop (k+1)) b')∨B (mk k b)=some (.inr (g k (x::l.drop (k+1)) b))):
  ∀ k b,k≤l.length→J k b→jm B (mk k b)=some (g k (l.drop k) b):=by
 intro k b hk hJ
 generalize hn0:l.length - k=n
 induction n generalizing k b with
 | zero=>
   obtain rfl:k=l.length:=by omega
   rw [vK,hn b hJ,List.drop_length]
   rfl
 | succ n ih=>
   have hlt:k < l.length:=by omega
   rw [List.drop_eq_getElem_cons hlt]
   rcases hc k b l[k] (List.getElem?_eq_getElem hlt) hJ with ⟨b',h1,h2,h3⟩ | h1
   ·rw [vK,h1,h3]
    exact ih (k+1) b' (by omega) h2 (by omega)
   ·rw [vK,h1]
    rfl
theorem w6 {B:σ→Option (σ⊕ε)} (I:σ→Prop) (μ:σ→Nat) (E:ε→Prop)
  (h: ∀ s,I s→(∃ s',B s=some (.inl s')∧I s'∧μ s' < μ s)∨ ∃ e,B s=some (.inr e)∧E e) {s:σ} (hs:I s): ∃ e,jm B s=some e∧E e:=by
 generalize hn:μ s=n
 induction n using Nat.strongRecOn generalizing s with
 | _ n ih=>
   rcases h s hs with ⟨s',h1,h2,h3⟩ | ⟨e,h1,h2⟩
   ·rw [vK,h1]
    exact ih (μ s') (by omega) h2 rfl
   ·exact⟨e,by rw [vK,h1]; rfl,h2⟩
theorem dv (x y:α):br true x y=x:=rfl
theorem dz (x y:α):br false x y=y:=rfl
theorem Rb (b:Bool) (x y:α):br b x y=if b=true then x else y:=by cases b <;> rfl
theorem aA (p:Prop) [Decidable p] (x y:α):br (decide p) x y=if p then x else y:=by unfold br; by_cases h:p <;> simp [h]
theorem eU {p:Prop} [Decidable p] (h:p) (x y:α):an p x y=x:=if_pos h
theorem bR (p:Prop) [Decidable p] (x y:α):an p x y=if p then x else y:=rfl
end
theorem gb {n:Int} (h1: -9223372036854775808≤n) (h2:n < 9223372036854775808):IntKind.wrap .i64 n=n:=by
 simp only [IntKind.wrap,IntKind.bits,IntKind.signed,Bool.true_and]
 split
 ·rename_i h
  have h:=of_decide_eq_true h
  omega
 ·rename_i h
  have h: ¬ (n % 2 ^ 64≥2 ^ (64 - 1)):=fun hh=>h (decide_eq_true hh)
  omega
theorem nv {α:Type} {l:List α} {k:Nat} {x:α} (h:l[k]? =some x):k < l.length:=(List.getElem?_eq_some_iff.1 h).1
theorem vL {t:Ty} {l:List t.D} (h:Nf (.ls t) l):l.length≤maxLen:=by
 have:=h (.sl t.width (l.map t.row)) (List.mem_singleton.2 rfl)
 cases this with
 | sl hl _=>simpa using hl
theorem Rc {t:Ty} {l:List t.D} (h:Nf (.ls t) l) {x:t.D} (hx:x∈l):Nf t x:=by
 have:=h (.sl t.width (l.map t.row)) (List.mem_singleton.2 rfl)
 cases this with
 | sl _ h=>exact h (t.row x) (List.mem_map.2 ⟨x,hx,rfl⟩)
theorem sV {α:Type} {l:List α} {k:Nat} (y:α) (h:k < l.length): (l.set k y).take (k+1)=l.take k++ [y] :=by
 rw [List.take_add_one,List.getElem?_set_self h]
 simp [List.take_set_of_le]
theorem SZ {α ρ:Type} (l:List α) (n:Nat) (κ:List α×Unit→Option ρ):TP l (R9 (κ ([],())) (an ((([]:List α)++l).length*n≤2 ^ 40) (κ (([]:List α)++l,())) none) none) (an ((([]:List α)++l).length*n≤2 ^ 40) (κ (([]:List α)++l,())) none)=(an (l.length*n≤2 ^ 40) (some (l,())) none).bind κ:=by
 cases l with
 | nil=>
   have :an ((([]:List α)++ []).length*n≤2 ^ 40) (κ (([]:List α)++ [],())) none=κ ([],()):=by
    unfold an
    rw [if_pos (by simp)]
    rfl
   rw [this]
   show R9 _ _ _=_
   rw [QN]
   unfold an
   rw [if_pos (by simp)]
   rfl
 | cons x l=>
   show an _ _ _=_
   simp only [List.nil_append]
   unfold an
   split <;> rfl
end Go.Proofs.YtkcgfceffffmoaaGreat.En
namespace Go.Proofs.YtkcgfceffffmoaaGreat.En
open Go
section
variable {σ ε σ1 ε1 σ2 ε2 α β:Type}
theorem qg {B:σ→Option (σ⊕ε)} {s:σ} {e:ε} (h:B s=some (.inr e)):jm B s=some e:=by rw [vK,h]; rfl
theorem Fp {B:σ→Option (σ⊕ε)} {s s':σ} (h:B s=some (.inl s')):jm B s=jm B s':=by rw [vK,h]; rfl
theorem p6 {B1:σ1→Option (σ1⊕ε1)} {B2:σ2→Option (σ2⊕ε2)} (n:Nat) (m1:Nat→σ1) (m2:Nat→σ2) (t1:ε1) (t2:ε2) (f1:Nat→ε1) (f2:Nat→ε2) (P Q:Nat→Prop)
  (h1:B1 (m1 n)=some (.inr t1)) (h2:B2 (m2 n)=some (.inr t2))
  (h: ∀ k,k < n→(B1 (m1 k)=some (.inl (m1 (k+1)))∧B2 (m2 k)=some (.inl (m2 (k+1)))∧P k)∨(B1 (m1 k)=some (.inr (f1 k))∧B2 (m2 k)=some (.inr (f2 k))∧Q k)):
  (jm B1 (m1 0)=some t1∧jm B2 (m2 0)=some t2∧ ∀ k,k < n→P k)∨ ∃ k,k < n∧jm B1 (m1 0)=some (f1 k)∧jm B2 (m2 0)=some (f2 k)∧Q k:=by
 have b7: ∀ d j,j+d=n→(jm B1 (m1 j)=some t1∧jm B2 (m2 j)=some t2∧ ∀ k,j≤k→k < n→P k)∨ ∃ k,k < n∧jm B1 (m1 j)=some (f1 k)∧jm B2 (m2 j)=some (f2 k)∧Q k:=by
  intro d
  induction d with
  | zero=>
    intro j hj
    have :j=n:=by omega
    subst this
    exact .inl ⟨qg h1,qg h2,fun k a b=>by omega⟩
  | succ d ih=>
    intro j hj
    rcases h j (by omega) with ⟨g1,g2,g3⟩ | ⟨g1,g2,g3⟩
    ·rw [Fp g1,Fp g2]
     rcases ih (j+1) (by omega) with ⟨k1,k2,k3⟩ | k
     ·refine .inl ⟨k1,k2,fun k a b=> ?_⟩
      rcases Nat.eq_or_lt_of_le a with rfl | a
      ·exact g3
      ·exact k3 k a b
     ·exact .inr k
    ·exact .inr ⟨j,by omega,qg g1,qg g2,g3⟩
 rcases b7 n 0 (by omega) with ⟨a,b,c⟩ | h
 ·exact .inl ⟨a,b,fun k hk=>c k (Nat.zero_le _) hk⟩
 ·exact .inr h
def Fq (x y:Option (β×Unit)):Prop:= ∃ b,x=some (b,())∧y=some (b,())
theorem bD {n k:Nat} (hn:n≤maxLen) (hk:k < n):IntKind.wrap .i64 ((k:Int)+1)=((k+1:Nat):Int):=by
 unfold maxLen at hn
 rw [gb (by omega) (by omega)]
 rfl
theorem tB {k:Nat} (hk:0 < k) (h:k≤maxLen):IntKind.wrap .i64 ((k:Int) - 1)=((k - 1:Nat):Int):=by
 unfold maxLen at h
 rw [gb (by omega) (by omega)]
 omega
theorem Lp {α:Type} {F:List α→Option (List α×Unit)} {B: (List α×Unit×Int×Unit)×Unit×(List α×Unit)→Option (((List α×Unit×Int×Unit)×Unit×(List α×Unit))⊕((Unit×Unit)×Unit×(List α×Unit)))} (f:α→Option (α×Unit)) (z:α) (n:Nat)
  (hF: ∀ l,F l=an (0≤(l.length:Int)∧(l.length:Int)=(l.length:Int)∧(l.length:Int)*((n:Nat):Int)≤2 ^ 40) ((jm B ((l,(),0,()),(),(List.replicate (l.length:Int).toNat z,()))).bind fun e=>some (e.2.2.1,())) none)
  (hB: ∀ (l v:List α) (k:Int),B ((l,(),k,()),(),(v,()))=br (decide (k < (l.length:Int))) (an (0≤k) ((l[k.toNat]?).bind fun x=>(f x).bind fun y=>an (0≤k∧k < (v.length:Int)) ((v[k.toNat]?).bind fun _=>some (.inl ((l,(),IntKind.wrap .i64 (k+1),()),(),(v.set k.toNat y.1,())))) none) none) (some (.inr (((),()),(),(v,())))))
  (hn:n≤1048576) (l:List α) (hl:l.length≤1048576) (h: ∀ x∈l,f x=some (x,())):F l=some (l,()):=by
 have b7:=nC (B:=B) l (fun k (b:List α)=>((l,(),(k:Int),()),(),(b,()))) (fun _ b=>b.length=l.length) (fun k r b=>(((),()),(),(b.take k++r,())))
  (fun b hb=>by
    rw [hB,aA,if_neg (by omega),List.append_nil,List.take_of_length_le (by omega)])
  (fun k b x hx hb=>by
    have hk:=nv hx
    refine .inl ⟨b.set k x,?_,by simp [hb],?_⟩
    ·rw [hB,aA,if_pos (by omega),eU (by omega),Int.toNat_natCast,hx,Option.bind_some,h x (List.mem_of_getElem? hx),Option.bind_some,eU (by omega),List.getElem?_eq_getElem (by omega),Option.bind_some,bD (n:=l.length) (by unfold maxLen; omega) hk]
    ·rw [sV _ (by omega)]
     simp)
  0 (List.replicate l.length z) (Nat.zero_le _) (List.length_replicate)
 have hm: (l.length:Int)*((n:Nat):Int)≤2 ^ 40:=by
  have h1:l.length*n≤1048576*1048576:=Nat.mul_le_mul hl hn
  have h2: ((l.length*n:Nat):Int)≤((1048576*1048576:Nat):Int):=by exact_mod_cast h1
  have h3: ((l.length*n:Nat):Int)=(l.length:Int)*(n:Int):=Int.natCast_mul _ _
  have h4: ((1048576*1048576:Nat):Int)=2 ^ 40:=by decide
  omega
 rw [hF,eU ⟨by omega,rfl,hm⟩,Int.toNat_natCast]
 have b7:jm B ((l,(),0,()),(),(List.replicate l.length z,()))=some (((),()),(),(l,())):=by simpa using b7
 rw [b7]
 rfl
theorem vM {α:Type} {F:List α→List α→Option (Bool×Unit)} {B: (List α×List α×Int×Unit)×Unit×Unit→Option (((List α×List α×Int×Unit)×Unit×Unit)⊕(((Bool×Unit)×Unit×Unit)⊕((Unit×Unit)×Unit×Unit)))} (f:α→α→Option (Bool×Unit))
  (hF: ∀ a b,F a b=br (!((a.length:Int)==(b.length:Int))) (some (false,())) ((jm B ((a,b,0,()),(),())).bind fun e=>Sum.elim (fun e=>some (e.1.1,())) (fun _=>some (true,())) e))
  (hB: ∀ (a b:List α) (k:Int),B ((a,b,k,()),(),())=br (decide (k < (a.length:Int))) (an (0≤k) ((a[k.toNat]?).bind fun x=>an (0≤k) ((b[k.toNat]?).bind fun y=>(f x y).bind fun r=>br (!r.1) (some (.inr (.inl ((false,()),(),())))) (some (.inl ((a,b,IntKind.wrap .i64 (k+1),()),(),())))) none) none) (some (.inr (.inr (((),()),(),())))))
  (l:List α) (hl:l.length≤maxLen) (h: ∀ x∈l,f x x=some (true,())):F l l=some (true,()):=by
 have b7:=nC (B:=B) l (fun k (b:Unit)=>((l,l,(k:Int),()),(),())) (fun _ _=>True) (fun k r b=> .inr (((),()),(),()))
  (fun b hb=>by rw [hB,aA,if_neg (by omega)])
  (fun k b x hx hb=>by
    have hk:=nv hx
    refine .inl ⟨(),?_,trivial,rfl⟩
    rw [hB,aA,if_pos (by omega),eU (by omega),Int.toNat_natCast,hx,Option.bind_some,eU (by omega),Option.bind_some,h x (List.mem_of_getElem? hx),Option.bind_some,bD hl hk]
    rfl)
  0 () (Nat.zero_le _) trivial
 rw [hF,Rb,if_neg (by simp),show jm B ((l,l,0,()),(),())=_ from b7]
 rfl
def Dm (F:α→Int→Option (Int×Unit)) (bd sm:α→Prop):Prop:= ∀ x left,bd x→0≤left→left≤1048576→ ∃ n,F x left=some (n,())∧n≤left∧(0≤n→sm x)
theorem Jk {F:List α→Int→Option (Int×Unit)} (hF: ∀ l left,F l left=br (decide (IntKind.wrap .i64 (left - (l.length:Int)) < 0)) (some (-1,())) (some (IntKind.wrap .i64 (left - (l.length:Int)),()))):Dm F (fun l=>l.length≤maxLen) (fun l=>l.length≤1048576):=by
 intro l left hl h0 h1
 unfold maxLen at hl
 rw [hF,gb (by omega) (by omega),aA]
 split
 ·exact⟨_,rfl,by omega,fun h=>by omega⟩
 ·exact⟨_,rfl,by omega,fun h=>by omega⟩
theorem Ow {F:List α→Int→Option (Int×Unit)} {B: (List α×Int×Int×Unit)×Unit×Unit→Option (((List α×Int×Int×Unit)×Unit×Unit)⊕(((Int×Int×Unit)×Unit×Unit)⊕((Int×Unit×Unit)×Unit×Unit)))} (f:α→Int→Option (Int×Unit)) {bd sm:α→Prop} (hf:Dm f bd sm)
  (hF: ∀ l left,F l left=br (decide (IntKind.wrap .i64 (left - (l.length:Int)) < 0)) (some (-1,())) ((jm B ((l,IntKind.wrap .i64 (left - (l.length:Int)),0,()),(),())).bind fun e=>Sum.elim (fun e=>some (e.1.2.1,())) (fun e=>some (e.1.1,())) e))
  (hB: ∀ (l:List α) (v k:Int),B ((l,v,k,()),(),())=br (decide (k < (l.length:Int))) (an (0≤k) ((l[k.toNat]?).bind fun x=>(f x v).bind fun y=>br (decide (y.1 < 0)) (some (.inr (.inl ((y.1,-1,()),(),())))) (some (.inl ((l,y.1,IntKind.wrap .i64 (k+1),()),(),())))) none) (some (.inr (.inr ((v,(),()),(),()))))):
  Dm F (fun l=>l.length≤maxLen∧ ∀ x∈l,bd x) (fun l=>l.length≤1048576∧ ∀ x∈l,sm x):=by
 intro l left hl h0 h1
 obtain⟨hl,hbd⟩:=hl
 have hl':=hl
 unfold maxLen at hl'
 rw [hF,gb (by omega) (by omega),aA]
 split
 ·exact⟨_,rfl,by omega,fun h=>by omega⟩
 ·rename_i hge
  have b7:=w6 (B:=B) (fun s=> ∃ (k:Nat) (v:Int),s=((l,v,(k:Int),()),(),())∧k≤l.length∧0≤v∧v≤left - (l.length:Int)∧ ∀ (j:Nat) x,j < k→l[j]? =some x→sm x) (fun s=>l.length - s.1.2.2.1.toNat)
   (fun e=>(∃ y,e= .inl ((y,-1,()),(),()))∨ ∃ v,e= .inr ((v,(),()),(),())∧v≤left - (l.length:Int)∧ ∀ x∈l,sm x)
   (fun s hs=>by
     obtain⟨k,v,rfl,hk,hv0,hv1,hsm⟩:=hs
     rw [hB,aA]
     by_cases hlt:k < l.length
     ·rw [if_pos (by omega),eU (by omega),Int.toNat_natCast,List.getElem?_eq_getElem hlt,Option.bind_some]
      obtain⟨n,g1,g2,g3⟩:=hf l[k] v (hbd _ (List.getElem_mem _)) hv0 (by omega)
      rw [g1,Option.bind_some,aA]
      split
      ·exact .inr ⟨_,rfl, .inl ⟨_,rfl⟩⟩
      ·refine .inl ⟨_,rfl,⟨k+1,n,by rw [bD hl hlt],by omega,by omega,by omega,fun j x hj hx=> ?_⟩,?_⟩
       ·rcases Nat.lt_succ_iff_lt_or_eq.1 hj with h | rfl
        ·exact hsm j x h hx
        ·rw [List.getElem?_eq_getElem hlt] at hx
         cases hx
         exact g3 (by omega)
       ·simp only [bD hl hlt,Int.toNat_natCast]
        omega
     ·rw [if_neg (by omega)]
      refine .inr ⟨_,rfl, .inr ⟨v,rfl,hv1,fun x hx=> ?_⟩⟩
      obtain⟨j,hj,he⟩:=List.getElem_of_mem hx
      exact hsm j x (by omega) (by rw [List.getElem?_eq_getElem hj,he]))
   (s:=((l,left - (l.length:Int),0,()),(),())) ⟨0,_,rfl,Nat.zero_le _,by omega,by omega,fun j x hj=>by omega⟩
  obtain⟨e,h2,h3⟩:=b7
  rw [h2]
  rcases h3 with ⟨y,rfl⟩ | ⟨v,rfl,hv,hsm⟩
  ·exact⟨-1,rfl,by omega,fun h=>by omega⟩
  ·exact⟨v,rfl,by omega,fun h=>⟨by omega,hsm⟩⟩
end
end Go.Proofs.YtkcgfceffffmoaaGreat.En
