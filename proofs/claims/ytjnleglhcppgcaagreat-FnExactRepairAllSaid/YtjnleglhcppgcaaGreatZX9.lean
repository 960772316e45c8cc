import Derived.Test.YtjnleglhcppgcaaGreatZX8
import Derived.ProofKit
import Derived.ChangeOld
import Derived.Deep.Slices
import Derived.OpenShut
import Derived.Below
import Derived.Carry
import Derived.WideShapes
namespace Go.Proofs.YtjnleglhcppgcaaGreat.En
section
open Go
section
variable {σ ε:Type}
def yj (B:σ->Option (σ⊕ε)):Nat->σ->Option ε
 | 0,_=>none
 |n+1,s=>(B s).bind (Sum.elim (yj B n) some)
theorem Aq (B:σ->Option (σ⊕ε)): ∀ {n m:Nat} {s:σ} {e:ε},n<=m->yj B n s=some e->yj B m s=some e
 | 0,_,_,_,_,h=>by cases h
 |n+1,0,_,_,hm,_=>by omega
 |n+1,m+1,s,e,hm,h=>by
  unfold yj at h ⊢;cases hB:B s with
  |none=>rw[hB] at h; cases h
  |some x=>
   rw[hB] at h;cases x with
   |inl s'=>exact Aq B (by omega) h
   |inr e'=>exact h
theorem GK {p:Nat->Prop} (h: ∃n,p n): ∃n,p n/\ ∀m,p m->n<=m:=by
 obtain⟨n,hn⟩:=h
 induction n using Nat.strongRecOn with
 | _ n ih=>
   by_cases hx: ∃m,m<n/\p m
   ·obtain⟨m,hm,hp⟩:=hx;exact ih m hm hp
   ·exact⟨n,hn,fun m hm=>Nat.le_of_not_lt fun hlt=>hx ⟨m,hlt,hm⟩⟩
noncomputable def gt (B:σ->Option (σ⊕ε)) (s:σ):Option ε:=open Classical in if h: ∃n,(yj B n s).isSome=true then yj B (Classical.choose h) s else none
noncomputable def Rn (B:σ->Option (σ⊕ε)) (s:σ):Nat:=open Classical in if h: ∃n,(yj B n s).isSome=true then Classical.choose (GK h) else 0
theorem vB {B:σ->Option (σ⊕ε)} {s:σ} {e:ε}:gt B s=some e↔ ∃n,yj B n s=some e:=by
 classical
 constructor
 ·intro h;unfold gt at h;split at h
  ·rename_i hx;exact⟨_,h⟩
  ·cases h
 ·rintro⟨n,h⟩
  have hx: ∃n,(yj B n s).isSome=true:=⟨n,by rw[h]; rfl⟩
  unfold gt;rw[dif_pos hx];obtain⟨e',he⟩:=bA.1 (Classical.choose_spec hx);have h1:=Aq B (Nat.le_max_left (Classical.choose hx) n) he;have h2:=Aq B (Nat.le_max_right (Classical.choose hx) n) h;rw[h1] at h2;cases h2;exact he
theorem vC (B:σ->Option (σ⊕ε)) (s:σ):gt B s=(B s).bind (Sum.elim (gt B) some):=by
 apply Option.ext;intro e;rw[vB];constructor
 ·rintro⟨n,h⟩
  cases n with
  |zero=>cases h
  |succ n=>
   unfold yj at h;cases hB:B s with
   |none=>rw[hB] at h; cases h
   |some x=>
    rw[hB] at h;cases x with
    |inl s'=>exact vB.2 ⟨n,h⟩
    |inr e'=>exact h
 ·intro h;cases hB:B s with
  |none=>rw[hB] at h; cases h
  |some x=>
   rw[hB] at h;cases x with
   |inl s'=>obtain⟨n,h⟩:=vB.1 (show gt B s'=some e from h);exact⟨n+1,by unfold yj; rw[hB]; exact h⟩
   |inr e'=>exact⟨1,by unfold yj; rw[hB]; exact h⟩
theorem Mv (B:σ->Option (σ⊕ε)) (s:σ) (e:ε) (h:gt B s=some e):Oi (gt B) (Rn B) s e (B s):=by
 classical
 have h0:=h;rw[vC] at h;cases hB:B s with
 |none=>rw[hB] at h; cases h
 |some x=>
  rw[hB] at h;cases x with
  |inl s'=>
   refine⟨?_,h⟩
   have hx: ∃n,(yj B n s).isSome=true:=by obtain⟨n,hn⟩:=vB.1 h0;exact⟨n,by rw[hn]; rfl⟩
   have hx': ∃n,(yj B n s').isSome=true:=by obtain⟨n,hn⟩:=vB.1 (show gt B s'=some e from h);exact⟨n,by rw[hn]; rfl⟩
   unfold Rn;rw[dif_pos hx,dif_pos hx'];have:=(Classical.choose_spec (GK hx)).1;cases hn:Classical.choose (GK hx) with
   |zero=>rw[hn] at this; cases this
   |succ n=>rw[hn] at this;unfold yj at this;rw[hB] at this;exact Nat.lt_succ_of_le ((Classical.choose_spec (GK hx')).2 n this)
  |inr e'=>exact (Option.some.inj h)
end
inductive BE where
 |ty (t:Ty)|pr (t:Ty)|fc (g:Nat)|fn (g:Nat) (caps:List Ty)|nl
abbrev BE.D:BE->Type
 | .ty t=>t.D
 | .pr t=>t.D
 | .fc _=>Unit
 | .fn _ caps=>qj.D caps
 | .nl=>Unit
abbrev pt.D:List BE->Type
 | [] =>Unit
 |p::l=>p.D×pt.D l
def GL: (l:List Ty)->qj.D l->List Cl
 | [],_=> []
 |t::l,x=> .pro (t.flat x.1)::GL l x.2
def BE.v1: (p:BE)->p.D->V1
 | .ty t,x=>Ip t x
 | .pr t,x=> .cl (.pro (t.flat x))
 | .fc g,_=> .cl (.c (.sc (.func (.func g) #[] #[])))
 | .fn g caps,x=> .fn g (GL caps x)
 | .nl,_=> .cl .em
def lz: (l:List BE)->pt.D l->List V1
 | [],_=> []
 |p::l,x=>p.v1 x.1::lz l x.2
def Qb {ρ:Type} (t:Ty) (c:Cl) (κ:t.D->Option ρ):Option ρ:=match c with
 | .pro xs=>(match t.unflat xs with |some x=>κ x|none=>none)
 | _=>none
def Ar {ρ:Type}: (l:List Ty)->List Cl->(qj.D l->Option ρ)->Option ρ
 | [],[],κ=>κ ()
 |t::l,c::cs,κ=>Qb t c fun x=>Ar l cs fun y=>κ (x,y)
 | _,_,_=>none
def Su {ρ:Type}: (t:Ty)->V1->(t.D->Option ρ)->Option ρ
 | .ls _, .cl .em,κ=>κ []
 |t,a,κ=>un t a κ
def Tn {ρ:Type}: (p:BE)->V1->(p.D->Option ρ)->Option ρ
 | .ty t,a,κ=>Su t a κ
 | .pr t, .cl c,κ=>Qb t c κ
 | .fc g, .cl (.c (.sc (.func (.func g') cs ts))),κ=>bif Nat.beq g' g&&Nat.beq cs.size 0&&Nat.beq ts.size 0 then κ () else none
 | .fn g caps, .fn g' cs,κ=>bif Nat.beq g' g then Ar caps cs κ else none
 | .nl, .cl .em,κ=>κ ()
 | _,_,_=>none
def BF {ρ:Type}: (l:List BE)->List V1->(pt.D l->Option ρ)->Option ρ
 | [],[],κ=>κ ()
 |p::l,a::as,κ=>Tn p a fun x=>BF l as fun y=>κ (x,y)
 | _,_,_=>none
def Ou (ps:List BE) (rs:List Ty) (G:pt.D ps->Option (qj.D rs)):Ki:=fun args _ κ=>BF ps args fun x=>(G x).bind fun y=>ret (pC rs y) κ
theorem FT {ρ:Type} {t:Ty} {c:Cl} {κ:t.D->Option ρ} {r:ρ} (h:Qb t c κ=some r): ∃x,c= .pro (t.flat x)/\κ x=some r:=by
 unfold Qb at h;split at h
 ·split at h
  ·rename_i x hx;exact⟨x,by rw[t.unflat_some _ _ hx],h⟩
  ·cases h
 ·cases h
theorem Be {ρ:Type}: ∀ {l:List Ty} {cs:List Cl} {κ:qj.D l->Option ρ} {r:ρ},Ar l cs κ=some r-> ∃x,cs=GL l x/\κ x=some r
 | [],[],κ,r,h=>⟨(),rfl,h⟩
 |t::l,c::cs,κ,r,h=>by unfold Ar at h;obtain⟨x,h1,h⟩:=FT h;obtain⟨y,h2,h⟩:=Be h;exact⟨(x,y),by rw[h1,h2]; rfl,h⟩
 | [],_::_,κ,r,h=>by simp[Ar] at h
 | _::_,[],κ,r,h=>by simp[Ar] at h
theorem Ov {ρ:Type} {t:Ty} {a:V1} {κ:t.D->Option ρ} {r:ρ} (h:Su t a κ=some r): ∃x,(a.av=(Ip t x).av\/(a.av= .em/\ ∃s,(Ip t x).av= .ro s []))/\κ x=some r:=by
 unfold Su at h;split at h
 ·exact⟨[], .inr ⟨rfl,_,rfl⟩,h⟩
 ·obtain⟨x,e,h'⟩:=un_some h;exact⟨x, .inl (by rw[e]),h'⟩
theorem Ow {ρ:Type} {p:BE} {a:V1} {κ:p.D->Option ρ} {r:ρ} (h:Tn p a κ=some r): ∃x,(a.av=(p.v1 x).av\/(a.av= .em/\ ∃s,(p.v1 x).av= .ro s []))/\κ x=some r:=by
 unfold Tn at h;split at h
 ·exact Ov h
 ·obtain⟨x,h1,h⟩:=FT h;exact⟨x, .inl (by rw[h1]; rfl),h⟩
 ·obtain⟨h1,h⟩:=ef h;simp only[ar] at h1;obtain⟨⟨h1,h2⟩,h3⟩:=h1;have h1:=au h1;have h2:=cF (au h2);have h3:=cF (au h3);exact⟨(), .inl (by rw[h1,h2,h3]; rfl),h⟩
 ·obtain⟨h1,h⟩:=ef h;obtain⟨x,h2,h⟩:=Be h;exact⟨x, .inl (by rw[au h1,h2]; rfl),h⟩
 ·exact⟨(), .inl rfl,h⟩
 ·cases h
theorem tN {ρ:Type}: ∀ {l:List BE} {as:List V1} {κ:pt.D l->Option ρ} {r:ρ},BF l as κ=some r-> ∃x,Kr (as.map V1.av) ((lz l x).map V1.av)/\κ x=some r
 | [],[],κ,r,h=>⟨(),Kr.refl _,h⟩
 |p::l,a::as,κ,r,h=>by unfold BF at h;obtain⟨x,h1,h⟩:=Ow h;obtain⟨y,h2,h⟩:=tN h;exact⟨(x,y),Kr.cons h1 h2,h⟩
 | [],_::_,κ,r,h=>by simp[BF] at h
 | _::_,[],κ,r,h=>by simp[BF] at h
theorem FU (G:List (Option eL)): ∀ (l:List Ty) (x:qj.D l),∀c∈GL l x,c.ok G
 | [],x,c,h=>by cases h
 |t::l,x,c,h=>by
  rcases aR.1 h with rfl|h
  ·trivial
  ·exact FU G l x.2 c h
theorem BE.ok (p:BE) (x:p.D): (p.v1 x).ok [] :=by
 cases p with
 |ty t=>exact Rm t x
 |pr t=>trivial
 |fc g=>trivial
 |fn g caps=>exact FU [] caps x
 |nl=>trivial
theorem tO: ∀ (l:List BE) (x:pt.D l),∀a∈lz l x,a.ok []
 | [],x,a,h=>by cases h
 |p::l,x,a,h=>by
  rcases aR.1 h with rfl|h
  ·exact p.ok x.1
  ·exact tO l x.2 a h
theorem Qc {P:Program} {Θ:pp} {Y:yX} {Λ:qh} (hΘ:gC P Θ) (hY:mJ P Y) (hm:P.follows .mixedOrders=true) {f:FuncId} {fn:Func} (hf:EB P f=some fn) (hL: ∀c,fn.body=some c->i9 P Λ (fT c)) {ps:List BE} {rs:List Ty} {G:pt.D ps->Option (qj.D rs)} (hk:Nat.blt f 1048576=true)
  (F:pt.D ps->Option (qj.D rs)) (hF: ∀x,Sg Θ Y Λ fn (lz ps x) (fun v g=>some (v,g))=(F x).bind fun y=>ret (pC rs y) (fun v g=>some (v,g))) (hG: ∀x y,G x=some y->F x=some y):xj P f (Ou ps rs G):=by
 intro args ρ κ r hr;unfold Ou at hr;obtain⟨x,hn,hr2⟩:=tN hr;obtain⟨y,h1,hr3⟩:=aj.1 hr2;exact⟨_,_, .of_fn (s8.norm hn (Ri hΘ hY hm hf hL (tO ps x) (by rw[hF,hG x y h1]; rfl))) (az hk),Om _,hr3⟩
def Ro (el:Ty) (ps:List BE) (rs:List Ty) (G:List el.D->pt.D ps->Option (qj.D rs)):Ki:=fun args _ κ=>match args with
 | .cl (.c (.ls t l))::as=>(match vw t el l with
   |some l=>BF ps as fun x=>(G l x).bind fun y=>ret (pC rs y) κ
   |none=>none)
 | _=>none
def Rp {ρ:Type} (el:Ty) (rs:List Ty) (y:List el.D×qj.D rs) (κ:V->List eL->Option ρ):Option ρ:=κ (w7 (xh 1 (pC rs y.2))) (⟨el,y.1,none⟩::xi (pC rs y.2))
def Rq (el:Ty) (ps:List BE) (rs:List Ty) (G:List el.D->pt.D ps->Option (List el.D×qj.D rs)):Ki:=fun args _ κ=>match args with
 | .cl (.c (.ls t l))::as=>(match vw t el l with
   |some l=>BF ps as fun x=>(G l x).bind fun y=>Rp el rs y κ
   |none=>none)
 | _=>none
theorem Qd {P:Program} {Θ:pp} {Y:yX} {Λ:qh} (hΘ:gC P Θ) (hY:mJ P Y) (hm:P.follows .mixedOrders=true) {f:FuncId} {fn:Func} (hf:EB P f=some fn) (hL: ∀c,fn.body=some c->i9 P Λ (fT c)) {el:Ty} {ps:List BE} {rs:List Ty} {G:List el.D->pt.D ps->Option (qj.D rs)}
  (F:List el.D->pt.D ps->Option (qj.D rs)) (hF: ∀l x,Mi Θ Y Λ fn 0 el l (lz ps x) (fun v g=>some (v,g))=(F l x).bind fun y=>ret (pC rs y) (fun v g=>some (v,g))) (hG: ∀l x y,G l x=some y->F l x=some y):xj P (Ij f) (Ro el ps rs G):=by
 intro args ρ κ r hr;unfold Ro at hr;split at hr
 ·rename_i t l as;split at hr
  ·rename_i l' hl;obtain⟨e,hl⟩:=iu hl;subst e;have hl:l=l':=hl;subst hl;obtain⟨x,hn,hr2⟩:=tN hr;obtain⟨y,h1,hr3⟩:=aj.1 hr2;exact⟨_,_, .of_mv ⟨.ls _,l,_,rfl,nu.norm (Kr.cons (.inl rfl) hn) (LA hΘ hY hm hf hL (aF 1) (tO ps x) (by rw[hF,hG l x y h1]; rfl))⟩,Om _,hr3⟩
  ·cases hr
 ·cases hr
theorem Qe (el:Ty) (l:List el.D) (ys:List ((t:Ty)×t.D)): (w7 (xh 1 ys)).ok ((⟨el,l,none⟩::xi ys).map some):=by
 have h:=zj ys [⟨el,l,none⟩];simp only[ch,List.singleton_append] at h
 match xh 1 ys,h with
 | [],_=>exact fun x hx=>by cases hx
 | [v],h=>exact h v aI
 |v::u::vs,h=>exact h
theorem Qf {P:Program} {Θ:pp} {Y:yX} {Λ:qh} (hΘ:gC P Θ) (hY:mJ P Y) (hm:P.follows .mixedOrders=true) {f:FuncId} {fn:Func} (hf:EB P f=some fn) (hL: ∀c,fn.body=some c->i9 P Λ (fT c)) {el:Ty} {ps:List BE} {rs:List Ty} {G:List el.D->pt.D ps->Option (List el.D×qj.D rs)} (hk:Nat.blt f 1048576=true)
  (F:List el.D->pt.D ps->Option (List el.D×qj.D rs)) (hF: ∀l x,Mi Θ Y Λ fn 1 el l (lz ps x) (fun v g=>some (v,g))=(F l x).bind fun y=>Rp el rs y (fun v g=>some (v,g))) (hG: ∀l x y,G l x=some y->F l x=some y):xj P (Ad f) (Rq el ps rs G):=by
 intro args ρ κ r hr;unfold Rq at hr;split at hr
 ·rename_i t l as;split at hr
  ·rename_i l' hl;obtain⟨e,hl⟩:=iu hl;subst e;have hl:l=l':=hl;subst hl;obtain⟨x,hn,hr2⟩:=tN hr;obtain⟨y,h1,hr3⟩:=aj.1 hr2;exact⟨_,_, .of_io ⟨.ls _,l,_,rfl,nu.norm (Kr.cons (.inl rfl) hn) (LA hΘ hY hm hf hL (ay 1) (tO ps x) (by rw[hF,hG l x y h1]; rfl))⟩ (az hk),Qe _ _ (pC rs y.2),hr3⟩
  ·cases hr
 ·cases hr
def Rr {ρ:Type} (t:Ty) (rs:List Ty) (y:t.D×qj.D rs) (κ:V->List eL->Option ρ):Option ρ:=κ (w7 (xh (nw (t.flat y.1)).length (pC rs y.2))) (nw (t.flat y.1)++xi (pC rs y.2))
def Rs (t:Ty) (ps:List BE) (rs:List Ty) (G:t.D->pt.D ps->Option (t.D×qj.D rs)):Ki:=fun args _ κ=>match args with
 |a::as=>un t a fun x=>BF ps as fun p=>(G x p).bind fun y=>Rr t rs y κ
 | [] =>none
theorem Qg {P:Program} {Θ:pp} {Y:yX} {Λ:qh} (hΘ:gC P Θ) (hY:mJ P Y) (hm:P.follows .mixedOrders=true) {f:FuncId} {fn:Func} (hf:EB P f=some fn) (hL: ∀c,fn.body=some c->i9 P Λ (fT c)) {t:Ty} {ps:List BE} {rs:List Ty} {G:t.D->pt.D ps->Option (t.D×qj.D rs)} (hk:Nat.blt f 1048576=true)
  (F:t.D->pt.D ps->Option (t.D×qj.D rs)) (hF: ∀l x,Pz Θ Y Λ fn t l (lz ps x) (fun v g=>some (v,g))=(F l x).bind fun y=>Rr t rs y (fun v g=>some (v,g))) (hG: ∀l x y,G l x=some y->F l x=some y):xj P (Ad f) (Rs t ps rs G):=by
 intro args ρ κ r hr;unfold Rs at hr;split at hr
 ·rename_i a as;obtain⟨l,rfl,hr1⟩:=un_some hr;obtain⟨x,hn,hr2⟩:=tN hr1;obtain⟨y,h1,hr3⟩:=aj.1 hr2;refine⟨_,_, .of_io ⟨t,l,_,rfl,nu.norm (Kr.cons (.inl rfl) hn) (P0 hΘ hY hm hf hL (tO ps x) (by rw[hF,hG l x y h1]; rfl))⟩ (az hk),?_,hr3⟩;have h:=zj (pC rs y.2) (nw (t.flat y.1))
  match xh (nw (t.flat y.1)).length (pC rs y.2),h with
  | [],_=>exact fun x hx=>by cases hx
  | [v],h=>exact h v aI
  |v::u::vs,h=>exact h
 ·cases hr
def Ox (p:List V1->Bool) (e1 e2:Ki):Ki:=fun args ρ κ=>bif p args then e1 args ρ κ else e2 args ρ κ
theorem Oy {P:Program} {f:FuncId} {p:List V1->Bool} {e1 e2:Ki} (h1:xj P f e1) (h2:xj P f e2):xj P f (Ox p e1 e2):=by
 intro args ρ κ r hr;unfold Ox at hr;cases hp:p args with
 |true=>rw[hp] at hr; exact h1 args ρ κ r hr
 |false=>rw[hp] at hr; exact h2 args ρ κ r hr
def Sv (n g:Nat) (args:List V1):Bool:=match pq args n with
 |some (.fn g' _)=>Nat.beq g' g
 |some (.cl (.c (.sc (.func (.func g') _ _))))=>Nat.beq g' g
 | _=>false
def pF (fn:Func):Code:=match fn.body with |some c=>c|none=> .skip
def Rt (c:Code) (n:Nat):Code:=(pq (fT c) n).getD .skip
theorem Sw {P:Program} {Λ:qh} {fn:Func} {cs:List Code} (h:fT (pF fn)=cs) (H:i9 P Λ cs) (c:Code) (hc:fn.body=some c):i9 P Λ (fT c):=by
 have :pF fn=c:=by unfold pF; rw[hc]
 rw[<-this,h];exact H
end
section
open Go
inductive Kc where|i (k:IntKind)|b|s|ls (t:Ty)
 deriving DecidableEq
def Oz:List (Option Ty)->List Value->List Kc
 |some t::l,_::m=> .ls t::Oz l m
 |none::l, .int k _::m=> .i k::Oz l m
 |none::l, .bool _::m=> .b::Oz l m
 |none::l,_::m=> .s::Oz l m
 | _,_=> []
def Ty.kc (t:Ty):List Kc:=Oz t.csh t.zvs
def tP:List Kc->List C->Prop
 | [],[] =>True
 | .i k::l,c::m=>(∃n,c= .sc (.int k n))/\tP l m
 | .b::l,c::m=>(∃v,c= .sc (.bool v))/\tP l m
 | .s::l,c::m=>(∃v,c= .sc (.string v))/\tP l m
 | .ls t::l,c::m=>(∃v,c= .ls t v)/\tP l m
 | _,_=>False
theorem zm {cs:List C} (h:tP [] cs):cs= [] :=by cases cs with |nil=>rfl|cons=>exact h.elim
theorem QP {k:IntKind} {l:List Kc} {cs:List C} (h:tP (.i k::l) cs): ∃n r,cs= .sc (.int k n)::r/\tP l r:=by
 cases cs with
 |nil=>exact h.elim
 |cons c r=>obtain⟨⟨n,rfl⟩,h⟩:=h; exact⟨n,r,rfl,h⟩
theorem QQ {l:List Kc} {cs:List C} (h:tP (.b::l) cs): ∃n r,cs= .sc (.bool n)::r/\tP l r:=by
 cases cs with
 |nil=>exact h.elim
 |cons c r=>obtain⟨⟨n,rfl⟩,h⟩:=h; exact⟨n,r,rfl,h⟩
theorem QR {l:List Kc} {cs:List C} (h:tP (.s::l) cs): ∃n r,cs= .sc (.string n)::r/\tP l r:=by
 cases cs with
 |nil=>exact h.elim
 |cons c r=>obtain⟨⟨n,rfl⟩,h⟩:=h; exact⟨n,r,rfl,h⟩
theorem QS {t:Ty} {l:List Kc} {cs:List C} (h:tP (.ls t::l) cs): ∃n r,cs= .ls t n::r/\tP l r:=by
 cases cs with
 |nil=>exact h.elim
 |cons c r=>obtain⟨⟨n,rfl⟩,h⟩:=h; exact⟨n,r,rfl,h⟩
theorem FV (t:Ty) {cs:List C} (h:tP t.kc cs): ∃x,t.flat x=cs:=by
 have : (t.unflat cs).isSome=true:=by
  cases t with
  |st n=>
   cases n
   all_goals
    repeat ((first |replace h:=QP h|replace h:=QQ h|replace h:=QS h|replace h:=QR h); obtain⟨_,_,rfl,h⟩:=h)
    cases zm h;rfl
  |i k=>replace h:=QP h; obtain⟨_,_,rfl,h⟩:=h; cases zm h; simp[Ty.unflat,gI,gN]
  |b=>replace h:=QQ h; obtain⟨_,_,rfl,h⟩:=h; cases zm h; rfl
  |s=>replace h:=QR h; obtain⟨_,_,rfl,h⟩:=h; cases zm h; rfl
  |ls u=>replace h:=QS h; obtain⟨_,_,rfl,h⟩:=h; cases zm h; simp[Ty.unflat,gL,gN]
 obtain⟨x,hx⟩:=bA.1 this;exact⟨x,t.unflat_some _ _ hx⟩
inductive T.bd:T->Prop where
 |int {k:IntKind} {n:Int} (h:k.min<=n/\n<=k.max):T.bd (.sc (.int k n))
 |bool (v:Bool):T.bd (.sc (.bool v))
 |str (v:ByteArray):T.bd (.sc (.string v))
 |sl {sz:Nat} {rows:List (List T)} (hl:rows.length<=maxLen) (h: ∀r∈rows,∀x∈r,T.bd x):T.bd (.sl sz rows)
def Ks (t:Ty) (x:t.D):Prop:= ∀y∈t.row x,T.bd y
def GM (P:Program) (e:TypeId->List Kc->Bool):List Field->Nat->List Kc->Bool
 | [],_,[] =>true
 | [],_,_::_=>false
 |f::fs,off,ks=>Nat.beq f.offset off&&Nat.ble (P.cellsOf f.type) ks.length&&e f.type (ks.take (P.cellsOf f.type))&&GM P e fs (off+P.cellsOf f.type) (ks.drop (P.cellsOf f.type))
def Bf (P:Program) (Θ:pp):Nat->TypeId->List Kc->Bool
 | 0,_,_=>false
 |d+1,t,ks=>match P.underlying t with
  |some (.int k)=>decide (ks= [.i k])
  |some .bool=>decide (ks= [.b])
  |some (.slice e)=>(match nv Θ e with
   |some ti=>decide (ks= [.ls ti.ty])&&Bf P Θ d e ti.ty.kc&&Nat.beq (P.cellsOf e) ti.ty.width&&Nat.blt 0 ti.ty.width
   |none=>false)
  |some (.struct fs)=>GM P (Bf P Θ d) fs.toList 0 ks&&Nat.beq (P.cellsOf t) ks.length
  | _=>false
theorem IU: ∀ {k l:List Kc} {cs ds:List C},tP k cs->tP l ds->tP (k++l) (cs++ds)
 | [],l,[],ds,_,h=>h
 | [],_,_::_,_,h,_=>h.elim
 |a::k,_,[],_,h,_=>by cases a<;>exact h.elim
 |a::k,l,c::cs,ds,h,h2=>by cases a<;>exact⟨h.1,IU h.2 h2⟩
theorem Bg: ∀ {k:List Kc} {cs:List C},tP k cs->cs.length=k.length
 | [],[],_=>rfl
 | [],_::_,h=>h.elim
 |a::k,[],h=>by cases a<;>exact h.elim
 |a::k,c::cs,h=>by cases a<;>simp[Bg h.2]
section
variable {H:Type} {enc:TypeId×Value->H} {P:Program} {w:World} {base:Nat} {sp:Nat->Bool} {held:Bool} {Θ:pp}
structure Cs (w:World) (cs:List Value) (Xs:List C):Prop where
 len:Xs.length=cs.length
 one: ∀u∈cs,u.oneCell'=true
 ro: ∀ (k:Nat) (c:C) (u:Value),Xs[k]? =some c->cs[k]? =some u->RO w (fun b=>b<w.heap.size) c.tree u
 bd: ∀c∈Xs,T.bd c.tree
theorem Cs.nil:Cs w [] [] :=⟨rfl,fun _ h=>(by cases h),fun _ _ _ h=>(by cases h),fun _ h=>(by cases h)⟩
theorem Cs.one_mk {u:Value} {c:C} (h1:u.oneCell'=true) (h2:RO w (fun b=>b<w.heap.size) c.tree u) (h3:T.bd c.tree):Cs w [u] [c] :=by
 refine⟨rfl,fun v hv=> ?_,fun k c' u' hk hu=> ?_,fun c' hc=> ?_⟩
 ·rw[ax.1 hv]; exact h1
 ·cases k with
  |zero=>cases hk; cases hu; exact h2
  |succ k=>simp at hk
 ·rw[ax.1 hc]; exact h3
theorem Cs.app {cs ds:List Value} {Xs Ys:List C} (h:Cs w cs Xs) (k:Cs w ds Ys):Cs w (cs++ds) (Xs++Ys):=by
 refine⟨by rw[be,be,h.len,k.len],fun u hu=> ?_,fun j c u hj hu=> ?_,fun c hc=> ?_⟩
 ·rcases bq.1 hu with hu|hu
  ·exact h.one u hu
  ·exact k.one u hu
 ·by_cases hlt:j<Xs.length
  ·rw[aK hlt] at hj;rw[aK (by rw[<-h.len]; exact hlt)] at hu;exact h.ro j c u hj hu
  ·rw[aN (by omega)] at hj;rw[aN (by rw[<-h.len]; omega),<-h.len] at hu;exact k.ro _ c u hj hu
 ·rcases bq.1 hc with hc|hc
  ·exact h.bd c hc
  ·exact k.bd c hc
theorem GN (hΘ:gC P Θ): ∀ (d:Nat) {t:TypeId} {ks:List Kc} {n:Nat} {cs:List Value} {y:DataW H×List MemPlace},Bf P Θ d t ks=true->DataW.trod enc P w base sp held n t cs=some y-> ∃Xs:List C,tP ks Xs/\Cs w cs Xs
 | 0,t,ks,n,cs,y,hb,_=>by cases hb
 |d+1,t,ks,n,cs,y,hb,h=>by
  unfold Bf at hb;split at hb
  ·rename_i k hu;have:=of_decide_eq_true hb;subst this;obtain⟨v,rfl,_,hw⟩:=DataW.trod_int hu h;simp only[Lit.wf,ar,decide_eq_true_eq] at hw;exact⟨[.sc (.int k v)],⟨⟨v,rfl⟩,trivial⟩,Cs.one_mk rfl (.sc rfl) (.int hw)⟩
  ·rename_i hu;have:=of_decide_eq_true hb;subst this;obtain⟨v,rfl,_⟩:=DataW.trod_bool hu h;exact⟨[.sc (.bool v)],⟨⟨v,rfl⟩,trivial⟩,Cs.one_mk rfl (.sc rfl) (.bool v)⟩
  ·rename_i e hu;split at hb
   ·rename_i ti hti;simp only[ar,decide_eq_true_eq] at hb;obtain⟨⟨⟨rfl,hb⟩,hw⟩,hpos⟩:=hb;have hw:=au hw;have hpos:0<ti.ty.width:=az hpos;rcases Go.Deep.open_slice hu h with ⟨rfl,_⟩| ⟨ad,len,cap,m,n',D,Pl,rfl,_,hl,hm,hmm,_,hx⟩
    ·exact⟨[.ls ti.ty []],⟨⟨[],rfl⟩,trivial⟩,Cs.one_mk rfl (.em _ _ _) (.sl (aF _) fun r hr=>by cases hr)⟩
    ·have hlm:len<=m:=by rw[hmm]; split<;>omega
     have each: ∀i:Fin len,∃z:ti.ty.D,∃cs',w.cells? base (ad.add (i.1*P.cellsOf e)) (P.cellsOf e)=some cs'/\Cs w cs' (ti.ty.flat z):=by intro i;obtain⟨cs',h1,h2⟩:=hx i.1 (by have:=i.2; omega);obtain⟨Xs,h3,h4⟩:=GN hΘ d hb h2;obtain⟨z,rfl⟩:=FV _ h3;exact⟨z,cs',h1,h4⟩
     let l:List ti.ty.D:=List.ofFn fun i=>(each i).choose
     have hll:l.length=len:=by simp[l]
     have row: ∀ (i:Nat) (r:List T),(l.map ti.ty.row)[i]? =some r-> ∃hi:i<len,∃cs',w.cells? base (ad.add (i*P.cellsOf e)) (P.cellsOf e)=some cs'/\ ∃z,r=(ti.ty.flat z).map C.tree/\Cs w cs' (ti.ty.flat z):=by
      intro i r hr;rw[ap,ak] at hr;obtain⟨z,hz,rfl⟩:=hr;obtain⟨h1,h2⟩:=ai.1 hz;have hi:i<len:=by rw[hll] at h1; exact h1
      refine⟨hi,(each ⟨i,hi⟩).choose_spec.choose,(each ⟨i,hi⟩).choose_spec.choose_spec.1,z,ti.ty.row_flat z,?_⟩;have e1:z=(each ⟨i,hi⟩).choose:=by rw[<-h2]; simp[l]
      rw[e1];exact (each ⟨i,hi⟩).choose_spec.choose_spec.2
     refine⟨[.ls ti.ty l],⟨⟨l,rfl⟩,trivial⟩,Cs.one_mk rfl ?_ ?_⟩
     ·show RO w _ (.sl ti.ty.width (l.map ti.ty.row)) _;by_cases h0:len=0
      ·have :l= [] :=cY.1 (by rw[hll,h0]);rw[this,h0];exact .em _ _ _
      ·have hlr: (l.map ti.ty.row).length=len:=by rw[aD,hll]
       have hlen: ∀ (i:Nat) (r:List T),(l.map ti.ty.row)[i]? =some r->r.length=ti.ty.width:=by intro i r hr;obtain⟨hi,cs',h1,z,rfl,h2⟩:=row i r hr;obtain⟨_,h3,_⟩:=World.cells?_some h1;rw[aD,h2.len,h3,hw]
       have hcell: ∀ (i:Nat) (r:List T) (j:Nat) (x:T),(l.map ti.ty.row)[i]? =some r->r[j]? =some x-> ∃u,w.cell? (ad.add (i*ti.ty.width+j))=some u/\RO w (fun b=>b<w.heap.size) x u:=by
        intro i r j x hr hx;obtain⟨hi,cs',h1,z,rfl,h2⟩:=row i r hr;obtain⟨_,h3,h4⟩:=World.cells?_some h1;rw[ap,ak] at hx;obtain⟨c,hc,rfl⟩:=hx;have hj:j<cs'.length:=by rw[<-h2.len]; exact (ai.1 hc).1
        refine⟨cs'[j],?_,h2.ro j c _ hc (ah hj)⟩;rw[<-Go.Deep.add_add,<-hw,h4 j (by omega),ah hj]
       have hne: ∃u,w.cell? ad=some u:=by
        obtain⟨r,hr⟩: ∃r,(l.map ti.ty.row)[0]? =some r:=⟨_,ah (by omega)⟩
        have h5:=hlen 0 r hr;obtain⟨x,hx⟩: ∃x,r[0]? =some x:=⟨_,ah (by omega)⟩
        obtain⟨u,hu',_⟩:=hcell 0 r 0 x hr hx;simp only[cB,aV,Addr.add,if_true] at hu';exact⟨u,hu'⟩
       obtain⟨u0,hu0⟩:=hne;rw[<-hlr];refine .sl (fun i j=>((w.cell? (ad.add (i*ti.ty.width+j))).getD undef)) (by omega) ?_ (World.block_lt_of_cell? w _ hu0) hlen ?_ ?_
       ·cases hsp:ad.spot with
        |none=>rfl
        |some s=>
         unfold World.cell? at hu0;rw[hsp] at hu0;split at hu0
         ·simp at hu0
         ·cases hu0
       ·intro i r j x hr hx;obtain⟨u,h1,_⟩:=hcell i r j x hr hx;rw[h1];rfl
       ·intro i r j x hr hx;obtain⟨u,h1,h2⟩:=hcell i r j x hr hx;rw[h1];exact h2
     ·refine .sl (by rw[aD,hll]; unfold maxLen at hm ⊢; omega) fun r hr x hx=> ?_;obtain⟨i,hi⟩:=List.getElem?_of_mem hr;obtain⟨_,cs',_,z,rfl,h2⟩:=row i r hi;obtain⟨c,hc,rfl⟩:=aL.1 hx;exact h2.bd c hc
   ·cases hb
  ·rename_i fs hu;simp only[ar] at hb;obtain⟨hb,hkl0⟩:=hb;have hkl0:=au hkl0;obtain⟨xs,m,_,_,hl,hlen,hf⟩:=DataW.trod_struct hu h
   have gA: ∀ (gs:List Field) (off i0:Nat) (ks:List Kc),GM P (Bf P Θ d) gs off ks=true->(∀ (i:Nat) (f:Field),gs[i]? =some f->fs[i0+i]? =some f)-> ∃Xs:List C,tP ks Xs/\Cs w ((cs.drop off).take ks.length) Xs/\off+ks.length<=max off cs.length:=by
    intro gs
    induction gs with
    |nil=>
     intro off i0 ks hk _;cases ks with
     |nil=>exact⟨[],trivial,by simpa using Cs.nil,by simp; omega⟩
     |cons=>cases hk
    |cons f gs ih=>
     intro off i0 ks hk hg;simp only[GM,ar] at hk;obtain⟨⟨⟨ho,hle⟩,h1⟩,h2⟩:=hk;have ho:=au ho;have hle:P.cellsOf f.type<=ks.length:=az hle;have hfi:fs[i0]? =some f:=by have:=hg 0 f rfl; simpa using this
     have hi0:i0<xs.length:=by rw[hlen]; exact (aO.1 hfi).1
     have h3:=hf i0 f hfi;rw[ah hi0,ho] at h3;obtain⟨Xs,k1,k2⟩:=GN hΘ d h1 h3;obtain⟨Ys,k3,k4,k5⟩:=ih (off+P.cellsOf f.type) (i0+1) _ h2 (fun i g hgi=>by have:=hg (i+1) g hgi; rw[show i0+1+i=i0+(i+1) by omega]; exact this);have hkl:=Bg k1;have hcl:=k2.len;rw[b6,ci,hkl,b6] at hcl;have hq:P.cellsOf f.type<=cs.length-off:=by omega
     refine⟨Xs++Ys,?_,?_,?_⟩
     ·have:=IU k1 k3
      rwa [cA] at this
     ·have hsplit: (cs.drop off).take ks.length=((cs.drop off).take (P.cellsOf f.type))++((cs.drop (off+P.cellsOf f.type)).take (ks.drop (P.cellsOf f.type)).length):=by
       rw[ci,<-bU];have :ks.length=P.cellsOf f.type+(ks.length-P.cellsOf f.type):=by omega
       conv=>lhs; rw[this]
       exact List.take_add
      rw[hsplit];exact k2.app k4
     ·rw[ci] at k5;omega
   obtain⟨Xs,k1,k2,k3⟩:=gA fs.toList 0 0 ks hb (fun i f hi=>by rw[cx] at hi; simpa using hi);refine⟨Xs,k1,?_⟩
   have hfull: (cs.drop 0).take ks.length=cs:=by rw[bJ];exact bf (by omega)
   rwa [hfull] at k2
  ·cases hb
end
end
section
open Go Go.ChangeShapes Go.WideShapes Go.RowKit
theorem Bh (t:Ty) (x:t.D):t.unflat (t.flat x)=some x:=by
 cases t with
 |st n=>cases n<;>rfl
 |i k=>simp[Ty.unflat,Ty.flat,gI,gN]
 |b=>rfl
 |s=>rfl
 |ls u=>simp[Ty.unflat,Ty.flat,gL,gN]
theorem OA (l:List C):Gw (l.map Cl.c)=some l:=by
 induction l with
 |nil=>rfl
 |cons a l ih=>simp[Gw,ih]
theorem Ru {ρ:Type} (t:Ty) (x:t.D) (κ:t.D->Option ρ):un t (Ip t x) κ=κ x:=by
 unfold Ip;cases hag:t.ag with
 |true=>simp only[cond_true,un,hag,OA,Bh]
 |false=>
  simp only[cond_false];have h1: ∃c,t.flat x= [c] :=by cases t<;>first |exact⟨_,rfl⟩| (simp[Ty.ag] at hag)
  obtain⟨c,hc⟩:=h1;rw[hc];have:=Bh t x;rw[hc] at this;simp only[aQ,ck,un,hag,cond_false,this]
theorem Qh {ρ:Type} (t:Ty) (x:t.D) (κ:t.D->Option ρ):Su t (Ip t x) κ=κ x:=by
 rw[<-Ru t x κ];cases t with
 |st n=>cases n<;>rfl
 | _=>rfl
theorem LK {ρ:Type}: ∀ (l:List Ty) (x:pt.D (l.map .ty)) (κ:pt.D (l.map .ty)->Option ρ),BF (l.map .ty) (lz (l.map .ty) x) κ=κ x
 | [],x,κ=>rfl
 |t::l,x,κ=>by show (Tn (.ty t) (Ip t x.1) fun a=>BF (l.map .ty) (lz (l.map .ty) x.2) fun b=>κ (a,b))=κ x;show (Su t (Ip t x.1) fun a=>BF (l.map .ty) (lz (l.map .ty) x.2) fun b=>κ (a,b))=κ x;rw[Qh,LK l x.2];rfl
def Tz: (l:List Ty)->pt.D (l.map .ty)->Prop
 | [],_=>True
 |t::l,x=>Ks t x.1/\Tz l x.2
def Qi (P:Program) (Θ:pp) (t:TypeId) (τ:Ty):Bool:=Bf P Θ 9 t τ.kc&&(match nv Θ t with |some ti=>decide (ti.ty=τ)|none=>false)&&P.readableRec t&&Nat.blt t P.types.size
def Dp (P:Program) (Θ:pp):List TypeId->List Ty->Bool
 | [],[] =>true
 |t::ts,τ::τs=>Qi P Θ t τ&&Dp P Θ ts τs
 | _,_=>false
section
variable {H:Type} {enc:TypeId×Value->H} {P:Program} {W:World} {Θ:pp} {base:Nat}
theorem C.VR {c:C} {u:Value} {bt:Bt} (hA:bt.A=fun b=>b<W.heap.size) (h:RO W (fun b=>b<W.heap.size) c.tree u) (hg:c.good=true):En.VR W bt c.av u:=by
 cases c with
 |sc v=>
  cases h with
  |sc h=>exact .sc h
 |ls t l=>exact .ro (by rw[hA]; exact h)
theorem Rv (hΘ:gC P Θ) {bt:Bt} (hA:bt.A=fun b=>b<W.heap.size) {t:TypeId} {τ:Ty} {v:Value} {d:DataW H} {p:List MemPlace} (hp:Qi P Θ t τ=true) (hv:Value.okWide P W .any base t v) (h:DataW.Trod enc P W 0 (fun _=>true) true t v d p):
  ∃x:τ.D,VR W bt (Ip τ x).av v/\Ks τ x:=by
 unfold Qi at hp;simp only[ar] at hp;obtain⟨⟨⟨h1,h2⟩,h3⟩,h4⟩:=hp;split at h2
 case h_2=>cases h2
 rename_i ti hti;have h2:=of_decide_eq_true h2;subst h2;have hok:=hΘ t ti hti;obtain⟨n,hn⟩:=h;obtain⟨Xs,k1,k2⟩:=GN hΘ 9 h1 hn;obtain⟨x,rfl⟩:=FV _ k1
 have bd:Ks ti.ty x:=by intro y hy;rw[Ty.row_flat] at hy;obtain⟨c,hc,rfl⟩:=aL.1 hy;exact k2.bd c hc
 have good: ∀c∈ti.ty.flat x,c.good=true:=by
  intro c hc;have:=k2.bd c hc;cases c with
  |sc v=>cases this<;>rfl
  |ls t l=>rfl
 refine⟨x,?_,bd⟩;have hag:=hok.ag;unfold Ip;cases ha:ti.ty.ag with
 |true=>
  rw[ha] at hag
  have hst: ∃fs,P.underlying t=some (.struct fs):=by
   have hpl:=hok.pl ha;unfold Bf at h1;split at h1
   ·rename_i hu; simp[El,hu] at hag
   ·rename_i hu; simp[El,hu] at hag
   ·rename_i hu; simp[El,hu] at hag
   ·rename_i fs hu; exact⟨fs,hu⟩
   ·cases h1
  obtain⟨fs,hu⟩:=hst;obtain⟨us,rfl,_⟩:=okWide_struct hu hv;simp only[cond_true,V1.av];have : (Value.agg us)= .agg us.toList.toArray:=by simp
  rw[this];have hus: (Value.agg us).cells.toList=us.toList:=rfl;rw[hus] at k2;refine .agg (by simp[k2.len]) k2.one fun k c u hk hu=> ?_;simp only[bu,ap,ak] at hk;obtain⟨c',hc,rfl⟩:=hk;exact C.VR hA (k2.ro k c' u hc hu) (good c' (aq hc))
 |false=>
  rw[ha] at hag
  have hcells:v.cells.toList= [v] :=by
   unfold Bf at h1;split at h1
   ·rename_i hu; obtain⟨_,rfl⟩:=okWide_int hu hv; rfl
   ·rename_i hu; obtain⟨_,rfl⟩:=okWide_bool hu hv; rfl
   ·rename_i hu; obtain⟨_,_,_,rfl⟩:=okWide_slice hu hv; rfl
   ·rename_i fs hu; simp[El,hu] at hag
   ·cases h1
  rw[hcells] at k2;have hl:=k2.len;obtain⟨c,hc⟩:=List.length_eq_one_iff.1 hl;simp only[cond_false,hc,aQ,ck,V1.av];exact C.VR hA (k2.ro 0 c v (by rw[hc]; rfl) rfl) (good c (by rw[hc]; exact ax.2 rfl))
theorem LL (hΘ:gC P Θ) {bt:Bt} (hA:bt.A=fun b=>b<W.heap.size): ∀ {ts:List TypeId} {τs:List Ty} {vs:List Value} {ds:List (DataW H)} {p:List MemPlace},Dp P Θ ts τs=true->(∀ (j:Nat) t v,ts[j]? =some t->vs[j]? =some v->Value.okWide P W .any base t v)->DataW.TrodAll enc P W 0 (fun _=>true) true ts vs ds p->
  ∃x:pt.D (τs.map .ty),vs.length=τs.length/\(∀ (k:Nat) (v:AV) (u:Value),((lz (τs.map .ty) x).map V1.av)[k]? =some v->vs[k]? =some u->VR W bt v u)/\Tz τs x
 | [],[],vs,ds,p,_,_,h=>by obtain⟨rfl,_,_⟩:=trodAll_nil h;exact⟨(),rfl,fun k v u hk hu=>(by cases hu),trivial⟩
 |t::ts,τ::τs,vs,ds,p,hb,hv,h=>by
  obtain⟨v,vs',d,ds',q,q',rfl,rfl,rfl,h1,h2⟩:=trodAll_cons h;unfold Dp at hb;simp only[ar] at hb;obtain⟨x,k1,k2⟩:=Rv hΘ hA hb.1 (hv 0 t v rfl rfl) h1;obtain⟨y,k3,k4,k5⟩:=LL hΘ hA hb.2 (fun j t' v' ht hv'=>hv (j+1) t' v' ht hv') h2;refine⟨(x,y),by simp[k3],fun k v' u hk hu=> ?_,k2,k5⟩;cases k with
  |zero=>have hk:some (Ip τ x).av=some v':=hk;cases hk;cases hu;exact k1
  |succ k=>exact k4 k v' u hk hu
 | [],_::_,_,_,_,hb,_,_=>by cases hb
 | _::_,[],_,_,_,hb,_,_=>by cases hb
theorem xm {W':World} (hl:laidOutB P=true) (hb:Below W.heap.size W W'): ∀ {ts:List TypeId} {τs:List Ty} {vs:List Value} {ds:List (DataW H)} {p:List MemPlace},Dp P Θ ts τs=true->DataW.TrodAll enc P W 0 (fun _=>true) true ts vs ds p->DataW.TrodAll enc P W' 0 (fun b=>decide (b<W.heap.size)) true ts vs ds p
 | [],[],vs,ds,p,_,h=>by obtain⟨rfl,rfl,rfl⟩:=trodAll_nil h;exact rfl
 |t::ts,τ::τs,vs,ds,p,hp,h=>by obtain⟨v,vs',d,ds',q,q',rfl,rfl,rfl,h1,h2⟩:=trodAll_cons h;unfold Dp Qi at hp;simp only[ar] at hp;obtain⟨⟨⟨_,hr⟩,hs⟩,hrest⟩:=hp;refine trodAll_cons_mk (Below.trod hl hr (az hs) h1 hb ?_) (xm hl hb hrest h2);intro x hx;obtain⟨m,hm⟩:=h1;exact DataW.trod_lt m _ _ _ hm x hx
 | [],_::_,_,_,_,hb,_=>by cases hb
 | _::_,[],_,_,_,hb,_=>by cases hb
theorem Mw (hΘ:gC P Θ) {f:FuncId} {τs:List Ty} {G:pt.D (τs.map .ty)->Option (qj.D [.b])} (he:xj P f (Ou (τs.map .ty) [.b] G)) (hG: ∀x,Tz τs x->G x=some (true,()))
  {ts:List TypeId} {vs:List Value} {ds:List (DataW H)} {p:List MemPlace} (hp:Dp P Θ ts τs=true) (hv: ∀ (j:Nat) t v,ts[j]? =some t->vs[j]? =some v->Value.okWide P W .any base t v) (h:DataW.TrodAll enc P W 0 (fun _=>true) true ts vs ds p) (hk:Nat.blt f 1048576=true:=by rfl):
  Calls P f vs.toArray W fun e W'=>e= .returned (.bool true)/\Below W.heap.size W W':=by
 let bt:Bt:=⟨fun _=>0,fun _=>0,fun _=>0,0,0,fun b=>b<W.heap.size⟩
 obtain⟨x,h1,h2,h3⟩:=LL (bt:=bt) hΘ rfl hp hv h;have hg:=hG x h3
 obtain⟨res,out,k1,k2,k3⟩:=he (lz (τs.map .ty) x) (V×List eL) (fun v g=>some (v,g)) (.v (.cl (.c (.sc (.bool true)))),[]) (by unfold Ou;rw[LK,hg];rfl)
 cases k3
 have:=k1.fn (az hk) W (fun _=>False) bt vs (Lg W bt fun b hb=>hb) (by
  rw[h1,aD];clear h1 h2 h3 hg k1 hG he
  have : ∀ (l:List Ty) (x:pt.D (l.map .ty)),l.length=(lz (l.map .ty) x).length:=by
   intro l
   induction l with
   |nil=>intro x; rfl
   |cons t l ih=>intro x; show l.length+1=(lz (l.map .ty) x.2).length+1; rw[ih x.2]
  exact this τs x) h2
 refine this.2.mono fun e W' hx=> ?_;obtain⟨v,btn,rfl,hI,_,_,hvr⟩:=hx;refine⟨?_,yN hI⟩;cases hvr with
 |sc=>rfl
end
end
section
open Go
section
variable {α β σ ε:Type}
theorem gJ {B:σ->Option (σ⊕ε)} (l:List α) (mk:Nat->β->σ) (J:Nat->β->Prop) (g:Nat->List α->β->ε)
  (hn: ∀b,J l.length b->B (mk l.length b)=some (.inr (g l.length [] b)))
  (hc: ∀k b x,l[k]? =some x->J k b->(∃b',B (mk k b)=some (.inl (mk (k+1) b'))/\J (k+1) b'/\g k (x::l.drop (k+1)) b=g (k+1) (l.drop (k+1)) b')\/B (mk k b)=some (.inr (g k (x::l.drop (k+1)) b))):
  ∀k b,k<=l.length->J k b->gt B (mk k b)=some (g k (l.drop k) b):=by
 intro k b hk hJ;generalize hn0:l.length-k=n
 induction n generalizing k b with
 |zero=>
  obtain rfl:k=l.length:=by omega
  rw[vC,hn b hJ,List.drop_length];rfl
 |succ n ih=>
  have hlt:k<l.length:=by omega
  rw[bD hlt];rcases hc k b l[k] (ah hlt) hJ with ⟨b',h1,h2,h3⟩|h1
  ·rw[vC,h1,h3];exact ih (k+1) b' (by omega) h2 (by omega)
  ·rw[vC,h1];rfl
theorem qX {B:σ->Option (σ⊕ε)} (I:σ->Prop) (μ:σ->Nat) (E:ε->Prop)
  (h: ∀s,I s->(∃s',B s=some (.inl s')/\I s'/\μ s'<μ s)\/ ∃e,B s=some (.inr e)/\E e) {s:σ} (hs:I s): ∃e,gt B s=some e/\E e:=by
 generalize hn:μ s=n
 induction n using Nat.strongRecOn generalizing s with
 | _ n ih=>
   rcases h s hs with ⟨s',h1,h2,h3⟩| ⟨e,h1,h2⟩
   ·rw[vC,h1];exact ih (μ s') (by omega) h2 rfl
   ·exact⟨e,by rw[vC,h1]; rfl,h2⟩
theorem eb (x y:α):br true x y=x:=rfl
theorem ek (x y:α):br false x y=y:=rfl
theorem OB (b:Bool) (x y:α):br b x y=if b=true then x else y:=by cases b<;>rfl
theorem dV (p:Prop) [Decidable p] (x y:α):br (decide p) x y=if p then x else y:=by unfold br; by_cases h:p<;>simp[h]
theorem fL {p:Prop} [Decidable p] (h:p) (x y:α):dU p x y=x:=if_pos h
theorem dZ (p:Prop) [Decidable p] (x y:α):dU p x y=if p then x else y:=rfl
end
theorem eK {n:Int} (h1: -9223372036854775808<=n) (h2:n<9223372036854775808):IntKind.wrap .i64 n=n:=by
 simp only[IntKind.wrap,IntKind.bits,IntKind.signed,Bool.true_and];split
 ·rename_i h;have h:=of_decide_eq_true h;omega
 ·rename_i h;have h: ¬ (n % 2 ^ 64≥2 ^ (64-1)):=fun hh=>h (decide_eq_true hh);omega
theorem fR {α:Type} {l:List α} {k:Nat} {x:α} (h:l[k]? =some x):k<l.length:=(ai.1 h).1
theorem vD {t:Ty} {l:List t.D} (h:Ks (.ls t) l):l.length<=maxLen:=by
 have:=h (.sl t.width (l.map t.row)) (ax.2 rfl);cases this with
 |sl hl _=>simpa using hl
theorem OC {t:Ty} {l:List t.D} (h:Ks (.ls t) l) {x:t.D} (hx:x∈l):Ks t x:=by
 have:=h (.sl t.width (l.map t.row)) (ax.2 rfl);cases this with
 |sl _ h=>exact h (t.row x) (aL.2 ⟨x,hx,rfl⟩)
theorem pZ {α:Type} {l:List α} {k:Nat} (y:α) (h:k<l.length): (l.set k y).take (k+1)=l.take k++ [y] :=by rw[bn,cw h];simp[List.take_set_of_le]
theorem Qj {α ρ:Type} (l:List α) (n:Nat) (κ:List α×Unit->Option ρ):Rb l (Px (κ ([],())) (dU ((([]:List α)++l).length*n<=2 ^ 40) (κ (([]:List α)++l,())) none) none) (dU ((([]:List α)++l).length*n<=2 ^ 40) (κ (([]:List α)++l,())) none)=(dU (l.length*n<=2 ^ 40) (some (l,())) none).bind κ:=by
 cases l with
 |nil=>
  have :dU ((([]:List α)++ []).length*n<=2 ^ 40) (κ (([]:List α)++ [],())) none=κ ([],()):=by unfold dU;rw[if_pos (by simp)];rfl
  rw[this];show Px _ _ _=_;rw[N3];unfold dU;rw[if_pos (by simp)];rfl
 |cons x l=>show dU _ _ _=_;simp only[bi];unfold dU;split<;>rfl
end
section
open Go
section
variable {σ ε σ1 ε1 σ2 ε2 α β:Type}
theorem ga {B:σ->Option (σ⊕ε)} {s:σ} {e:ε} (h:B s=some (.inr e)):gt B s=some e:=by rw[vC,h]; rfl
theorem j7 {B:σ->Option (σ⊕ε)} {s s':σ} (h:B s=some (.inl s')):gt B s=gt B s':=by rw[vC,h]; rfl
theorem lA {B1:σ1->Option (σ1⊕ε1)} {B2:σ2->Option (σ2⊕ε2)} (n:Nat) (m1:Nat->σ1) (m2:Nat->σ2) (t1:ε1) (t2:ε2) (f1:Nat->ε1) (f2:Nat->ε2) (P Q:Nat->Prop)
  (h1:B1 (m1 n)=some (.inr t1)) (h2:B2 (m2 n)=some (.inr t2))
  (h: ∀k,k<n->(B1 (m1 k)=some (.inl (m1 (k+1)))/\B2 (m2 k)=some (.inl (m2 (k+1)))/\P k)\/(B1 (m1 k)=some (.inr (f1 k))/\B2 (m2 k)=some (.inr (f2 k))/\Q k)):
  (gt B1 (m1 0)=some t1/\gt B2 (m2 0)=some t2/\ ∀k,k<n->P k)\/ ∃k,k<n/\gt B1 (m1 0)=some (f1 k)/\gt B2 (m2 0)=some (f2 k)/\Q k:=by
 have gA: ∀d j,j+d=n->(gt B1 (m1 j)=some t1/\gt B2 (m2 j)=some t2/\ ∀k,j<=k->k<n->P k)\/ ∃k,k<n/\gt B1 (m1 j)=some (f1 k)/\gt B2 (m2 j)=some (f2 k)/\Q k:=by
  intro d
  induction d with
  |zero=>
   intro j hj;have :j=n:=by omega
   subst this;exact .inl ⟨ga h1,ga h2,fun k a b=>by omega⟩
  |succ d ih=>
   intro j hj;rcases h j (by omega) with ⟨g1,g2,g3⟩| ⟨g1,g2,g3⟩
   ·rw[j7 g1,j7 g2];rcases ih (j+1) (by omega) with ⟨k1,k2,k3⟩|k
    ·refine .inl ⟨k1,k2,fun k a b=> ?_⟩;rcases dS a with rfl|a
     ·exact g3
     ·exact k3 k a b
    ·exact .inr k
   ·exact .inr ⟨j,by omega,ga g1,ga g2,g3⟩
 rcases gA n 0 (by omega) with ⟨a,b,c⟩|h
 ·exact .inl ⟨a,b,fun k hk=>c k (aF _) hk⟩
 ·exact .inr h
def xn (x y:Option (β×Unit)):Prop:= ∃b,x=some (b,())/\y=some (b,())
theorem ec {n k:Nat} (hn:n<=maxLen) (hk:k<n):IntKind.wrap .i64 ((k:Int)+1)=((k+1:Nat):Int):=by unfold maxLen at hn;rw[eK (by omega) (by omega)];rfl
theorem lX {k:Nat} (hk:0<k) (h:k<=maxLen):IntKind.wrap .i64 ((k:Int)-1)=((k-1:Nat):Int):=by unfold maxLen at h;rw[eK (by omega) (by omega)];omega
theorem IV {α:Type} {F:List α->Option (List α×Unit)} {B: (List α×Unit×Int×Unit)×Unit×(List α×Unit)->Option (((List α×Unit×Int×Unit)×Unit×(List α×Unit))⊕((Unit×Unit)×Unit×(List α×Unit)))} (f:α->Option (α×Unit)) (z:α) (n:Nat)
  (hF: ∀l,F l=dU (0<=(l.length:Int)/\(l.length:Int)=(l.length:Int)/\(l.length:Int)*((n:Nat):Int)<=2 ^ 40) ((gt B ((l,(),0,()),(),(List.replicate (l.length:Int).toNat z,()))).bind fun e=>some (e.2.2.1,())) none)
  (hB: ∀ (l v:List α) (k:Int),B ((l,(),k,()),(),(v,()))=br (decide (k< (l.length:Int))) (dU (0<=k) ((l[k.toNat]?).bind fun x=>(f x).bind fun y=>dU (0<=k/\k< (v.length:Int)) ((v[k.toNat]?).bind fun _=>some (.inl ((l,(),IntKind.wrap .i64 (k+1),()),(),(v.set k.toNat y.1,())))) none) none) (some (.inr (((),()),(),(v,())))))
  (hn:n<=1048576) (l:List α) (hl:l.length<=1048576) (h: ∀x∈l,f x=some (x,())):F l=some (l,()):=by
 have gA:=gJ (B:=B) l (fun k (b:List α)=>((l,(),(k:Int),()),(),(b,()))) (fun _ b=>b.length=l.length) (fun k r b=>(((),()),(),(b.take k++r,())))
  (fun b hb=>by rw[hB,dV,if_neg (by omega),bw,bf (by omega)])
  (fun k b x hx hb=>by
    have hk:=fR hx;refine .inl ⟨b.set k x,?_,by simp[hb],?_⟩
    ·rw[hB,dV,if_pos (by omega),fL (by omega),ao,hx,ae,h x (aq hx),ae,fL (by omega),ah (by omega),ae,ec (n:=l.length) (by unfold maxLen; omega) hk]
    ·rw[pZ _ (by omega)];simp)
  0 (List.replicate l.length z) (aF _) (dD)
 have hm: (l.length:Int)*((n:Nat):Int)<=2 ^ 40:=by
  have h1:l.length*n<=1048576*1048576:=Nat.mul_le_mul hl hn;have h2: ((l.length*n:Nat):Int)<=((1048576*1048576:Nat):Int):=by exact_mod_cast h1
  have h3: ((l.length*n:Nat):Int)=(l.length:Int)*(n:Int):=Int.natCast_mul _ _;have h4: ((1048576*1048576:Nat):Int)=2 ^ 40:=by decide
  omega
 rw[hF,fL ⟨by omega,rfl,hm⟩,ao];have gA:gt B ((l,(),0,()),(),(List.replicate l.length z,()))=some (((),()),(),(l,())):=by simpa using gA
 rw[gA];rfl
theorem vE {α:Type} {F:List α->List α->Option (Bool×Unit)} {B: (List α×List α×Int×Unit)×Unit×Unit->Option (((List α×List α×Int×Unit)×Unit×Unit)⊕(((Bool×Unit)×Unit×Unit)⊕((Unit×Unit)×Unit×Unit)))} (f:α->α->Option (Bool×Unit))
  (hF: ∀a b,F a b=br (!((a.length:Int)==(b.length:Int))) (some (false,())) ((gt B ((a,b,0,()),(),())).bind fun e=>Sum.elim (fun e=>some (e.1.1,())) (fun _=>some (true,())) e))
  (hB: ∀ (a b:List α) (k:Int),B ((a,b,k,()),(),())=br (decide (k< (a.length:Int))) (dU (0<=k) ((a[k.toNat]?).bind fun x=>dU (0<=k) ((b[k.toNat]?).bind fun y=>(f x y).bind fun r=>br (!r.1) (some (.inr (.inl ((false,()),(),())))) (some (.inl ((a,b,IntKind.wrap .i64 (k+1),()),(),())))) none) none) (some (.inr (.inr (((),()),(),())))))
  (l:List α) (hl:l.length<=maxLen) (h: ∀x∈l,f x x=some (true,())):F l l=some (true,()):=by
 have gA:=gJ (B:=B) l (fun k (b:Unit)=>((l,l,(k:Int),()),(),())) (fun _ _=>True) (fun k r b=> .inr (((),()),(),()))
  (fun b hb=>by rw[hB,dV,if_neg (by omega)])
  (fun k b x hx hb=>by have hk:=fR hx;refine .inl ⟨(),?_,trivial,rfl⟩;rw[hB,dV,if_pos (by omega),fL (by omega),ao,hx,ae,fL (by omega),ae,h x (aq hx),ae,ec hl hk];rfl)
  0 () (aF _) trivial
 rw[hF,OB,if_neg (by simp),show gt B ((l,l,0,()),(),())=_ from gA];rfl
def BG (F:α->Int->Option (Int×Unit)) (bd sm:α->Prop):Prop:= ∀x left,bd x->0<=left->left<=1048576-> ∃n,F x left=some (n,())/\n<=left/\(0<=n->sm x)
theorem GO {F:List α->Int->Option (Int×Unit)} (hF: ∀l left,F l left=br (decide (IntKind.wrap .i64 (left-(l.length:Int))<0)) (some (-1,())) (some (IntKind.wrap .i64 (left-(l.length:Int)),()))):BG F (fun l=>l.length<=maxLen) (fun l=>l.length<=1048576):=by
 intro l left hl h0 h1;unfold maxLen at hl;rw[hF,eK (by omega) (by omega),dV];split
 ·exact⟨_,rfl,by omega,fun h=>by omega⟩
 ·exact⟨_,rfl,by omega,fun h=>by omega⟩
theorem LM {F:List α->Int->Option (Int×Unit)} {B: (List α×Int×Int×Unit)×Unit×Unit->Option (((List α×Int×Int×Unit)×Unit×Unit)⊕(((Int×Int×Unit)×Unit×Unit)⊕((Int×Unit×Unit)×Unit×Unit)))} (f:α->Int->Option (Int×Unit)) {bd sm:α->Prop} (hf:BG f bd sm)
  (hF: ∀l left,F l left=br (decide (IntKind.wrap .i64 (left-(l.length:Int))<0)) (some (-1,())) ((gt B ((l,IntKind.wrap .i64 (left-(l.length:Int)),0,()),(),())).bind fun e=>Sum.elim (fun e=>some (e.1.2.1,())) (fun e=>some (e.1.1,())) e))
  (hB: ∀ (l:List α) (v k:Int),B ((l,v,k,()),(),())=br (decide (k< (l.length:Int))) (dU (0<=k) ((l[k.toNat]?).bind fun x=>(f x v).bind fun y=>br (decide (y.1<0)) (some (.inr (.inl ((y.1,-1,()),(),())))) (some (.inl ((l,y.1,IntKind.wrap .i64 (k+1),()),(),())))) none) (some (.inr (.inr ((v,(),()),(),()))))):
  BG F (fun l=>l.length<=maxLen/\ ∀x∈l,bd x) (fun l=>l.length<=1048576/\ ∀x∈l,sm x):=by
 intro l left hl h0 h1;obtain⟨hl,hbd⟩:=hl;have hl':=hl;unfold maxLen at hl';rw[hF,eK (by omega) (by omega),dV];split
 ·exact⟨_,rfl,by omega,fun h=>by omega⟩
 ·rename_i hge
  have gA:=qX (B:=B) (fun s=> ∃ (k:Nat) (v:Int),s=((l,v,(k:Int),()),(),())/\k<=l.length/\0<=v/\v<=left-(l.length:Int)/\ ∀ (j:Nat) x,j<k->l[j]? =some x->sm x) (fun s=>l.length-s.1.2.2.1.toNat)
   (fun e=>(∃y,e= .inl ((y,-1,()),(),()))\/ ∃v,e= .inr ((v,(),()),(),())/\v<=left-(l.length:Int)/\ ∀x∈l,sm x)
   (fun s hs=>by
     obtain⟨k,v,rfl,hk,hv0,hv1,hsm⟩:=hs;rw[hB,dV];by_cases hlt:k<l.length
     ·rw[if_pos (by omega),fL (by omega),ao,ah hlt,ae];obtain⟨n,g1,g2,g3⟩:=hf l[k] v (hbd _ (aW _)) hv0 (by omega);rw[g1,ae,dV];split
      ·exact .inr ⟨_,rfl, .inl ⟨_,rfl⟩⟩
      ·refine .inl ⟨_,rfl,⟨k+1,n,by rw[ec hl hlt],by omega,by omega,by omega,fun j x hj hx=> ?_⟩,?_⟩
       ·rcases Nat.lt_succ_iff_lt_or_eq.1 hj with h|rfl
        ·exact hsm j x h hx
        ·rw[ah hlt] at hx;cases hx;exact g3 (by omega)
       ·simp only[ec hl hlt,ao];omega
     ·rw[if_neg (by omega)];refine .inr ⟨_,rfl, .inr ⟨v,rfl,hv1,fun x hx=> ?_⟩⟩;obtain⟨j,hj,he⟩:=aH hx;exact hsm j x (by omega) (by rw[ah hj,he]))
   (s:=((l,left-(l.length:Int),0,()),(),())) ⟨0,_,rfl,aF _,by omega,by omega,fun j x hj=>by omega⟩
  obtain⟨e,h2,h3⟩:=gA;rw[h2];rcases h3 with ⟨y,rfl⟩| ⟨v,rfl,hv,hsm⟩
  ·exact⟨-1,rfl,by omega,fun h=>by omega⟩
  ·exact⟨v,rfl,by omega,fun h=>⟨by omega,hsm⟩⟩
end
end
section
open Go
structure Kt (P:Program) where
 n:Nat
 e:Ki
 ok:xj P n e
structure LN (P:Program) where
 c:Code
 e:LH
 ok:Oq P c e
structure LX where
 L:w8
 x:List (X×w8)
 g:List Kq
 k:List Nat
 kx:List Nat
abbrev LX.S (m:LX):Type:=m.L.D
abbrev LX.R (m:LX):Type:=Option (m.L.D⊕zk.D m.x)
theorem tm: (∀ (α β:Type) (b:Bool) (x y:Option α) (f:α->Option β),(br b x y).bind f=br b (x.bind f) (y.bind f))/\(∀ (α β:Type) (c:Prop) (_:Decidable c) (x y:Option α) (f:α->Option β),(dU c x y).bind f=dU c (x.bind f) (y.bind f))/\(∀ (α β:Type) (f:α->Option β),(none:Option α).bind f=none)/\(∀ (α β:Type) (a:α) (f:α->Option β),(some a).bind f=f a)/\(∀ (α β γ:Type) (x:Option α) (f:α->Option β) (g:β->Option γ),(x.bind f).bind g=x.bind fun a=>(f a).bind g)/\(∀ (α β γ δ:Type) (x:α⊕β) (f:α->Option γ) (g:β->Option γ) (h:γ->Option δ),(Sum.elim f g x).bind h=Sum.elim (fun a=>(f a).bind h) (fun a=>(g a).bind h) x)/\(∀ (α β γ:Type) (f:α->γ) (g:β->γ) (a:α),Sum.elim f g (.inl a)=f a)/\ ∀ (α β γ:Type) (f:α->γ) (g:β->γ) (b:β),Sum.elim f g (.inr b)=g b:=
 ⟨fun _ _ b _ _ _=>by cases b<;>rfl,fun _ _ c _ _ _ _=>by unfold dU; split<;>rfl,fun _ _ _=>rfl,fun _ _ _ _=>rfl,fun _ _ _ x _ _=>by cases x<;>rfl,fun _ _ _ _ x _ _ _=>by cases x<;>rfl,fun _ _ _ _ _ _=>rfl,fun _ _ _ _ _ _=>rfl⟩
def OD:Code->List Nat->Code
 |c,[] =>c
 |c,i::l=>OD (Rt c i) l
section
variable {P:Program} {Θ:pp}
def IW:List (Kt P)->List (Nat×Ki)
 | [] => []
 |k::l=>(k.n,k.e)::IW l
theorem wQ: ∀l:List (Kt P),mJ P (EC (IW l))
 | [] =>P6 P
 |k::l=>Ol k.ok (wQ l)
def Dq:List (LN P)->List (Nat×LH)
 | [] => []
 |q::l=>(gA q.c,q.e)::Dq l
def ow:List (LN P)->List Code
 | [] => []
 |q::l=>q.c::ow l
def Dr:List Code->Bool
 | [] =>true
 |c::l=>l.all (fun d=> !Nat.beq (gA c) (gA d))&&Dr l
theorem LO: ∀l:List (LN P),Dr (ow l)=true->i9 P (Dm (Dq l)) (ow l)
 | [],_=>fun c hc=>by cases hc
 |q::l,h=>by
  simp only[ow,Dr,ar,aA] at h;intro c hc S ρ κ r hS hr;have hr: (bif Nat.beq (gA q.c) (gA c) then q.e S ρ κ else Dm (Dq l) (gA c) S ρ κ)=some r:=hr;rcases aR.1 hc with rfl|hc
  ·rw[cE] at hr;exact q.ok S ρ κ r hS hr
  ·have hb:Nat.beq (gA q.c) (gA c)=false:=by simpa using h.1 c hc
   rw[hb] at hr;exact LO l h.2 c hc S ρ κ r hS hr
theorem IX {Λ:List (LN P)} {cs:List Code} (h:cs=ow Λ) (hn:Dr (ow Λ)=true):i9 P (Dm (Dq Λ)) cs:=by rw[h]; exact LO Λ hn
theorem yk {α β:Type} {a a':α} {b b':β} (h: (a,b)=(a',b')):a=a'/\b=b':=by cases h; exact⟨rfl,rfl⟩
theorem Ku {a b:Bool} (h: (a&&b)=true):a=true/\b=true:=by simpa using h
variable (hΘ:gC P Θ) (hm:P.follows .mixedOrders=true)
noncomputable def TY (fn:Func) (p:List Nat) (m:LX) (B:m.S->m.R) (Y:List (Kt P)) (Λ:List (LN P)) (h: (fT (OD (pF fn) p),((mh P (OD (pF fn) p))&&(m.L.fit&&m.x.all Sq))&&Dr (ow Λ))=(ow Λ,true))
  (hB: ∀s,(B s).bind (Sum.elim (fun s'=>some (X.nor,m.L.mk' s')) fun e=>some (zk.e m.x e))=yb Θ (EC (IW Y)) (Dm (Dq Λ)) (OD (pF fn) p) (m.L.mk' s) (IQ m.k m.kx fun x S=>some (x,S))):LN P:=
 ⟨OD (pF fn) p,Oo m.g m.k m.L m.x (gt B),Ot hΘ (wQ Y) hm (Ku (Ku (yk h).2).1).1 (IX (yk h).1 (Ku (yk h).2).2) m.g m.k m.kx m.L m.x (Ku (Ku (yk h).2).1).2 B (fun s=>(hB s).symm) (gt B) (Rn B) (Mv B)⟩
theorem OE {f:FuncId} {fn:Func} {Λ:List (LN P)} (h: (EB P f,fT (pF fn),Nat.blt f 1048576&&Dr (ow Λ))=(some fn,ow Λ,true)):EB P f=some fn/\(∀c,fn.body=some c->i9 P (Dm (Dq Λ)) (fT c))/\Nat.blt f 1048576=true:=
 have h2:=yk (yk h).2
 ⟨(yk h).1,Sw h2.1 (IX rfl (Ku h2.2).2),(Ku h2.2).1⟩
noncomputable def TT (f:FuncId) (fn:Func) (ps:List BE) (rs:List Ty) (F:pt.D ps->Option (qj.D rs)) (Y:List (Kt P)) (Λ:List (LN P)) (h: (EB P f,fT (pF fn),Nat.blt f 1048576&&Dr (ow Λ))=(some fn,ow Λ,true))
  (hF: ∀x,(F x).bind (fun y=>ret (pC rs y) fun v g=>some (v,g))=Sg Θ (EC (IW Y)) (Dm (Dq Λ)) fn (lz ps x) fun v g=>some (v,g)):Kt P:=
 ⟨f,Ou ps rs F,Qc hΘ (wQ Y) hm (OE h).1 (OE h).2.1 (OE h).2.2 F (fun x=>(hF x).symm) fun _ _ h=>h⟩
noncomputable def TA (f:FuncId) (fn:Func) (el:Ty) (ps:List BE) (rs:List Ty) (F:List el.D->pt.D ps->Option (qj.D rs)) (Y:List (Kt P)) (Λ:List (LN P)) (h: (EB P f,fT (pF fn),Nat.blt f 1048576&&Dr (ow Λ))=(some fn,ow Λ,true))
  (hF: ∀l x,(F l x).bind (fun y=>ret (pC rs y) fun v g=>some (v,g))=Mi Θ (EC (IW Y)) (Dm (Dq Λ)) fn 0 el l (lz ps x) fun v g=>some (v,g)):Kt P:=
 ⟨Ij f,Ro el ps rs F,Qd hΘ (wQ Y) hm (OE h).1 (OE h).2.1 F (fun l x=>(hF l x).symm) fun _ _ _ h=>h⟩
noncomputable def TB (f:FuncId) (fn:Func) (el:Ty) (ps:List BE) (rs:List Ty) (F:List el.D->pt.D ps->Option (List el.D×qj.D rs)) (Y:List (Kt P)) (Λ:List (LN P)) (h: (EB P f,fT (pF fn),Nat.blt f 1048576&&Dr (ow Λ))=(some fn,ow Λ,true))
  (hF: ∀l x,(F l x).bind (fun y=>Rp el rs y fun v g=>some (v,g))=Mi Θ (EC (IW Y)) (Dm (Dq Λ)) fn 1 el l (lz ps x) fun v g=>some (v,g)):Kt P:=
 ⟨Ad f,Rq el ps rs F,Qf hΘ (wQ Y) hm (OE h).1 (OE h).2.1 (OE h).2.2 F (fun l x=>(hF l x).symm) fun _ _ _ h=>h⟩
noncomputable def TC (f:FuncId) (fn:Func) (t:Ty) (ps:List BE) (rs:List Ty) (F:t.D->pt.D ps->Option (t.D×qj.D rs)) (Y:List (Kt P)) (Λ:List (LN P)) (h: (EB P f,fT (pF fn),Nat.blt f 1048576&&Dr (ow Λ))=(some fn,ow Λ,true))
  (hF: ∀l x,(F l x).bind (fun y=>Rr t rs y fun v g=>some (v,g))=Pz Θ (EC (IW Y)) (Dm (Dq Λ)) fn t l (lz ps x) fun v g=>some (v,g)):Kt P:=
 ⟨Ad f,Rs t ps rs F,Qg hΘ (wQ Y) hm (OE h).1 (OE h).2.1 (OE h).2.2 F (fun l x=>(hF l x).symm) fun _ _ _ h=>h⟩
abbrev TD (t:Ty) (y:List t.D×Unit):Option (V×List eL):=ret (pC [.ls t] y) fun v g=>some (v,g)
abbrev TU (t:Ty) (n:Nat) (l:List t.D):Option (V×List eL):=dU ((([]:List t.D)++l).length*n<=2 ^ 40) (TD t (([]:List t.D)++l,())) none
noncomputable def TE (f:FuncId) (fn:Func) (t:Ty) (n:Nat) (F:List t.D->Option (List t.D×Unit)) (h: (EB P f,fT (pF fn),Nat.blt f 1048576&&Dr (ow ([]:List (LN P))))=(some fn,ow ([]:List (LN P)),true))
  (h1: ∀l,F l=dU (l.length*n<=2 ^ 40) (some (l,())) none)
  (h2: ∀x:pt.D [.ty (.ls t)],Sg Θ (EC (IW ([]:List (Kt P)))) (Dm (Dq ([]:List (LN P)))) fn (lz [.ty (.ls t)] x) (fun v g=>some (v,g))=Rb x.1 (Px (TD t ([],())) (TU t n x.1) none) (TU t n x.1)):Kt P:=
 TT hΘ hm f fn [.ty (.ls t)] [.ls t] (fun x=>F x.1) [] [] h fun x=>by rw[h2,h1];exact (Qj x.1 n (TD t)).symm
def Sx (j g:Nat) (k1 k2:Kt P) (h:k2.n=k1.n):Kt P:=⟨k1.n,Ox (Sv j g) k1.e k2.e,Oy k1.ok (h ▸ k2.ok)⟩
end
end
end Go.Proofs.YtjnleglhcppgcaaGreat.En
