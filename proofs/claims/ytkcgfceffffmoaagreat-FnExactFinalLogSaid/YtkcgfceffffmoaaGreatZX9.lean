import Derived.Test.YtkcgfceffffmoaaGreatZX8
import Derived.ProofKit
import Derived.ChangeOld
import Derived.Deep.Slices
import Derived.OpenShut
import Derived.Below
import Derived.Carry
import Derived.WideShapes
namespace Go.Proofs.YtkcgfceffffmoaaGreat.En
open Go
inductive Kc where | i (k:IntKind) | b | s | ls (t:Ty)
 deriving DecidableEq
def iZ:List (Option Ty)→List Value→List Kc
 | some t::l,_::m=> .ls t::iZ l m
 | none::l, .int k _::m=> .i k::iZ l m
 | none::l, .bool _::m=> .b::iZ l m
 | none::l,_::m=> .s::iZ l m
 | _,_=> []
def Ty.kc (t:Ty):List Kc:=iZ t.csh t.zvs
inductive T.bd:T→Prop where
 | int {k:IntKind} {n:Int} (h:k.min≤n∧n≤k.max):T.bd (.sc (.int k n))
 | bool (v:Bool):T.bd (.sc (.bool v))
 | str (v:ByteArray):T.bd (.sc (.string v))
 | sl {sz:Nat} {rows:List (List T)} (hl:rows.length≤maxLen) (h: ∀ r∈rows,∀ x∈r,T.bd x):T.bd (.sl sz rows)
section
variable {H:Type} {enc:TypeId×Value→H} {P:Program} {w:World} {base:Nat} {sp:Nat→Bool} {held:Bool} {Θ:gF}
structure Cs (w:World) (cs:List Value) (Xs:List C):Prop where
 len:Xs.length=cs.length
 one: ∀ u∈cs,u.oneCell'=true
 ro: ∀ (k:Nat) (c:C) (u:Value),Xs[k]? =some c→cs[k]? =some u→RO w (fun b=>b < w.heap.size) c.tree u
 bd: ∀ c∈Xs,T.bd c.tree
theorem Cs.nil:Cs w [] [] :=⟨rfl,fun _ h=>(by cases h),fun _ _ _ h=>(by cases h),fun _ h=>(by cases h)⟩
end
end Go.Proofs.YtkcgfceffffmoaaGreat.En
namespace Go.Proofs.YtkcgfceffffmoaaGreat.En
open Go Go.ChangeShapes Go.WideShapes Go.RowKit
section
variable {H:Type} {enc:TypeId×Value→H} {P:Program} {W:World} {Θ:gF} {base:Nat}
theorem C.VR {c:C} {u:Value} {bt:Bt} (hA:bt.A=fun b=>b < W.heap.size) (h:RO W (fun b=>b < W.heap.size) c.tree u) (hg:c.good=true):En.VR W bt c.av u:=by
 cases c with
 | sc v=>
   cases h with
   | sc h=>exact .sc h
 | ls t l=>exact .ro (by rw [hA]; exact h)
end
end Go.Proofs.YtkcgfceffffmoaaGreat.En
namespace Go.Proofs.YtkcgfceffffmoaaGreat.En
open Go
section
variable {α β σ ε:Type}
theorem gv {B:σ→Option (σ⊕ε)} (l:List α) (mk:Nat→β→σ) (J:Nat→β→Prop) (g:Nat→List α→β→ε)
  (hn: ∀ b,J l.length b→B (mk l.length b)=some (.inr (g l.length [] b)))
  (hc: ∀ k b x,l[k]? =some x→J k b→(∃ b',B (mk k b)=some (.inl (mk (k+1) b'))∧J (k+1) b'∧g k (x::l.drop (k+1)) b=g (k+1) (l.drop (k+1)) b')∨B (mk k b)=some (.inr (g k (x::l.drop (k+1)) b))):
  ∀ k b,k≤l.length→J k b→cH B (mk k b)=some (g k (l.drop k) b):=by
 intro k b hk hJ
 generalize hn0:l.length - k=n
 induction n generalizing k b with
 | zero=>
   obtain rfl:k=l.length:=by omega
   rw [dP,hn b hJ,List.drop_length]
   rfl
 | succ n ih=>
   have hlt:k < l.length:=by omega
   rw [List.drop_eq_getElem_cons hlt]
   rcases hc k b l[k] (List.getElem?_eq_getElem hlt) hJ with ⟨b',h1,h2,h3⟩ | h1
   ·rw [dP,h1,h3]
    exact ih (k+1) b' (by omega) h2 (by omega)
   ·rw [dP,h1]
    rfl
theorem fV {B:σ→Option (σ⊕ε)} (I:σ→Prop) (μ:σ→Nat) (E:ε→Prop)
  (h: ∀ s,I s→(∃ s',B s=some (.inl s')∧I s'∧μ s' < μ s)∨ ∃ e,B s=some (.inr e)∧E e) {s:σ} (hs:I s): ∃ e,cH B s=some e∧E e:=by
 generalize hn:μ s=n
 induction n using Nat.strongRecOn generalizing s with
 | _ n ih=>
   rcases h s hs with ⟨s',h1,h2,h3⟩ | ⟨e,h1,h2⟩
   ·rw [dP,h1]
    exact ih (μ s') (by omega) h2 rfl
   ·exact⟨e,by rw [dP,h1]; rfl,h2⟩
theorem eE (x y:α):br true x y=x:=rfl
theorem cI (x y:α):br false x y=y:=rfl
theorem jW (b:Bool) (x y:α):br b x y=if b=true then x else y:=by cases b <;> rfl
theorem aE (p:Prop) [Decidable p] (x y:α):br (decide p) x y=if p then x else y:=by unfold br; by_cases h:p <;> simp [h]
theorem dX {p:Prop} [Decidable p] (h:p) (x y:α):aw p x y=x:=if_pos h
theorem bi (p:Prop) [Decidable p] (x y:α):aw p x y=if p then x else y:=rfl
end
theorem eF {n:Int} (h1: -9223372036854775808≤n) (h2:n < 9223372036854775808):IntKind.wrap .i64 n=n:=by
 simp only [IntKind.wrap,IntKind.bits,IntKind.signed,Bool.true_and]
 split
 ·rename_i h
  have h:=of_decide_eq_true h
  omega
 ·rename_i h
  have h: ¬ (n % 2 ^ 64≥2 ^ (64 - 1)):=fun hh=>h (decide_eq_true hh)
  omega
theorem i0 {α:Type} {l:List α} {k:Nat} {x:α} (h:l[k]? =some x):k < l.length:=(List.getElem?_eq_some_iff.1 h).1
theorem fk {α:Type} {l:List α} {k:Nat} (y:α) (h:k < l.length): (l.set k y).take (k+1)=l.take k++ [y] :=by
 rw [List.take_add_one,List.getElem?_set_self h]
 simp [List.take_set_of_le]
end Go.Proofs.YtkcgfceffffmoaaGreat.En
namespace Go.Proofs.YtkcgfceffffmoaaGreat.En
open Go
section
variable {σ ε σ1 ε1 σ2 ε2 α β:Type}
theorem bP {B:σ→Option (σ⊕ε)} {s:σ} {e:ε} (h:B s=some (.inr e)):cH B s=some e:=by rw [dP,h]; rfl
theorem eX {B:σ→Option (σ⊕ε)} {s s':σ} (h:B s=some (.inl s')):cH B s=cH B s':=by rw [dP,h]; rfl
theorem fW {B1:σ1→Option (σ1⊕ε1)} {B2:σ2→Option (σ2⊕ε2)} (n:Nat) (m1:Nat→σ1) (m2:Nat→σ2) (t1:ε1) (t2:ε2) (f1:Nat→ε1) (f2:Nat→ε2) (P Q:Nat→Prop)
  (h1:B1 (m1 n)=some (.inr t1)) (h2:B2 (m2 n)=some (.inr t2))
  (h: ∀ k,k < n→(B1 (m1 k)=some (.inl (m1 (k+1)))∧B2 (m2 k)=some (.inl (m2 (k+1)))∧P k)∨(B1 (m1 k)=some (.inr (f1 k))∧B2 (m2 k)=some (.inr (f2 k))∧Q k)):
  (cH B1 (m1 0)=some t1∧cH B2 (m2 0)=some t2∧ ∀ k,k < n→P k)∨ ∃ k,k < n∧cH B1 (m1 0)=some (f1 k)∧cH B2 (m2 0)=some (f2 k)∧Q k:=by
 have cx: ∀ d j,j+d=n→(cH B1 (m1 j)=some t1∧cH B2 (m2 j)=some t2∧ ∀ k,j≤k→k < n→P k)∨ ∃ k,k < n∧cH B1 (m1 j)=some (f1 k)∧cH B2 (m2 j)=some (f2 k)∧Q k:=by
  intro d
  induction d with
  | zero=>
    intro j hj
    have :j=n:=by omega
    subst this
    exact .inl ⟨bP h1,bP h2,fun k a b=>by omega⟩
  | succ d ih=>
    intro j hj
    rcases h j (by omega) with ⟨g1,g2,g3⟩ | ⟨g1,g2,g3⟩
    ·rw [eX g1,eX g2]
     rcases ih (j+1) (by omega) with ⟨k1,k2,k3⟩ | k
     ·refine .inl ⟨k1,k2,fun k a b=> ?_⟩
      rcases Nat.eq_or_lt_of_le a with rfl | a
      ·exact g3
      ·exact k3 k a b
     ·exact .inr k
    ·exact .inr ⟨j,by omega,bP g1,bP g2,g3⟩
 rcases cx n 0 (by omega) with ⟨a,b,c⟩ | h
 ·exact .inl ⟨a,b,fun k hk=>c k (Nat.zero_le _) hk⟩
 ·exact .inr h
def kh (x y:Option (β×Unit)):Prop:= ∃ b,x=some (b,())∧y=some (b,())
theorem aO {n k:Nat} (hn:n≤maxLen) (hk:k < n):IntKind.wrap .i64 ((k:Int)+1)=((k+1:Nat):Int):=by
 unfold maxLen at hn
 rw [eF (by omega) (by omega)]
 rfl
theorem ej {k:Nat} (hk:0 < k) (h:k≤maxLen):IntKind.wrap .i64 ((k:Int) - 1)=((k - 1:Nat):Int):=by
 unfold maxLen at h
 rw [eF (by omega) (by omega)]
 omega
end
end Go.Proofs.YtkcgfceffffmoaaGreat.En
