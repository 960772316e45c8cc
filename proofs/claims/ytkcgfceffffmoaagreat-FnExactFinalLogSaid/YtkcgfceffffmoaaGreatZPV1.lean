/- Servers' numbers: spec and impl tell the same. -/
import Derived.Test.YtkcgfceffffmoaaGreatZPW
namespace Go.Proofs.YtkcgfceffffmoaaGreat.En
open Go
theorem xi {ρ:Type} (a b:Int) (x y:ρ):br (a==b) x y=if a=b then x else y:=by
 rw [Ps]
 by_cases h:a=b <;> simp [h]
theorem oD {ρ:Type} (b:Bool) (x y:ρ):br (!b) x y=br b y x:=by cases b <;> rfl
def tR (x a b:Int):Bool:=decide (a≤x)&&decide (x≤b)
theorem xj (x a b:Int):ea x a b=some (tR x a b,()):=by
 unfold ea xV tR
 rw [aE]
 split <;> rename_i h <;> simp [h]
theorem AB (x a b:Int):cc x a b=some (tR x a b,()):=by
 unfold cc rV tR
 rw [aE]
 split <;> rename_i h <;> simp [h]
theorem mz {x a b:Int}:tR x a b=true↔a≤x∧x≤b:=by simp [tR]
def KJ (l:List Int):Prop:= ∀ k (h:k < l.length),(0≤l[k] ∧l[k] ≤4)∧ ∀ _:0 < k,l[k - 1]'(by omega) < l[k]
theorem sW (l:List Int) (hl:l.length≤maxLen): (fX l=some (true,())∧fY l=some (true,())∧KJ l)∨(fX l=some (false,())∧fY l=some (false,())):=by
 have b8:=oG (B1:=dL) (B2:=dP) l.length (fun k=>((l,(k:Int),()),(),())) (fun k=>((l,l,(l.length:Int),(k:Int),()),(),())) (.inr (((),()),(),())) (.inr (((),()),(),())) (fun _=> .inl ((false,()),(),())) (fun _=> .inl ((false,()),(),()))
  (fun k=> ∀ h:k < l.length,(0≤l[k] ∧l[k] ≤4)∧ ∀ _:0 < k,l[k - 1]'(by omega) < l[k]) (fun _=>True)
  (by simp only [dL,ii]; rw [aE,if_neg (by omega)])
  (by simp only [dP,ij]; rw [aE,if_neg (by omega)])
  (fun k hk=>by
    have c1: (k:Int) < (l.length:Int):=by omega
    have c2: (0:Int)≤(k:Int):=by omega
    have e1:l[k]? =some l[k] :=List.getElem?_eq_getElem hk
    simp only [dL,ii,dP,ij,aE,co,if_pos c1,if_pos c2,Int.toNat_natCast,e1,Option.bind_some,xj,AB]
    cases hw:tR l[k] 0 4 with
    | false=>exact .inr ⟨rfl,rfl,trivial⟩
    | true=>
      simp only [Bool.not_true,dh]
      have hw:=mz.1 hw
      by_cases h0:0 < k
      ·have c3: (k:Int) > 0:=by omega
       have c4: (0:Int)≤((k - 1:Nat):Int):=by omega
       have e2:l[k - 1]? =some l[k - 1] :=List.getElem?_eq_getElem (by omega)
       simp only [if_pos c3,rL h0 (by omega),if_pos c4,Int.toNat_natCast,e2,Option.bind_some]
       by_cases hlt:l[k - 1] < l[k]
       ·rw [if_neg (by omega),if_neg (by omega),b7 hl hk]
        exact .inl ⟨rfl,rfl,fun _=>⟨hw,fun _=>hlt⟩⟩
       ·rw [if_pos (by omega),if_pos (by omega)]
        exact .inr ⟨rfl,rfl,trivial⟩
      ·rw [if_neg (by omega),if_neg (by omega),b7 hl hk]
       exact .inl ⟨rfl,rfl,fun _=>⟨hw,fun h=>absurd h h0⟩⟩)
 unfold fX l5 fY mb
 rcases b8 with ⟨k1,k2,k3⟩ | ⟨k,_,k1,k2,_⟩
 ·rw [show kX ((l,0,()),(),())=_ from k1,show lb ((l,l,(l.length:Int),0,()),(),())=_ from k2]
  exact .inl ⟨rfl,rfl,fun k hk=>k3 k hk hk⟩
 ·rw [show kX ((l,0,()),(),())=_ from k1,show lb ((l,l,(l.length:Int),0,()),(),())=_ from k2]
  exact .inr ⟨rfl,rfl⟩
theorem KJ.lt {l:List Int} (h:KJ l): ∀ (d i:Nat) (h2:i+d+1 < l.length),l[i]'(by omega) < l[i+d+1] :=by
 intro d
 induction d with
 | zero=>
   intro i h2
   exact (h (i+1) h2).2 (by omega)
 | succ d ih=>
   intro i h2
   have h1:=ih i (by omega)
   have h3:=(h (i+d+1+1) h2).2 (by omega)
   exact Int.lt_trans h1 h3
theorem KJ.pair {l:List Int} (h:KJ l):l.Pairwise (· < ·):=by
 rw [List.pairwise_iff_getElem]
 intro i j hi hj hij
 have:=h.lt (j - i - 1) i (by omega)
 simpa [show i+(j - i - 1)+1=j by omega] using this
theorem KJ.len {l:List Int} (h:KJ l):l.length≤5:=by
 have ge: ∀ k (hk:k < l.length),(k:Int)≤l[k] :=by
  intro k
  induction k with
  | zero=>intro hk; exact (h 0 hk).1.1
  | succ k ih=>
    intro hk
    have h1:=ih (by omega)
    have h2:=(h (k+1) hk).2 (by omega)
    simp only [Nat.add_sub_cancel] at h2
    omega
 rcases Nat.lt_or_ge 5 l.length with hlt | hge
 ·have h1:=ge 5 hlt
  have h2:=(h 5 hlt).1.2
  omega
 ·exact hge
theorem lM (l:List Int) (x:Int) (hl:l.length≤maxLen):gf l x=some (decide (x∈l),())∧gg l x=some (decide (x∈l),()):=by
 have b8:=oG (B1:=eo) (B2:=dQ) l.length (fun k=>((l,x,(k:Int),()),(),())) (fun k=>((l,x,(l.length:Int),(k:Int),()),(),())) (.inr (((),()),(),())) (.inr (((),()),(),())) (fun _=> .inl ((true,()),(),())) (fun k=> .inl (((k:Int),()),(),()))
  (fun k=>l[k]? ≠some x) (fun k=>l[k]? =some x)
  (by simp only [eo,jh]; rw [aE,if_neg (by omega)])
  (by simp only [dQ,ik]; rw [aE,if_neg (by omega)])
  (fun k hk=>by
    have c1: (k:Int) < (l.length:Int):=by omega
    have c2: (0:Int)≤(k:Int):=by omega
    have e1:l[k]? =some l[k] :=List.getElem?_eq_getElem hk
    simp only [eo,jh,dQ,ik,aE,co,if_pos c1,if_pos c2,Int.toNat_natCast,e1,Option.bind_some,b7 hl hk,xi]
    by_cases he:l[k] =x
    ·rw [if_pos he,if_pos he.symm,he]
     exact .inr ⟨rfl,rfl,rfl⟩
    ·rw [if_neg he,if_neg (fun h=>he h.symm)]
     exact .inl ⟨rfl,rfl,fun h=>he (Option.some.inj h)⟩)
 unfold gf nG gg nR il js lE mc
 rcases b8 with ⟨k1,k2,k3⟩ | ⟨k,hk,k1,k2,k3⟩
 ·rw [show l7 ((l,x,0,()),(),())=_ from k1,show ld ((l,x,(l.length:Int),0,()),(),())=_ from k2]
  have hn:x∉l:=fun h=>by
   obtain⟨k,hk,he⟩:=List.getElem_of_mem h
   exact k3 k hk (by rw [List.getElem?_eq_getElem hk,he])
  rw [decide_eq_false hn]
  exact⟨rfl,rfl⟩
 ·rw [show l7 ((l,x,0,()),(),())=_ from k1,show ld ((l,x,(l.length:Int),0,()),(),())=_ from k2]
  rw [decide_eq_true (List.mem_of_getElem? k3)]
  refine⟨rfl,?_⟩
  simp only [Option.bind_some,Sum.elim_inl]
  rw [decide_eq_true (by omega)]
end Go.Proofs.YtkcgfceffffmoaaGreat.En
