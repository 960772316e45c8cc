/- Servers' numbers: spec and impl tell the same. -/
import Derived.Test.YtkcgfceffffmoaaGreatZPW
namespace Go.Proofs.YtkcgfceffffmoaaGreat.En
open Go
theorem we {ρ:Type} (a b:Int) (x y:ρ):br (a==b) x y=if a=b then x else y:=by
 rw [ZP]
 by_cases h:a=b <;> simp [h]
theorem ma {ρ:Type} (b:Bool) (x y:ρ):br (!b) x y=br b y x:=by cases b <;> rfl
def t5 (x a b:Int):Bool:=decide (a≤x)&&decide (x≤b)
theorem yu (x a b:Int):eA x a b=some (t5 x a b,()):=by
 unfold eA Fw t5
 rw [aw]
 split <;> rename_i h <;> simp [h]
theorem BU (x a b:Int):ct x a b=some (t5 x a b,()):=by
 unfold ct x0 t5
 rw [aw]
 split <;> rename_i h <;> simp [h]
theorem jJ {x a b:Int}:t5 x a b=true↔a≤x∧x≤b:=by simp [t5]
def UM (l:List Int):Prop:= ∀ k (h:k < l.length),(0≤l[k] ∧l[k] ≤4)∧ ∀ _:0 < k,l[k - 1]'(by omega) < l[k]
theorem zn (l:List Int) (hl:l.length≤maxLen): (jF l=some (true,())∧jI l=some (true,())∧UM l)∨(jF l=some (false,())∧jI l=some (false,())):=by
 have bU:=rp (B1:=ft) (B2:=fB) l.length (fun k=>((l,(k:Int),()),(),())) (fun k=>((l,l,(l.length:Int),(k:Int),()),(),())) (.inr (((),()),(),())) (.inr (((),()),(),())) (fun _=> .inl ((false,()),(),())) (fun _=> .inl ((false,()),(),()))
  (fun k=> ∀ h:k < l.length,(0≤l[k] ∧l[k] ≤4)∧ ∀ _:0 < k,l[k - 1]'(by omega) < l[k]) (fun _=>True)
  (by simp only [ft,kV]; rw [aw,if_neg (by omega)])
  (by simp only [fB,kY]; rw [aw,if_neg (by omega)])
  (fun k hk=>by
    have c1: (k:Int) < (l.length:Int):=by omega
    have c2: (0:Int)≤(k:Int):=by omega
    have e1:l[k]? =some l[k] :=List.getElem?_eq_getElem hk
    simp only [ft,kV,fB,kY,aw,be,if_pos c1,if_pos c2,Int.toNat_natCast,e1,Option.bind_some,yu,BU]
    cases hw:t5 l[k] 0 4 with
    | false=>exact .inr ⟨rfl,rfl,trivial⟩
    | true=>
      simp only [Bool.not_true,bJ]
      have hw:=jJ.1 hw
      by_cases h0:0 < k
      ·have c3: (k:Int) > 0:=by omega
       have c4: (0:Int)≤((k - 1:Nat):Int):=by omega
       have e2:l[k - 1]? =some l[k - 1] :=List.getElem?_eq_getElem (by omega)
       simp only [if_pos c3,xN h0 (by omega),if_pos c4,Int.toNat_natCast,e2,Option.bind_some]
       by_cases hlt:l[k - 1] < l[k]
       ·rw [if_neg (by omega),if_neg (by omega),bF hl hk]
        exact .inl ⟨rfl,rfl,fun _=>⟨hw,fun _=>hlt⟩⟩
       ·rw [if_pos (by omega),if_pos (by omega)]
        exact .inr ⟨rfl,rfl,trivial⟩
      ·rw [if_neg (by omega),if_neg (by omega),bF hl hk]
       exact .inl ⟨rfl,rfl,fun _=>⟨hw,fun h=>absurd h h0⟩⟩)
 unfold jF qJ jI qU
 rcases bU with ⟨k1,k2,k3⟩ | ⟨k,_,k1,k2,_⟩
 ·rw [show pb ((l,0,()),(),())=_ from k1,show pq ((l,l,(l.length:Int),0,()),(),())=_ from k2]
  exact .inl ⟨rfl,rfl,fun k hk=>k3 k hk hk⟩
 ·rw [show pb ((l,0,()),(),())=_ from k1,show pq ((l,l,(l.length:Int),0,()),(),())=_ from k2]
  exact .inr ⟨rfl,rfl⟩
theorem UM.lt {l:List Int} (h:UM l): ∀ (d i:Nat) (h2:i+d+1 < l.length),l[i]'(by omega) < l[i+d+1] :=by
 intro d
 induction d with
 | zero=>
   intro i h2
   exact (h (i+1) h2).2 (by omega)
 | succ d ih=>
   intro i h2
   have h1:=ih i (by omega)
   have h3:=(h (i+d+1+1) h2).2 (by omega)
   exact Int.lt_trans h1 h3
theorem UM.pair {l:List Int} (h:UM l):l.Pairwise (· < ·):=by
 rw [List.pairwise_iff_getElem]
 intro i j hi hj hij
 have:=h.lt (j - i - 1) i (by omega)
 simpa [show i+(j - i - 1)+1=j by omega] using this
theorem UM.len {l:List Int} (h:UM l):l.length≤5:=by
 have ge: ∀ k (hk:k < l.length),(k:Int)≤l[k] :=by
  intro k
  induction k with
  | zero=>intro hk; exact (h 0 hk).1.1
  | succ k ih=>
    intro hk
    have h1:=ih (by omega)
    have h2:=(h (k+1) hk).2 (by omega)
    simp only [Nat.add_sub_cancel] at h2
    omega
 rcases Nat.lt_or_ge 5 l.length with hlt | hge
 ·have h1:=ge 5 hlt
  have h2:=(h 5 hlt).1.2
  omega
 ·exact hge
theorem lg (l:List Int) (x:Int) (hl:l.length≤maxLen):jR l x=some (decide (x∈l),())∧iQ l x=some (decide (x∈l),()):=by
 have bU:=rp (B1:=gi) (B2:=fC) l.length (fun k=>((l,x,(k:Int),()),(),())) (fun k=>((l,x,(l.length:Int),(k:Int),()),(),())) (.inr (((),()),(),())) (.inr (((),()),(),())) (fun _=> .inl ((true,()),(),())) (fun k=> .inl (((k:Int),()),(),()))
  (fun k=>l[k]? ≠some x) (fun k=>l[k]? =some x)
  (by simp only [gi,mr]; rw [aw,if_neg (by omega)])
  (by simp only [fC,kZ]; rw [aw,if_neg (by omega)])
  (fun k hk=>by
    have c1: (k:Int) < (l.length:Int):=by omega
    have c2: (0:Int)≤(k:Int):=by omega
    have e1:l[k]? =some l[k] :=List.getElem?_eq_getElem hk
    simp only [gi,mr,fC,kZ,aw,be,if_pos c1,if_pos c2,Int.toNat_natCast,e1,Option.bind_some,bF hl hk,we]
    by_cases he:l[k] =x
    ·rw [if_pos he,if_pos he.symm,he]
     exact .inr ⟨rfl,rfl,rfl⟩
    ·rw [if_neg he,if_neg (fun h=>he h.symm)]
     exact .inl ⟨rfl,rfl,fun h=>he (Option.some.inj h)⟩)
 unfold jR sH iQ sS k9 mR qb qV
 rcases bU with ⟨k1,k2,k3⟩ | ⟨k,hk,k1,k2,k3⟩
 ·rw [show qL ((l,x,0,()),(),())=_ from k1,show pu ((l,x,(l.length:Int),0,()),(),())=_ from k2]
  have hn:x∉l:=fun h=>by
   obtain⟨k,hk,he⟩:=List.getElem_of_mem h
   exact k3 k hk (by rw [List.getElem?_eq_getElem hk,he])
  rw [decide_eq_false hn]
  exact⟨rfl,rfl⟩
 ·rw [show qL ((l,x,0,()),(),())=_ from k1,show pu ((l,x,(l.length:Int),0,()),(),())=_ from k2]
  rw [decide_eq_true (List.mem_of_getElem? k3)]
  refine⟨rfl,?_⟩
  simp only [Option.bind_some,Sum.elim_inl]
  rw [decide_eq_true (by omega)]
end Go.Proofs.YtkcgfceffffmoaaGreat.En
