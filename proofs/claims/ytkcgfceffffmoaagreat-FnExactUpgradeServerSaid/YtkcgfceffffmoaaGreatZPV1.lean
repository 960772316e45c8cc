/- Servers' numbers: spec and impl tell the same. -/
import Derived.Test.YtkcgfceffffmoaaGreatZPW
namespace Go.Proofs.YtkcgfceffffmoaaGreat.En
open Go
theorem GL {ρ:Type} (a b:Int) (x y:ρ):br (a==b) x y=if a=b then x else y:=by
 rw [RZ]
 by_cases h:a=b <;> simp [h]
theorem qd {ρ:Type} (b:Bool) (x y:ρ):br (!b) x y=br b y x:=by cases b <;> rfl
def wQ (x a b:Int):Bool:=decide (a≤x)&&decide (x≤b)
theorem AU (x a b:Int):dT x a b=some (wQ x a b,()):=by
 unfold dT zG wQ
 rw [aB]
 split <;> rename_i h <;> simp [h]
theorem Ch (x a b:Int):ce x a b=some (wQ x a b,()):=by
 unfold ce te wQ
 rw [aB]
 split <;> rename_i h <;> simp [h]
theorem qE {x a b:Int}:wQ x a b=true↔a≤x∧x≤b:=by simp [wQ]
def Pm (l:List Int):Prop:= ∀ k (h:k < l.length),(0≤l[k] ∧l[k] ≤4)∧ ∀ _:0 < k,l[k - 1]'(by omega) < l[k]
theorem GM (l:List Int) (hl:l.length≤maxLen): (gp l=some (true,())∧gq l=some (true,())∧Pm l)∨(gp l=some (false,())∧gq l=some (false,())):=by
 have ca:=qu (B1:=dU) (B2:=dY) l.length (fun k=>((l,(k:Int),()),(),())) (fun k=>((l,l,(l.length:Int),(k:Int),()),(),())) (.inr (((),()),(),())) (.inr (((),()),(),())) (fun _=> .inl ((false,()),(),())) (fun _=> .inl ((false,()),(),()))
  (fun k=> ∀ h:k < l.length,(0≤l[k] ∧l[k] ≤4)∧ ∀ _:0 < k,l[k - 1]'(by omega) < l[k]) (fun _=>True)
  (by simp only [dU,iA]; rw [aB,if_neg (by omega)])
  (by simp only [dY,iC]; rw [aB,if_neg (by omega)])
  (fun k hk=>by
    have c1: (k:Int) < (l.length:Int):=by omega
    have c2: (0:Int)≤(k:Int):=by omega
    have e1:l[k]? =some l[k] :=List.getElem?_eq_getElem hk
    simp only [dU,iA,dY,iC,aB,bB,if_pos c1,if_pos c2,Int.toNat_natCast,e1,Option.bind_some,AU,Ch]
    cases hw:wQ l[k] 0 4 with
    | false=>exact .inr ⟨rfl,rfl,trivial⟩
    | true=>
      simp only [Bool.not_true,cT]
      have hw:=qE.1 hw
      by_cases h0:0 < k
      ·have c3: (k:Int) > 0:=by omega
       have c4: (0:Int)≤((k - 1:Nat):Int):=by omega
       have e2:l[k - 1]? =some l[k - 1] :=List.getElem?_eq_getElem (by omega)
       simp only [if_pos c3,s3 h0 (by omega),if_pos c4,Int.toNat_natCast,e2,Option.bind_some]
       by_cases hlt:l[k - 1] < l[k]
       ·rw [if_neg (by omega),if_neg (by omega),bM hl hk]
        exact .inl ⟨rfl,rfl,fun _=>⟨hw,fun _=>hlt⟩⟩
       ·rw [if_pos (by omega),if_pos (by omega)]
        exact .inr ⟨rfl,rfl,trivial⟩
      ·rw [if_neg (by omega),if_neg (by omega),bM hl hk]
       exact .inl ⟨rfl,rfl,fun _=>⟨hw,fun h=>absurd h h0⟩⟩)
 unfold gp mR gq m8
 rcases ca with ⟨k1,k2,k3⟩ | ⟨k,_,k1,k2,_⟩
 ·rw [show lI ((l,0,()),(),())=_ from k1,show lQ ((l,l,(l.length:Int),0,()),(),())=_ from k2]
  exact .inl ⟨rfl,rfl,fun k hk=>k3 k hk hk⟩
 ·rw [show lI ((l,0,()),(),())=_ from k1,show lQ ((l,l,(l.length:Int),0,()),(),())=_ from k2]
  exact .inr ⟨rfl,rfl⟩
theorem Pm.lt {l:List Int} (h:Pm l): ∀ (d i:Nat) (h2:i+d+1 < l.length),l[i]'(by omega) < l[i+d+1] :=by
 intro d
 induction d with
 | zero=>
   intro i h2
   exact (h (i+1) h2).2 (by omega)
 | succ d ih=>
   intro i h2
   have h1:=ih i (by omega)
   have h3:=(h (i+d+1+1) h2).2 (by omega)
   exact Int.lt_trans h1 h3
theorem Pm.pair {l:List Int} (h:Pm l):l.Pairwise (· < ·):=by
 rw [List.pairwise_iff_getElem]
 intro i j hi hj hij
 have:=h.lt (j - i - 1) i (by omega)
 simpa [show i+(j - i - 1)+1=j by omega] using this
theorem Pm.len {l:List Int} (h:Pm l):l.length≤5:=by
 have ge: ∀ k (hk:k < l.length),(k:Int)≤l[k] :=by
  intro k
  induction k with
  | zero=>intro hk; exact (h 0 hk).1.1
  | succ k ih=>
    intro hk
    have h1:=ih (by omega)
    have h2:=(h (k+1) hk).2 (by omega)
    simp only [Nat.add_sub_cancel] at h2
    omega
 rcases Nat.lt_or_ge 5 l.length with hlt | hge
 ·have h1:=ge 5 hlt
  have h2:=(h 5 hlt).1.2
  omega
 ·exact hge
theorem n5 (l:List Int) (x:Int) (hl:l.length≤maxLen):gz l x=some (decide (x∈l),())∧gA l x=some (decide (x∈l),()):=by
 have ca:=qu (B1:=eA) (B2:=dZ) l.length (fun k=>((l,x,(k:Int),()),(),())) (fun k=>((l,x,(l.length:Int),(k:Int),()),(),())) (.inr (((),()),(),())) (.inr (((),()),(),())) (fun _=> .inl ((true,()),(),())) (fun k=> .inl (((k:Int),()),(),()))
  (fun k=>l[k]? ≠some x) (fun k=>l[k]? =some x)
  (by simp only [eA,jF]; rw [aB,if_neg (by omega)])
  (by simp only [dZ,iE]; rw [aB,if_neg (by omega)])
  (fun k hk=>by
    have c1: (k:Int) < (l.length:Int):=by omega
    have c2: (0:Int)≤(k:Int):=by omega
    have e1:l[k]? =some l[k] :=List.getElem?_eq_getElem hk
    simp only [eA,jF,dZ,iE,aB,bB,if_pos c1,if_pos c2,Int.toNat_natCast,e1,Option.bind_some,bM hl hk,GL]
    by_cases he:l[k] =x
    ·rw [if_pos he,if_pos he.symm,he]
     exact .inr ⟨rfl,rfl,rfl⟩
    ·rw [if_neg he,if_neg (fun h=>he h.symm)]
     exact .inl ⟨rfl,rfl,fun h=>he (Option.some.inj h)⟩)
 unfold gz ox gA oG iG jQ mm m9
 rcases ca with ⟨k1,k2,k3⟩ | ⟨k,hk,k1,k2,k3⟩
 ·rw [show mU ((l,x,0,()),(),())=_ from k1,show lS ((l,x,(l.length:Int),0,()),(),())=_ from k2]
  have hn:x∉l:=fun h=>by
   obtain⟨k,hk,he⟩:=List.getElem_of_mem h
   exact k3 k hk (by rw [List.getElem?_eq_getElem hk,he])
  rw [decide_eq_false hn]
  exact⟨rfl,rfl⟩
 ·rw [show mU ((l,x,0,()),(),())=_ from k1,show lS ((l,x,(l.length:Int),0,()),(),())=_ from k2]
  rw [decide_eq_true (List.mem_of_getElem? k3)]
  refine⟨rfl,?_⟩
  simp only [Option.bind_some,Sum.elim_inl]
  rw [decide_eq_true (by omega)]
end Go.Proofs.YtkcgfceffffmoaaGreat.En
