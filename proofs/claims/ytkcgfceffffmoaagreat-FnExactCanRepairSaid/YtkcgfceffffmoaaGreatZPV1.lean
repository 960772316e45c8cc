/- Servers' numbers: spec and impl tell the same. -/
import Derived.Test.YtkcgfceffffmoaaGreatZPW
namespace Go.Proofs.YtkcgfceffffmoaaGreat.En
open Go
theorem zp {ρ:Type} (a b:Int) (x y:ρ):br (a==b) x y=if a=b then x else y:=by
 rw [OJ]
 by_cases h:a=b <;> simp [h]
theorem nW {ρ:Type} (b:Bool) (x y:ρ):br (!b) x y=br b y x:=by cases b <;> rfl
def rK (x a b:Int):Bool:=decide (a≤x)&&decide (x≤b)
theorem uP (x a b:Int):dI x a b=some (rK x a b,()):=by
 unfold dI wN rK
 rw [aR]
 split <;> rename_i h <;> simp [h]
theorem wn (x a b:Int):ce x a b=some (rK x a b,()):=by
 unfold ce rA rK
 rw [aR]
 split <;> rename_i h <;> simp [h]
theorem ke {x a b:Int}:rK x a b=true↔a≤x∧x≤b:=by simp [rK]
def JW (l:List Int):Prop:= ∀ k (h:k < l.length),(0≤l[k] ∧l[k] ≤4)∧ ∀ _:0 < k,l[k - 1]'(by omega) < l[k]
theorem sq (l:List Int) (hl:l.length≤maxLen): (fF l=some (true,())∧fG l=some (true,())∧JW l)∨(fF l=some (false,())∧fG l=some (false,())):=by
 have cd:=oA (B1:=dJ) (B2:=dQ) l.length (fun k=>((l,(k:Int),()),(),())) (fun k=>((l,l,(l.length:Int),(k:Int),()),(),())) (.inr (((),()),(),())) (.inr (((),()),(),())) (fun _=> .inl ((false,()),(),())) (fun _=> .inl ((false,()),(),()))
  (fun k=> ∀ h:k < l.length,(0≤l[k] ∧l[k] ≤4)∧ ∀ _:0 < k,l[k - 1]'(by omega) < l[k]) (fun _=>True)
  (by simp only [dJ,gH]; rw [aR,if_neg (by omega)])
  (by simp only [dQ,gK]; rw [aR,if_neg (by omega)])
  (fun k hk=>by
    have c1: (k:Int) < (l.length:Int):=by omega
    have c2: (0:Int)≤(k:Int):=by omega
    have e1:l[k]? =some l[k] :=List.getElem?_eq_getElem hk
    simp only [dJ,gH,dQ,gK,aR,cU,if_pos c1,if_pos c2,Int.toNat_natCast,e1,Option.bind_some,uP,wn]
    cases hw:rK l[k] 0 4 with
    | false=>exact .inr ⟨rfl,rfl,trivial⟩
    | true=>
      simp only [Bool.not_true,cT]
      have hw:=ke.1 hw
      by_cases h0:0 < k
      ·have c3: (k:Int) > 0:=by omega
       have c4: (0:Int)≤((k - 1:Nat):Int):=by omega
       have e2:l[k - 1]? =some l[k - 1] :=List.getElem?_eq_getElem (by omega)
       simp only [if_pos c3,rp h0 (by omega),if_pos c4,Int.toNat_natCast,e2,Option.bind_some]
       by_cases hlt:l[k - 1] < l[k]
       ·rw [if_neg (by omega),if_neg (by omega),cc hl hk]
        exact .inl ⟨rfl,rfl,fun _=>⟨hw,fun _=>hlt⟩⟩
       ·rw [if_pos (by omega),if_pos (by omega)]
        exact .inr ⟨rfl,rfl,trivial⟩
      ·rw [if_neg (by omega),if_neg (by omega),cc hl hk]
       exact .inl ⟨rfl,rfl,fun _=>⟨hw,fun h=>absurd h h0⟩⟩)
 unfold fF lI fG lS
 rcases cd with ⟨k1,k2,k3⟩ | ⟨k,_,k1,k2,_⟩
 ·rw [show kB ((l,0,()),(),())=_ from k1,show kK ((l,l,(l.length:Int),0,()),(),())=_ from k2]
  exact .inl ⟨rfl,rfl,fun k hk=>k3 k hk hk⟩
 ·rw [show kB ((l,0,()),(),())=_ from k1,show kK ((l,l,(l.length:Int),0,()),(),())=_ from k2]
  exact .inr ⟨rfl,rfl⟩
theorem JW.lt {l:List Int} (h:JW l): ∀ (d i:Nat) (h2:i+d+1 < l.length),l[i]'(by omega) < l[i+d+1] :=by
 intro d
 induction d with
 | zero=>
   intro i h2
   exact (h (i+1) h2).2 (by omega)
 | succ d ih=>
   intro i h2
   have h1:=ih i (by omega)
   have h3:=(h (i+d+1+1) h2).2 (by omega)
   exact Int.lt_trans h1 h3
theorem JW.pair {l:List Int} (h:JW l):l.Pairwise (· < ·):=by
 rw [List.pairwise_iff_getElem]
 intro i j hi hj hij
 have:=h.lt (j - i - 1) i (by omega)
 simpa [show i+(j - i - 1)+1=j by omega] using this
theorem JW.len {l:List Int} (h:JW l):l.length≤5:=by
 have ge: ∀ k (hk:k < l.length),(k:Int)≤l[k] :=by
  intro k
  induction k with
  | zero=>intro hk; exact (h 0 hk).1.1
  | succ k ih=>
    intro hk
    have h1:=ih (by omega)
    have h2:=(h (k+1) hk).2 (by omega)
    simp only [Nat.add_sub_cancel] at h2
    omega
 rcases Nat.lt_or_ge 5 l.length with hlt | hge
 ·have h1:=ge 5 hlt
  have h2:=(h 5 hlt).1.2
  omega
 ·exact hge
theorem jk (l:List Int) (x:Int) (hl:l.length≤maxLen):fa l x=some (decide (x∈l),())∧fi l x=some (decide (x∈l),()):=by
 have cd:=oA (B1:=eg) (B2:=dR) l.length (fun k=>((l,x,(k:Int),()),(),())) (fun k=>((l,x,(l.length:Int),(k:Int),()),(),())) (.inr (((),()),(),())) (.inr (((),()),(),())) (fun _=> .inl ((true,()),(),())) (fun k=> .inl (((k:Int),()),(),()))
  (fun k=>l[k]? ≠some x) (fun k=>l[k]? =some x)
  (by simp only [eg,iQ]; rw [aR,if_neg (by omega)])
  (by simp only [dR,gM]; rw [aR,if_neg (by omega)])
  (fun k hk=>by
    have c1: (k:Int) < (l.length:Int):=by omega
    have c2: (0:Int)≤(k:Int):=by omega
    have e1:l[k]? =some l[k] :=List.getElem?_eq_getElem hk
    simp only [eg,iQ,dR,gM,aR,cU,if_pos c1,if_pos c2,Int.toNat_natCast,e1,Option.bind_some,cc hl hk,zp]
    by_cases he:l[k] =x
    ·rw [if_pos he,if_pos he.symm,he]
     exact .inr ⟨rfl,rfl,rfl⟩
    ·rw [if_neg he,if_neg (fun h=>he h.symm)]
     exact .inl ⟨rfl,rfl,fun h=>he (Option.some.inj h)⟩)
 unfold fa nx fi nG gO i8 lh lT
 rcases cd with ⟨k1,k2,k3⟩ | ⟨k,hk,k1,k2,k3⟩
 ·rw [show lK ((l,x,0,()),(),())=_ from k1,show kM ((l,x,(l.length:Int),0,()),(),())=_ from k2]
  have hn:x∉l:=fun h=>by
   obtain⟨k,hk,he⟩:=List.getElem_of_mem h
   exact k3 k hk (by rw [List.getElem?_eq_getElem hk,he])
  rw [decide_eq_false hn]
  exact⟨rfl,rfl⟩
 ·rw [show lK ((l,x,0,()),(),())=_ from k1,show kM ((l,x,(l.length:Int),0,()),(),())=_ from k2]
  rw [decide_eq_true (List.mem_of_getElem? k3)]
  refine⟨rfl,?_⟩
  simp only [Option.bind_some,Sum.elim_inl]
  rw [decide_eq_true (by omega)]
end Go.Proofs.YtkcgfceffffmoaaGreat.En
