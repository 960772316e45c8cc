/- Servers' numbers: spec and impl tell the same. -/
import Derived.Test.YtkcgfceffffmoaaGreatZPW
namespace Go.Proofs.YtkcgfceffffmoaaGreat.En
open Go
theorem sx {ρ:Type} (a b:Int) (x y:ρ):br (a==b) x y=if a=b then x else y:=by
 rw [aow];by_cases h:a=b <;> simp [h]
theorem iq {ρ:Type} (b:Bool) (x y:ρ):br (!b) x y=br b y x:=by cases b <;> rfl
def sP (x a b:Int):Bool:=decide (a<=x)&&decide (x<=b)
theorem vk (x a b:Int):gk x a b=some (sP x a b,()):=by
 unfold gk X5 sP;rw [ec];split <;> rename_i h <;> simp [h]
theorem z6 (x a b:Int):fp x a b=some (sP x a b,()):=by
 unfold fp Nc sP;rw [ec];split <;> rename_i h <;> simp [h]
theorem jD {x a b:Int}:sP x a b=true↔a<=x/\x<=b:=by simp [sP]
def MH (l:List Int):Prop:= ∀ k (h:k < l.length),(0<=l[k] /\l[k] <=4)/\ ∀ _:0 < k,l[k - 1]'(by omega) < l[k]
theorem JS (l:List Int) (hl:l.length<=maxLen): (jw l=some (true,())/\jx l=some (true,())/\MH l)\/(jw l=some (false,())/\jx l=some (false,())):=by
 have fC:=ug (B1:=jE) (B2:=jL) l.length (fun k=>((l,(k:Int),()),(),())) (fun k=>((l,l,(l.length:Int),(k:Int),()),(),())) (.inr (((),()),(),())) (.inr (((),()),(),())) (fun _=> .inl ((false,()),(),())) (fun _=> .inl ((false,()),(),()))
  (fun k=> ∀ h:k < l.length,(0<=l[k] /\l[k] <=4)/\ ∀ _:0 < k,l[k - 1]'(by omega) < l[k]) (fun _=>True)
  (by simp only [jE,oX,qH]; rw [ec,if_neg (by omega)])
  (by simp only [jL,o5,qQ]; rw [ec,if_neg (by omega)])
  (fun k hk=>by
    have c1: (k:Int) < (l.length:Int):=by omega
    have c2: (0:Int)<=(k:Int):=by omega
    have e1:l[k]? =some l[k] :=ai hk;simp only [jE,oX,qH,jL,o5,qQ,ec,ez,if_pos c1,if_pos c2,aw,e1,ae,vk,z6];cases hw:sP l[k] 0 4 with
    | false=>exact .inr ⟨rfl,rfl,trivial⟩
    | true=>
      simp only [bw,fA];have hw:=jD.1 hw;by_cases h0:0 < k
      ·have c3: (k:Int) > 0:=by omega
       have c4: (0:Int)<=((k - 1:Nat):Int):=by omega
       have e2:l[k - 1]? =some l[k - 1] :=ai (by omega);simp only [if_pos c3,vm h0 (by omega),if_pos c4,aw,e2,ae];by_cases hlt:l[k - 1] < l[k]
       ·rw [if_neg (by omega),if_neg (by omega),eB hl hk];exact .inl ⟨rfl,rfl,fun _=>⟨hw,fun _=>hlt⟩⟩
       ·rw [if_pos (by omega),if_pos (by omega)];exact .inr ⟨rfl,rfl,trivial⟩
      ·rw [if_neg (by omega),if_neg (by omega),eB hl hk];exact .inl ⟨rfl,rfl,fun _=>⟨hw,fun h=>absurd h h0⟩⟩)
 unfold jw zm jx zC;rcases fC with ⟨k1,k2,k3⟩ | ⟨k,_,k1,k2,_⟩
 ·rw [show sV ((l,0,()),(),())=_ from k1,show tw ((l,l,(l.length:Int),0,()),(),())=_ from k2];exact .inl ⟨rfl,rfl,fun k hk=>k3 k hk hk⟩
 ·rw [show sV ((l,0,()),(),())=_ from k1,show tw ((l,l,(l.length:Int),0,()),(),())=_ from k2];exact .inr ⟨rfl,rfl⟩
theorem MH.lt {l:List Int} (h:MH l): ∀ (d i:Nat) (h2:i+d+1 < l.length),l[i]'(by omega) < l[i+d+1] :=by
 intro d
 induction d with
 | zero=>
   intro i h2;exact (h (i+1) h2).2 (by omega)
 | succ d ih=>
   intro i h2;have h1:=ih i (by omega);have h3:=(h (i+d+1+1) h2).2 (by omega);exact Int.lt_trans h1 h3
theorem MH.pair {l:List Int} (h:MH l):l.Pairwise (· < ·):=by
 rw [bI];intro i j hi hj hij;have:=h.lt (j - i - 1) i (by omega);simpa [show i+(j - i - 1)+1=j by omega] using this
theorem MH.len {l:List Int} (h:MH l):l.length<=5:=by
 have ge: ∀ k (hk:k < l.length),(k:Int)<=l[k] :=by
  intro k
  induction k with
  | zero=>intro hk; exact (h 0 hk).1.1
  | succ k ih=>
    intro hk;have h1:=ih (by omega);have h2:=(h (k+1) hk).2 (by omega);simp only [cz] at h2;omega
 rcases cg 5 l.length with hlt | hge
 ·have h1:=ge 5 hlt;have h2:=(h 5 hlt).1.2;omega
 ·exact hge
theorem kP (l:List Int) (x:Int) (hl:l.length<=maxLen):jv l x=some (decide (x∈l),())/\kC l x=some (decide (x∈l),()):=by
 have fC:=ug (B1:=mH) (B2:=l7) l.length (fun k=>((l,x,(k:Int),()),(),())) (fun k=>((l,x,(l.length:Int),(k:Int),()),(),())) (.inr (((),()),(),())) (.inr (((),()),(),())) (fun _=> .inl ((true,()),(),())) (fun k=> .inl (((k:Int),()),(),()))
  (fun k=>l[k]? ≠some x) (fun k=>l[k]? =some x)
  (by simp only [mH,wW,BS]; rw [ec,if_neg (by omega)])
  (by simp only [l7,uW,Am]; rw [ec,if_neg (by omega)])
  (fun k hk=>by
    have c1: (k:Int) < (l.length:Int):=by omega
    have c2: (0:Int)<=(k:Int):=by omega
    have e1:l[k]? =some l[k] :=ai hk;simp only [mH,wW,BS,l7,uW,Am,ec,ez,if_pos c1,if_pos c2,aw,e1,ae,eB hl hk,sx];by_cases he:l[k] =x
    ·rw [if_pos he,if_pos he.symm,he];exact .inr ⟨rfl,rfl,rfl⟩
    ·rw [if_neg he,if_neg (fun h=>he h.symm)];exact .inl ⟨rfl,rfl,fun h=>he (Option.some.inj h)⟩)
 unfold jv E9 kC Fk qR ym yl DL;rcases fC with ⟨k1,k2,k3⟩ | ⟨k,hk,k1,k2,k3⟩
 ·rw [show zo ((l,x,0,()),(),())=_ from k1,show xp ((l,x,(l.length:Int),0,()),(),())=_ from k2]
  have hn:x∉l:=fun h=>by
   obtain⟨k,hk,he⟩:=aM h;exact k3 k hk (by rw [ai hk,he])
  rw [decide_eq_false hn];exact⟨rfl,rfl⟩
 ·rw [show zo ((l,x,0,()),(),())=_ from k1,show xp ((l,x,(l.length:Int),0,()),(),())=_ from k2];rw [decide_eq_true (au k3)];refine⟨rfl,?_⟩;simp only [ae,aA];rw [decide_eq_true (by omega)]
end Go.Proofs.YtkcgfceffffmoaaGreat.En
