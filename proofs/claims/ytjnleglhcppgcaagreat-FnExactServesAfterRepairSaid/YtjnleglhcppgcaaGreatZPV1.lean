/- Servers' numbers: spec and impl tell the same. -/
import Derived.Test.YtjnleglhcppgcaaGreatZPW
namespace Go.Proofs.YtjnleglhcppgcaaGreat.En
open Go
theorem gP {ρ:Type} (a b:Int) (x y:ρ):br (a==b) x y=if a=b then x else y:=by rw[Q4];by_cases h:a=b<;>simp[h]
theorem fi {ρ:Type} (b:Bool) (x y:ρ):br (!b) x y=br b y x:=by cases b<;>rfl
def je (x a b:Int):Bool:=decide (a<=x)&&decide (x<=b)
theorem kg (x a b:Int):eT x a b=some (je x a b,()):=by unfold eT je;rw[ei];split<;>rename_i h<;>simp[h]
theorem mG (x a b:Int):eF x a b=some (je x a b,()):=by unfold eF je;rw[ei];split<;>rename_i h<;>simp[h]
theorem fK {x a b:Int}:je x a b=true↔a<=x/\x<=b:=by simp[je]
def yB (l:List Int):Prop:= ∀k (h:k<l.length),(0<=l[k] /\l[k] <=4)/\ ∀_:0<k,l[k-1]'(by omega)<l[k]
theorem wN (l:List Int) (hl:l.length<=maxLen): (gF l=some (true,())/\gH l=some (true,())/\yB l)\/(gF l=some (false,())/\gH l=some (false,())):=by
 have gE:=jS (B1:=iL) (B2:=iO) l.length (fun k=>((l,(k:Int),()),(),())) (fun k=>((l,l,(l.length:Int),(k:Int),()),(),())) (.inr (((),()),(),())) (.inr (((),()),(),())) (fun _=> .inl ((false,()),(),())) (fun _=> .inl ((false,()),(),()))
  (fun k=> ∀h:k<l.length,(0<=l[k] /\l[k] <=4)/\ ∀_:0<k,l[k-1]'(by omega)<l[k]) (fun _=>True)
  (by simp only[iL]; rw[ei,if_neg (by omega)])
  (by simp only[iO]; rw[ei,if_neg (by omega)])
  (fun k hk=>by
    have c1: (k:Int)< (l.length:Int):=by omega
    have c2: (0:Int)<=(k:Int):=by omega
    have e1:l[k]? =some l[k] :=ah hk;simp only[iL,iO,ei,ek,if_pos c1,if_pos c2,ap,e1,ae,kg,mG];cases hw:je l[k] 0 4 with
    |false=>exact .inr ⟨rfl,rfl,trivial⟩
    |true=>
     simp only[aY,eB];have hw:=fK.1 hw;by_cases h0:0<k
     ·have c3: (k:Int)>0:=by omega
      have c4: (0:Int)<=((k-1:Nat):Int):=by omega
      have e2:l[k-1]? =some l[k-1] :=ah (by omega);simp only[if_pos c3,kH h0 (by omega),if_pos c4,ap,e2,ae];by_cases hlt:l[k-1]<l[k]
      ·rw[if_neg (by omega),if_neg (by omega),ey hl hk];exact .inl ⟨rfl,rfl,fun _=>⟨hw,fun _=>hlt⟩⟩
      ·rw[if_pos (by omega),if_pos (by omega)];exact .inr ⟨rfl,rfl,trivial⟩
     ·rw[if_neg (by omega),if_neg (by omega),ey hl hk];exact .inl ⟨rfl,rfl,fun _=>⟨hw,fun h=>absurd h h0⟩⟩)
 unfold gF gH;rcases gE with ⟨k1,k2,k3⟩| ⟨k,_,k1,k2,_⟩
 ·rw[show pU ((l,0,()),(),())=_ from k1,show qe ((l,l,(l.length:Int),0,()),(),())=_ from k2];exact .inl ⟨rfl,rfl,fun k hk=>k3 k hk hk⟩
 ·rw[show pU ((l,0,()),(),())=_ from k1,show qe ((l,l,(l.length:Int),0,()),(),())=_ from k2];exact .inr ⟨rfl,rfl⟩
theorem yB.lt {l:List Int} (h:yB l): ∀ (d i:Nat) (h2:i+d+1<l.length),l[i]'(by omega)<l[i+d+1] :=by
 intro d
 induction d with
 |zero=>intro i h2;exact (h (i+1) h2).2 (by omega)
 |succ d ih=>intro i h2;have h1:=ih i (by omega);have h3:=(h (i+d+1+1) h2).2 (by omega);exact Int.lt_trans h1 h3
theorem yB.pair {l:List Int} (h:yB l):l.Pairwise (· < ·):=by rw[bN];intro i j hi hj hij;have:=h.lt (j-i-1) i (by omega);simpa [show i+(j-i-1)+1=j by omega] using this
theorem yB.len {l:List Int} (h:yB l):l.length<=5:=by
 have ge: ∀k (hk:k<l.length),(k:Int)<=l[k] :=by
  intro k
  induction k with
  |zero=>intro hk; exact (h 0 hk).1.1
  |succ k ih=>intro hk;have h1:=ih (by omega);have h2:=(h (k+1) hk).2 (by omega);simp only[cF] at h2;omega
 rcases cm 5 l.length with hlt|hge
 ·have h1:=ge 5 hlt;have h2:=(h 5 hlt).1.2;omega
 ·exact hge
theorem fH (l:List Int) (x:Int) (hl:l.length<=maxLen):gr l x=some (decide (x∈l),())/\ik l x=some (decide (x∈l),()):=by
 have gE:=jS (B1:=mU) (B2:=l5) l.length (fun k=>((l,x,(k:Int),()),(),())) (fun k=>((l,x,(l.length:Int),(k:Int),()),(),())) (.inr (((),()),(),())) (.inr (((),()),(),())) (fun _=> .inl ((true,()),(),())) (fun k=> .inl (((k:Int),()),(),()))
  (fun k=>l[k]? ≠some x) (fun k=>l[k]? =some x)
  (by simp only[mU]; rw[ei,if_neg (by omega)])
  (by simp only[l5]; rw[ei,if_neg (by omega)])
  (fun k hk=>by
    have c1: (k:Int)< (l.length:Int):=by omega
    have c2: (0:Int)<=(k:Int):=by omega
    have e1:l[k]? =some l[k] :=ah hk;simp only[mU,l5,ei,ek,if_pos c1,if_pos c2,ap,e1,ae,ey hl hk,gP];by_cases he:l[k] =x
    ·rw[if_pos he,if_pos he.symm,he];exact .inr ⟨rfl,rfl,rfl⟩
    ·rw[if_neg he,if_neg (fun h=>he h.symm)];exact .inl ⟨rfl,rfl,fun h=>he (Option.some.inj h)⟩)
 unfold gr ik o8 s9;rcases gE with ⟨k1,k2,k3⟩| ⟨k,hk,k1,k2,k3⟩
 ·rw[show vk ((l,x,0,()),(),())=_ from k1,show uj ((l,x,(l.length:Int),0,()),(),())=_ from k2]
  have hn:x∉l:=fun h=>by obtain⟨k,hk,he⟩:=aJ h;exact k3 k hk (by rw[ah hk,he])
  rw[decide_eq_false hn];exact⟨rfl,rfl⟩
 ·rw[show vk ((l,x,0,()),(),())=_ from k1,show uj ((l,x,(l.length:Int),0,()),(),())=_ from k2];rw[decide_eq_true (ao k3)];refine⟨rfl,?_⟩;simp only[ae,b7];rw[decide_eq_true (by omega)]
end Go.Proofs.YtjnleglhcppgcaaGreat.En
