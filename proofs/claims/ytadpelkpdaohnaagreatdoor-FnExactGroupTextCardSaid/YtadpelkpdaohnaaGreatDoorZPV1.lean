/- Servers' numbers: spec and impl tell the same. -/
import Derived.Test.YtadpelkpdaohnaaGreatDoorZPW
namespace Go.Proofs.YtadpelkpdaohnaaGreatDoor.En
open Go
theorem kI {ρ:Type} (a b:Int) (x y:ρ):br (a==b) x y=if a=b then x else y:=by rw[Gq];by_cases h:a=b<;>simp[h]
theorem i5 {ρ:Type} (b:Bool) (x y:ρ):br (!b) x y=br b y x:=by cases b<;>rfl
def oO (x a b:Int):Bool:=decide (a<=x)&&decide (x<=b)
theorem qg (x a b:Int):fo x a b=some (oO x a b,()):=by unfold fo oO;rw[dI];split<;>rename_i h<;>simp[h]
theorem rk (x a b:Int):ep x a b=some (oO x a b,()):=by unfold ep oO;rw[dI];split<;>rename_i h<;>simp[h]
theorem iP {x a b:Int}:oO x a b=true↔a<=x/\x<=b:=by simp[oO]
def Br (l:List Int):Prop:= ∀k (h:k<l.length),(0<=l[k] /\l[k] <=4)/\ ∀_:0<k,l[k-1]'(by omega)<l[k]
theorem nf (l:List Int) (hl:l.length<=maxLen): (gP l=some (true,())/\gT l=some (true,())/\Br l)\/(gP l=some (false,())/\gT l=some (false,())):=by
 have fG:=kC (B1:=il) (B2:=it) l.length (fun k=>((l,(k:Int),()),(),())) (fun k=>((l,l,(l.length:Int),(k:Int),()),(),())) (.inr (((),()),(),())) (.inr (((),()),(),())) (fun _=> .inl ((false,()),(),())) (fun _=> .inl ((false,()),(),()))
  (fun k=> ∀h:k<l.length,(0<=l[k] /\l[k] <=4)/\ ∀_:0<k,l[k-1]'(by omega)<l[k]) (fun _=>True)
  (by simp only[il]; rw[dI,if_neg (by omega)])
  (by simp only[it]; rw[dI,if_neg (by omega)])
  (fun k hk=>by
    have c1: (k:Int)< (l.length:Int):=by omega
    have c2: (0:Int)<=(k:Int):=by omega
    have e1:l[k]? =some l[k] :=ah hk;simp only[il,it,dI,ea,if_pos c1,if_pos c2,aA,e1,af,qg,rk];cases hw:oO l[k] 0 4 with
    |false=>exact .inr ⟨rfl,rfl,trivial⟩
    |true=>
     simp only[bq,eu];have hw:=iP.1 hw;by_cases h0:0<k
     ·have c3: (k:Int)>0:=by omega
      have c4: (0:Int)<=((k-1:Nat):Int):=by omega
      have e2:l[k-1]? =some l[k-1] :=ah (by omega);simp only[if_pos c3,jA h0 (by omega),if_pos c4,aA,e2,af];by_cases hlt:l[k-1]<l[k]
      ·rw[if_neg (by omega),if_neg (by omega),dT hl hk];exact .inl ⟨rfl,rfl,fun _=>⟨hw,fun _=>hlt⟩⟩
      ·rw[if_pos (by omega),if_pos (by omega)];exact .inr ⟨rfl,rfl,trivial⟩
     ·rw[if_neg (by omega),if_neg (by omega),dT hl hk];exact .inl ⟨rfl,rfl,fun _=>⟨hw,fun h=>absurd h h0⟩⟩)
 unfold gP gT;rcases fG with ⟨k1,k2,k3⟩| ⟨k,_,k1,k2,_⟩
 ·rw[show mO ((l,0,()),(),())=_ from k1,show mW ((l,l,(l.length:Int),0,()),(),())=_ from k2];exact .inl ⟨rfl,rfl,fun k hk=>k3 k hk hk⟩
 ·rw[show mO ((l,0,()),(),())=_ from k1,show mW ((l,l,(l.length:Int),0,()),(),())=_ from k2];exact .inr ⟨rfl,rfl⟩
theorem Br.lt {l:List Int} (h:Br l): ∀ (d i:Nat) (h2:i+d+1<l.length),l[i]'(by omega)<l[i+d+1] :=by
 intro d
 induction d with
 |zero=>intro i h2;exact (h (i+1) h2).2 (by omega)
 |succ d ih=>intro i h2;have h1:=ih i (by omega);have h3:=(h (i+d+1+1) h2).2 (by omega);exact Int.lt_trans h1 h3
theorem Br.pair {l:List Int} (h:Br l):l.Pairwise (· < ·):=by rw[bR];intro i j hi hj hij;have:=h.lt (j-i-1) i (by omega);simpa [show i+(j-i-1)+1=j by omega] using this
theorem Br.len {l:List Int} (h:Br l):l.length<=5:=by
 have ge: ∀k (hk:k<l.length),(k:Int)<=l[k] :=by
  intro k
  induction k with
  |zero=>intro hk; exact (h 0 hk).1.1
  |succ k ih=>intro hk;have h1:=ih (by omega);have h2:=(h (k+1) hk).2 (by omega);simp only[ck] at h2;omega
 rcases bU 5 l.length with hlt|hge
 ·have h1:=ge 5 hlt;have h2:=(h 5 hlt).1.2;omega
 ·exact hge
theorem jF (l:List Int) (x:Int) (hl:l.length<=maxLen):iC l x=some (decide (x∈l),())/\iE l x=some (decide (x∈l),()):=by
 have fG:=kC (B1:=iX) (B2:=iu) l.length (fun k=>((l,x,(k:Int),()),(),())) (fun k=>((l,x,(l.length:Int),(k:Int),()),(),())) (.inr (((),()),(),())) (.inr (((),()),(),())) (fun _=> .inl ((true,()),(),())) (fun k=> .inl (((k:Int),()),(),()))
  (fun k=>l[k]? ≠some x) (fun k=>l[k]? =some x)
  (by simp only[iX]; rw[dI,if_neg (by omega)])
  (by simp only[iu]; rw[dI,if_neg (by omega)])
  (fun k hk=>by
    have c1: (k:Int)< (l.length:Int):=by omega
    have c2: (0:Int)<=(k:Int):=by omega
    have e1:l[k]? =some l[k] :=ah hk;simp only[iX,iu,dI,ea,if_pos c1,if_pos c2,aA,e1,af,dT hl hk,kI];by_cases he:l[k] =x
    ·rw[if_pos he,if_pos he.symm,he];exact .inr ⟨rfl,rfl,rfl⟩
    ·rw[if_neg he,if_neg (fun h=>he h.symm)];exact .inl ⟨rfl,rfl,fun h=>he (Option.some.inj h)⟩)
 unfold iC iE j6 ma;rcases fG with ⟨k1,k2,k3⟩| ⟨k,hk,k1,k2,k3⟩
 ·rw[show nM ((l,x,0,()),(),())=_ from k1,show mX ((l,x,(l.length:Int),0,()),(),())=_ from k2]
  have hn:x∉l:=fun h=>by obtain⟨k,hk,he⟩:=aM h;exact k3 k hk (by rw[ah hk,he])
  rw[decide_eq_false hn];exact⟨rfl,rfl⟩
 ·rw[show nM ((l,x,0,()),(),())=_ from k1,show mX ((l,x,(l.length:Int),0,()),(),())=_ from k2];rw[decide_eq_true (aq k3)];refine⟨rfl,?_⟩;simp only[af,cU];rw[decide_eq_true (by omega)]
end Go.Proofs.YtadpelkpdaohnaaGreatDoor.En
