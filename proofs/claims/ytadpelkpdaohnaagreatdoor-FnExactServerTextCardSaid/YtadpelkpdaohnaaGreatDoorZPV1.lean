/- Servers' numbers: spec and impl tell the same. -/
import Derived.Test.YtadpelkpdaohnaaGreatDoorZPW
namespace Go.Proofs.YtadpelkpdaohnaaGreatDoor.En
open Go
theorem n8 {ρ:Type} (a b:Int) (x y:ρ):br (a==b) x y=if a=b then x else y:=by rw[Ep];by_cases h:a=b<;>simp[h]
theorem jB {ρ:Type} (b:Bool) (x y:ρ):br (!b) x y=br b y x:=by cases b<;>rfl
def mM (x a b:Int):Bool:=decide (a<=x)&&decide (x<=b)
theorem n9 (x a b:Int):eG x a b=some (mM x a b,()):=by unfold eG mM;rw[dx];split<;>rename_i h<;>simp[h]
theorem qj (x a b:Int):dQ x a b=some (mM x a b,()):=by unfold dQ mM;rw[dx];split<;>rename_i h<;>simp[h]
theorem gT {x a b:Int}:mM x a b=true↔a<=x/\x<=b:=by simp[mM]
def BB (l:List Int):Prop:= ∀k (h:k<l.length),(0<=l[k] /\l[k] <=4)/\ ∀_:0<k,l[k-1]'(by omega)<l[k]
theorem tV (l:List Int) (hl:l.length<=maxLen): (gP l=some (true,())/\gR l=some (true,())/\BB l)\/(gP l=some (false,())/\gR l=some (false,())):=by
 have fb:=jX (B1:=gr) (B2:=gy) l.length (fun k=>((l,(k:Int),()),(),())) (fun k=>((l,l,(l.length:Int),(k:Int),()),(),())) (.inr (((),()),(),())) (.inr (((),()),(),())) (fun _=> .inl ((false,()),(),())) (fun _=> .inl ((false,()),(),()))
  (fun k=> ∀h:k<l.length,(0<=l[k] /\l[k] <=4)/\ ∀_:0<k,l[k-1]'(by omega)<l[k]) (fun _=>True)
  (by simp only[gr]; rw[dx,if_neg (by omega)])
  (by simp only[gy]; rw[dx,if_neg (by omega)])
  (fun k hk=>by
    have c1: (k:Int)< (l.length:Int):=by omega
    have c2: (0:Int)<=(k:Int):=by omega
    have e1:l[k]? =some l[k] :=ah hk;simp only[gr,gy,dx,eJ,if_pos c1,if_pos c2,aK,e1,af,n9,qj];cases hw:mM l[k] 0 4 with
    |false=>exact .inr ⟨rfl,rfl,trivial⟩
    |true=>
     simp only[bu,dV];have hw:=gT.1 hw;by_cases h0:0<k
     ·have c3: (k:Int)>0:=by omega
      have c4: (0:Int)<=((k-1:Nat):Int):=by omega
      have e2:l[k-1]? =some l[k-1] :=ah (by omega);simp only[if_pos c3,mD h0 (by omega),if_pos c4,aK,e2,af];by_cases hlt:l[k-1]<l[k]
      ·rw[if_neg (by omega),if_neg (by omega),dU hl hk];exact .inl ⟨rfl,rfl,fun _=>⟨hw,fun _=>hlt⟩⟩
      ·rw[if_pos (by omega),if_pos (by omega)];exact .inr ⟨rfl,rfl,trivial⟩
     ·rw[if_neg (by omega),if_neg (by omega),dU hl hk];exact .inl ⟨rfl,rfl,fun _=>⟨hw,fun h=>absurd h h0⟩⟩)
 unfold gP gR;rcases fb with ⟨k1,k2,k3⟩| ⟨k,_,k1,k2,_⟩
 ·rw[show lE ((l,0,()),(),())=_ from k1,show lH ((l,l,(l.length:Int),0,()),(),())=_ from k2];exact .inl ⟨rfl,rfl,fun k hk=>k3 k hk hk⟩
 ·rw[show lE ((l,0,()),(),())=_ from k1,show lH ((l,l,(l.length:Int),0,()),(),())=_ from k2];exact .inr ⟨rfl,rfl⟩
theorem BB.lt {l:List Int} (h:BB l): ∀ (d i:Nat) (h2:i+d+1<l.length),l[i]'(by omega)<l[i+d+1] :=by
 intro d
 induction d with
 |zero=>intro i h2;exact (h (i+1) h2).2 (by omega)
 |succ d ih=>intro i h2;have h1:=ih i (by omega);have h3:=(h (i+d+1+1) h2).2 (by omega);exact Int.lt_trans h1 h3
theorem BB.pair {l:List Int} (h:BB l):l.Pairwise (· < ·):=by rw[cy];intro i j hi hj hij;have:=h.lt (j-i-1) i (by omega);simpa [show i+(j-i-1)+1=j by omega] using this
theorem BB.len {l:List Int} (h:BB l):l.length<=5:=by
 have ge: ∀k (hk:k<l.length),(k:Int)<=l[k] :=by
  intro k
  induction k with
  |zero=>intro hk; exact (h 0 hk).1.1
  |succ k ih=>intro hk;have h1:=ih (by omega);have h2:=(h (k+1) hk).2 (by omega);simp only[ce] at h2;omega
 rcases bK 5 l.length with hlt|hge
 ·have h1:=ge 5 hlt;have h2:=(h 5 hlt).1.2;omega
 ·exact hge
theorem jk (l:List Int) (x:Int) (hl:l.length<=maxLen):gG l x=some (decide (x∈l),())/\gH l x=some (decide (x∈l),()):=by
 have fb:=jX (B1:=gZ) (B2:=gz) l.length (fun k=>((l,x,(k:Int),()),(),())) (fun k=>((l,x,(l.length:Int),(k:Int),()),(),())) (.inr (((),()),(),())) (.inr (((),()),(),())) (fun _=> .inl ((true,()),(),())) (fun k=> .inl (((k:Int),()),(),()))
  (fun k=>l[k]? ≠some x) (fun k=>l[k]? =some x)
  (by simp only[gZ]; rw[dx,if_neg (by omega)])
  (by simp only[gz]; rw[dx,if_neg (by omega)])
  (fun k hk=>by
    have c1: (k:Int)< (l.length:Int):=by omega
    have c2: (0:Int)<=(k:Int):=by omega
    have e1:l[k]? =some l[k] :=ah hk;simp only[gZ,gz,dx,eJ,if_pos c1,if_pos c2,aK,e1,af,dU hl hk,n8];by_cases he:l[k] =x
    ·rw[if_pos he,if_pos he.symm,he];exact .inr ⟨rfl,rfl,rfl⟩
    ·rw[if_neg he,if_neg (fun h=>he h.symm)];exact .inl ⟨rfl,rfl,fun h=>he (Option.some.inj h)⟩)
 unfold gG gH i8 kU;rcases fb with ⟨k1,k2,k3⟩| ⟨k,hk,k1,k2,k3⟩
 ·rw[show me ((l,x,0,()),(),())=_ from k1,show lI ((l,x,(l.length:Int),0,()),(),())=_ from k2]
  have hn:x∉l:=fun h=>by obtain⟨k,hk,he⟩:=aV h;exact k3 k hk (by rw[ah hk,he])
  rw[decide_eq_false hn];exact⟨rfl,rfl⟩
 ·rw[show me ((l,x,0,()),(),())=_ from k1,show lI ((l,x,(l.length:Int),0,()),(),())=_ from k2];rw[decide_eq_true (ap k3)];refine⟨rfl,?_⟩;simp only[af,cU];rw[decide_eq_true (by omega)]
end Go.Proofs.YtadpelkpdaohnaaGreatDoor.En
