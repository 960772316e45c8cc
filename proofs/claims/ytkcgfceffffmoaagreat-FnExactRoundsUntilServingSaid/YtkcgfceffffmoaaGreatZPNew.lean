/- New formats. -/
import Derived.Test.YtkcgfceffffmoaaGreatZPV6
namespace Go.Proofs.YtkcgfceffffmoaaGreat.En
open Go
theorem aoU (l:List ed) (hl:l.length<=maxLen):NT (nc l) (oH l):=by
 have fC:=ug (B1:=kx) (B2:=eT) l.length (fun k=>((l,(k:Int),()),(),())) (fun k=>((l,(),(l.length:Int),(k:Int),()),(),())) (.inr (((),()),(),())) (.inr (((),()),(),())) (fun _=> .inl ((true,()),(),())) (fun k=> .inl (((k:Int),()),(),()))
  (fun _=>True) (fun _=>True)
  (by simp only [kx,ru,wk]; rw [ec,if_neg (by omega)])
  (by simp only [eT,gH,jb]; rw [ec,if_neg (by omega)])
  (fun k hk=>by
    have c1: (k:Int) < (l.length:Int):=by omega
    have c2: (0:Int)<=(k:Int):=by omega
    simp only [kx,ru,wk,eT,gH,jb,oS,uH,vI,CM,vy,Ca,ec,ez,if_pos c1,if_pos c2,aw,ai hk,ae,eB hl hk];cases (l[k].op.kind==2) with
    | false=>exact .inl ⟨rfl,rfl,trivial⟩
    | true=>exact .inr ⟨rfl,rfl,trivial⟩)
 unfold nc Al oH AI fX iV gq jC;rcases fC with ⟨k1,k2,_⟩ | ⟨k,_,k1,k2,_⟩
 ·rw [show to ((l,0,()),(),())=_ from k1,show ia ((l,(),(l.length:Int),0,()),(),())=_ from k2];exact⟨_,rfl,rfl⟩
 ·rw [show to ((l,0,()),(),())=_ from k1,show ia ((l,(),(l.length:Int),0,()),(),())=_ from k2];simp only [ae,aA];rw [decide_eq_true (by omega)];exact⟨_,rfl,rfl⟩
end Go.Proofs.YtkcgfceffffmoaaGreat.En
