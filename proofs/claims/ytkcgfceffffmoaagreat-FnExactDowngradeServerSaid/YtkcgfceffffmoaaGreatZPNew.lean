/- New formats. -/
import Derived.Test.YtkcgfceffffmoaaGreatZPV6
namespace Go.Proofs.YtkcgfceffffmoaaGreat.En
open Go
theorem SU (l:List az) (hl:l.length≤maxLen):ET (dV l) (eP l):=by
 have ce:=rd (B1:=cF) (B2:=aQ) l.length (fun k=>((l,(k:Int),()),(),())) (fun k=>((l,(),(l.length:Int),(k:Int),()),(),())) (.inr (((),()),(),())) (.inr (((),()),(),())) (fun _=> .inl ((true,()),(),())) (fun k=> .inl (((k:Int),()),(),()))
  (fun _=>True) (fun _=>True)
  (by simp only [cF,ez]; rw [ay,if_neg (by omega)])
  (by simp only [aQ,bJ]; rw [ay,if_neg (by omega)])
  (fun k hk=>by
    have c1: (k:Int) < (l.length:Int):=by omega
    have c2: (0:Int)≤(k:Int):=by omega
    simp only [cF,ez,aQ,bJ,hU,jo,mn,nK,kk,kR,ay,bE,if_pos c1,if_pos c2,Int.toNat_natCast,List.getElem?_eq_getElem hk,Option.bind_some,bO hl hk]
    cases (l[k].op.kind==2) with
    | false=>exact .inl ⟨rfl,rfl,trivial⟩
    | true=>exact .inr ⟨rfl,rfl,trivial⟩)
 unfold dV jE jd jD eP l7 lf l6 bK cd b0 cD
 rcases ce with ⟨k1,k2,_⟩ | ⟨k,_,k1,k2,_⟩
 ·rw [show gl ((l,0,()),(),())=_ from k1,show cy ((l,(),(l.length:Int),0,()),(),())=_ from k2]
  exact⟨_,rfl,rfl⟩
 ·rw [show gl ((l,0,()),(),())=_ from k1,show cy ((l,(),(l.length:Int),0,()),(),())=_ from k2]
  simp only [Option.bind_some,Sum.elim_inl]
  rw [decide_eq_true (by omega)]
  exact⟨_,rfl,rfl⟩
end Go.Proofs.YtkcgfceffffmoaaGreat.En
