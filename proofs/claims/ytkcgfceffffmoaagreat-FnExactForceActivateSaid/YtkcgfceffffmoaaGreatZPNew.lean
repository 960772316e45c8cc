/- New formats. -/
import Derived.Test.YtkcgfceffffmoaaGreatZPV6
namespace Go.Proofs.YtkcgfceffffmoaaGreat.En
open Go
theorem Qk (l:List ar) (hl:l.length≤maxLen):xM (eG l) (gC l):=by
 have bU:=rp (B1:=cS) (B2:=aQ) l.length (fun k=>((l,(k:Int),()),(),())) (fun k=>((l,(),(l.length:Int),(k:Int),()),(),())) (.inr (((),()),(),())) (.inr (((),()),(),())) (fun _=> .inl ((true,()),(),())) (fun k=> .inl (((k:Int),()),(),()))
  (fun _=>True) (fun _=>True)
  (by simp only [cS,fh]; rw [aw,if_neg (by omega)])
  (by simp only [aQ,bN]; rw [aw,if_neg (by omega)])
  (fun k hk=>by
    have c1: (k:Int) < (l.length:Int):=by omega
    have c2: (0:Int)≤(k:Int):=by omega
    simp only [cS,fh,aQ,bN,i8,kI,oh,pJ,lV,mJ,aw,be,if_pos c1,if_pos c2,Int.toNat_natCast,List.getElem?_eq_getElem hk,Option.bind_some,bF hl hk]
    cases (l[k].op.kind==2) with
    | false=>exact .inl ⟨rfl,rfl,trivial⟩
    | true=>exact .inr ⟨rfl,rfl,trivial⟩)
 unfold eG jg fy kW gC lb gA nZ bO ch cb cQ
 rcases bU with ⟨k1,k2,_⟩ | ⟨k,_,k1,k2,_⟩
 ·rw [show ik ((l,0,()),(),())=_ from k1,show cH ((l,(),(l.length:Int),0,()),(),())=_ from k2]
  exact⟨_,rfl,rfl⟩
 ·rw [show ik ((l,0,()),(),())=_ from k1,show cH ((l,(),(l.length:Int),0,()),(),())=_ from k2]
  simp only [Option.bind_some,Sum.elim_inl]
  rw [decide_eq_true (by omega)]
  exact⟨_,rfl,rfl⟩
end Go.Proofs.YtkcgfceffffmoaaGreat.En
