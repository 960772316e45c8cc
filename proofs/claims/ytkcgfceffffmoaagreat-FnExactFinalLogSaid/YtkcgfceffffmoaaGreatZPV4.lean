/- Valid clusters: spec and impl tell the same. -/
import Derived.Test.YtkcgfceffffmoaaGreatZPV3
namespace Go.Proofs.YtkcgfceffffmoaaGreat.En
open Go
theorem masterLog (m:bo) (h:kx maxLen m): ∃ b,cA m=some (b,())∧dI m=some (b,()):=by
 obtain⟨hl,hc⟩:=h
 have cx:=fW (B1:=bz) (B2:=bA) m.configs.length (fun k=>(((),(k:Int),()),((m.configs,m.activated,()),()),())) (fun k=>(((),m.configs,(m.configs.length:Int),(k:Int),()),((m.configs,m.activated,()),()),())) (.inr (((),(),()),((m.configs,m.activated,()),()),())) (.inr (((),(),()),((m.configs,m.activated,()),()),())) (fun _=> .inl (((),false,()),((m.configs,m.activated,()),()),())) (fun _=> .inl (((),false,()),((m.configs,m.activated,()),()),()))
  (fun _=>True) (fun _=>True)
  (by simp only [bz,bL]; rw [aE,if_neg (by omega)])
  (by simp only [bA,bN]; rw [aE,if_neg (by omega)])
  (fun k hk=>by
    have c1: (k:Int) < (m.configs.length:Int):=by omega
    have c2: (0:Int)≤(k:Int):=by omega
    obtain⟨b,v1,v2⟩:=gE m.configs[k] (hc _ (List.getElem_mem hk))
    simp only [bz,bL,bA,bN,aE,bi,if_pos c1,if_pos c2,Int.toNat_natCast,List.getElem?_eq_getElem hk,Option.bind_some,v1,v2,aO hl hk,i4]
    cases b with
    | false=>exact .inr ⟨rfl,rfl,trivial⟩
    | true=>
      cases (m.configs[k].epoch==((k+1:Nat):Int)) with
      | false=>exact .inr ⟨rfl,rfl,trivial⟩
      | true=>exact .inl ⟨rfl,rfl,trivial⟩)
 unfold cA dh dI dq
 rcases cx with ⟨k1,k2,_⟩ | ⟨k,_,k1,k2,_⟩
 ·rw [show bW (((),0,()),((m.configs,m.activated,()),()),())=_ from k1,show b8 (((),m.configs,(m.configs.length:Int),0,()),((m.configs,m.activated,()),()),())=_ from k2]
  simp only [Option.bind_some,Sum.elim_inr,jX,jY]
  exact⟨_,rfl,rfl⟩
 ·rw [show bW (((),0,()),((m.configs,m.activated,()),()),())=_ from k1,show b8 (((),m.configs,(m.configs.length:Int),0,()),((m.configs,m.activated,()),()),())=_ from k2]
  exact⟨_,rfl,rfl⟩
end Go.Proofs.YtkcgfceffffmoaaGreat.En
