/- UpgradeOrder: the plain law. -/
import Derived.Test.YtkcgfceffffmoaaGreatZPDel
import Derived.Test.YtkcgfceffffmoaaGreatZPAct
import Derived.Test.YtkcgfceffffmoaaGreatZPMk
namespace Go.Proofs.YtkcgfceffffmoaaGreat.En
open Go
theorem ao4 (a b:List Int) (ha:MH a) (hb:b.length<=maxLen):kw a b=some (a.filter fun x=> !decide (x∈b),()):=by
 have hl:=ha.len;have hm:a.length<=maxLen:=by unfold maxLen; omega
 have hp:=ha.pair
 have fC:=mU (B:=je) a (fun k (out:List Int)=>((a,b,(),(k:Int),()),(),(out,()))) (fun k out=>out=(a.take k).filter fun x=> !decide (x∈b)) (fun k r out=>(((),()),(),(out++r.filter fun x=> !decide (x∈b),())))
  (fun out hb=>by
    simp only [je,pb,sK];rw [ec,if_neg (by omega)];simp)
  (fun k out x hx hout=>by
    have hk:=nG hx;have c1: (k:Int) < (a.length:Int):=by omega
    have c2: (0:Int)<=(k:Int):=by omega
    have hxe:a[k] =x:=by rw [ai hk] at hx; exact Option.some.inj hx
    simp only [je,pb,sK,iq,ec,ez,if_pos c1,if_pos c2,aw,hx,ae,(kP b x hb).1,eB hm hk];by_cases hin:x∈b
    ·simp only [if_pos hin];refine .inl ⟨out,rfl,?_,?_⟩
     ·rw [hout,bD,hx,bP];simp [hin]
     ·simp [hin]
    ·have hlt: ∀ y∈out,y < x:=by
      intro y hy;rw [hout,cr] at hy;obtain⟨i,hi,he⟩:=aM hy.1;have hi':i < k:=by simp at hi; omega
      rw [cG] at he;rw [<-he,<-hxe];exact bI.1 hp i k (by omega) hk hi'
     have hol:out.length<=1000:=by
      rw [hout];have:=cN (fun x=> !decide (x∈b)) (a.take k);simp only [cm] at this;omega
     simp only [if_neg hin,agj out x hol hlt,ae];refine .inl ⟨out++ [x],rfl,?_,?_⟩
     ·rw [hout,bD,hx,bP];simp [hin]
     ·simp [hin])
  0 [] (aK _) rfl
 unfold kw wj;rw [show um ((a,b,(),0,()),(),([],()))=_ from fC];rfl
end Go.Proofs.YtkcgfceffffmoaaGreat.En
