/- ForceActivate: the plain law. -/
import Derived.Test.YtkcgfceffffmoaaGreatZPInst
import Derived.Test.YtkcgfceffffmoaaGreatZPIntact
import Derived.Test.YtkcgfceffffmoaaGreatZPSurv
import Derived.Test.YtkcgfceffffmoaaGreatZPDown
namespace Go.Proofs.YtkcgfceffffmoaaGreat.En
open Go
theorem ao8 (s:eb) (id:Int) (h:nX 1048576 s): (aa8 s id).length<=1048576:=by
 have h1:=h.2.1;have h2:=h.2.2
 have h3: (S4 s).length<=s.log.length:=by
  unfold S4;split
  ·simp; omega
  ·exact aK _
 unfold aa8;split
 ·split <;> omega
 ·exact h2
end Go.Proofs.YtkcgfceffffmoaaGreat.En
