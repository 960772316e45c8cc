/- ForceActivate: the plain law. -/
import Derived.Test.YtjnleglhcppgcaaGreatZPInst
import Derived.Test.YtjnleglhcppgcaaGreatZPIntact
import Derived.Test.YtjnleglhcppgcaaGreatZPSurv
import Derived.Test.YtjnleglhcppgcaaGreatZPDown
namespace Go.Proofs.YtjnleglhcppgcaaGreat.En
open Go
theorem O3 (s:dX) (id:Int) (h:gW 1048576 s): (Ei s id).length<=1048576:=by
 have h1:=h.2.1;have h2:=h.2.2
 have h3: (zN s).length<=s.log.length:=by
  unfold zN;split
  ·simp; omega
  ·exact aF _
 unfold Ei;split
 ·split<;>omega
 ·exact h2
end Go.Proofs.YtjnleglhcppgcaaGreat.En
