/- ForceActivate: the plain law. -/
import Derived.Test.YtjnleglhcppgcaaGreatZPInst
import Derived.Test.YtjnleglhcppgcaaGreatZPIntact
import Derived.Test.YtjnleglhcppgcaaGreatZPSurv
import Derived.Test.YtjnleglhcppgcaaGreatZPDown
namespace Go.Proofs.YtjnleglhcppgcaaGreat.En
open Go
theorem Ry (s:eo) (id:Int) (h:iZ 1048576 s): (F0 s id).length<=1048576:=by
 have h1:=h.2.1;have h2:=h.2.2
 have h3: (BO s).length<=s.log.length:=by
  unfold BO;split
  ·simp; omega
  ·exact aI _
 unfold F0;split
 ·split<;>omega
 ·exact h2
end Go.Proofs.YtjnleglhcppgcaaGreat.En
