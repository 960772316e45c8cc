/- Copies of clusters; the version of a server. -/
import Derived.Test.YtadpelkpdaohnaaGreatDoorZPNew
import Derived.Test.YtadpelkpdaohnaaGreatDoorZPMk
namespace Go.Proofs.YtadpelkpdaohnaaGreatDoor.En
open Go
theorem K6 {n c:Nat} (h:n<=1048577) (hc:c<=1000):n*c<=2 ^ 40:=by
 have h1:n*c<=1048577*1000:=Nat.mul_le_mul h hc;have h2: (2:Nat) ^ 40=1099511627776:=by decide
 omega
theorem nR {α:Type} {l:List α} {k:Nat} {x:α} (h:l[k]? =some x):l.take (k+1)=l.take k++ [x] :=by rw[bM,h]; rfl
end Go.Proofs.YtadpelkpdaohnaaGreatDoor.En
