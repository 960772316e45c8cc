/- Copies of clusters; the version of a server. -/
import Derived.Test.YtkcgfceffffmoaaGreatZPNew
import Derived.Test.YtkcgfceffffmoaaGreatZPMk
namespace Go.Proofs.YtkcgfceffffmoaaGreat.En
open Go
theorem VK {n c:Nat} (h:n≤1048577) (hc:c≤1000):n*c≤2 ^ 40:=by
 have h1:n*c≤1048577*1000:=Nat.mul_le_mul h hc
 have h2: (2:Nat) ^ 40=1099511627776:=by decide
 omega
theorem n9 {α:Type} {l:List α} {k:Nat} {x:α} (h:l[k]? =some x):l.take (k+1)=l.take k++ [x] :=by rw [List.take_add_one,h]; rfl
theorem RK (y:aG): (UB y 1).servers.length=y.servers.length∧(UB y 1).sides.length=y.sides.length∧(UB y 1).master.configs.length=y.master.configs.length∧(UB y 1).places.length=y.places.length:=
 ⟨fZ _ _ _ _,fZ _ _ _ _,fZ _ _ _ _,fZ _ _ _ _⟩
end Go.Proofs.YtkcgfceffffmoaaGreat.En
