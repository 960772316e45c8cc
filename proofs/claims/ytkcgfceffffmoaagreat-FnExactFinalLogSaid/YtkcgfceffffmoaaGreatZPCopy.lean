/- Copies of clusters; the version of a server. -/
import Derived.Test.YtkcgfceffffmoaaGreatZPNew
import Derived.Test.YtkcgfceffffmoaaGreatZPMk
namespace Go.Proofs.YtkcgfceffffmoaaGreat.En
open Go
theorem TW {n c:Nat} (h:n≤1048577) (hc:c≤1000):n*c≤2 ^ 40:=by
 have h1:n*c≤1048577*1000:=Nat.mul_le_mul h hc
 have h2: (2:Nat) ^ 40=1099511627776:=by decide
 omega
theorem MR (l:List aA) (h:l.length≤1048576):qb l=some (l,())∧lp l=some (l,()):=by
 unfold qb rU lp tw
 simp only [List.nil_append,co,if_pos (TW (Nat.le_succ_of_le h) (show 56≤1000 by decide))]
 exact⟨trivial,trivial⟩
theorem ru {α:Type} {l:List α} {k:Nat} {x:α} (h:l[k]? =some x):l.take (k+1)=l.take k++ [x] :=by rw [List.take_add_one,h]; rfl
theorem P2 (y:aQ): (SE y 1).servers.length=y.servers.length∧(SE y 1).sides.length=y.sides.length∧(SE y 1).master.configs.length=y.master.configs.length∧(SE y 1).places.length=y.places.length:=
 ⟨fm _ _ _ _,fm _ _ _ _,fm _ _ _ _,fm _ _ _ _⟩
end Go.Proofs.YtkcgfceffffmoaaGreat.En
