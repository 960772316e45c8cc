/- Marks of rows that take more or less: written, and found again. Sizes, exactly. -/
import Derived.Test.YtkcgfceffffmoaaGreatZPV6
namespace Go.Proofs.YtkcgfceffffmoaaGreat.En
open Go
section
variable {α:Type}
end
end Go.Proofs.YtkcgfceffffmoaaGreat.En
