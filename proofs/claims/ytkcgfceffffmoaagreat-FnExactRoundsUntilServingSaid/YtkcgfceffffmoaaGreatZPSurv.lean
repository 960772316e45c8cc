/- The longest survivor. -/
import Derived.Test.YtkcgfceffffmoaaGreatZPData
import Derived.Test.YtkcgfceffffmoaaGreatZPAlive
namespace Go.Proofs.YtkcgfceffffmoaaGreat.En
open Go
end Go.Proofs.YtkcgfceffffmoaaGreat.En
