/- New formats. -/
import Derived.Test.YtkcgfceffffmoaaGreatZPV6
namespace Go.Proofs.YtkcgfceffffmoaaGreat.En
open Go
end Go.Proofs.YtkcgfceffffmoaaGreat.En
