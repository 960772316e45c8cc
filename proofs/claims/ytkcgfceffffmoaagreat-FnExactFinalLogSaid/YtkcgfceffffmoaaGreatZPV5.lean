/- Valid clusters, on: servers, configurations in force, the whole. -/
import Derived.Test.YtkcgfceffffmoaaGreatZPV4
namespace Go.Proofs.YtkcgfceffffmoaaGreat.En
open Go
end Go.Proofs.YtkcgfceffffmoaaGreat.En
