/- Copies of clusters; the version of a server. -/
import Derived.Test.YtkcgfceffffmoaaGreatZPNew
import Derived.Test.YtkcgfceffffmoaaGreatZPMk
namespace Go.Proofs.YtkcgfceffffmoaaGreat.En
open Go
end Go.Proofs.YtkcgfceffffmoaaGreat.En
