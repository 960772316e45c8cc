/- UpgradeServer: the plain law. -/
import Derived.Test.YtkcgfceffffmoaaGreatZPCopy
namespace Go.Proofs.YtkcgfceffffmoaaGreat.En
open Go
end Go.Proofs.YtkcgfceffffmoaaGreat.En
