/- FinalLog: the plain law. -/
import Derived.Test.YtkcgfceffffmoaaGreatZPCopy
import Derived.Test.YtkcgfceffffmoaaGreatZPAct
namespace Go.Proofs.YtkcgfceffffmoaaGreat.En
open Go
end Go.Proofs.YtkcgfceffffmoaaGreat.En
