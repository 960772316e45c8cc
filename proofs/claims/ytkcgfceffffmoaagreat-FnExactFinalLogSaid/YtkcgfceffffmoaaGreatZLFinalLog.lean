/- FnExactFinalLog: the row. -/
import Derived.Test.YtkcgfceffffmoaaGreatRows
import Derived.Test.YtkcgfceffffmoaaGreatZPFinal
import Derived.WalkKit
import Derived.SizedLaws
namespace Go.Proofs.YtkcgfceffffmoaaGreat.En
open Go Go.ChangeShapes Go.WideShapes Go.ChangeAt Go.RowKit
theorem own:ownKnob Tryz.prog.godebug=none:=by kernel_rfl
set_option maxRecDepth 100000 in
set_option maxHeartbeats 4000000 in
end Go.Proofs.YtkcgfceffffmoaaGreat.En
namespace Go.Proofs.YtkcgfceffffmoaaGreat
theorem exactFinalLog_holds:Rows.FnExactFinalLogSaid:=En.over5
#print axioms exactFinalLog_holds
end Go.Proofs.YtkcgfceffffmoaaGreat
