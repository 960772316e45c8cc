/- Functions that are spoken of. -/
import Derived.Test.YtkghndikalnipaaGreatZB
set_option linter.unusedSimpArgs false
set_option linter.unusedVariables false
namespace Go.Proofs.YtkghndikalnipaaGreat.En
open Go
noncomputable section
section
open Go.RowKit
end
def Qi(a0:s7)(a1:Int)(a2:Int)(a3:Int):Option (Bool×Unit):=
 (FM a0).bind λy1=>br y1.1 (br (!((a0.epoch==0)&&((a0.holder==0)&&((a0.ends==0)&&true)))) (br (a0.epoch==a1) (br (a0.holder==a2) ((C0 a3 0 999).bind λy2=>br y2.1 (some ((decide ((IntKind.wrap .i64 (a3+3))<a0.ends)),())) (some (false,()))) (some (false,()))) (some (false,()))) (some (false,()))) (some (false,()))
end
end Go.Proofs.YtkghndikalnipaaGreat.En
