/- Functions that are spoken of. -/
import Derived.Test.YtkghndikalnipaaGreatZB
set_option linter.unusedSimpArgs false
set_option linter.unusedVariables false
namespace Go.Proofs.YtkghndikalnipaaGreat.En
open Go.IntKind renaming wrap→aeq
open Go
noncomputable section
def RB(a0:uN)(a1:Int)(a2:Int)(a3:Int)(a4:Int):Option (uN×Bool×Unit):=
 br (a0.epoch==a1) ((Hx a0).bind λy1=>br (!y1.1) (some (a0,false,())) ((ET a1 1 20).bind λy2=>br (!y2.1) (some (a0,false,())) ((ET a2 0 4).bind λy3=>br (!y3.1) (some (a0,false,())) ((ET a3 0 999).bind λy4=>br (!y4.1) (some (a0,false,())) ((ET a4 1 50).bind λy5=>br (!y5.1) (some (a0,false,())) (br (!(a0.holder==a2)) ((Hn a0 a3).bind λy6=>br (!y6.1) (some (a0,false,())) (br (a0.holder==a2) (some ((⟨a1,a2,(if a0.ends>(aeq .i64 (a3+a4))then a0.ends else(aeq .i64 (a3+a4)))⟩:uN),true,())) (some ((⟨a1,a2,(aeq .i64 (a3+a4))⟩:uN),true,())))) (br (a0.holder==a2) (some ((⟨a1,a2,(if a0.ends>(aeq .i64 (a3+a4))then a0.ends else(aeq .i64 (a3+a4)))⟩:uN),true,())) (some ((⟨a1,a2,(aeq .i64 (a3+a4))⟩:uN),true,()))))))))) ((Hx a0).bind λy10=>br (!y10.1) (some (a0,false,())) ((ET a1 1 20).bind λy11=>br (!y11.1) (some (a0,false,())) ((ET a2 0 4).bind λy12=>br (!y12.1) (some (a0,false,())) ((ET a3 0 999).bind λy13=>br (!y13.1) (some (a0,false,())) ((ET a4 1 50).bind λy14=>br (!y14.1) (some (a0,false,())) (br (!false) ((Hn a0 a3).bind λy15=>br (!y15.1) (some (a0,false,())) (some ((⟨a1,a2,(aeq .i64 (a3+a4))⟩:uN),true,()))) (some ((⟨a1,a2,(aeq .i64 (a3+a4))⟩:uN),true,()))))))))
section
open Go.RowKit
end
def RC(a0:uN)(a1:Int)(a2:Int)(a3:Int):Option (Bool×Unit):=
 (Hx a0).bind λy1=>br y1.1 (br (!((a0.epoch==0)&&((a0.holder==0)&&((a0.ends==0)&&true)))) (br (a0.epoch==a1) (br (a0.holder==a2) ((ET a3 0 999).bind λy2=>br y2.1 (some ((decide ((aeq .i64 (a3+3))<a0.ends)),())) (some (false,()))) (some (false,()))) (some (false,()))) (some (false,()))) (some (false,()))
end
end Go.Proofs.YtkghndikalnipaaGreat.En
