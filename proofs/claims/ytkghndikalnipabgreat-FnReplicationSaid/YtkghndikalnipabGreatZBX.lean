/- Functions that are spoken of. -/
import Derived.Test.YtkghndikalnipabGreatZB
set_option linter.unusedSimpArgs false
set_option linter.unusedVariables false
namespace Go.Proofs.YtkghndikalnipabGreat.En
open Go
noncomputable section
def PB(a0:vz):Option (Int×Unit):=
 br ((a0.epoch==0)&&((a0.holder==0)&&((a0.ends==0)&&true))) (some (0,())) ((IG a0).bind λy1=>br (!y1.1) (some (0,())) (some ((IntKind.wrap .i64 (a0.ends+3)),())))
def Lc(a0:vz)(a1:Int):Option (Bool×Unit):=
 (IG a0).bind λy1=>br y1.1 ((Fr a1 0 999).bind λy2=>br y2.1 ((PB a0).bind λy3=>some ((decide (a1≥y3.1)),())) (some (false,()))) (some (false,()))
def PX(a0:vz)(a1:Int)(a2:Int)(a3:Int)(a4:Int):Option (vz×Bool×Unit):=
 br (a0.epoch==a1) ((IG a0).bind λy1=>br (!y1.1) (some (a0,false,())) ((Fr a1 1 20).bind λy2=>br (!y2.1) (some (a0,false,())) ((Fr a2 0 4).bind λy3=>br (!y3.1) (some (a0,false,())) ((Fr a3 0 999).bind λy4=>br (!y4.1) (some (a0,false,())) ((Fr a4 1 50).bind λy5=>br (!y5.1) (some (a0,false,())) (br (!(a0.holder==a2)) ((Lc a0 a3).bind λy6=>br (!y6.1) (some (a0,false,())) (br (a0.holder==a2) (some ((⟨a1,a2,(if a0.ends>(IntKind.wrap .i64 (a3+a4)) then a0.ends else (IntKind.wrap .i64 (a3+a4)))⟩:vz),true,())) (some ((⟨a1,a2,(IntKind.wrap .i64 (a3+a4))⟩:vz),true,())))) (br (a0.holder==a2) (some ((⟨a1,a2,(if a0.ends>(IntKind.wrap .i64 (a3+a4)) then a0.ends else (IntKind.wrap .i64 (a3+a4)))⟩:vz),true,())) (some ((⟨a1,a2,(IntKind.wrap .i64 (a3+a4))⟩:vz),true,()))))))))) ((IG a0).bind λy10=>br (!y10.1) (some (a0,false,())) ((Fr a1 1 20).bind λy11=>br (!y11.1) (some (a0,false,())) ((Fr a2 0 4).bind λy12=>br (!y12.1) (some (a0,false,())) ((Fr a3 0 999).bind λy13=>br (!y13.1) (some (a0,false,())) ((Fr a4 1 50).bind λy14=>br (!y14.1) (some (a0,false,())) (br (!false) ((Lc a0 a3).bind λy15=>br (!y15.1) (some (a0,false,())) (some ((⟨a1,a2,(IntKind.wrap .i64 (a3+a4))⟩:vz),true,()))) (some ((⟨a1,a2,(IntKind.wrap .i64 (a3+a4))⟩:vz),true,()))))))))
section
open Go.RowKit
end
end
end Go.Proofs.YtkghndikalnipabGreat.En
