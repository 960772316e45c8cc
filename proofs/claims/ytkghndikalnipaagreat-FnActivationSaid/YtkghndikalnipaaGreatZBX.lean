/- Functions that are spoken of. -/
import Derived.Test.YtkghndikalnipaaGreatZB
set_option linter.unusedSimpArgs false
set_option linter.unusedVariables false
namespace Go.Proofs.YtkghndikalnipaaGreat.En
open Go
noncomputable section
def RQ(a0:vz)(a1:Int)(a2:Int)(a3:Int)(a4:Int):Option (vz×Bool×Unit):=
 br (a0.epoch==a1) ((HK a0).bind λy1=>br (!y1.1) (some (a0,false,())) ((Fs a1 1 20).bind λy2=>br (!y2.1) (some (a0,false,())) ((Fs a2 0 4).bind λy3=>br (!y3.1) (some (a0,false,())) ((Fs a3 0 999).bind λy4=>br (!y4.1) (some (a0,false,())) ((Fs a4 1 50).bind λy5=>br (!y5.1) (some (a0,false,())) (br (!(a0.holder==a2)) ((HB a0 a3).bind λy6=>br (!y6.1) (some (a0,false,())) (br (a0.holder==a2) (some ((⟨a1,a2,(if a0.ends>(IntKind.wrap .i64 (a3+a4)) then a0.ends else (IntKind.wrap .i64 (a3+a4)))⟩:vz),true,())) (some ((⟨a1,a2,(IntKind.wrap .i64 (a3+a4))⟩:vz),true,())))) (br (a0.holder==a2) (some ((⟨a1,a2,(if a0.ends>(IntKind.wrap .i64 (a3+a4)) then a0.ends else (IntKind.wrap .i64 (a3+a4)))⟩:vz),true,())) (some ((⟨a1,a2,(IntKind.wrap .i64 (a3+a4))⟩:vz),true,()))))))))) ((HK a0).bind λy10=>br (!y10.1) (some (a0,false,())) ((Fs a1 1 20).bind λy11=>br (!y11.1) (some (a0,false,())) ((Fs a2 0 4).bind λy12=>br (!y12.1) (some (a0,false,())) ((Fs a3 0 999).bind λy13=>br (!y13.1) (some (a0,false,())) ((Fs a4 1 50).bind λy14=>br (!y14.1) (some (a0,false,())) (br (!false) ((HB a0 a3).bind λy15=>br (!y15.1) (some (a0,false,())) (some ((⟨a1,a2,(IntKind.wrap .i64 (a3+a4))⟩:vz),true,()))) (some ((⟨a1,a2,(IntKind.wrap .i64 (a3+a4))⟩:vz),true,()))))))))
section
open Go.RowKit
end
def RR(a0:vz)(a1:Int)(a2:Int)(a3:Int):Option (Bool×Unit):=
 (HK a0).bind λy1=>br y1.1 (br (!((a0.epoch==0)&&((a0.holder==0)&&((a0.ends==0)&&true)))) (br (a0.epoch==a1) (br (a0.holder==a2) ((Fs a3 0 999).bind λy2=>br y2.1 (some ((decide ((IntKind.wrap .i64 (a3+3))<a0.ends)),())) (some (false,()))) (some (false,()))) (some (false,()))) (some (false,()))) (some (false,()))
end
end Go.Proofs.YtkghndikalnipaaGreat.En
