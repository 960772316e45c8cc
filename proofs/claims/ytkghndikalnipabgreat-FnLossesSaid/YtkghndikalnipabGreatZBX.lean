/- Functions that are spoken of. -/
import Derived.Test.YtkghndikalnipabGreatZB
set_option linter.unusedSimpArgs false
set_option linter.unusedVariables false
namespace Go.Proofs.YtkghndikalnipabGreat.En
open Go.IntKind renaming wrap→aaV
open Go
noncomputable section
def OF(a0:sS)(a1:Int)(a2:Int)(a3:Int)(a4:Int):Option (sS×Bool×Unit):=
 br (a0.epoch==a1) ((E0 a0).bind λy1=>br (!y1.1) (some (a0,false,())) ((CQ a1 1 20).bind λy2=>br (!y2.1) (some (a0,false,())) ((CQ a2 0 4).bind λy3=>br (!y3.1) (some (a0,false,())) ((CQ a3 0 999).bind λy4=>br (!y4.1) (some (a0,false,())) ((CQ a4 1 50).bind λy5=>br (!y5.1) (some (a0,false,())) (br (!(a0.holder==a2)) ((EW a0 a3).bind λy6=>br (!y6.1) (some (a0,false,())) (br (a0.holder==a2) (some ((⟨a1,a2,(if a0.ends>(aaV .i64 (a3+a4)) then a0.ends else (aaV .i64 (a3+a4)))⟩:sS),true,())) (some ((⟨a1,a2,(aaV .i64 (a3+a4))⟩:sS),true,())))) (br (a0.holder==a2) (some ((⟨a1,a2,(if a0.ends>(aaV .i64 (a3+a4)) then a0.ends else (aaV .i64 (a3+a4)))⟩:sS),true,())) (some ((⟨a1,a2,(aaV .i64 (a3+a4))⟩:sS),true,()))))))))) ((E0 a0).bind λy10=>br (!y10.1) (some (a0,false,())) ((CQ a1 1 20).bind λy11=>br (!y11.1) (some (a0,false,())) ((CQ a2 0 4).bind λy12=>br (!y12.1) (some (a0,false,())) ((CQ a3 0 999).bind λy13=>br (!y13.1) (some (a0,false,())) ((CQ a4 1 50).bind λy14=>br (!y14.1) (some (a0,false,())) (br (!false) ((EW a0 a3).bind λy15=>br (!y15.1) (some (a0,false,())) (some ((⟨a1,a2,(aaV .i64 (a3+a4))⟩:sS),true,()))) (some ((⟨a1,a2,(aaV .i64 (a3+a4))⟩:sS),true,()))))))))
section
open Go.RowKit
end
def OG(a0:sS)(a1:Int)(a2:Int)(a3:Int):Option (Bool×Unit):=
 (E0 a0).bind λy1=>br y1.1 (br (!((a0.epoch==0)&&((a0.holder==0)&&((a0.ends==0)&&true)))) (br (a0.epoch==a1) (br (a0.holder==a2) ((CQ a3 0 999).bind λy2=>br y2.1 (some ((decide ((aaV .i64 (a3+3))<a0.ends)),())) (some (false,()))) (some (false,()))) (some (false,()))) (some (false,()))) (some (false,()))
end
end Go.Proofs.YtkghndikalnipabGreat.En
