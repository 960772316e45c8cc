/- Functions that are spoken of. -/
import Derived.Test.YtadabkgmdllbfabGreatZB
namespace Go.Proofs.YtadabkgmdllbfabGreat.En
open Go
noncomputable section
def xY (a0:fo):Option (Int×Unit):=
 br ((a0.epoch==0)&&((a0.holder==0)&&((a0.ends==0)&&true))) (some (0,())) ((lK a0).bind fun y1=>br (!y1.1) (some (0,())) (some ((IntKind.wrap .i64 (a0.ends+3)),())))
def pH (a0:fo) (a1:Int):Option (Bool×Unit):=
 (lK a0).bind fun y1=>br y1.1 ((eP a1 0 999).bind fun y2=>br y2.1 ((xY a0).bind fun y3=>some ((decide (a1≥y3.1)),())) (some (false,()))) (some (false,()))
def yV (a0:fo) (a1:Int) (a2:Int) (a3:Int) (a4:Int):Option (fo×Bool×Unit):=
 br (a0.epoch==a1) ((lK a0).bind fun y1=>br (!y1.1) (some (a0,false,())) ((eP a1 1 20).bind fun y2=>br (!y2.1) (some (a0,false,())) ((eP a2 0 4).bind fun y3=>br (!y3.1) (some (a0,false,())) ((eP a3 0 999).bind fun y4=>br (!y4.1) (some (a0,false,())) ((eP a4 1 50).bind fun y5=>br (!y5.1) (some (a0,false,())) (br (!(a0.holder==a2)) ((pH a0 a3).bind fun y6=>br (!y6.1) (some (a0,false,())) (br (a0.holder==a2) (some ((⟨a1,a2,(if a0.ends>(IntKind.wrap .i64 (a3+a4)) then a0.ends else (IntKind.wrap .i64 (a3+a4)))⟩:fo),true,())) (some ((⟨a1,a2,(IntKind.wrap .i64 (a3+a4))⟩:fo),true,())))) (br (a0.holder==a2) (some ((⟨a1,a2,(if a0.ends>(IntKind.wrap .i64 (a3+a4)) then a0.ends else (IntKind.wrap .i64 (a3+a4)))⟩:fo),true,())) (some ((⟨a1,a2,(IntKind.wrap .i64 (a3+a4))⟩:fo),true,()))))))))) ((lK a0).bind fun y10=>br (!y10.1) (some (a0,false,())) ((eP a1 1 20).bind fun y11=>br (!y11.1) (some (a0,false,())) ((eP a2 0 4).bind fun y12=>br (!y12.1) (some (a0,false,())) ((eP a3 0 999).bind fun y13=>br (!y13.1) (some (a0,false,())) ((eP a4 1 50).bind fun y14=>br (!y14.1) (some (a0,false,())) (br (!false) ((pH a0 a3).bind fun y15=>br (!y15.1) (some (a0,false,())) (some ((⟨a1,a2,(IntKind.wrap .i64 (a3+a4))⟩:fo),true,()))) (some ((⟨a1,a2,(IntKind.wrap .i64 (a3+a4))⟩:fo),true,()))))))))
end
end Go.Proofs.YtadabkgmdllbfabGreat.En
