/- Functions that are spoken of. -/
import Derived.Test.YtadabkgmdllbfaaGreatZB
namespace Go.Proofs.YtadabkgmdllbfaaGreat.En
open Go
noncomputable section
def rd (a0:dQ) (a1:Int):Option (Bool×Unit):=
 (jl a0 a1).bind fun y1=>br y1.1 (br a0.up ((sL a0.config a1).bind fun y2=>br (y2.1==1) (some ((a0.epoch==a0.config.epoch),())) (some (false,()))) (some (false,()))) (some (false,()))
def o2 (a0:dN) (a1:Int):Option (Bool×Unit):=
 (fW a0 a1).bind fun y1=>br y1.1 (iteP (0<=a1) ((a0.servers[a1.toNat]?).bind fun x2=>(rd x2 a1).bind fun y3=>some (y3.1,())) none) (some (false,()))
def wP (a0:eZ):Option (Int×Unit):=
 br ((a0.epoch==0)&&((a0.holder==0)&&((a0.ends==0)&&true))) (some (0,())) ((kU a0).bind fun y1=>br (!y1.1) (some (0,())) (some ((IntKind.wrap .i64 (a0.ends+3)),())))
def o3 (a0:eZ) (a1:Int):Option (Bool×Unit):=
 (kU a0).bind fun y1=>br y1.1 ((eA a1 0 999).bind fun y2=>br y2.1 ((wP a0).bind fun y3=>some ((decide (a1≥y3.1)),())) (some (false,()))) (some (false,()))
def xR (a0:eZ) (a1:Int) (a2:Int) (a3:Int) (a4:Int):Option (eZ×Bool×Unit):=
 br (a0.epoch==a1) ((kU a0).bind fun y1=>br (!y1.1) (some (a0,false,())) ((eA a1 1 20).bind fun y2=>br (!y2.1) (some (a0,false,())) ((eA a2 0 4).bind fun y3=>br (!y3.1) (some (a0,false,())) ((eA a3 0 999).bind fun y4=>br (!y4.1) (some (a0,false,())) ((eA a4 1 50).bind fun y5=>br (!y5.1) (some (a0,false,())) (br (!(a0.holder==a2)) ((o3 a0 a3).bind fun y6=>br (!y6.1) (some (a0,false,())) (br (a0.holder==a2) (some ((⟨a1,a2,(if a0.ends>(IntKind.wrap .i64 (a3+a4)) then a0.ends else (IntKind.wrap .i64 (a3+a4)))⟩:eZ),true,())) (some ((⟨a1,a2,(IntKind.wrap .i64 (a3+a4))⟩:eZ),true,())))) (br (a0.holder==a2) (some ((⟨a1,a2,(if a0.ends>(IntKind.wrap .i64 (a3+a4)) then a0.ends else (IntKind.wrap .i64 (a3+a4)))⟩:eZ),true,())) (some ((⟨a1,a2,(IntKind.wrap .i64 (a3+a4))⟩:eZ),true,()))))))))) ((kU a0).bind fun y10=>br (!y10.1) (some (a0,false,())) ((eA a1 1 20).bind fun y11=>br (!y11.1) (some (a0,false,())) ((eA a2 0 4).bind fun y12=>br (!y12.1) (some (a0,false,())) ((eA a3 0 999).bind fun y13=>br (!y13.1) (some (a0,false,())) ((eA a4 1 50).bind fun y14=>br (!y14.1) (some (a0,false,())) (br (!false) ((o3 a0 a3).bind fun y15=>br (!y15.1) (some (a0,false,())) (some ((⟨a1,a2,(IntKind.wrap .i64 (a3+a4))⟩:eZ),true,()))) (some ((⟨a1,a2,(IntKind.wrap .i64 (a3+a4))⟩:eZ),true,()))))))))
end
end Go.Proofs.YtadabkgmdllbfaaGreat.En
