/- Functions that are spoken of. -/
import Derived.Test.YtkghndikalnipacGreatZB
set_option linter.unusedSimpArgs false
set_option linter.unusedVariables false
namespace Go.Proofs.YtkghndikalnipacGreat.En
open Go
noncomputable section
def Mf(a0:qj)(a1:Int):Option (Bool×Unit):=
 (Hx a0 a1).bind λy1=>br y1.1 (br a0.up ((J8 a0.config a1).bind λy2=>br (y2.1==1) (some ((a0.epoch==a0.config.epoch),())) (some (false,()))) (some (false,()))) (some (false,()))
def K8(a0:qg)(a1:Int):Option (Bool×Unit):=
 (Fd a0 a1).bind λy1=>br y1.1 (iteP (0<=a1) ((a0.servers[a1.toNat]?).bind λx2=>(Mf x2 a1).bind λy3=>some (y3.1,())) none) (some (false,()))
def WI(a0:qg)(a1:Int)(a2:Int):Option (Bool×Unit):=
 iteP (0<=a1) ((a0.servers[a1.toNat]?).bind λx1=>iteP (0<=a2) ((a0.servers[a2.toNat]?).bind λx2=>(HN a0.sides a1 a2).bind λy3=>br y3.1 (br x2.up (br (x2.epoch==x1.epoch) ((GN x2.config x1.config).bind λy4=>br y4.1 (some ((decide (x2.commit<=(x1.log.length:Int))),())) (some (false,()))) (some (false,()))) (some (false,()))) (some (false,()))) none) none
def PP(a0:uL)(a1:Int)(a2:Int)(a3:Int)(a4:Int):Option (uL×Bool×Unit):=
 br (a0.epoch==a1) ((GS a0).bind λy1=>br (!y1.1) (some (a0,false,())) ((Eu a1 1 20).bind λy2=>br (!y2.1) (some (a0,false,())) ((Eu a2 0 4).bind λy3=>br (!y3.1) (some (a0,false,())) ((Eu a3 0 999).bind λy4=>br (!y4.1) (some (a0,false,())) ((Eu a4 1 50).bind λy5=>br (!y5.1) (some (a0,false,())) (br (!(a0.holder==a2)) ((GJ a0 a3).bind λy6=>br (!y6.1) (some (a0,false,())) (br (a0.holder==a2) (some ((⟨a1,a2,(if a0.ends>(IntKind.wrap .i64 (a3+a4)) then a0.ends else (IntKind.wrap .i64 (a3+a4)))⟩:uL),true,())) (some ((⟨a1,a2,(IntKind.wrap .i64 (a3+a4))⟩:uL),true,())))) (br (a0.holder==a2) (some ((⟨a1,a2,(if a0.ends>(IntKind.wrap .i64 (a3+a4)) then a0.ends else (IntKind.wrap .i64 (a3+a4)))⟩:uL),true,())) (some ((⟨a1,a2,(IntKind.wrap .i64 (a3+a4))⟩:uL),true,()))))))))) ((GS a0).bind λy10=>br (!y10.1) (some (a0,false,())) ((Eu a1 1 20).bind λy11=>br (!y11.1) (some (a0,false,())) ((Eu a2 0 4).bind λy12=>br (!y12.1) (some (a0,false,())) ((Eu a3 0 999).bind λy13=>br (!y13.1) (some (a0,false,())) ((Eu a4 1 50).bind λy14=>br (!y14.1) (some (a0,false,())) (br (!false) ((GJ a0 a3).bind λy15=>br (!y15.1) (some (a0,false,())) (some ((⟨a1,a2,(IntKind.wrap .i64 (a3+a4))⟩:uL),true,()))) (some ((⟨a1,a2,(IntKind.wrap .i64 (a3+a4))⟩:uL),true,()))))))))
abbrev Tn:LX:=⟨⟨[(1,.cl (.int .i64)),(4,.cl (.ptr 0 0)),(9,.cl (.ro (.st .session))),(10,.cl (.int .i64)),(11,.cl (.int .i64))],[[.int .i64,.int .i64,.bl,.int .i64]],[],0,22⟩,[(.ret,⟨[(4,.cl (.ptr 0 0)),(5,.cl (.bl))],[[.int .i64,.int .i64,.bl,.int .i64]],[],0,22⟩),(.ext 0,⟨[(4,.cl (.ptr 0 0)),(5,.cl (.dead))],[[.int .i64,.int .i64,.bl,.int .i64]],[],0,22⟩)],[],[1,4,9,10,11],[4,5]⟩
def KZ(s: (Int×Unit×List nr×Int×Int×Unit)×((Int×Int×Bool×Int×Unit)×Unit)×Unit):Tn.R:=
 br (decide (s.1.2.2.2.2.1<s.1.2.2.2.1)) (iteP (0<=s.1.2.2.2.2.1) ((s.1.2.2.1[s.1.2.2.2.2.1.toNat]?).bind λx9=>br (x9.client==s.1.1) (some (.inr (.inl (((),true,()),((x9.client,x9.seq,x9.result.done,x9.result.value,()),()),(()))))) (some (.inl ((s.1.1,(),s.1.2.2.1,s.1.2.2.2.1,(IntKind.wrap .i64 (s.1.2.2.2.2.1+1)),()),s.2.1,(()))))) none) (some (.inr (.inr (((),(),()),s.2.1,(())))))
def Nb:=nx KZ
def QJ(a0:nq)(a1:Int):Option (nr×Bool×Unit):=
 (Nb ((a1,(),a0.sessions,(a0.sessions.length:Int),0,()),((0,0,false,0,()),()),(()))).bind λe10=>Sum.elim (λe10_0=>some ((⟨e10_0.2.1.1.1,e10_0.2.1.1.2.1,(⟨e10_0.2.1.1.2.2.1,e10_0.2.1.1.2.2.2.1⟩:Result)⟩:nr),e10_0.1.2)) (λ_=>some ((⟨0,0,(⟨false,0⟩:Result)⟩:nr),false,())) e10
section
open Go.RowKit
end
def PQ(a0:uL)(a1:Int)(a2:Int)(a3:Int):Option (Bool×Unit):=
 (GS a0).bind λy1=>br y1.1 (br (!((a0.epoch==0)&&((a0.holder==0)&&((a0.ends==0)&&true)))) (br (a0.epoch==a1) (br (a0.holder==a2) ((Eu a3 0 999).bind λy2=>br y2.1 (some ((decide ((IntKind.wrap .i64 (a3+3))<a0.ends)),())) (some (false,()))) (some (false,()))) (some (false,()))) (some (false,()))) (some (false,()))
end
end Go.Proofs.YtkghndikalnipacGreat.En
