/- Functions that are spoken of. -/
import Derived.Test.YtkghndikalnipabGreatZB
set_option linter.unusedSimpArgs false
set_option linter.unusedVariables false
namespace Go.Proofs.YtkghndikalnipabGreat.En
open Go
noncomputable section
def Nk(a0:qQ):Option (qQ×Unit):=
 (Gl a0.config).bind λy1=>(G6 a0.log).bind λy2=>(G6 a0.learned).bind λy3=>some ((⟨a0.up,a0.intact,a0.version,a0.epoch,y1.1,a0.first,y2.1,a0.commit,y3.1⟩:qQ),())
abbrev RL:LX:=⟨⟨[(2,.cl (.ptr 0 0)),(3,.cl (.ptr 1 0)),(10,.cl (.ro (.st .config))),(11,.cl (.int .i64)),(12,.cl (.int .i64))],[[.em,.int .i64],[.own 0 (.st .config),.int .i64]],[.st .config],0,25⟩,[(.ext 0,⟨[(2,.cl (.ptr 0 0)),(3,.cl (.ptr 1 0))],[[.em,.int .i64],[.own 0 (.st .config),.int .i64]],[.st .config],0,25⟩)],[.b 2 0 (.st .config)],[2,3,10,11,12],[2,3]⟩
def JE(s: (Unit×Unit×List om×Int×Int×Unit)×((Unit×Int×Unit)×(Unit×Int×Unit)×Unit)×List om×Unit):RL.R:=
 br (decide (s.1.2.2.2.2.1<s.1.2.2.2.1)) (iteP (0<=s.1.2.2.2.2.1) ((s.1.2.2.1[s.1.2.2.2.2.1.toNat]?).bind λx14=>(Gl x14).bind λy15=>iteP ((s.2.2.1++([y15.1]:List om)).length*64<=2 ^ 40) (some (.inl (((),(),s.1.2.2.1,s.1.2.2.2.1,(IntKind.wrap .i64 (s.1.2.2.2.2.1+1)),()),s.2.1,(s.2.2.1++([y15.1]:List om)),()))) none) none) (some (.inr (((),(),()),s.2)))
def N1:=md JE
def Nj(a0:kB):Option (kB×Unit):=
 (N1 (((),(),a0.configs,(a0.configs.length:Int),0,()),(((),0,()),((),a0.activated,()),()),([]:List om),())).bind λe16=>some ((⟨e16.2.2.1,e16.2.1.2.1.2.1⟩:kB),())
def LM(a0:List vB):Option ((List vB)×Unit):=iteP (a0.length*24<=2 ^ 40) (some (a0,())) none
abbrev QV:LX:=⟨⟨[(1,.cl (.ptr 0 0)),(2,.cl (.ptr 1 0)),(3,.cl (.ptr 2 0)),(9,.cl (.ro (.st .server))),(10,.cl (.int .i64)),(11,.cl (.int .i64))],[[.int .i64,.ro (.st .server),.ro (.i .i64),.ro (.st .config),.int .i64,.int .i64,.int .i64,.int .i64,.int .i64,.ro (.st .place)],[.int .i64,.em,.em,.em,.int .i64,.int .i64,.int .i64,.int .i64,.int .i64,.em],[.int .i64,.own 0 (.st .server),.ro (.i .i64),.ro (.st .config),.int .i64,.int .i64,.int .i64,.int .i64,.int .i64,.ro (.st .place)]],[.st .server],0,36⟩,[(.ext 0,⟨[(1,.cl (.ptr 0 0)),(2,.cl (.ptr 1 0)),(3,.cl (.ptr 2 0))],[[.int .i64,.ro (.st .server),.ro (.i .i64),.ro (.st .config),.int .i64,.int .i64,.int .i64,.int .i64,.int .i64,.ro (.st .place)],[.int .i64,.em,.em,.em,.int .i64,.int .i64,.int .i64,.int .i64,.int .i64,.em],[.int .i64,.own 0 (.st .server),.ro (.i .i64),.ro (.st .config),.int .i64,.int .i64,.int .i64,.int .i64,.int .i64,.ro (.st .place)]],[.st .server],0,36⟩)],[.b 2 1 (.st .server)],[1,2,3,9,10,11],[1,2,3]⟩
def Jg(s: (Unit×Unit×Unit×List qQ×Int×Int×Unit)×((Int×List qQ×List Int×List om×Int×Int×Int×Int×Int×List vB×Unit)×(Int×Unit×Unit×Unit×Int×Int×Int×Int×Int×Unit×Unit)×(Int×Unit×List Int×List om×Int×Int×Int×Int×Int×List vB×Unit)×Unit)×List qQ×Unit):QV.R:=
 br (decide (s.1.2.2.2.2.2.1<s.1.2.2.2.2.1)) (iteP (0<=s.1.2.2.2.2.2.1) ((s.1.2.2.2.1[s.1.2.2.2.2.2.1.toNat]?).bind λx60=>(Nk x60).bind λy61=>iteP ((s.2.2.1++([y61.1]:List qQ)).length*152<=2 ^ 40) (some (.inl (((),(),(),s.1.2.2.2.1,s.1.2.2.2.2.1,(IntKind.wrap .i64 (s.1.2.2.2.2.2.1+1)),()),s.2.1,(s.2.2.1++([y61.1]:List qQ)),()))) none) none) (some (.inr (((),(),(),()),s.2)))
def NB:=md Jg
def OG(a0:qN):Option (qN×Unit):=
 (NB (((),(),(),a0.servers,(a0.servers.length:Int),0,()),((a0.now,a0.servers,a0.sides,a0.master.configs,a0.master.activated,a0.masterUp,a0.lease.epoch,a0.lease.holder,a0.lease.ends,a0.places,()),(0,(),(),(),0,0,0,0,0,(),()),(a0.now,(),a0.sides,a0.master.configs,a0.master.activated,a0.masterUp,a0.lease.epoch,a0.lease.holder,a0.lease.ends,a0.places,()),()),([]:List qQ),())).bind λe62=>(Hp e62.2.1.1.2.2.1).bind λy63=>(Nj (⟨e62.2.1.1.2.2.2.1,e62.2.1.1.2.2.2.2.1⟩:kB)).bind λy64=>(LM e62.2.1.1.2.2.2.2.2.2.2.2.2.1).bind λy65=>some ((⟨e62.2.1.2.2.1.1,e62.2.2.1,y63.1,y64.1,e62.2.1.2.2.1.2.2.2.2.2.1,(⟨e62.2.1.2.2.1.2.2.2.2.2.2.1,e62.2.1.2.2.1.2.2.2.2.2.2.2.1,e62.2.1.2.2.1.2.2.2.2.2.2.2.2.1⟩:vz),y65.1⟩:qN),())
def Ni(a0:vz):Option (Int×Unit):=
 br ((a0.epoch==0)&&((a0.holder==0)&&((a0.ends==0)&&true))) (some (0,())) ((GG a0).bind λy1=>br (!y1.1) (some (0,())) (some ((IntKind.wrap .i64 (a0.ends+3)),())))
def Im(a0:vz)(a1:Int):Option (Bool×Unit):=
 (GG a0).bind λy1=>br y1.1 ((Fj a1 0 999).bind λy2=>br y2.1 ((Ni a0).bind λy3=>some ((decide (a1≥y3.1)),())) (some (false,()))) (some (false,()))
def Pt(a0:vz)(a1:Int)(a2:Int)(a3:Int)(a4:Int):Option (vz×Bool×Unit):=
 br (a0.epoch==a1) ((GG a0).bind λy1=>br (!y1.1) (some (a0,false,())) ((Fj a1 1 20).bind λy2=>br (!y2.1) (some (a0,false,())) ((Fj a2 0 4).bind λy3=>br (!y3.1) (some (a0,false,())) ((Fj a3 0 999).bind λy4=>br (!y4.1) (some (a0,false,())) ((Fj a4 1 50).bind λy5=>br (!y5.1) (some (a0,false,())) (br (!(a0.holder==a2)) ((Im a0 a3).bind λy6=>br (!y6.1) (some (a0,false,())) (br (a0.holder==a2) (some ((⟨a1,a2,(if a0.ends>(IntKind.wrap .i64 (a3+a4)) then a0.ends else (IntKind.wrap .i64 (a3+a4)))⟩:vz),true,())) (some ((⟨a1,a2,(IntKind.wrap .i64 (a3+a4))⟩:vz),true,())))) (br (a0.holder==a2) (some ((⟨a1,a2,(if a0.ends>(IntKind.wrap .i64 (a3+a4)) then a0.ends else (IntKind.wrap .i64 (a3+a4)))⟩:vz),true,())) (some ((⟨a1,a2,(IntKind.wrap .i64 (a3+a4))⟩:vz),true,()))))))))) ((GG a0).bind λy10=>br (!y10.1) (some (a0,false,())) ((Fj a1 1 20).bind λy11=>br (!y11.1) (some (a0,false,())) ((Fj a2 0 4).bind λy12=>br (!y12.1) (some (a0,false,())) ((Fj a3 0 999).bind λy13=>br (!y13.1) (some (a0,false,())) ((Fj a4 1 50).bind λy14=>br (!y14.1) (some (a0,false,())) (br (!false) ((Im a0 a3).bind λy15=>br (!y15.1) (some (a0,false,())) (some ((⟨a1,a2,(IntKind.wrap .i64 (a3+a4))⟩:vz),true,()))) (some ((⟨a1,a2,(IntKind.wrap .i64 (a3+a4))⟩:vz),true,()))))))))
end
end Go.Proofs.YtkghndikalnipabGreat.En
