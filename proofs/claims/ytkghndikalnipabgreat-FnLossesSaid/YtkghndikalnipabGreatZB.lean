/- Printed by a program: the walk. -/
import Derived.Test.YtkghndikalnipabGreatZB1
set_option linter.unusedSimpArgs false
set_option linter.unusedVariables false
namespace Go.Proofs.YtkghndikalnipabGreat.En
open Go
noncomputable section
abbrev Od:LX:=⟨⟨[(10,.cl (.own 0 (.st .ack))),(11,.cl (.own 1 (.st .ack))),Ni],[],[.st .ack,.st .ack],0,93⟩,[(.ret,⟨[K2],[],[],0,93⟩),(.ext 0,⟨[Nl],[],[],0,93⟩)],[],[10,11,12],[2]⟩
def JH(s:Vc×Unit×List Bh×List Bh×Unit):Od.R:=
 br (decide (s.1.2.2.1< (s.2.2.1.length:Int))) (iteP (0<=s.1.2.2.1/\s.1.2.2.1< (s.2.2.1.length:Int)) ((s.2.2.1[s.1.2.2.1.toNat]?).bind λx18=>iteP (0<=s.1.2.2.1/\s.1.2.2.1< (s.2.2.2.1.length:Int)) ((s.2.2.2.1[s.1.2.2.1.toNat]?).bind λx19=>br (!((x18.op.client==x19.op.client)&&((x18.op.seq==x19.op.seq)&&((x18.op.kind==x19.op.kind)&&((x18.op.object==x19.op.object)&&((x18.op.old==x19.op.old)&&((x18.op.value==x19.op.value)&&((x18.index==x19.index)&&true)))))))) (some (.inr (.inl ((false,()),(()),(()))))) (some (.inl (((),(),(IntKind.wrap .i64 (s.1.2.2.1+1)),()),(()),s.2.2)))) none) none) (some (.inr (.inr (((),()),(()),(())))))
def LB:=mh JH
def Sq[dp] :=FM Tryz.f3 [0] Od JH [] [] (by kernel_rfl) λs=>by simp only[JH,tm];kernel_rfl
def Mp[dp](a0:Hd):Option (Bool×Unit):=
 (WX a0).bind λy1=>br y1.1 (some (true,())) ((Fc a0).bind λy2=>(Gy y2.1).bind λy3=>(Fa y2.1).bind λy4=>br (!(y3.2.1==y4.2.1)) (some (false,())) ((Gx y3.1 y4.1).bind λy5=>br (!y5.1) (some (false,())) ((F1 y2.1).bind λy6=>(Fg y2.1).bind λy7=>br (!(y6.1==y7.1)) (some (false,())) ((Ec y2.1).bind λy8=>(Ee y2.1).bind λy9=>br (!(y8.1==y9.1)) (some (false,())) (let j21:Option (Bool×Unit):=(E3 a0).bind λy12=>(GK y12.1 y12.2.1).bind λy13=>(GL y12.1 y12.2.1).bind λy14=>br (!((y13.1.length:Int)==(y14.1.length:Int))) (some (false,())) ((LB (((),(),0,()),(()),y13.1,y14.1,())).bind λe20=>Sum.elim (λe20_0=>some e20_0.1) (λ_=>some (true,())) e20);br (y3.2.1==0) ((Fg y2.1).bind λy10=>br (!y10.1) (some (false,())) ((JP y3.1).bind λy11=>br (!y11.1) (some (false,())) (j21))) (j21))))))
def U2[dp] :=C4 3 Tryz.f3 [.ty (.h)] [.b] (λx=>Mp x.1) [aao,NN,P1,P4,P0,NX,NZ,Ln,Lo,TV,OQ,RM,RX] [Sq] (by kernel_rfl) λx=>by simp only[Mp,tm];kernel_rfl
end
end Go.Proofs.YtkghndikalnipabGreat.En
