/- Printed by a program: the walk. -/
import Derived.Test.YtkcgfceffffmoaaGreatZTh
namespace Go.Proofs.YtkcgfceffffmoaaGreat.En
open Go
noncomputable section
def kJ:ByteArray:=⟨⟨[0,1,2,2,3,3,3,3,4,4,4,4,4,4,4,4,5,5,5,5,5,5,5,5,5,5,5,5,5,5,5,5,6,6,6,6,6,6,6,6,6,6,6,6,6,6,6,6,6,6,6,6,6,6,6,6,6,6,6,6,6,6,6,6,7,7,7,7,7,7,7,7,7,7,7,7,7,7,7,7,7,7,7,7,7,7,7,7,7,7,7,7,7,7,7,7,7,7,7,7,7,7,7,7,7,7,7,7,7,7,7,7,7,7,7,7,7,7,7,7,7,7,7,7,7,7,7,7,8,8,8,8,8,8,8,8,8,8,8,8,8,8,8,8,8,8,8,8,8,8,8,8,8,8,8,8,8,8,8,8,8,8,8,8,8,8,8,8,8,8,8,8,8,8,8,8,8,8,8,8,8,8,8,8,8,8,8,8,8,8,8,8,8,8,8,8,8,8,8,8,8,8,8,8,8,8,8,8,8,8,8,8,8,8,8,8,8,8,8,8,8,8,8,8,8,8,8,8,8,8,8,8,8,8,8,8,8,8,8,8,8,8,8,8,8,8,8,8,8,8,8,8,8,8,8,8]⟩⟩
def hY {ρ:Type} (a0:Int) (a1:Int) (a2:Int) (k:Bool×Unit→Option ρ):Option ρ:=
 br (decide (a0≥a1)) (k ((decide (a0≤a2)),())) (k (false,()))
def aK (a0:Int) (a1:Int) (a2:Int):Option (Bool×Unit):=hY a0 a1 a2 some
abbrev cg:bS:=⟨[(0, .cl (.ro (.i .i64))),(3, .cl (.int .i64))],[],[],0,32⟩
abbrev dg:List (X×bS):= [(.ret,⟨[(2, .cl (.bl))],[],[],0,32⟩),(.ext 0,⟨[(2, .cl (.dead))],[],[],0,32⟩)]
def bT {ρ:Type} (v1:List Int) (v2:Int) (fn: (((List Int)×Int×Unit)×(Unit)×(Unit))→Option ρ) (fe: ((Bool×Unit)×(Unit)×(Unit))⊕((Unit×Unit)×(Unit)×(Unit))→Option ρ):Option ρ:=
 br (decide (v2 < (v1.length:Int))) (aw (0≤v2) ((v1[v2.toNat]?).bind fun x3=>(aK x3 0 4).bind fun y4=>br (!y4.1) (fe (.inl ((false,()),(()),(())))) (br (decide (v2 > 0)) (aw (0≤(IntKind.wrap .i64 (v2 - 1))) ((v1[(IntKind.wrap .i64 (v2 - 1)).toNat]?).bind fun x5=>aw (0≤v2) ((v1[v2.toNat]?).bind fun x6=>br (decide (x5≥x6)) (fe (.inl ((false,()),(()),(())))) (fn ((v1,(IntKind.wrap .i64 (v2+1)),()),(()),(())))) none) none) (fn ((v1,(IntKind.wrap .i64 (v2+1)),()),(()),(()))))) none) (fe (.inr (((),()),(()),(()))))
def bE (s:cg.D):Option (cg.D⊕ce.D dg):=bT s.1.1 s.1.2.1 (fun s=>some (.inl s)) (fun e=>some (.inr e))
def ch:cg.D→Option (ce.D dg):=cH bE
def dB {ρ:Type} (a0:List Int) (k:Bool×Unit→Option ρ):Option ρ:=
 (ch ((a0,0,()),(()),(()))).bind fun e7=>Sum.elim (fun e7_=>k (e7_.1.1,())) (fun e7_=>k (true,())) e7
def bF (a0:List Int):Option (Bool×Unit):=dB a0 some
abbrev cy:bS:=⟨[(0, .cl (.ro (.i .i64))),(1, .cl (.int .i64)),(5, .cl (.int .i64))],[],[],0,18⟩
abbrev dC:List (X×bS):= [(.ret,⟨[(4, .cl (.bl))],[],[],0,18⟩),(.ext 0,⟨[(4, .cl (.dead))],[],[],0,18⟩)]
def ci {ρ:Type} (v1:List Int) (v2:Int) (v3:Int) (fn: (((List Int)×Int×Int×Unit)×(Unit)×(Unit))→Option ρ) (fe: ((Bool×Unit)×(Unit)×(Unit))⊕((Unit×Unit)×(Unit)×(Unit))→Option ρ):Option ρ:=
 br (decide (v3 < (v1.length:Int))) (aw (0≤v3) ((v1[v3.toNat]?).bind fun x4=>br (x4==v2) (fe (.inl ((true,()),(()),(())))) (fn ((v1,v2,(IntKind.wrap .i64 (v3+1)),()),(()),(())))) none) (fe (.inr (((),()),(()),(()))))
def bO (s:cy.D):Option (cy.D⊕ce.D dC):=ci s.1.1 s.1.2.1 s.1.2.2.1 (fun s=>some (.inl s)) (fun e=>some (.inr e))
def cz:cy.D→Option (ce.D dC):=cH bO
def dY {ρ:Type} (a0:List Int) (a1:Int) (k:Bool×Unit→Option ρ):Option ρ:=
 (cz ((a0,a1,0,()),(()),(()))).bind fun e5=>Sum.elim (fun e5_=>k (e5_.1.1,())) (fun e5_=>k (false,())) e5
def bC (a0:List Int) (a1:Int):Option (Bool×Unit):=dY a0 a1 some
abbrev ek:bS:=⟨[(0, .cl (.ro (.i .i64))),(1, .cl (.int .i64)),(5, .cl (.int .i64))],[],[],0,47⟩
abbrev fx:List (X×bS):= [(.ext 0,⟨[(0, .cl (.ro (.i .i64))),(1, .cl (.int .i64)),(5, .cl (.int .i64))],[],[],0,47⟩)]
def dQ {ρ:Type} (v1:List Int) (v2:Int) (v3:Int) (fn: (((List Int)×Int×Int×Unit)×(Unit)×(Unit))→Option ρ) (fe: (((List Int)×Int×Int×Unit)×(Unit)×(Unit))→Option ρ):Option ρ:=
 br (decide (v3 < (v1.length:Int))) (aw (0≤v3) ((v1[v3.toNat]?).bind fun x4=>br (decide (x4 < v2)) (fn ((v1,v2,(IntKind.wrap .i64 (v3+1)),()),(()),(()))) (fe ((v1,v2,v3,()),(()),(())))) none) (fe ((v1,v2,v3,()),(()),(())))
def dx (s:ek.D):Option (ek.D⊕ce.D fx):=dQ s.1.1 s.1.2.1 s.1.2.2.1 (fun s=>some (.inl s)) (fun e=>some (.inr e))
def fy:ek.D→Option (ce.D fx):=cH dx
def gw {ρ:Type} (a0:List Int) (a1:Int) (k: (List Int)×Unit→Option ρ):Option ρ:=
 (fy ((a0,a1,0,()),(()),(()))).bind fun e5=>br (decide (e5.1.2.2.1 < (e5.1.1.length:Int))) (aw (0≤e5.1.2.2.1) ((e5.1.1[e5.1.2.2.1.toNat]?).bind fun x6=>br (x6==e5.1.2.1) (aw ((([]:List Int)++e5.1.1).length*8≤2 ^ 40) (k ((([]:List Int)++e5.1.1),())) none) (aw (0≤(0:Int)∧(0:Int)≤e5.1.2.2.1∧e5.1.2.2.1≤(e5.1.1.length:Int)) (aw ((([]:List Int)++((e5.1.1.drop (0:Int).toNat).take (e5.1.2.2.1.toNat - (0:Int).toNat))).length*8≤2 ^ 40) (aw (((([]:List Int)++((e5.1.1.drop (0:Int).toNat).take (e5.1.2.2.1.toNat - (0:Int).toNat)))++([e5.1.2.1]:List Int)).length*8≤2 ^ 40) (aw (0≤e5.1.2.2.1∧e5.1.2.2.1≤(e5.1.1.length:Int)∧(e5.1.1.length:Int)≤(e5.1.1.length:Int)) (aw ((((([]:List Int)++((e5.1.1.drop (0:Int).toNat).take (e5.1.2.2.1.toNat - (0:Int).toNat)))++([e5.1.2.1]:List Int))++((e5.1.1.drop e5.1.2.2.1.toNat).take ((e5.1.1.length:Int).toNat - e5.1.2.2.1.toNat))).length*8≤2 ^ 40) (k ((((([]:List Int)++((e5.1.1.drop (0:Int).toNat).take (e5.1.2.2.1.toNat - (0:Int).toNat)))++([e5.1.2.1]:List Int))++((e5.1.1.drop e5.1.2.2.1.toNat).take ((e5.1.1.length:Int).toNat - e5.1.2.2.1.toNat))),())) none) none) none) none) none)) none) (aw (0≤(0:Int)∧(0:Int)≤e5.1.2.2.1∧e5.1.2.2.1≤(e5.1.1.length:Int)) (aw ((([]:List Int)++((e5.1.1.drop (0:Int).toNat).take (e5.1.2.2.1.toNat - (0:Int).toNat))).length*8≤2 ^ 40) (aw (((([]:List Int)++((e5.1.1.drop (0:Int).toNat).take (e5.1.2.2.1.toNat - (0:Int).toNat)))++([e5.1.2.1]:List Int)).length*8≤2 ^ 40) (aw (0≤e5.1.2.2.1∧e5.1.2.2.1≤(e5.1.1.length:Int)∧(e5.1.1.length:Int)≤(e5.1.1.length:Int)) (aw ((((([]:List Int)++((e5.1.1.drop (0:Int).toNat).take (e5.1.2.2.1.toNat - (0:Int).toNat)))++([e5.1.2.1]:List Int))++((e5.1.1.drop e5.1.2.2.1.toNat).take ((e5.1.1.length:Int).toNat - e5.1.2.2.1.toNat))).length*8≤2 ^ 40) (k ((((([]:List Int)++((e5.1.1.drop (0:Int).toNat).take (e5.1.2.2.1.toNat - (0:Int).toNat)))++([e5.1.2.1]:List Int))++((e5.1.1.drop e5.1.2.2.1.toNat).take ((e5.1.1.length:Int).toNat - e5.1.2.2.1.toNat))),())) none) none) none) none) none)
def fX (a0:List Int) (a1:Int):Option ((List Int)×Unit):=gw a0 a1 some
abbrev bG:bS:=⟨[(0, .cl (.ro (.i .i64))),(1, .cl (.ro (.i .i64))),(5, .cl (.own 0 (.i .i64))),(6, .cl (.int .i64))],[],[.i .i64],0,27⟩
abbrev cr:List (X×bS):= [(.ext 0,⟨[(5, .cl (.own 0 (.i .i64)))],[],[.i .i64],0,27⟩)]
def bB {ρ:Type} (v1:List Int) (v2:List Int) (v3:List Int) (v4:Int) (fn: (((List Int)×(List Int)×Unit×Int×Unit)×(Unit)×((List Int)×Unit))→Option ρ) (fe: ((Unit×Unit)×(Unit)×((List Int)×Unit))→Option ρ):Option ρ:=
 br (decide (v4 < (v2.length:Int))) (aw (0≤v4) ((v2[v4.toNat]?).bind fun x5=>(bC v3 x5).bind fun y6=>br y6.1 (aw (0≤v4) ((v2[v4.toNat]?).bind fun x7=>(fX v1 x7).bind fun y8=>fn ((v2,v3,(),(IntKind.wrap .i64 (v4+1)),()),(()),(y8.1,()))) none) (fn ((v2,v3,(),(IntKind.wrap .i64 (v4+1)),()),(()),(v1,())))) none) (fe (((),()),(()),(v1,())))
def bc (s:bG.D):Option (bG.D⊕ce.D cr):=bB s.2.2.1 s.1.1 s.1.2.1 s.1.2.2.2.1 (fun s=>some (.inl s)) (fun e=>some (.inr e))
def ct:bG.D→Option (ce.D cr):=cH bc
def cJ {ρ:Type} (a0:List Int) (a1:List Int) (k: (List Int)×Unit→Option ρ):Option ρ:=
 (ct ((a0,a1,(),0,()),(()),(([]:List Int),()))).bind fun e9=>k (e9.2.2.1,())
def bU (a0:List Int) (a1:List Int):Option ((List Int)×Unit):=cJ a0 a1 some
def cK {ρ:Type} (a0:au) (k:Bool×Unit→Option ρ):Option ρ:=
 (aK a0.epoch 1 20).bind fun y1=>br y1.1 ((bF a0.replicas).bind fun y2=>br y2.1 ((bF a0.witnesses).bind fun y3=>br y3.1 ((bC a0.replicas a0.primary).bind fun y4=>br y4.1 ((bU a0.replicas a0.witnesses).bind fun y5=>k (((y5.1.length:Int)==0),())) (k (false,()))) (k (false,()))) (k (false,()))) (k (false,()))
def bw (a0:au):Option (Bool×Unit):=cK a0 some
abbrev bV:bS:=⟨[(1, .cl (.ptr 0 0)),(3, .cl (.int .i64))],[[.ro (.st .config), .int .i64]],[],0,35⟩
abbrev cX:List (X×bS):= [(.ret,⟨[(1, .cl (.ptr 0 0)),(2, .cl (.bl))],[[.ro (.st .config), .int .i64]],[],0,35⟩),(.ext 0,⟨[(1, .cl (.ptr 0 0)),(2, .cl (.dead))],[[.ro (.st .config), .int .i64]],[],0,35⟩)]
def bL {ρ:Type} (v1:Int) (v2:List au) (v3:Int) (fn: ((Unit×Int×Unit)×(((List au)×Int×Unit)×Unit)×(Unit))→Option ρ) (fe: ((Unit×Bool×Unit)×(((List au)×Int×Unit)×Unit)×(Unit))⊕((Unit×Unit×Unit)×(((List au)×Int×Unit)×Unit)×(Unit))→Option ρ):Option ρ:=
 br (decide (v1 < (v2.length:Int))) (aw (0≤v1) ((v2[v1.toNat]?).bind fun x4=>(bw x4).bind fun y5=>br (!y5.1) (fe (.inl (((),false,()),((v2,v3,()),()),(())))) (aw (0≤v1) ((v2[v1.toNat]?).bind fun x6=>br (!(x6.epoch==(IntKind.wrap .i64 (v1+1)))) (fe (.inl (((),false,()),((v2,v3,()),()),(())))) (fn (((),(IntKind.wrap .i64 (v1+1)),()),((v2,v3,()),()),(())))) none)) none) (fe (.inr (((),(),()),((v2,v3,()),()),(()))))
def bz (s:bV.D):Option (bV.D⊕ce.D cX):=bL s.1.2.1 s.2.1.1.1 s.2.1.1.2.1 (fun s=>some (.inl s)) (fun e=>some (.inr e))
def bW:bV.D→Option (ce.D cX):=cH bz
def dh {ρ:Type} (a0:bo) (k:Bool×Unit→Option ρ):Option ρ:=
 (bW (((),0,()),((a0.configs,a0.activated,()),()),(()))).bind fun e7=>Sum.elim (fun e7_=>k (e7_.1.2.1,())) (fun e7_=>(aK e7_.2.1.1.2.1 0 (e7_.2.1.1.1.length:Int)).bind fun y8=>k (y8.1,())) e7
def cA (a0:bo):Option (Bool×Unit):=dh a0 some
abbrev cT:bS:=⟨[(0, .cl (.ro (.i .i64))),(3, .cl (.int .i64))],[],[],0,19⟩
abbrev dZ:List (X×bS):= [(.ret,⟨[(0, .cl (.ro (.i .i64))),(2, .cl (.bl))],[],[],0,19⟩),(.ext 0,⟨[(0, .cl (.ro (.i .i64))),(2, .cl (.dead))],[],[],0,19⟩)]
def fm {ρ:Type} (v1:List Int) (v2:Int) (fn: (((List Int)×Int×Unit)×(Unit)×(Unit))→Option ρ) (fe: (((List Int)×Bool×Unit)×(Unit)×(Unit))⊕(((List Int)×Unit×Unit)×(Unit)×(Unit))→Option ρ):Option ρ:=
 br (decide (v2 < (v1.length:Int))) (aw (0≤v2) ((v1[v2.toNat]?).bind fun x3=>(aK x3 0 3).bind fun y4=>br (!y4.1) (fe (.inl ((v1,false,()),(()),(())))) (fn ((v1,(IntKind.wrap .i64 (v2+1)),()),(()),(())))) none) (fe (.inr ((v1,(),()),(()),(()))))
def fY (s:cT.D):Option (cT.D⊕ce.D dZ):=fm s.1.1 s.1.2.1 (fun s=>some (.inl s)) (fun e=>some (.inr e))
def fZ:cT.D→Option (ce.D dZ):=cH fY
def gx {ρ:Type} (a0:List Int) (k:Bool×Unit→Option ρ):Option ρ:=
 (fZ ((a0,0,()),(()),(()))).bind fun e5=>Sum.elim (fun e5_=>k (e5_.1.2.1,())) (fun e5_=>k (((e5_.1.1.length:Int)==5),())) e5
def gS (a0:List Int):Option (Bool×Unit):=gx a0 some
def gT {ρ:Type} (a0:gn) (k:Bool×Unit→Option ρ):Option ρ:=
 br ((a0.epoch==0)&&((a0.holder==0)&&((a0.ends==0)&&true))) (k (true,())) ((aK a0.epoch 1 20).bind fun y1=>br y1.1 ((aK a0.holder 0 4).bind fun y2=>br y2.1 ((aK a0.ends 1 1049).bind fun y3=>k (y3.1,())) (k (false,()))) (k (false,())))
def im (a0:gn):Option (Bool×Unit):=gT a0 some
abbrev cB:bS:=⟨[(0, .cl (.ro (.st .place))),(3, .cl (.int .i64))],[],[],0,38⟩
abbrev dD:List (X×bS):= [(.ret,⟨[(0, .cl (.ro (.st .place))),(2, .cl (.bl))],[],[],0,38⟩),(.ext 0,⟨[(0, .cl (.ro (.st .place))),(2, .cl (.dead))],[],[],0,38⟩)]
def eY {ρ:Type} (v1:List dV) (v2:Int) (fn: (((List dV)×Int×Unit)×(Unit)×(Unit))→Option ρ) (fe: (((List dV)×Bool×Unit)×(Unit)×(Unit))⊕(((List dV)×Unit×Unit)×(Unit)×(Unit))→Option ρ):Option ρ:=
 br (decide (v2 < (v1.length:Int))) (aw (0≤v2) ((v1[v2.toNat]?).bind fun x3=>(aK x3.rack 0 9).bind fun y4=>br (!y4.1) (fe (.inl ((v1,false,()),(()),(())))) (aw (0≤v2) ((v1[v2.toNat]?).bind fun x5=>(aK x5.capacity 0 9).bind fun y6=>br (!y6.1) (fe (.inl ((v1,false,()),(()),(())))) (aw (0≤v2) ((v1[v2.toNat]?).bind fun x7=>(aK x7.load 0 99).bind fun y8=>br (!y8.1) (fe (.inl ((v1,false,()),(()),(())))) (fn ((v1,(IntKind.wrap .i64 (v2+1)),()),(()),(())))) none)) none)) none) (fe (.inr ((v1,(),()),(()),(()))))
def fo (s:cB.D):Option (cB.D⊕ce.D dD):=eY s.1.1 s.1.2.1 (fun s=>some (.inl s)) (fun e=>some (.inr e))
def fp:cB.D→Option (ce.D dD):=cH fo
def f0 {ρ:Type} (a0:List dV) (k:Bool×Unit→Option ρ):Option ρ:=
 (fp ((a0,0,()),(()),(()))).bind fun e9=>Sum.elim (fun e9_=>k (e9_.1.2.1,())) (fun e9_=>k (((e9_.1.1.length:Int)==5),())) e9
def gy (a0:List dV):Option (Bool×Unit):=f0 a0 some
def f4 {ρ:Type} (a0:Op) (k:Bool×Unit→Option ρ):Option ρ:=
 (aK a0.client 0 2).bind fun y1=>br (!y1.1) (k (false,())) ((aK a0.seq 1 99).bind fun y2=>br (!y2.1) (k (false,())) ((aK a0.object 0 2).bind fun y3=>br (!y3.1) (k (false,())) ((aK a0.value 0 9).bind fun y4=>br (!y4.1) (k (false,())) (br (a0.kind==1) (br (a0.old==0) (k (true,())) (br (a0.kind==2) ((aK a0.old 0 9).bind fun y5=>k (y5.1,())) (k (false,())))) (br (a0.kind==2) ((aK a0.old 0 9).bind fun y6=>k (y6.1,())) (k (false,())))))))
def gz (a0:Op):Option (Bool×Unit):=f4 a0 some
abbrev en:bS:=⟨[(0, .cl (.ro (.st .entry))),(3, .cl (.int .i64))],[],[],0,47⟩
abbrev fA:List (X×bS):= [(.ret,⟨[(0, .cl (.ro (.st .entry))),(2, .cl (.bl))],[],[],0,47⟩),(.ext 0,⟨[(0, .cl (.ro (.st .entry))),(2, .cl (.dead))],[],[],0,47⟩)]
def gU {ρ:Type} (v1:List cW) (v2:Int) (fn: (((List cW)×Int×Unit)×(Unit)×(Unit))→Option ρ) (fe: (((List cW)×Bool×Unit)×(Unit)×(Unit))⊕(((List cW)×Unit×Unit)×(Unit)×(Unit))→Option ρ):Option ρ:=
 br (decide (v2 < (v1.length:Int))) (aw (0≤v2) ((v1[v2.toNat]?).bind fun x3=>(aK x3.epoch 1 20).bind fun y4=>br (!y4.1) (fe (.inl ((v1,false,()),(()),(())))) (aw (0≤v2) ((v1[v2.toNat]?).bind fun x5=>(gz x5.op).bind fun y6=>br (!y6.1) (fe (.inl ((v1,false,()),(()),(())))) (br (decide (v2 > 0)) (aw (0≤(IntKind.wrap .i64 (v2 - 1))) ((v1[(IntKind.wrap .i64 (v2 - 1)).toNat]?).bind fun x7=>aw (0≤v2) ((v1[v2.toNat]?).bind fun x8=>br (decide (x7.epoch > x8.epoch)) (fe (.inl ((v1,false,()),(()),(())))) (fn ((v1,(IntKind.wrap .i64 (v2+1)),()),(()),(())))) none) none) (fn ((v1,(IntKind.wrap .i64 (v2+1)),()),(()),(()))))) none)) none) (fe (.inr ((v1,(),()),(()),(()))))
def ip (s:en.D):Option (en.D⊕ce.D fA):=gU s.1.1 s.1.2.1 (fun s=>some (.inl s)) (fun e=>some (.inr e))
def iq:en.D→Option (ce.D fA):=cH ip
def i1 {ρ:Type} (a0:List cW) (k:Bool×Unit→Option ρ):Option ρ:=
 (iq ((a0,0,()),(()),(()))).bind fun e9=>Sum.elim (fun e9_=>k (e9_.1.2.1,())) (fun e9_=>k ((decide ((e9_.1.1.length:Int)≤16)),())) e9
def hZ (a0:List cW):Option (Bool×Unit):=i1 a0 some
abbrev bM:bS:=⟨[(0, .cl (.ro (.i .i64))),(1, .cl (.ro (.i .i64))),(5, .cl (.int .i64))],[],[],0,26⟩
abbrev cL:List (X×bS):= [(.ret,⟨[(4, .cl (.bl))],[],[],0,26⟩),(.ext 0,⟨[(4, .cl (.dead))],[],[],0,26⟩)]
def d0 {ρ:Type} (v1:List Int) (v2:List Int) (v3:Int) (fn: (((List Int)×(List Int)×Int×Unit)×(Unit)×(Unit))→Option ρ) (fe: ((Bool×Unit)×(Unit)×(Unit))⊕((Unit×Unit)×(Unit)×(Unit))→Option ρ):Option ρ:=
 br (decide (v3 < (v1.length:Int))) (aw (0≤v3) ((v1[v3.toNat]?).bind fun x4=>aw (0≤v3) ((v2[v3.toNat]?).bind fun x5=>br (!(x4==x5)) (fe (.inl ((false,()),(()),(())))) (fn ((v1,v2,(IntKind.wrap .i64 (v3+1)),()),(()),(())))) none) none) (fe (.inr (((),()),(()),(()))))
def eo (s:bM.D):Option (bM.D⊕ce.D cL):=d0 s.1.1 s.1.2.1 s.1.2.2.1 (fun s=>some (.inl s)) (fun e=>some (.inr e))
def ep:bM.D→Option (ce.D cL):=cH eo
def eA {ρ:Type} (a0:List Int) (a1:List Int) (k:Bool×Unit→Option ρ):Option ρ:=
 br (!((a0.length:Int)==(a1.length:Int))) (k (false,())) ((ep ((a0,a1,0,()),(()),(()))).bind fun e6=>Sum.elim (fun e6_=>k (e6_.1.1,())) (fun e6_=>k (true,())) e6)
def di (a0:List Int) (a1:List Int):Option (Bool×Unit):=eA a0 a1 some
def eB {ρ:Type} (a0:au) (a1:au) (k:Bool×Unit→Option ρ):Option ρ:=
 br (a0.epoch==a1.epoch) (br (a0.primary==a1.primary) ((di a0.replicas a1.replicas).bind fun y1=>br y1.1 ((di a0.witnesses a1.witnesses).bind fun y2=>k (y2.1,())) (k (false,()))) (k (false,()))) (k (false,()))
def eZ (a0:au) (a1:au):Option (Bool×Unit):=eB a0 a1 some
def gV {ρ:Type} (a0:au) (k:Bool×Unit→Option ρ):Option ρ:=
 (eZ a0 (⟨0,0,([]:List Int),([]:List Int)⟩:au)).bind fun y1=>k (y1.1,())
def ir (a0:au):Option (Bool×Unit):=gV a0 some
def gW {ρ:Type} (a0:List cW) (k:Int×Unit→Option ρ):Option ρ:=
 br ((a0.length:Int)==0) (k (0,())) (aw (0≤(IntKind.wrap .i64 ((a0.length:Int) - 1))) ((a0[(IntKind.wrap .i64 ((a0.length:Int) - 1)).toNat]?).bind fun x1=>k (x1.epoch,())) none)
def it (a0:List cW):Option (Int×Unit):=gW a0 some
def iu {ρ:Type} (a0:au) (a1:Int) (k:Int×Unit→Option ρ):Option ρ:=
 (bw a0).bind fun y1=>br (!y1.1) (k (0,())) (br (a1==a0.primary) (k (1,())) ((bC a0.replicas a1).bind fun y2=>br y2.1 (k (2,())) ((bC a0.witnesses a1).bind fun y3=>br y3.1 (k (3,())) (k (0,())))))
def i2 (a0:au) (a1:Int):Option (Int×Unit):=iu a0 a1 some
def es {ρ:Type} (a0:eS) (a1:Int) (k:Bool×Unit→Option ρ):Option ρ:=
 (aK a0.version 1 2).bind fun y1=>br (!y1.1) (k (false,())) ((aK a0.epoch 0 20).bind fun y2=>br (!y2.1) (k (false,())) ((hZ a0.log).bind fun y3=>br (!y3.1) (k (false,())) ((hZ a0.learned).bind fun y4=>br (!y4.1) (k (false,())) ((aK a0.first 0 16).bind fun y5=>br (!y5.1) (k (false,())) ((aK (IntKind.wrap .i64 (a0.first+(a0.log.length:Int))) 0 16).bind fun y6=>br (!y6.1) (k (false,())) ((aK a0.commit 0 (IntKind.wrap .i64 (a0.first+(a0.log.length:Int)))).bind fun y7=>br (!y7.1) (k (false,())) ((ir a0.config).bind fun y8=>br y8.1 (br (a0.first==0) (br ((a0.log.length:Int)==0) (k ((a0.commit==0),())) (k (false,()))) (k (false,()))) (br (!a0.intact) (k (false,())) (br (decide (a0.epoch < a0.config.epoch)) (k (false,())) ((it a0.log).bind fun y9=>br (decide (y9.1 > a0.config.epoch)) (k (false,())) ((i2 a0.config a1).bind fun y10=>br (y10.1==0) (k (false,())) (br (y10.1==3) (br (decide ((a0.log.length:Int)≤3)) (br ((a0.log.length:Int)==3) (k (true,())) (k ((a0.first==0),()))) (k (false,()))) (k ((a0.first==0),()))))))))))))))
def eC (a0:eS) (a1:Int):Option (Bool×Unit):=es a0 a1 some
def fB {ρ:Type} (a0:Int) (a1:Int) (a2:Int) (k:Bool×Unit→Option ρ):Option ρ:=
 br (decide (a1≤a0)) (k ((decide (a0≤a2)),())) (k (false,()))
def dj (a0:Int) (a1:Int) (a2:Int):Option (Bool×Unit):=fB a0 a1 a2 some
abbrev cj:bS:=⟨[(0, .cl (.ro (.i .i64))),(5, .cl (.ro (.i .i64))),(6, .cl (.int .i64)),(7, .cl (.int .i64))],[],[],0,29⟩
abbrev dk:List (X×bS):= [(.ret,⟨[(2, .cl (.bl))],[],[],0,29⟩),(.ext 0,⟨[(2, .cl (.dead))],[],[],0,29⟩)]
def bX {ρ:Type} (v1:List Int) (v2:List Int) (v3:Int) (v4:Int) (fn: (((List Int)×(List Int)×Int×Int×Unit)×(Unit)×(Unit))→Option ρ) (fe: ((Bool×Unit)×(Unit)×(Unit))⊕((Unit×Unit)×(Unit)×(Unit))→Option ρ):Option ρ:=
 br (decide (v4 < v3)) (aw (0≤v4) ((v2[v4.toNat]?).bind fun x5=>(dj x5 0 4).bind fun y6=>br (!y6.1) (fe (.inl ((false,()),(()),(())))) (br (decide (v4 > 0)) (aw (0≤(IntKind.wrap .i64 (v4 - 1))) ((v1[(IntKind.wrap .i64 (v4 - 1)).toNat]?).bind fun x7=>br (decide (x5≤x7)) (fe (.inl ((false,()),(()),(())))) (fn ((v1,v2,v3,(IntKind.wrap .i64 (v4+1)),()),(()),(())))) none) (fn ((v1,v2,v3,(IntKind.wrap .i64 (v4+1)),()),(()),(()))))) none) (fe (.inr (((),()),(()),(()))))
def bH (s:cj.D):Option (cj.D⊕ce.D dk):=bX s.1.1 s.1.2.1 s.1.2.2.1 s.1.2.2.2.1 (fun s=>some (.inl s)) (fun e=>some (.inr e))
def ck:cj.D→Option (ce.D dk):=cH bH
def dE {ρ:Type} (a0:List Int) (k:Bool×Unit→Option ρ):Option ρ:=
 (ck ((a0,a0,(a0.length:Int),0,()),(()),(()))).bind fun e8=>Sum.elim (fun e8_=>k (e8_.1.1,())) (fun e8_=>k (true,())) e8
def bI (a0:List Int):Option (Bool×Unit):=dE a0 some
abbrev cm:bS:=⟨[(0, .cl (.ro (.i .i64))),(1, .cl (.int .i64)),(7, .cl (.int .i64)),(8, .cl (.int .i64))],[],[],0,19⟩
abbrev dl:List (X×bS):= [(.ret,⟨[(4, .cl (.int .i64))],[],[],0,19⟩),(.ext 0,⟨[(4, .cl (.dead))],[],[],0,19⟩)]
def bZ {ρ:Type} (v1:List Int) (v2:Int) (v3:Int) (v4:Int) (fn: (((List Int)×Int×Int×Int×Unit)×(Unit)×(Unit))→Option ρ) (fe: ((Int×Unit)×(Unit)×(Unit))⊕((Unit×Unit)×(Unit)×(Unit))→Option ρ):Option ρ:=
 br (decide (v4 < v3)) (aw (0≤v4) ((v1[v4.toNat]?).bind fun x5=>br (v2==x5) (fe (.inl ((v4,()),(()),(())))) (fn ((v1,v2,v3,(IntKind.wrap .i64 (v4+1)),()),(()),(())))) none) (fe (.inr (((),()),(()),(()))))
def bJ (s:cm.D):Option (cm.D⊕ce.D dl):=bZ s.1.1 s.1.2.1 s.1.2.2.1 s.1.2.2.2.1 (fun s=>some (.inl s)) (fun e=>some (.inr e))
def cn:cm.D→Option (ce.D dl):=cH bJ
def dF {ρ:Type} (a0:List Int) (a1:Int) (k:Int×Unit→Option ρ):Option ρ:=
 (cn ((a0,a1,(a0.length:Int),0,()),(()),(()))).bind fun e6=>Sum.elim (fun e6_=>k (e6_.1.1,())) (fun e6_=>k ((-1),())) e6
def ea (a0:List Int) (a1:Int):Option (Int×Unit):=dF a0 a1 some
def cM {ρ:Type} (a0:List Int) (a1:Int) (k:Bool×Unit→Option ρ):Option ρ:=
 (ea a0 a1).bind fun y1=>k ((decide (y1.1≥0)),())
def cY (a0:List Int) (a1:Int):Option (Bool×Unit):=cM a0 a1 some
def eb {ρ:Type} (a0:List Int) (a1:Int) (k:Bool×Unit→Option ρ):Option ρ:=
 (cY a0 a1).bind fun y1=>k (y1.1,())
def cu (a0:List Int) (a1:Int):Option (Bool×Unit):=eb a0 a1 some
def dG {ρ:Type} (a0:List Int) (k: (List Int)×Unit→Option ρ):Option ρ:=
 aw (a0.length*8≤2 ^ 40) (k (a0,())) none
def ec (a0:List Int):Option ((List Int)×Unit):=dG a0 some
def gA {ρ:Type} (a0:Int) (k:Int×Unit→Option ρ):Option ρ:=
 br (decide (a0≥4294967296)) (none) (br (decide (a0≥65536)) (none) (br (decide (a0≥256)) (none) (aw (0≤(IntKind.wrap .u8 a0)) ((kJ[(IntKind.wrap .u8 a0).toNat]?).bind fun x1=>k ((IntKind.wrap .i64 (0+(IntKind.wrap .i64 (x1.toNat:Int)))),())) none)))
def gX (a0:Int):Option (Int×Unit):=gA a0 some
def iv {ρ:Type} (a0:Int) (k:Int×Unit→Option ρ):Option ρ:=
 (gX a0).bind fun y1=>k (y1.1,())
def gB (a0:Int):Option (Int×Unit):=iv a0 some
def dn {ρ:Type} (a0:Int) (k:Bool×Unit→Option ρ):Option ρ:=
 k ((!(a0==a0)),())
def cD (a0:Int):Option (Bool×Unit):=dn a0 some
def dH {ρ:Type} (a0:Int) (a1:Int) (k:Bool×Unit→Option ρ):Option ρ:=
 (cD a0).bind fun y1=>br y1.1 ((cD a1).bind fun y2=>br (!y2.1) (k (true,())) (k ((decide (a0 < a1)),()))) (k ((decide (a0 < a1)),()))
def cU (a0:Int) (a1:Int):Option (Bool×Unit):=dH a0 a1 some
abbrev ax:bS:=⟨[(0, .cl (.own 0 (.i .i64))),(1, .cl (.int .i64)),(2, .cl (.int .i64)),(6, .cl (.int .i64)),(7, .cl (.int .i64))],[],[.i .i64],1,49⟩
abbrev aP:List (X×bS):= [(.ext 2,⟨[(0, .cl (.own 0 (.i .i64))),(1, .cl (.int .i64)),(2, .cl (.int .i64)),(6, .cl (.int .i64))],[],[.i .i64],1,49⟩)]
def aN {ρ:Type} (v5:List Int) (v6:Int) (v7:Int) (v8:Int) (v9:Int) (fn: ((Unit×Int×Int×Int×Int×Unit)×(Unit)×((List Int)×Unit))→Option ρ) (fe: ((Unit×Int×Int×Int×Unit)×(Unit)×((List Int)×Unit))→Option ρ):Option ρ:=
 br (decide (v9 > v6)) (aw (0≤v9∧v9 < (v5.length:Int)) ((v5[v9.toNat]?).bind fun x10=>aw (0≤(IntKind.wrap .i64 (v9 - 1))∧(IntKind.wrap .i64 (v9 - 1)) < (v5.length:Int)) ((v5[(IntKind.wrap .i64 (v9 - 1)).toNat]?).bind fun x11=>(cU x10 x11).bind fun y12=>br y12.1 (aw (0≤(IntKind.wrap .i64 (v9 - 1))∧(IntKind.wrap .i64 (v9 - 1)) < (v5.length:Int)) ((v5[(IntKind.wrap .i64 (v9 - 1)).toNat]?).bind fun x13=>aw (0≤v9∧v9 < (v5.length:Int)) ((v5[v9.toNat]?).bind fun x14=>aw (0≤v9∧v9 < (v5.length:Int)) (aw (0≤(IntKind.wrap .i64 (v9 - 1))∧(IntKind.wrap .i64 (v9 - 1)) < (v5.length:Int)) ((v5[v9.toNat]?).bind fun _=>let z16:=v5.set v9.toNat x13; (z16[(IntKind.wrap .i64 (v9 - 1)).toNat]?).bind fun _=>fn (((),v6,v7,v8,(IntKind.wrap .i64 (v9 - 1)),()),(()),((z16.set ((IntKind.wrap .i64 (v9 - 1)).toNat) x14),()))) none) none) none) none) (fe (((),v6,v7,v8,()),(()),(v5,())))) none) none) (fe (((),v6,v7,v8,()),(()),(v5,())))
def aQ (s:ax.D):Option (ax.D⊕ce.D aP):=aN s.2.2.1 s.1.2.1 s.1.2.2.1 s.1.2.2.2.1 s.1.2.2.2.2.1 (fun s=>some (.inl s)) (fun e=>some (.inr e))
def aR:ax.D→Option (ce.D aP):=cH aQ
abbrev ay:bS:=⟨[(0, .cl (.own 0 (.i .i64))),(1, .cl (.int .i64)),(2, .cl (.int .i64)),(6, .cl (.int .i64))],[],[.i .i64],1,49⟩
abbrev aU:List (X×bS):= [(.ext 0,⟨[],[],[.i .i64],1,49⟩)]
def ar {ρ:Type} (v1:List Int) (v2:Int) (v3:Int) (v4:Int) (fn: ((Unit×Int×Int×Int×Unit)×(Unit)×((List Int)×Unit))→Option ρ) (fe: ((Unit)×(Unit)×((List Int)×Unit))→Option ρ):Option ρ:=
 br (decide (v4 < v3)) ((aR (((),v2,v3,v4,v4,()),(()),(v1,()))).bind fun e19=>fn (((),e19.1.2.1,e19.1.2.2.1,(IntKind.wrap .i64 (e19.1.2.2.2.1+1)),()),(()),(e19.2.2.1,()))) (fe ((()),(()),(v1,())))
def ak (s:ay.D):Option (ay.D⊕ce.D aU):=ar s.2.2.1 s.1.2.1 s.1.2.2.1 s.1.2.2.2.1 (fun s=>some (.inl s)) (fun e=>some (.inr e))
def aV:ay.D→Option (ce.D aU):=cH ak
def aY {ρ:Type} (a0:List Int) (a1:Int) (a2:Int) (k: (List Int)×Unit→Option ρ):Option ρ:=
 (aV (((),a1,a2,(IntKind.wrap .i64 (a1+1)),()),(()),(a0,()))).bind fun e20=>k (e20.2.2.1,())
def aF (a0:List Int) (a1:Int) (a2:Int):Option ((List Int)×Unit):=aY a0 a1 a2 some
abbrev aM:bS:=⟨[(0, .cl (.own 0 (.i .i64))),(1, .cl (.int .i64)),(2, .cl (.int .i64)),(3, .cl (.int .i64)),(8, .cl (.bl)),(9, .cl (.bl))],[],[.i .i64],1,134⟩
abbrev bj:List (X×bS):= [(.ret,⟨[],[],[.i .i64],1,134⟩)]
def be {ρ:Type} (v1:List Int) (v2:Int) (v3:Int) (v4:Int) (v5:Bool) (_v6:Bool) (fn: ((Unit×Int×Int×Int×Bool×Bool×Unit)×(Unit)×((List Int)×Unit))→Option ρ) (fe: ((Unit)×(Unit)×((List Int)×Unit))→Option ρ):Option ρ:=
 br (decide ((IntKind.wrap .i64 (v3 - v2))≤12)) ((aF v1 v2 v3).bind fun y7=>aw (y7.1.length=v1.length) (fe ((()),(()),(y7.1,()))) none) (br (v4==0) (none) (br (!v5) (none) (none)))
def bk (s:aM.D):Option (aM.D⊕ce.D bj):=be s.2.2.1 s.1.2.1 s.1.2.2.1 s.1.2.2.2.1 s.1.2.2.2.2.1 s.1.2.2.2.2.2.1 (fun s=>some (.inl s)) (fun e=>some (.inr e))
def bm:aM.D→Option (ce.D bj):=cH bk
def bs {ρ:Type} (a0:List Int) (a1:Int) (a2:Int) (a3:Int) (k: (List Int)×Unit→Option ρ):Option ρ:=
 (bm (((),a1,a2,a3,true,true,()),(()),(a0,()))).bind fun e8=>k (e8.2.2.1,())
def aW (a0:List Int) (a1:Int) (a2:Int) (a3:Int):Option ((List Int)×Unit):=bs a0 a1 a2 a3 some
def cZ {ρ:Type} (a0:List Int) (k: (List Int)×Unit→Option ρ):Option ρ:=
 (gB (IntKind.wrap .u64 (a0.length:Int))).bind fun y1=>(aW a0 0 (a0.length:Int) y1.1).bind fun y2=>aw (y2.1.length=a0.length) (k (y2.1,())) none
def co (a0:List Int):Option ((List Int)×Unit):=cZ a0 some
abbrev bu:bS:=⟨[(0, .cl (.own 0 (.i .i64))),(3, .cl (.int .i64))],[],[.i .i64],0,61⟩
abbrev b9:List (X×bS):= [(.ext 0,⟨[(0, .cl (.own 0 (.i .i64))),(2, .cl (.dead))],[],[.i .i64],0,61⟩)]
def bn {ρ:Type} (v1:List Int) (v2:Int) (fn: ((Unit×Int×Unit)×(Unit)×((List Int)×Unit))→Option ρ) (fe: ((Unit×Unit×Unit)×(Unit)×((List Int)×Unit))→Option ρ):Option ρ:=
 br (decide (v2 < (v1.length:Int))) (aw (0≤v2∧v2 < (v1.length:Int)) ((v1[v2.toNat]?).bind fun x3=>aw (0≤(IntKind.wrap .i64 (v2 - 1))∧(IntKind.wrap .i64 (v2 - 1)) < (v1.length:Int)) ((v1[(IntKind.wrap .i64 (v2 - 1)).toNat]?).bind fun x4=>br (x3==x4) (aw (0≤v2∧v2≤(v1.length:Int)∧(v1.length:Int)≤((v1.length:Nat):Int)) (none) none) (fn (((),(IntKind.wrap .i64 (v2+1)),()),(()),(v1,())))) none) none) (fe (((),(),()),(()),(v1,())))
def aZ (s:bu.D):Option (bu.D⊕ce.D b9):=bn s.2.2.1 s.1.2.1 (fun s=>some (.inl s)) (fun e=>some (.inr e))
def ca:bu.D→Option (ce.D b9):=cH aZ
def cq {ρ:Type} (a0:List Int) (k: (List Int)×Unit→Option ρ):Option ρ:=
 br (decide ((a0.length:Int) < 2)) (k (a0,())) ((ca (((),1,()),(()),(a0,()))).bind fun e5=>k (e5.2.2.1,()))
def bK (a0:List Int):Option ((List Int)×Unit):=cq a0 some
def ed {ρ:Type} (a0:List Int) (k: (List Int)×Unit→Option ρ):Option ρ:=
 (ec a0).bind fun y1=>(co y1.1).bind fun y2=>aw (y2.1.length=y1.1.length) ((bK y2.1).bind fun y3=>k (y3.1,())) none
def dp (a0:List Int):Option ((List Int)×Unit):=ed a0 some
def bQ {ρ:Type} (a0:Int) (a1:List Int) (k:Bool×Unit→Option ρ):Option ρ:=
 (cu a1 a0).bind fun y1=>k (y1.1,())
def ba (a0:Int) (a1:List Int):Option (Bool×Unit):=bQ a0 a1 some
abbrev an:bS:=⟨[(0, .cl (.ro (.i .i64))),(1, .fn 151 [.pro (.ls (.i .i64))]),(7, .cl (.int .i64)),(8, .cl (.int .i64))],[],[],0,19⟩
abbrev aG:List (X×bS):= [(.ret,⟨[(4, .cl (.int .i64))],[],[],0,19⟩),(.ext 0,⟨[(4, .cl (.dead))],[],[],0,19⟩)]
def am {ρ:Type} (v1:List Int) (v2:List Int) (v3:Int) (v4:Int) (fn: (((List Int)×((List Int)×Unit)×Int×Int×Unit)×(Unit)×(Unit))→Option ρ) (fe: ((Int×Unit)×(Unit)×(Unit))⊕((Unit×Unit)×(Unit)×(Unit))→Option ρ):Option ρ:=
 br (decide (v4 < v3)) (aw (0≤v4) ((v1[v4.toNat]?).bind fun x5=>(ba x5 v2).bind fun y6=>br y6.1 (fe (.inl ((v4,()),(()),(())))) (fn ((v1,(v2,()),v3,(IntKind.wrap .i64 (v4+1)),()),(()),(())))) none) (fe (.inr (((),()),(()),(()))))
def af (s:an.D):Option (an.D⊕ce.D aG):=am s.1.1 s.1.2.1.1 s.1.2.2.1 s.1.2.2.2.1 (fun s=>some (.inl s)) (fun e=>some (.inr e))
def ao:an.D→Option (ce.D aG):=cH af
def aI {ρ:Type} (a0:List Int) (a1_0:List Int) (k:Int×Unit→Option ρ):Option ρ:=
 (ao ((a0,(a1_0,()),(a0.length:Int),0,()),(()),(()))).bind fun e7=>Sum.elim (fun e7_=>k (e7_.1.1,())) (fun e7_=>k ((-1),())) e7
def aL (a0:List Int) (a1_0:List Int):Option (Int×Unit):=aI a0 a1_0 some
abbrev aj:bS:=⟨[(0, .cl (.own 0 (.i .i64))),(1, .fn 151 [.pro (.ls (.i .i64))]),(5, .cl (.int .i64)),(6, .cl (.int .i64))],[],[.i .i64],0,42⟩
abbrev az:List (X×bS):= [(.ext 0,⟨[(0, .cl (.own 0 (.i .i64))),(5, .cl (.int .i64))],[],[.i .i64],0,42⟩)]
def ai {ρ:Type} (v2:List Int) (v3:List Int) (v4:Int) (v5:Int) (fn: ((Unit×((List Int)×Unit)×Int×Int×Unit)×(Unit)×((List Int)×Unit))→Option ρ) (fe: ((Unit×Int×Unit)×(Unit)×((List Int)×Unit))→Option ρ):Option ρ:=
 br (decide (v5 < (v2.length:Int))) (aw (0≤v5∧v5 < (v2.length:Int)) ((v2[v5.toNat]?).bind fun x6=>(ba x6 v3).bind fun y7=>br (!y7.1) (aw (0≤v4∧v4 < (v2.length:Int)) ((v2[v4.toNat]?).bind fun _=>fn (((),(v3,()),(IntKind.wrap .i64 (v4+1)),(IntKind.wrap .i64 (v5+1)),()),(()),((v2.set v4.toNat x6),()))) none) (fn (((),(v3,()),v4,(IntKind.wrap .i64 (v5+1)),()),(()),(v2,())))) none) (fe (((),v4,()),(()),(v2,())))
def ae (s:aj.D):Option (aj.D⊕ce.D az):=ai s.2.2.1 s.1.2.1.1 s.1.2.2.1 s.1.2.2.2.1 (fun s=>some (.inl s)) (fun e=>some (.inr e))
def aA:aj.D→Option (ce.D az):=cH ae
def aD {ρ:Type} (a0:List Int) (a1_0:List Int) (k: (List Int)×Unit→Option ρ):Option ρ:=
 (aL a0 a1_0).bind fun y1=>br (y1.1==(-1)) (k (a0,())) ((aA (((),(a1_0,()),y1.1,(IntKind.wrap .i64 (y1.1+1)),()),(()),(a0,()))).bind fun e10=>aw (0≤e10.1.2.1∧e10.1.2.1≤(e10.2.2.1.length:Int)∧(e10.2.2.1.length:Int)≤((e10.2.2.1.length:Nat):Int)) (aw ((0+e10.1.2.1.toNat)+((e10.2.2.1.length:Int).toNat - e10.1.2.1.toNat)≤e10.2.2.1.length) (aw (0≤(0:Int)∧(0:Int)≤e10.1.2.1∧e10.1.2.1≤((e10.2.2.1.length:Nat):Int)) (aw ((0+(0:Int).toNat)=0∧(e10.1.2.1.toNat - (0:Int).toNat)≤(e10.2.2.1.take (0+e10.1.2.1.toNat)++List.replicate ((e10.2.2.1.length:Int).toNat - e10.1.2.1.toNat) (0:Int)++e10.2.2.1.drop ((0+e10.1.2.1.toNat)+((e10.2.2.1.length:Int).toNat - e10.1.2.1.toNat))).length) (k (((e10.2.2.1.take (0+e10.1.2.1.toNat)++List.replicate ((e10.2.2.1.length:Int).toNat - e10.1.2.1.toNat) (0:Int)++e10.2.2.1.drop ((0+e10.1.2.1.toNat)+((e10.2.2.1.length:Int).toNat - e10.1.2.1.toNat))).take (e10.1.2.1.toNat - (0:Int).toNat)),())) none) none) none) none)
def al (a0:List Int) (a1_0:List Int):Option ((List Int)×Unit):=aD a0 a1_0 some
def cv {ρ:Type} (a0:List Int) (a1:List Int) (k: (List Int)×Unit→Option ρ):Option ρ:=
 (dp a0).bind fun y1=>(al y1.1 a1).bind fun y2=>k (y2.1,())
def bq (a0:List Int) (a1:List Int):Option ((List Int)×Unit):=cv a0 a1 some
def cN {ρ:Type} (a0:List Int) (a1:List Int) (k: (List Int)×Unit→Option ρ):Option ρ:=
 (bq a0 a1).bind fun y1=>(bq a0 y1.1).bind fun y2=>k (y2.1,())
def b0 (a0:List Int) (a1:List Int):Option ((List Int)×Unit):=cN a0 a1 some
def cO {ρ:Type} (a0:au) (k:Bool×Unit→Option ρ):Option ρ:=
 (dj a0.epoch 1 20).bind fun y1=>br y1.1 ((bI a0.replicas).bind fun y2=>br y2.1 ((bI a0.witnesses).bind fun y3=>br y3.1 ((cu a0.replicas a0.primary).bind fun y4=>br y4.1 ((b0 a0.replicas a0.witnesses).bind fun y5=>k (((y5.1.length:Int)==0),())) (k (false,()))) (k (false,()))) (k (false,()))) (k (false,()))
def b6 (a0:au):Option (Bool×Unit):=cO a0 some
abbrev b7:bS:=⟨[(1, .cl (.ptr 0 0)),(6, .cl (.ro (.st .config))),(7, .cl (.int .i64)),(8, .cl (.int .i64))],[[.ro (.st .config), .int .i64]],[],0,30⟩
abbrev c5:List (X×bS):= [(.ret,⟨[(1, .cl (.ptr 0 0)),(2, .cl (.bl))],[[.ro (.st .config), .int .i64]],[],0,30⟩),(.ext 0,⟨[(1, .cl (.ptr 0 0)),(2, .cl (.dead))],[[.ro (.st .config), .int .i64]],[],0,30⟩)]
def bN {ρ:Type} (v1:List au) (v2:Int) (v3:Int) (v4:List au) (v5:Int) (fn: ((Unit×(List au)×Int×Int×Unit)×(((List au)×Int×Unit)×Unit)×(Unit))→Option ρ) (fe: ((Unit×Bool×Unit)×(((List au)×Int×Unit)×Unit)×(Unit))⊕((Unit×Unit×Unit)×(((List au)×Int×Unit)×Unit)×(Unit))→Option ρ):Option ρ:=
 br (decide (v3 < v2)) (aw (0≤v3) ((v1[v3.toNat]?).bind fun x6=>(b6 x6).bind fun y7=>br (!y7.1) (fe (.inl (((),false,()),((v4,v5,()),()),(())))) (br (!(x6.epoch==(IntKind.wrap .i64 (v3+1)))) (fe (.inl (((),false,()),((v4,v5,()),()),(())))) (fn (((),v1,v2,(IntKind.wrap .i64 (v3+1)),()),((v4,v5,()),()),(()))))) none) (fe (.inr (((),(),()),((v4,v5,()),()),(()))))
def bA (s:b7.D):Option (b7.D⊕ce.D c5):=bN s.1.2.1 s.1.2.2.1 s.1.2.2.2.1 s.2.1.1.1 s.2.1.1.2.1 (fun s=>some (.inl s)) (fun e=>some (.inr e))
def b8:b7.D→Option (ce.D c5):=cH bA
def dq {ρ:Type} (a0:bo) (k:Bool×Unit→Option ρ):Option ρ:=
 (b8 (((),a0.configs,(a0.configs.length:Int),0,()),((a0.configs,a0.activated,()),()),(()))).bind fun e8=>Sum.elim (fun e8_=>k (e8_.1.2.1,())) (fun e8_=>(dj e8_.2.1.1.2.1 0 (e8_.2.1.1.1.length:Int)).bind fun y9=>k (y9.1,())) e8
def dI (a0:bo):Option (Bool×Unit):=dq a0 some
end
end Go.Proofs.YtkcgfceffffmoaaGreat.En
