/- Printed by a program: the walk. -/
import Derived.Test.YtadpelkpdaohnaaGreatDoorZTh
import Derived.Shelf.Strconv.Itoa3
import Derived.Shelf.Strings.OnBuilder
namespace Go.Proofs.YtadpelkpdaohnaaGreatDoor.En
open Go
noncomputable section
def Jf:ByteArray:=⟨⟨[0,1,2,2,3,3,3,3,4,4,4,4,4,4,4,4,5,5,5,5,5,5,5,5,5,5,5,5,5,5,5,5,6,6,6,6,6,6,6,6,6,6,6,6,6,6,6,6,6,6,6,6,6,6,6,6,6,6,6,6,6,6,6,6,7,7,7,7,7,7,7,7,7,7,7,7,7,7,7,7,7,7,7,7,7,7,7,7,7,7,7,7,7,7,7,7,7,7,7,7,7,7,7,7,7,7,7,7,7,7,7,7,7,7,7,7,7,7,7,7,7,7,7,7,7,7,7,7,8,8,8,8,8,8,8,8,8,8,8,8,8,8,8,8,8,8,8,8,8,8,8,8,8,8,8,8,8,8,8,8,8,8,8,8,8,8,8,8,8,8,8,8,8,8,8,8,8,8,8,8,8,8,8,8,8,8,8,8,8,8,8,8,8,8,8,8,8,8,8,8,8,8,8,8,8,8,8,8,8,8,8,8,8,8,8,8,8,8,8,8,8,8,8,8,8,8,8,8,8,8,8,8,8,8,8,8,8,8,8,8,8,8,8,8,8,8,8,8,8,8,8,8,8,8,8,8]⟩⟩
theorem jt:Tryz.prog.follows .mixedOrders=true:=by kernel_rfl
abbrev nk:= @Je _ _ Cr jt
abbrev fm:= @I8 _ _ Cr jt
abbrev Ja:= @IT _ _ Cr jt
abbrev I3:= @IU _ _ Cr jt
abbrev Jg:= @IW _ _ Cr jt
def lA (a0:List Int) (a1:Int):Option (Int×Unit):=
 br (decide ((IntKind.wrap .i64 (a1-(a0.length:Int)))<0)) (some ((-1),())) (some ((IntKind.wrap .i64 (a1-(a0.length:Int))),()))
def yF:=fm 20 Tryz.f20 [.ty (.ls (.i .i64)), .ty (.i .i64)] [.i .i64] (fun x=>lA x.1 x.2.1) [] [] (by kernel_rfl) fun x=>by simp only[lA,tm]; kernel_rfl
def ga (a0:dA) (a1:Int):Option (Int×Unit):=
 (lA a0.replicas a1).bind fun y1=>br (decide (y1.1<0)) (some ((-1),())) ((lA a0.witnesses y1.1).bind fun y2=>br (decide (y2.1<0)) (some ((-1),())) (some (y2.1,())))
def tE:=fm 117 Tryz.f117 [.ty (.st .config), .ty (.i .i64)] [.i .i64] (fun x=>ga x.1 x.2.1) [yF] [] (by kernel_rfl) fun x=>by simp only[ga,tm]; kernel_rfl
def jM (a0:List ff) (a1:Int):Option (Int×Unit):=
 br (decide ((IntKind.wrap .i64 (a1-(a0.length:Int)))<0)) (some ((-1),())) (some ((IntKind.wrap .i64 (a1-(a0.length:Int))),()))
def Ak:=fm 118 Tryz.f118 [.ty (.ls (.st .entry)), .ty (.i .i64)] [.i .i64] (fun x=>jM x.1 x.2.1) [] [] (by kernel_rfl) fun x=>by simp only[jM,tm]; kernel_rfl
def gM (a0:ek) (a1:Int):Option (Int×Unit):=
 (ga a0.config a1).bind fun y1=>br (decide (y1.1<0)) (some ((-1),())) ((jM a0.log y1.1).bind fun y2=>br (decide (y2.1<0)) (some ((-1),())) ((jM a0.learned y2.1).bind fun y3=>br (decide (y3.1<0)) (some ((-1),())) (some (y3.1,()))))
def Al:=fm 67 Tryz.f67 [.ty (.st .server), .ty (.i .i64)] [.i .i64] (fun x=>gM x.1 x.2.1) [tE,Ak] [] (by kernel_rfl) fun x=>by simp only[gM,tm]; kernel_rfl
abbrev oU:LX:=⟨⟨[(0, .cl (.ro (.st .server))),(1, .cl (.int .i64)),(5, .cl (.int .i64))],[],[],0,27⟩,[(.ret,⟨[(1, .cl (.int .i64)),(4, .cl (.int .i64))],[],[],0,27⟩),(.ext 0,⟨[(1, .cl (.int .i64)),(4, .cl (.dead))],[],[],0,27⟩)],[],[0,1,5],[1,4]⟩
def iV (s: (List ek×Int×Int×Unit)×Unit×Unit):oU.R:=
 br (decide (s.1.2.2.1< (s.1.1.length:Int))) (du (0<=s.1.2.2.1) ((s.1.1[s.1.2.2.1.toNat]?).bind fun x4=>(gM x4 s.1.2.1).bind fun y5=>br (decide (y5.1<0)) (some (.inr (.inl ((y5.1,(-1),()),(()),(()))))) (some (.inl ((s.1.1,y5.1,(IntKind.wrap .i64 (s.1.2.2.1+1)),()),(()),(()))))) none) (some (.inr (.inr ((s.1.2.1,(),()),(()),(())))))
def uw:=ij iV
def ux:=nk Tryz.f19 [0] oU iV [Al] [] (by kernel_rfl) fun s=>by simp only[iV,tm]; kernel_rfl
def ke (a0:List ek) (a1:Int):Option (Int×Unit):=
 br (decide ((IntKind.wrap .i64 (a1-(a0.length:Int)))<0)) (some ((-1),())) ((uw ((a0,(IntKind.wrap .i64 (a1-(a0.length:Int))),0,()),(()),(()))).bind fun e6=>Sum.elim (fun e6_0=>some e6_0.1.2) (fun e6_1=>some (e6_1.1.1,())) e6)
def yG:=fm 19 Tryz.f19 [.ty (.ls (.st .server)), .ty (.i .i64)] [.i .i64] (fun x=>ke x.1 x.2.1) [] [ux] (by kernel_rfl) fun x=>by simp only[ke,tm]; kernel_rfl
abbrev oV:LX:=⟨⟨[(0, .cl (.ro (.st .config))),(1, .cl (.int .i64)),(5, .cl (.int .i64))],[],[],0,27⟩,[(.ret,⟨[(1, .cl (.int .i64)),(4, .cl (.int .i64))],[],[],0,27⟩),(.ext 0,⟨[(1, .cl (.int .i64)),(4, .cl (.dead))],[],[],0,27⟩)],[],[0,1,5],[1,4]⟩
def iW (s: (List dA×Int×Int×Unit)×Unit×Unit):oV.R:=
 br (decide (s.1.2.2.1< (s.1.1.length:Int))) (du (0<=s.1.2.2.1) ((s.1.1[s.1.2.2.1.toNat]?).bind fun x4=>(ga x4 s.1.2.1).bind fun y5=>br (decide (y5.1<0)) (some (.inr (.inl ((y5.1,(-1),()),(()),(()))))) (some (.inl ((s.1.1,y5.1,(IntKind.wrap .i64 (s.1.2.2.1+1)),()),(()),(()))))) none) (some (.inr (.inr ((s.1.2.1,(),()),(()),(())))))
def uy:=ij iW
def uz:=nk Tryz.f68 [0] oV iW [tE] [] (by kernel_rfl) fun s=>by simp only[iW,tm]; kernel_rfl
def kf (a0:List dA) (a1:Int):Option (Int×Unit):=
 br (decide ((IntKind.wrap .i64 (a1-(a0.length:Int)))<0)) (some ((-1),())) ((uy ((a0,(IntKind.wrap .i64 (a1-(a0.length:Int))),0,()),(()),(()))).bind fun e6=>Sum.elim (fun e6_0=>some e6_0.1.2) (fun e6_1=>some (e6_1.1.1,())) e6)
def yH:=fm 68 Tryz.f68 [.ty (.ls (.st .config)), .ty (.i .i64)] [.i .i64] (fun x=>kf x.1 x.2.1) [] [uz] (by kernel_rfl) fun x=>by simp only[kf,tm]; kernel_rfl
def gb (a0:dT) (a1:Int):Option (Int×Unit):=
 (kf a0.configs a1).bind fun y1=>br (decide (y1.1<0)) (some ((-1),())) (some (y1.1,()))
def uA:=fm 21 Tryz.f21 [.ty (.st .masterLog), .ty (.i .i64)] [.i .i64] (fun x=>gb x.1 x.2.1) [yH] [] (by kernel_rfl) fun x=>by simp only[gb,tm]; kernel_rfl
def lB (a0:List fA) (a1:Int):Option (Int×Unit):=
 br (decide ((IntKind.wrap .i64 (a1-(a0.length:Int)))<0)) (some ((-1),())) (some ((IntKind.wrap .i64 (a1-(a0.length:Int))),()))
def Am:=fm 22 Tryz.f22 [.ty (.ls (.st .place)), .ty (.i .i64)] [.i .i64] (fun x=>lB x.1 x.2.1) [] [] (by kernel_rfl) fun x=>by simp only[lB,tm]; kernel_rfl
def gF (a0:ev) (a1:Int):Option (Int×Unit):=
 (ke a0.servers a1).bind fun y1=>br (decide (y1.1<0)) (some ((-1),())) ((lA a0.sides y1.1).bind fun y2=>br (decide (y2.1<0)) (some ((-1),())) ((gb a0.master y2.1).bind fun y3=>br (decide (y3.1<0)) (some ((-1),())) ((lB a0.places y3.1).bind fun y4=>br (decide (y4.1<0)) (some ((-1),())) (some (y4.1,())))))
def yI:=fm 6 Tryz.f6 [.ty (.st .cluster), .ty (.i .i64)] [.i .i64] (fun x=>gF x.1 x.2.1) [yG,yF,uA,Am] [] (by kernel_rfl) fun x=>by simp only[gF,tm]; kernel_rfl
abbrev tF:LX:=⟨⟨[(0, .cl (.ro (.i .i64))),(3, .cl (.own 0 (.i .i64))),(4, .cl (.int .i64))],[],[.i .i64],0,22⟩,[(.ext 0,⟨[(3, .cl (.own 0 (.i .i64)))],[],[.i .i64],0,22⟩)],[],[0,3,4],[3]⟩
def mY (s: (List Int×Unit×Int×Unit)×Unit×List Int×Unit):tF.R:=
 br (decide (s.1.2.2.1< (s.1.1.length:Int))) (du (0<=s.1.2.2.1) ((s.1.1[s.1.2.2.1.toNat]?).bind fun x4=>du (0<=s.1.2.2.1/\s.1.2.2.1< (s.2.2.1.length:Int)) ((s.2.2.1[s.1.2.2.1.toNat]?).bind fun _=>some (.inl ((s.1.1,(),(IntKind.wrap .i64 (s.1.2.2.1+1)),()),(()),(s.2.2.1.set s.1.2.2.1.toNat x4),()))) none) none) (some (.inr (((),()),(()),s.2.2)))
def An:=ij mY
def Ao:=nk Tryz.f29 [0] tF mY [] [] (by kernel_rfl) fun s=>by simp only[mY,tm]; kernel_rfl
def lC (a0:List Int):Option ((List Int)×Unit):=
 du (0<=(a0.length:Int)/\(a0.length:Int)=(a0.length:Int)/\(a0.length:Int)*((8:Nat):Int)<=2 ^ 40) ((An ((a0,(),0,()),(()),(List.replicate (a0.length:Int).toNat (0:Int)),())).bind fun e7=>some e7.2.2) none
def yJ:=fm 29 Tryz.f29 [.ty (.ls (.i .i64))] [.ls (.i .i64)] (fun x=>lC x.1) [] [Ao] (by kernel_rfl) fun x=>by simp only[lC,tm,-eq_self]; kernel_rfl
def jb (a0:dA):Option (dA×Unit):=
 (lC a0.replicas).bind fun y1=>(lC a0.witnesses).bind fun y2=>some ((⟨a0.epoch,a0.primary,y1.1,y2.1⟩:dA),())
def tG:=fm 121 Tryz.f121 [.ty (.st .config)] [.st .config] (fun x=>jb x.1) [yJ] [] (by kernel_rfl) fun x=>by simp only[jb,tm]; kernel_rfl
def Ap (a0:Op):Option (Op×Unit):=
 some (a0,())
def Hq:=fm 165 Tryz.f165 [.ty (.st .op)] [.st .op] (fun x=>Ap x.1) [] [] (by kernel_rfl) fun x=>by simp only[Ap,tm]; kernel_rfl
def oy (a0:ff):Option (ff×Unit):=
 (Ap a0.op).bind fun y1=>some ((⟨a0.epoch,y1.1⟩:ff),())
def Ct:=fm 151 Tryz.f151 [.ty (.st .entry)] [.st .entry] (fun x=>oy x.1) [Hq] [] (by kernel_rfl) fun x=>by simp only[oy,tm]; kernel_rfl
abbrev qa:LX:=⟨⟨[(0, .cl (.ro (.st .entry))),(3, .cl (.own 0 (.st .entry))),(4, .cl (.int .i64))],[],[.st .entry],0,23⟩,[(.ext 0,⟨[(3, .cl (.own 0 (.st .entry)))],[],[.st .entry],0,23⟩)],[],[0,3,4],[3]⟩
def kQ (s: (List ff×Unit×Int×Unit)×Unit×List ff×Unit):qa.R:=
 br (decide (s.1.2.2.1< (s.1.1.length:Int))) (du (0<=s.1.2.2.1) ((s.1.1[s.1.2.2.1.toNat]?).bind fun x4=>(oy x4).bind fun y5=>du (0<=s.1.2.2.1/\s.1.2.2.1< (s.2.2.1.length:Int)) ((s.2.2.1[s.1.2.2.1.toNat]?).bind fun _=>some (.inl ((s.1.1,(),(IntKind.wrap .i64 (s.1.2.2.1+1)),()),(()),(s.2.2.1.set s.1.2.2.1.toNat y5.1),()))) none) none) (some (.inr (((),()),(()),s.2.2)))
def wC:=ij kQ
def wD:=nk Tryz.f122 [0] qa kQ [Ct] [] (by kernel_rfl) fun s=>by simp only[kQ,tm]; kernel_rfl
def jN (a0:List ff):Option ((List ff)×Unit):=
 du (0<=(a0.length:Int)/\(a0.length:Int)=(a0.length:Int)/\(a0.length:Int)*((56:Nat):Int)<=2 ^ 40) ((wC ((a0,(),0,()),(()),(List.replicate (a0.length:Int).toNat (⟨0,(⟨0,0,0,0,0,0⟩:Op)⟩:ff)),())).bind fun e8=>some e8.2.2) none
def Aq:=fm 122 Tryz.f122 [.ty (.ls (.st .entry))] [.ls (.st .entry)] (fun x=>jN x.1) [] [wD] (by kernel_rfl) fun x=>by simp only[jN,tm,-eq_self]; kernel_rfl
def jO (a0:ek):Option (ek×Unit):=
 (jb a0.config).bind fun y1=>(jN a0.log).bind fun y2=>(jN a0.learned).bind fun y3=>some ((⟨a0.up,a0.intact,a0.version,a0.epoch,y1.1,a0.first,y2.1,a0.commit,y3.1⟩:ek),())
def Ar:=fm 72 Tryz.f72 [.ty (.st .server)] [.st .server] (fun x=>jO x.1) [tG,Aq] [] (by kernel_rfl) fun x=>by simp only[jO,tm]; kernel_rfl
abbrev oW:LX:=⟨⟨[(0, .cl (.ro (.st .server))),(3, .cl (.own 0 (.st .server))),(4, .cl (.int .i64))],[],[.st .server],0,23⟩,[(.ext 0,⟨[(3, .cl (.own 0 (.st .server)))],[],[.st .server],0,23⟩)],[],[0,3,4],[3]⟩
def jY (s: (List ek×Unit×Int×Unit)×Unit×List ek×Unit):oW.R:=
 br (decide (s.1.2.2.1< (s.1.1.length:Int))) (du (0<=s.1.2.2.1) ((s.1.1[s.1.2.2.1.toNat]?).bind fun x4=>(jO x4).bind fun y5=>du (0<=s.1.2.2.1/\s.1.2.2.1< (s.2.2.1.length:Int)) ((s.2.2.1[s.1.2.2.1.toNat]?).bind fun _=>some (.inl ((s.1.1,(),(IntKind.wrap .i64 (s.1.2.2.1+1)),()),(()),(s.2.2.1.set s.1.2.2.1.toNat y5.1),()))) none) none) (some (.inr (((),()),(()),s.2.2)))
def uB:=ij jY
def uC:=nk Tryz.f28 [0] oW jY [Ar] [] (by kernel_rfl) fun s=>by simp only[jY,tm]; kernel_rfl
def kg (a0:List ek):Option ((List ek)×Unit):=
 du (0<=(a0.length:Int)/\(a0.length:Int)=(a0.length:Int)/\(a0.length:Int)*((152:Nat):Int)<=2 ^ 40) ((uB ((a0,(),0,()),(()),(List.replicate (a0.length:Int).toNat (⟨false,false,0,0,(⟨0,0,([]:List Int),([]:List Int)⟩:dA),0,([]:List ff),0,([]:List ff)⟩:ek)),())).bind fun e8=>some e8.2.2) none
def yK:=fm 28 Tryz.f28 [.ty (.ls (.st .server))] [.ls (.st .server)] (fun x=>kg x.1) [] [uC] (by kernel_rfl) fun x=>by simp only[kg,tm,-eq_self]; kernel_rfl
abbrev oX:LX:=⟨⟨[(0, .cl (.ro (.st .config))),(3, .cl (.own 0 (.st .config))),(4, .cl (.int .i64))],[],[.st .config],0,23⟩,[(.ext 0,⟨[(3, .cl (.own 0 (.st .config)))],[],[.st .config],0,23⟩)],[],[0,3,4],[3]⟩
def jZ (s: (List dA×Unit×Int×Unit)×Unit×List dA×Unit):oX.R:=
 br (decide (s.1.2.2.1< (s.1.1.length:Int))) (du (0<=s.1.2.2.1) ((s.1.1[s.1.2.2.1.toNat]?).bind fun x4=>(jb x4).bind fun y5=>du (0<=s.1.2.2.1/\s.1.2.2.1< (s.2.2.1.length:Int)) ((s.2.2.1[s.1.2.2.1.toNat]?).bind fun _=>some (.inl ((s.1.1,(),(IntKind.wrap .i64 (s.1.2.2.1+1)),()),(()),(s.2.2.1.set s.1.2.2.1.toNat y5.1),()))) none) none) (some (.inr (((),()),(()),s.2.2)))
def uD:=ij jZ
def uE:=nk Tryz.f73 [0] oX jZ [tG] [] (by kernel_rfl) fun s=>by simp only[jZ,tm]; kernel_rfl
def kh (a0:List dA):Option ((List dA)×Unit):=
 du (0<=(a0.length:Int)/\(a0.length:Int)=(a0.length:Int)/\(a0.length:Int)*((64:Nat):Int)<=2 ^ 40) ((uD ((a0,(),0,()),(()),(List.replicate (a0.length:Int).toNat (⟨0,0,([]:List Int),([]:List Int)⟩:dA)),())).bind fun e8=>some e8.2.2) none
def yL:=fm 73 Tryz.f73 [.ty (.ls (.st .config))] [.ls (.st .config)] (fun x=>kh x.1) [] [uE] (by kernel_rfl) fun x=>by simp only[kh,tm,-eq_self]; kernel_rfl
def iX (a0:dT):Option (dT×Unit):=
 (kh a0.configs).bind fun y1=>some ((⟨y1.1,a0.activated⟩:dT),())
def uF:=fm 30 Tryz.f30 [.ty (.st .masterLog)] [.st .masterLog] (fun x=>iX x.1) [yL] [] (by kernel_rfl) fun x=>by simp only[iX,tm]; kernel_rfl
def oz (a0:mu):Option (mu×Unit):=
 some (a0,())
def Cu:=fm 31 Tryz.f31 [.ty (.st .lease)] [.st .lease] (fun x=>oz x.1) [] [] (by kernel_rfl) fun x=>by simp only[oz,tm]; kernel_rfl
def oA (a0:fA):Option (fA×Unit):=
 some (a0,())
def Cv:=fm 74 Tryz.f74 [.ty (.st .place)] [.st .place] (fun x=>oA x.1) [] [] (by kernel_rfl) fun x=>by simp only[oA,tm]; kernel_rfl
abbrev qb:LX:=⟨⟨[(0, .cl (.ro (.st .place))),(3, .cl (.own 0 (.st .place))),(4, .cl (.int .i64))],[],[.st .place],0,23⟩,[(.ext 0,⟨[(3, .cl (.own 0 (.st .place)))],[],[.st .place],0,23⟩)],[],[0,3,4],[3]⟩
def kR (s: (List fA×Unit×Int×Unit)×Unit×List fA×Unit):qb.R:=
 br (decide (s.1.2.2.1< (s.1.1.length:Int))) (du (0<=s.1.2.2.1) ((s.1.1[s.1.2.2.1.toNat]?).bind fun x4=>(oA x4).bind fun y5=>du (0<=s.1.2.2.1/\s.1.2.2.1< (s.2.2.1.length:Int)) ((s.2.2.1[s.1.2.2.1.toNat]?).bind fun _=>some (.inl ((s.1.1,(),(IntKind.wrap .i64 (s.1.2.2.1+1)),()),(()),(s.2.2.1.set s.1.2.2.1.toNat y5.1),()))) none) none) (some (.inr (((),()),(()),s.2.2)))
def wE:=ij kR
def wF:=nk Tryz.f32 [0] qb kR [Cv] [] (by kernel_rfl) fun s=>by simp only[kR,tm]; kernel_rfl
def lD (a0:List fA):Option ((List fA)×Unit):=
 du (0<=(a0.length:Int)/\(a0.length:Int)=(a0.length:Int)/\(a0.length:Int)*((24:Nat):Int)<=2 ^ 40) ((wE ((a0,(),0,()),(()),(List.replicate (a0.length:Int).toNat (⟨0,0,0⟩:fA)),())).bind fun e8=>some e8.2.2) none
def Au:=fm 32 Tryz.f32 [.ty (.ls (.st .place))] [.ls (.st .place)] (fun x=>lD x.1) [] [wF] (by kernel_rfl) fun x=>by simp only[lD,tm,-eq_self]; kernel_rfl
def iw (a0:ev):Option (ev×Unit):=
 (kg a0.servers).bind fun y1=>(lC a0.sides).bind fun y2=>(iX a0.master).bind fun y3=>(oz a0.lease).bind fun y4=>(lD a0.places).bind fun y5=>some ((⟨a0.now,y1.1,y2.1,y3.1,a0.masterUp,y4.1,y5.1⟩:ev),())
def yM:=fm 8 Tryz.f8 [.ty (.st .cluster)] [.st .cluster] (fun x=>iw x.1) [yK,yJ,uF,Cu,Au] [] (by kernel_rfl) fun x=>by simp only[iw,tm]; kernel_rfl
def eG (a0:Int) (a1:Int) (a2:Int):Option (Bool×Unit):=
 br (decide (a0≥a1)) (some ((decide (a0<=a2)),())) (some (false,()))
def jP:=fm 69 Tryz.f69 [.ty (.i .i64), .ty (.i .i64), .ty (.i .i64)] [.b] (fun x=>eG x.1 x.2.1 x.2.2.1) [] [] (by kernel_rfl) fun x=>by simp only[eG,tm]; kernel_rfl
abbrev qc:LX:=⟨⟨[(0, .cl (.ro (.i .i64))),(3, .cl (.int .i64))],[],[],0,19⟩,[(.ret,⟨[(0, .cl (.ro (.i .i64))),(2, .cl (.bl))],[],[],0,19⟩),(.ext 0,⟨[(0, .cl (.ro (.i .i64))),(2, .cl (.dead))],[],[],0,19⟩)],[],[0,3],[0,2]⟩
def eM (s: (List Int×Int×Unit)×Unit×Unit):qc.R:=
 br (decide (s.1.2.1< (s.1.1.length:Int))) (du (0<=s.1.2.1) ((s.1.1[s.1.2.1.toNat]?).bind fun x3=>(eG x3 0 3).bind fun y4=>br (!y4.1) (some (.inr (.inl ((s.1.1,false,()),(()),(()))))) (some (.inl ((s.1.1,(IntKind.wrap .i64 (s.1.2.1+1)),()),(()),(()))))) none) (some (.inr (.inr ((s.1.1,(),()),(()),(())))))
def kS:=ij eM
def wG:=nk Tryz.f85 [0] qc eM [jP] [] (by kernel_rfl) fun s=>by simp only[eM,tm]; kernel_rfl
def gO (a0:List Int):Option (Bool×Unit):=
 (kS ((a0,0,()),(()),(()))).bind fun e5=>Sum.elim (fun e5_0=>some e5_0.1.2) (fun e5_1=>some (((e5_1.1.1.length:Int)==5),())) e5
def Av:=fm 85 Tryz.f85 [.ty (.ls (.i .i64))] [.b] (fun x=>gO x.1) [] [wG] (by kernel_rfl) fun x=>by simp only[gO,tm]; kernel_rfl
abbrev nR:LX:=⟨⟨[(0, .cl (.ro (.i .i64))),(3, .cl (.int .i64))],[],[],0,32⟩,[(.ret,⟨[(2, .cl (.bl))],[],[],0,32⟩),(.ext 0,⟨[(2, .cl (.dead))],[],[],0,32⟩)],[],[0,3],[2]⟩
def gr (s: (List Int×Int×Unit)×Unit×Unit):nR.R:=
 br (decide (s.1.2.1< (s.1.1.length:Int))) (du (0<=s.1.2.1) ((s.1.1[s.1.2.1.toNat]?).bind fun x3=>(eG x3 0 4).bind fun y4=>br (!y4.1) (some (.inr (.inl ((false,()),(()),(()))))) (br (decide (s.1.2.1>0)) (du (0<=(IntKind.wrap .i64 (s.1.2.1-1))) ((s.1.1[(IntKind.wrap .i64 (s.1.2.1-1)).toNat]?).bind fun x5=>du (0<=s.1.2.1) ((s.1.1[s.1.2.1.toNat]?).bind fun x6=>br (decide (x5≥x6)) (some (.inr (.inl ((false,()),(()),(()))))) (some (.inl ((s.1.1,(IntKind.wrap .i64 (s.1.2.1+1)),()),(()),(()))))) none) none) (some (.inl ((s.1.1,(IntKind.wrap .i64 (s.1.2.1+1)),()),(()),(())))))) none) (some (.inr (.inr (((),()),(()),(())))))
def lE:=ij gr
def tH:=nk Tryz.f119 [0] nR gr [jP] [] (by kernel_rfl) fun s=>by simp only[gr,tm]; kernel_rfl
def gP (a0:List Int):Option (Bool×Unit):=
 (lE ((a0,0,()),(()),(()))).bind fun e7=>Sum.elim (fun e7_0=>some e7_0.1) (fun _=>some (true,())) e7
def wH:=fm 119 Tryz.f119 [.ty (.ls (.i .i64))] [.b] (fun x=>gP x.1) [] [tH] (by kernel_rfl) fun x=>by simp only[gP,tm]; kernel_rfl
abbrev oY:LX:=⟨⟨[(0, .cl (.ro (.i .i64))),(1, .cl (.int .i64)),(5, .cl (.int .i64))],[],[],0,18⟩,[(.ret,⟨[(4, .cl (.bl))],[],[],0,18⟩),(.ext 0,⟨[(4, .cl (.dead))],[],[],0,18⟩)],[],[0,1,5],[4]⟩
def gZ (s: (List Int×Int×Int×Unit)×Unit×Unit):oY.R:=
 br (decide (s.1.2.2.1< (s.1.1.length:Int))) (du (0<=s.1.2.2.1) ((s.1.1[s.1.2.2.1.toNat]?).bind fun x4=>br (x4==s.1.2.1) (some (.inr (.inl ((true,()),(()),(()))))) (some (.inl ((s.1.1,s.1.2.1,(IntKind.wrap .i64 (s.1.2.2.1+1)),()),(()),(()))))) none) (some (.inr (.inr (((),()),(()),(())))))
def me:=ij gZ
def uG:=nk Tryz.f71 [0] oY gZ [] [] (by kernel_rfl) fun s=>by simp only[gZ,tm]; kernel_rfl
def gG (a0:List Int) (a1:Int):Option (Bool×Unit):=
 (me ((a0,a1,0,()),(()),(()))).bind fun e5=>Sum.elim (fun e5_0=>some e5_0.1) (fun _=>some (false,())) e5
def nS:=fm 71 Tryz.f71 [.ty (.ls (.i .i64)), .ty (.i .i64)] [.b] (fun x=>gG x.1 x.2.1) [] [uG] (by kernel_rfl) fun x=>by simp only[gG,tm]; kernel_rfl
abbrev vq:LX:=⟨⟨[(0, .cl (.ro (.i .i64))),(1, .cl (.int .i64)),(5, .cl (.int .i64))],[],[],0,47⟩,[(.ext 0,⟨[(0, .cl (.ro (.i .i64))),(1, .cl (.int .i64)),(5, .cl (.int .i64))],[],[],0,47⟩)],[],[0,1,5],[0,1,5]⟩
def lb (s: (List Int×Int×Int×Unit)×Unit×Unit):vq.R:=
 br (decide (s.1.2.2.1< (s.1.1.length:Int))) (du (0<=s.1.2.2.1) ((s.1.1[s.1.2.2.1.toNat]?).bind fun x4=>br (decide (x4<s.1.2.1)) (some (.inl ((s.1.1,s.1.2.1,(IntKind.wrap .i64 (s.1.2.2.1+1)),()),(()),(())))) (some (.inr (s.1,(()),(()))))) none) (some (.inr (s.1,(()),(()))))
def vr:=ij lb
def Cw:=nk Tryz.f150 [0] vq lb [] [] (by kernel_rfl) fun s=>by simp only[lb,tm]; kernel_rfl
def qd (a0:List Int) (a1:Int):Option ((List Int)×Unit):=
 (vr ((a0,a1,0,()),(()),(()))).bind fun e5=>let j7:Option ((List Int)×Unit):=du (0<=(0:Int)/\(0:Int)<=e5.1.2.2.1/\e5.1.2.2.1<=(e5.1.1.length:Int)) (du ((([]:List Int)++((e5.1.1.drop (0:Int).toNat).take (e5.1.2.2.1.toNat-(0:Int).toNat))).length*8<=2 ^ 40) (du (((([]:List Int)++((e5.1.1.drop (0:Int).toNat).take (e5.1.2.2.1.toNat-(0:Int).toNat)))++([e5.1.2.1]:List Int)).length*8<=2 ^ 40) (du (0<=e5.1.2.2.1/\e5.1.2.2.1<=(e5.1.1.length:Int)/\(e5.1.1.length:Int)<=(e5.1.1.length:Int)) (du ((((([]:List Int)++((e5.1.1.drop (0:Int).toNat).take (e5.1.2.2.1.toNat-(0:Int).toNat)))++([e5.1.2.1]:List Int))++((e5.1.1.drop e5.1.2.2.1.toNat).take ((e5.1.1.length:Int).toNat-e5.1.2.2.1.toNat))).length*8<=2 ^ 40) (some ((((([]:List Int)++((e5.1.1.drop (0:Int).toNat).take (e5.1.2.2.1.toNat-(0:Int).toNat)))++([e5.1.2.1]:List Int))++((e5.1.1.drop e5.1.2.2.1.toNat).take ((e5.1.1.length:Int).toNat-e5.1.2.2.1.toNat))),())) none) none) none) none) none; br (decide (e5.1.2.2.1< (e5.1.1.length:Int))) (du (0<=e5.1.2.2.1) ((e5.1.1[e5.1.2.2.1.toNat]?).bind fun x6=>br (x6==e5.1.2.1) (du ((([]:List Int)++e5.1.1).length*8<=2 ^ 40) (some ((([]:List Int)++e5.1.1),())) none) (j7)) none) (j7)
def F4:=fm 150 Tryz.f150 [.ty (.ls (.i .i64)), .ty (.i .i64)] [.ls (.i .i64)] (fun x=>qd x.1 x.2.1) [] [Cw] (by kernel_rfl) fun x=>by simp only[qd,tm]; kernel_rfl
abbrev lZ:LX:=⟨⟨[(0, .cl (.ro (.i .i64))),(1, .cl (.ro (.i .i64))),(5, .cl (.own 0 (.i .i64))),(6, .cl (.int .i64))],[],[.i .i64],0,27⟩,[(.ext 0,⟨[(5, .cl (.own 0 (.i .i64)))],[],[.i .i64],0,27⟩)],[],[0,1,5,6],[5]⟩
def fj (s: (List Int×List Int×Unit×Int×Unit)×Unit×List Int×Unit):lZ.R:=
 br (decide (s.1.2.2.2.1< (s.1.1.length:Int))) (du (0<=s.1.2.2.2.1) ((s.1.1[s.1.2.2.2.1.toNat]?).bind fun x5=>(gG s.1.2.1 x5).bind fun y6=>br y6.1 (du (0<=s.1.2.2.2.1) ((s.1.1[s.1.2.2.2.1.toNat]?).bind fun x7=>(qd s.2.2.1 x7).bind fun y8=>some (.inl ((s.1.1,s.1.2.1,(),(IntKind.wrap .i64 (s.1.2.2.2.1+1)),()),(()),y8.1,()))) none) (some (.inl ((s.1.1,s.1.2.1,(),(IntKind.wrap .i64 (s.1.2.2.2.1+1)),()),(()),s.2.2)))) none) (some (.inr (((),()),(()),s.2.2)))
def l4:=ij fj
def qe:=nk Tryz.f120 [0] lZ fj [nS,F4] [] (by kernel_rfl) fun s=>by simp only[fj,tm]; kernel_rfl
def gU (a0:List Int) (a1:List Int):Option ((List Int)×Unit):=
 (l4 ((a0,a1,(),0,()),(()),([]:List Int),())).bind fun e10=>some e10.2.2
def rG:=fm 120 Tryz.f120 [.ty (.ls (.i .i64)), .ty (.ls (.i .i64))] [.ls (.i .i64)] (fun x=>gU x.1 x.2.1) [] [qe] (by kernel_rfl) fun x=>by simp only[gU,tm]; kernel_rfl
def fK (a0:dA):Option (Bool×Unit):=
 (eG a0.epoch 1 20).bind fun y1=>br y1.1 ((gP a0.replicas).bind fun y2=>br y2.1 ((gP a0.witnesses).bind fun y3=>br y3.1 ((gG a0.replicas a0.primary).bind fun y4=>br y4.1 ((gU a0.replicas a0.witnesses).bind fun y5=>some (((y5.1.length:Int)==0),())) (some (false,()))) (some (false,()))) (some (false,()))) (some (false,()))
def nm:=fm 70 Tryz.f70 [.ty (.st .config)] [.b] (fun x=>fK x.1) [jP,wH,nS,rG] [] (by kernel_rfl) fun x=>by simp only[fK,tm]; kernel_rfl
abbrev nn:LX:=⟨⟨[(1, .cl (.ptr 0 0)),(3, .cl (.int .i64))],[[.ro (.st .config), .int .i64]],[],0,35⟩,[(.ret,⟨[(1, .cl (.ptr 0 0)),(2, .cl (.bl))],[[.ro (.st .config), .int .i64]],[],0,35⟩),(.ext 0,⟨[(1, .cl (.ptr 0 0)),(2, .cl (.dead))],[[.ro (.st .config), .int .i64]],[],0,35⟩)],[],[1,3],[1,2]⟩
def fL (s: (Unit×Int×Unit)×((List dA×Int×Unit)×Unit)×Unit):nn.R:=
 br (decide (s.1.2.1< (s.2.1.1.1.length:Int))) (du (0<=s.1.2.1) ((s.2.1.1.1[s.1.2.1.toNat]?).bind fun x4=>(fK x4).bind fun y5=>br (!y5.1) (some (.inr (.inl (((),false,()),s.2.1,(()))))) (du (0<=s.1.2.1) ((s.2.1.1.1[s.1.2.1.toNat]?).bind fun x6=>br (!(x6.epoch==(IntKind.wrap .i64 (s.1.2.1+1)))) (some (.inr (.inl (((),false,()),s.2.1,(()))))) (some (.inl (((),(IntKind.wrap .i64 (s.1.2.1+1)),()),s.2.1,(()))))) none)) none) (some (.inr (.inr (((),(),()),s.2.1,(())))))
def kA:=ij fL
def rH:=nk Tryz.f86 [0] nn fL [nm] [] (by kernel_rfl) fun s=>by simp only[fL,tm]; kernel_rfl
def gf (a0:dT):Option (Bool×Unit):=
 (kA (((),0,()),((a0.configs,a0.activated,()),()),(()))).bind fun e7=>Sum.elim (fun e7_0=>some e7_0.1.2) (fun e7_1=>(eG e7_1.2.1.1.2.1 0 (e7_1.2.1.1.1.length:Int)).bind fun y8=>some (y8.1,())) e7
def oZ:=fm 86 Tryz.f86 [.ty (.st .masterLog)] [.b] (fun x=>gf x.1) [jP] [rH] (by kernel_rfl) fun x=>by simp only[gf,tm]; kernel_rfl
def lc (a0:mu):Option (Bool×Unit):=
 br ((a0.epoch==0)&&((a0.holder==0)&&((a0.ends==0)&&true))) (some (true,())) ((eG a0.epoch 1 20).bind fun y1=>br y1.1 ((eG a0.holder 0 4).bind fun y2=>br y2.1 ((eG a0.ends 1 1049).bind fun y3=>some (y3.1,())) (some (false,()))) (some (false,())))
def Cx:=fm 87 Tryz.f87 [.ty (.st .lease)] [.b] (fun x=>lc x.1) [jP] [] (by kernel_rfl) fun x=>by simp only[lc,tm]; kernel_rfl
abbrev o0:LX:=⟨⟨[(0, .cl (.ro (.st .place))),(3, .cl (.int .i64))],[],[],0,38⟩,[(.ret,⟨[(0, .cl (.ro (.st .place))),(2, .cl (.bl))],[],[],0,38⟩),(.ext 0,⟨[(0, .cl (.ro (.st .place))),(2, .cl (.dead))],[],[],0,38⟩)],[],[0,3],[0,2]⟩
def hO (s: (List fA×Int×Unit)×Unit×Unit):o0.R:=
 br (decide (s.1.2.1< (s.1.1.length:Int))) (du (0<=s.1.2.1) ((s.1.1[s.1.2.1.toNat]?).bind fun x3=>(eG x3.rack 0 9).bind fun y4=>br (!y4.1) (some (.inr (.inl ((s.1.1,false,()),(()),(()))))) (du (0<=s.1.2.1) ((s.1.1[s.1.2.1.toNat]?).bind fun x5=>(eG x5.capacity 0 9).bind fun y6=>br (!y6.1) (some (.inr (.inl ((s.1.1,false,()),(()),(()))))) (du (0<=s.1.2.1) ((s.1.1[s.1.2.1.toNat]?).bind fun x7=>(eG x7.load 0 99).bind fun y8=>br (!y8.1) (some (.inr (.inl ((s.1.1,false,()),(()),(()))))) (some (.inl ((s.1.1,(IntKind.wrap .i64 (s.1.2.1+1)),()),(()),(()))))) none)) none)) none) (some (.inr (.inr ((s.1.1,(),()),(()),(())))))
def mf:=ij hO
def uH:=nk Tryz.f88 [0] o0 hO [jP] [] (by kernel_rfl) fun s=>by simp only[hO,tm]; kernel_rfl
def jh (a0:List fA):Option (Bool×Unit):=
 (mf ((a0,0,()),(()),(()))).bind fun e9=>Sum.elim (fun e9_0=>some e9_0.1.2) (fun e9_1=>some (((e9_1.1.1.length:Int)==5),())) e9
def yN:=fm 88 Tryz.f88 [.ty (.ls (.st .place))] [.b] (fun x=>jh x.1) [] [uH] (by kernel_rfl) fun x=>by simp only[jh,tm]; kernel_rfl
def ki (a0:Op):Option (Bool×Unit):=
 (eG a0.client 0 2).bind fun y1=>br (!y1.1) (some (false,())) ((eG a0.seq 1 99).bind fun y2=>br (!y2.1) (some (false,())) ((eG a0.object 0 2).bind fun y3=>br (!y3.1) (some (false,())) ((eG a0.value 0 9).bind fun y4=>br (!y4.1) (some (false,())) (br (a0.kind==1) (br (a0.old==0) (some (true,())) (br (a0.kind==2) ((eG a0.old 0 9).bind fun y5=>some (y5.1,())) (some (false,())))) (br (a0.kind==2) ((eG a0.old 0 9).bind fun y6=>some (y6.1,())) (some (false,())))))))
def yO:=fm 145 Tryz.f145 [.ty (.st .op)] [.b] (fun x=>ki x.1) [jP] [] (by kernel_rfl) fun x=>by simp only[ki,tm]; kernel_rfl
abbrev vt:LX:=⟨⟨[(0, .cl (.ro (.st .entry))),(3, .cl (.int .i64))],[],[],0,47⟩,[(.ret,⟨[(0, .cl (.ro (.st .entry))),(2, .cl (.bl))],[],[],0,47⟩),(.ext 0,⟨[(0, .cl (.ro (.st .entry))),(2, .cl (.dead))],[],[],0,47⟩)],[],[0,3],[0,2]⟩
def ld (s: (List ff×Int×Unit)×Unit×Unit):vt.R:=
 br (decide (s.1.2.1< (s.1.1.length:Int))) (du (0<=s.1.2.1) ((s.1.1[s.1.2.1.toNat]?).bind fun x3=>(eG x3.epoch 1 20).bind fun y4=>br (!y4.1) (some (.inr (.inl ((s.1.1,false,()),(()),(()))))) (du (0<=s.1.2.1) ((s.1.1[s.1.2.1.toNat]?).bind fun x5=>(ki x5.op).bind fun y6=>br (!y6.1) (some (.inr (.inl ((s.1.1,false,()),(()),(()))))) (br (decide (s.1.2.1>0)) (du (0<=(IntKind.wrap .i64 (s.1.2.1-1))) ((s.1.1[(IntKind.wrap .i64 (s.1.2.1-1)).toNat]?).bind fun x7=>du (0<=s.1.2.1) ((s.1.1[s.1.2.1.toNat]?).bind fun x8=>br (decide (x7.epoch>x8.epoch)) (some (.inr (.inl ((s.1.1,false,()),(()),(()))))) (some (.inl ((s.1.1,(IntKind.wrap .i64 (s.1.2.1+1)),()),(()),(()))))) none) none) (some (.inl ((s.1.1,(IntKind.wrap .i64 (s.1.2.1+1)),()),(()),(())))))) none)) none) (some (.inr (.inr ((s.1.1,(),()),(()),(())))))
def qP:=ij ld
def Cy:=nk Tryz.f104 [0] vt ld [jP,yO] [] (by kernel_rfl) fun s=>by simp only[ld,tm]; kernel_rfl
def kT (a0:List ff):Option (Bool×Unit):=
 (qP ((a0,0,()),(()),(()))).bind fun e9=>Sum.elim (fun e9_0=>some e9_0.1.2) (fun e9_1=>some ((decide ((e9_1.1.1.length:Int)<=16)),())) e9
def F5:=fm 104 Tryz.f104 [.ty (.ls (.st .entry))] [.b] (fun x=>kT x.1) [] [Cy] (by kernel_rfl) fun x=>by simp only[kT,tm]; kernel_rfl
abbrev mE:LX:=⟨⟨[(0, .cl (.ro (.i .i64))),(1, .cl (.ro (.i .i64))),(5, .cl (.int .i64))],[],[],0,26⟩,[(.ret,⟨[(4, .cl (.bl))],[],[],0,26⟩),(.ext 0,⟨[(4, .cl (.dead))],[],[],0,26⟩)],[],[0,1,5],[4]⟩
def fu (s: (List Int×List Int×Int×Unit)×Unit×Unit):mE.R:=
 br (decide (s.1.2.2.1< (s.1.1.length:Int))) (du (0<=s.1.2.2.1) ((s.1.1[s.1.2.2.1.toNat]?).bind fun x4=>du (0<=s.1.2.2.1) ((s.1.2.1[s.1.2.2.1.toNat]?).bind fun x5=>br (!(x4==x5)) (some (.inr (.inl ((false,()),(()),(()))))) (some (.inl ((s.1.1,s.1.2.1,(IntKind.wrap .i64 (s.1.2.2.1+1)),()),(()),(()))))) none) none) (some (.inr (.inr (((),()),(()),(())))))
def jQ:=ij fu
def qQ:=nk Tryz.f108 [0] mE fu [] [] (by kernel_rfl) fun s=>by simp only[fu,tm]; kernel_rfl
def gt (a0:List Int) (a1:List Int):Option (Bool×Unit):=
 br (!((a0.length:Int)==(a1.length:Int))) (some (false,())) ((jQ ((a0,a1,0,()),(()),(()))).bind fun e6=>Sum.elim (fun e6_0=>some e6_0.1) (fun _=>some (true,())) e6)
def tI:=fm 108 Tryz.f108 [.ty (.ls (.i .i64)), .ty (.ls (.i .i64))] [.b] (fun x=>gt x.1 x.2.1) [] [qQ] (by kernel_rfl) fun x=>by simp only[gt,tm]; kernel_rfl
def gv (a0:dA) (a1:dA):Option (Bool×Unit):=
 br (a0.epoch==a1.epoch) (br (a0.primary==a1.primary) ((gt a0.replicas a1.replicas).bind fun y1=>br y1.1 ((gt a0.witnesses a1.witnesses).bind fun y2=>some (y2.1,())) (some (false,()))) (some (false,()))) (some (false,()))
def nT:=fm 55 Tryz.f55 [.ty (.st .config), .ty (.st .config)] [.b] (fun x=>gv x.1 x.2.1) [tI] [] (by kernel_rfl) fun x=>by simp only[gv,tm]; kernel_rfl
def lf (a0:dA):Option (Bool×Unit):=
 (gv a0 (⟨0,0,([]:List Int),([]:List Int)⟩:dA)).bind fun y1=>some (y1.1,())
def vu:=fm 92 Tryz.f92 [.ty (.st .config)] [.b] (fun x=>lf x.1) [nT] [] (by kernel_rfl) fun x=>by simp only[lf,tm]; kernel_rfl
def lg (a0:List ff):Option (Int×Unit):=
 br ((a0.length:Int)==0) (some (0,())) (du (0<=(IntKind.wrap .i64 ((a0.length:Int)-1))) ((a0[(IntKind.wrap .i64 ((a0.length:Int)-1)).toNat]?).bind fun x1=>some (x1.epoch,())) none)
def vv:=fm 90 Tryz.f90 [.ty (.ls (.st .entry))] [.i .i64] (fun x=>lg x.1) [] [] (by kernel_rfl) fun x=>by simp only[lg,tm]; kernel_rfl
def mF (a0:dA) (a1:Int):Option (Int×Unit):=
 (fK a0).bind fun y1=>br (!y1.1) (some (0,())) (br (a1==a0.primary) (some (1,())) ((gG a0.replicas a1).bind fun y2=>br y2.1 (some (2,())) ((gG a0.witnesses a1).bind fun y3=>br y3.1 (some (3,())) (some (0,())))))
def yP:=fm 27 Tryz.f27 [.ty (.st .config), .ty (.i .i64)] [.i .i64] (fun x=>mF x.1 x.2.1) [nm,nS] [] (by kernel_rfl) fun x=>by simp only[mF,tm]; kernel_rfl
def dX (a0:ek) (a1:Int):Option (Bool×Unit):=
 (eG a0.version 1 2).bind fun y1=>br (!y1.1) (some (false,())) ((eG a0.epoch 0 20).bind fun y2=>br (!y2.1) (some (false,())) ((kT a0.log).bind fun y3=>br (!y3.1) (some (false,())) ((kT a0.learned).bind fun y4=>br (!y4.1) (some (false,())) ((eG a0.first 0 16).bind fun y5=>br (!y5.1) (some (false,())) ((eG (IntKind.wrap .i64 (a0.first+(a0.log.length:Int))) 0 16).bind fun y6=>br (!y6.1) (some (false,())) ((eG a0.commit 0 (IntKind.wrap .i64 (a0.first+(a0.log.length:Int)))).bind fun y7=>br (!y7.1) (some (false,())) ((lf a0.config).bind fun y8=>br y8.1 (br (a0.first==0) (br ((a0.log.length:Int)==0) (some ((a0.commit==0),())) (some (false,()))) (some (false,()))) (br (!a0.intact) (some (false,())) (br (decide (a0.epoch<a0.config.epoch)) (some (false,())) ((lg a0.log).bind fun y9=>br (decide (y9.1>a0.config.epoch)) (some (false,())) ((mF a0.config a1).bind fun y10=>br (y10.1==0) (some (false,())) (br (y10.1==3) (br (decide ((a0.log.length:Int)<=3)) (br ((a0.log.length:Int)==3) (some (true,())) (some ((a0.first==0),()))) (some (false,()))) (some ((a0.first==0),()))))))))))))))
def rI:=fm 89 Tryz.f89 [.ty (.st .server), .ty (.i .i64)] [.b] (fun x=>dX x.1 x.2.1) [jP,F5,vu,vv,yP] [] (by kernel_rfl) fun x=>by simp only[dX,tm]; kernel_rfl
def nU (a0:dA):Option (dA×Unit):=
 du ((([]:List Int)++a0.replicas).length*8<=2 ^ 40) (du ((([]:List Int)++a0.witnesses).length*8<=2 ^ 40) (some ((⟨a0.epoch,a0.primary,(([]:List Int)++a0.replicas),(([]:List Int)++a0.witnesses)⟩:dA),())) none) none
def Eu:=fm 131 Tryz.f131 [.ty (.st .config)] [.st .config] (fun x=>nU x.1) [] [] (by kernel_rfl) fun x=>by simp only[nU,tm]; kernel_rfl
def lF (a0:dT) (a1:Int):Option (dA×Bool×Unit):=
 (gf a0).bind fun y1=>br (!y1.1) (some ((⟨0,0,([]:List Int),([]:List Int)⟩:dA),false,())) ((eG a1 1 (a0.configs.length:Int)).bind fun y2=>br (!y2.1) (some ((⟨0,0,([]:List Int),([]:List Int)⟩:dA),false,())) (du (0<=(IntKind.wrap .i64 (a1-1))) ((a0.configs[(IntKind.wrap .i64 (a1-1)).toNat]?).bind fun x3=>(nU x3).bind fun y4=>some (y4.1,true,())) none))
def Aw:=fm 91 Tryz.f91 [.ty (.st .masterLog), .ty (.i .i64)] [.st .config, .b] (fun x=>lF x.1 x.2.1) [oZ,jP,Eu] [] (by kernel_rfl) fun x=>by simp only[lF,tm]; kernel_rfl
abbrev lG:LX:=⟨⟨[(1, .cl (.ptr 0 0)),(3, .cl (.int .i64))],[[.int .i64, .ro (.st .server), .ro (.i .i64), .ro (.st .config), .int .i64, .int .i64, .int .i64, .int .i64, .int .i64, .ro (.st .place)]],[],0,123⟩,[(.ret,⟨[(2, .cl (.bl))],[],[],0,123⟩),(.ext 0,⟨[(2, .cl (.dead))],[],[],0,123⟩)],[],[1,3],[2]⟩
def dH (s: (Unit×Int×Unit)×((Int×List ek×List Int×List dA×Int×Int×Int×Int×Int×List fA×Unit)×Unit)×Unit):lG.R:=
 br (decide (s.1.2.1< (s.2.1.1.2.1.length:Int))) (du (0<=s.1.2.1) ((s.2.1.1.2.1[s.1.2.1.toNat]?).bind fun x18=>(dX x18 s.1.2.1).bind fun y19=>br (!y19.1) (some (.inr (.inl ((false,()),(()),(()))))) (br (decide (x18.epoch>(s.2.1.1.2.2.2.1.length:Int))) (some (.inr (.inl ((false,()),(()),(()))))) ((lg x18.learned).bind fun y20=>br (decide (y20.1>s.2.1.1.2.2.2.2.1)) (some (.inr (.inl ((false,()),(()),(()))))) ((lF (⟨s.2.1.1.2.2.2.1,s.2.1.1.2.2.2.2.1⟩:dT) x18.config.epoch).bind fun y21=>(lf x18.config).bind fun y22=>br (!y22.1) (br (!y21.2.1) (some (.inr (.inl ((false,()),(()),(()))))) ((gv y21.1 x18.config).bind fun y23=>br (!y23.1) (some (.inr (.inl ((false,()),(()),(()))))) (br (decide (x18.config.epoch>s.2.1.1.2.2.2.2.1)) (some (.inr (.inl ((false,()),(()),(()))))) (some (.inl (((),(IntKind.wrap .i64 (s.1.2.1+1)),()),s.2.1,(()))))))) (some (.inl (((),(IntKind.wrap .i64 (s.1.2.1+1)),()),s.2.1,(())))))))) none) (some (.inr (.inr (((),()),(()),(())))))
def gQ:=ij dH
def pB:=nk Tryz.f44 [0] lG dH [rI,vv,Aw,vu,nT] [] (by kernel_rfl) fun s=>by simp only[dH,tm]; kernel_rfl
def eY (a0:ev):Option (Bool×Unit):=
 (eG a0.now 0 999).bind fun y1=>br (!y1.1) (some (false,())) (br (!((a0.servers.length:Int)==5)) (some (false,())) ((gO a0.sides).bind fun y2=>br (!y2.1) (some (false,())) ((gf a0.master).bind fun y3=>br (!y3.1) (some (false,())) ((eG a0.masterUp 0 3).bind fun y4=>br (!y4.1) (some (false,())) ((lc a0.lease).bind fun y5=>br (!y5.1) (some (false,())) ((jh a0.places).bind fun y6=>br (!y6.1) (some (false,())) (br (decide (a0.lease.epoch>a0.master.activated)) (some (false,())) ((gQ (((),0,()),((a0.now,a0.servers,a0.sides,a0.master.configs,a0.master.activated,a0.masterUp,a0.lease.epoch,a0.lease.holder,a0.lease.ends,a0.places,()),()),(()))).bind fun e24=>Sum.elim (fun e24_0=>some e24_0.1) (fun _=>some (true,())) e24))))))))
def qR:=fm 44 Tryz.f44 [.ty (.st .cluster)] [.b] (fun x=>eY x.1) [jP,Av,oZ,Cx,yN] [pB] (by kernel_rfl) fun x=>by simp only[eY,tm]; kernel_rfl
def lh (a0:ev) (a1:Int):Option (Bool×Unit):=
 (eY a0).bind fun y1=>br y1.1 ((eG a1 0 4).bind fun y2=>some (y2.1,())) (some (false,()))
def Cz:=fm 23 Tryz.f23 [.ty (.st .cluster), .ty (.i .i64)] [.b] (fun x=>lh x.1 x.2.1) [qR,jP] [] (by kernel_rfl) fun x=>by simp only[lh,tm]; kernel_rfl
def mG (a0:Bool) (a1:ByteArray) (a2:ByteArray):Option (ByteArray×Unit):=
 br a0 (some (a1,())) (some (a2,()))
def CA:=fm 24 Tryz.f24 [.ty (.b), .ty (.s), .ty (.s)] [.s] (fun x=>mG x.1 x.2.1 x.2.2.1) [] [] (by kernel_rfl) fun x=>by simp only[mG,tm]; kernel_rfl
abbrev mg:LX:=⟨⟨[(0, .cl (.int .i64)),(3, .cl (.str)),(4, .cl (.bl))],[],[],0,31⟩,[(.ext 0,⟨[(3, .cl (.str)),(4, .cl (.bl))],[],[],0,31⟩)],[],[0,3,4],[3,4]⟩
def gg (s: (Int×ByteArray×Bool×Unit)×Unit×Unit):mg.R:=
 br (!(s.1.1==0)) (let j5 (p4:Int):mg.R:=du (0< ([(IntKind.wrap .u8 (IntKind.wrap .i64 (48+p4)))]:List Int).length/\0+([(IntKind.wrap .u8 (IntKind.wrap .i64 (48+p4)))]:List Int).length<=([(IntKind.wrap .u8 (IntKind.wrap .i64 (48+p4)))]:List Int).length) (du ((BI ((([(IntKind.wrap .u8 (IntKind.wrap .i64 (48+p4)))]:List Int).drop 0).take (([(IntKind.wrap .u8 (IntKind.wrap .i64 (48+p4)))]:List Int).length))).size+s.1.2.1.size<=2 ^ 40) (some (.inl (((IntKind.wrap .i64 (Int.tdiv s.1.1 10)),((BI ((([(IntKind.wrap .u8 (IntKind.wrap .i64 (48+p4)))]:List Int).drop 0).take (([(IntKind.wrap .u8 (IntKind.wrap .i64 (48+p4)))]:List Int).length)))++s.1.2.1),s.1.2.2),(()),(())))) none) none; br (decide ((Int.tmod s.1.1 10)<0)) (j5 (IntKind.wrap .i64 (0-(Int.tmod s.1.1 10)))) (j5 (Int.tmod s.1.1 10))) (some (.inr (s.1.2,(()),(()))))
def o1:=ij gg
def uI:=nk Tryz.f25 [0] mg gg [] [] (by kernel_rfl) fun s=>by simp only[gg,tm]; kernel_rfl
def fg (a0:Int):Option (ByteArray×Unit):=
 br (a0==0) (some ((⟨⟨[48]⟩⟩:ByteArray),())) ((o1 ((a0,ByteArray.empty,(decide (a0<0)),()),(()),(()))).bind fun e6=>br e6.1.2.1 (du ((⟨⟨[45]⟩⟩:ByteArray).size+e6.1.1.size<=2 ^ 40) (some (((⟨⟨[45]⟩⟩:ByteArray)++e6.1.1),())) none) (some (e6.1.1,())))
def yQ:=fm 25 Tryz.f25 [.ty (.i .i64)] [.s] (fun x=>fg x.1) [] [uI] (by kernel_rfl) fun x=>by simp only[fg,tm]; kernel_rfl
def mZ (a0:Int):Option (ByteArray×Unit):=
 (eG a0 0 3).bind fun y1=>br (!y1.1) (some (ByteArray.empty,())) (du (0<=a0/\a0< (([(⟨⟨[110,111,110,101]⟩⟩:ByteArray),(⟨⟨[112,114,105,109,97,114,121]⟩⟩:ByteArray),(⟨⟨[98,97,99,107,117,112]⟩⟩:ByteArray),(⟨⟨[119,105,116,110,101,115,115]⟩⟩:ByteArray)]:List ByteArray).length:Int)) ((([(⟨⟨[110,111,110,101]⟩⟩:ByteArray),(⟨⟨[112,114,105,109,97,114,121]⟩⟩:ByteArray),(⟨⟨[98,97,99,107,117,112]⟩⟩:ByteArray),(⟨⟨[119,105,116,110,101,115,115]⟩⟩:ByteArray)]:List ByteArray)[a0.toNat]?).bind fun x2=>some (x2,())) none)
def Ax:=fm 26 Tryz.f26 [.ty (.i .i64)] [.s] (fun x=>mZ x.1) [jP] [] (by kernel_rfl) fun x=>by simp only[mZ,tm]; kernel_rfl
def fS (a0:ev) (a1:Int):Option (ByteArray×Unit):=
 (lh a0 a1).bind fun y1=>br (!y1.1) (some (ByteArray.empty,())) (du (0<=a1) ((a0.servers[a1.toNat]?).bind fun x2=>(mG x2.up (⟨⟨[117,112]⟩⟩:ByteArray) (⟨⟨[100,111,119,110]⟩⟩:ByteArray)).bind fun y3=>du (y3.1.size+(⟨⟨[32]⟩⟩:ByteArray).size<=2 ^ 40) ((mG x2.intact (⟨⟨[105,110,116,97,99,116]⟩⟩:ByteArray) (⟨⟨[119,105,112,101,100]⟩⟩:ByteArray)).bind fun y4=>du ((y3.1++(⟨⟨[32]⟩⟩:ByteArray)).size+y4.1.size<=2 ^ 40) (du (((y3.1++(⟨⟨[32]⟩⟩:ByteArray))++y4.1).size+(⟨⟨[32,118]⟩⟩:ByteArray).size<=2 ^ 40) ((fg x2.version).bind fun y5=>du ((((y3.1++(⟨⟨[32]⟩⟩:ByteArray))++y4.1)++(⟨⟨[32,118]⟩⟩:ByteArray)).size+y5.1.size<=2 ^ 40) (du (((((y3.1++(⟨⟨[32]⟩⟩:ByteArray))++y4.1)++(⟨⟨[32,118]⟩⟩:ByteArray))++y5.1).size+(⟨⟨[32,101,112,111,99,104,32]⟩⟩:ByteArray).size<=2 ^ 40) ((fg x2.epoch).bind fun y6=>du ((((((y3.1++(⟨⟨[32]⟩⟩:ByteArray))++y4.1)++(⟨⟨[32,118]⟩⟩:ByteArray))++y5.1)++(⟨⟨[32,101,112,111,99,104,32]⟩⟩:ByteArray)).size+y6.1.size<=2 ^ 40) (du (((((((y3.1++(⟨⟨[32]⟩⟩:ByteArray))++y4.1)++(⟨⟨[32,118]⟩⟩:ByteArray))++y5.1)++(⟨⟨[32,101,112,111,99,104,32]⟩⟩:ByteArray))++y6.1).size+(⟨⟨[32]⟩⟩:ByteArray).size<=2 ^ 40) ((mF x2.config a1).bind fun y7=>(mZ y7.1).bind fun y8=>du ((((((((y3.1++(⟨⟨[32]⟩⟩:ByteArray))++y4.1)++(⟨⟨[32,118]⟩⟩:ByteArray))++y5.1)++(⟨⟨[32,101,112,111,99,104,32]⟩⟩:ByteArray))++y6.1)++(⟨⟨[32]⟩⟩:ByteArray)).size+y8.1.size<=2 ^ 40) (du (((((((((y3.1++(⟨⟨[32]⟩⟩:ByteArray))++y4.1)++(⟨⟨[32,118]⟩⟩:ByteArray))++y5.1)++(⟨⟨[32,101,112,111,99,104,32]⟩⟩:ByteArray))++y6.1)++(⟨⟨[32]⟩⟩:ByteArray))++y8.1).size+(⟨⟨[32,108,111,103,32]⟩⟩:ByteArray).size<=2 ^ 40) ((fg x2.first).bind fun y9=>du ((((((((((y3.1++(⟨⟨[32]⟩⟩:ByteArray))++y4.1)++(⟨⟨[32,118]⟩⟩:ByteArray))++y5.1)++(⟨⟨[32,101,112,111,99,104,32]⟩⟩:ByteArray))++y6.1)++(⟨⟨[32]⟩⟩:ByteArray))++y8.1)++(⟨⟨[32,108,111,103,32]⟩⟩:ByteArray)).size+y9.1.size<=2 ^ 40) (du (((((((((((y3.1++(⟨⟨[32]⟩⟩:ByteArray))++y4.1)++(⟨⟨[32,118]⟩⟩:ByteArray))++y5.1)++(⟨⟨[32,101,112,111,99,104,32]⟩⟩:ByteArray))++y6.1)++(⟨⟨[32]⟩⟩:ByteArray))++y8.1)++(⟨⟨[32,108,111,103,32]⟩⟩:ByteArray))++y9.1).size+(⟨⟨[43]⟩⟩:ByteArray).size<=2 ^ 40) ((fg (x2.log.length:Int)).bind fun y10=>du ((((((((((((y3.1++(⟨⟨[32]⟩⟩:ByteArray))++y4.1)++(⟨⟨[32,118]⟩⟩:ByteArray))++y5.1)++(⟨⟨[32,101,112,111,99,104,32]⟩⟩:ByteArray))++y6.1)++(⟨⟨[32]⟩⟩:ByteArray))++y8.1)++(⟨⟨[32,108,111,103,32]⟩⟩:ByteArray))++y9.1)++(⟨⟨[43]⟩⟩:ByteArray)).size+y10.1.size<=2 ^ 40) (du (((((((((((((y3.1++(⟨⟨[32]⟩⟩:ByteArray))++y4.1)++(⟨⟨[32,118]⟩⟩:ByteArray))++y5.1)++(⟨⟨[32,101,112,111,99,104,32]⟩⟩:ByteArray))++y6.1)++(⟨⟨[32]⟩⟩:ByteArray))++y8.1)++(⟨⟨[32,108,111,103,32]⟩⟩:ByteArray))++y9.1)++(⟨⟨[43]⟩⟩:ByteArray))++y10.1).size+(⟨⟨[32,99,111,109,109,105,116,32]⟩⟩:ByteArray).size<=2 ^ 40) ((fg x2.commit).bind fun y11=>du ((((((((((((((y3.1++(⟨⟨[32]⟩⟩:ByteArray))++y4.1)++(⟨⟨[32,118]⟩⟩:ByteArray))++y5.1)++(⟨⟨[32,101,112,111,99,104,32]⟩⟩:ByteArray))++y6.1)++(⟨⟨[32]⟩⟩:ByteArray))++y8.1)++(⟨⟨[32,108,111,103,32]⟩⟩:ByteArray))++y9.1)++(⟨⟨[43]⟩⟩:ByteArray))++y10.1)++(⟨⟨[32,99,111,109,109,105,116,32]⟩⟩:ByteArray)).size+y11.1.size<=2 ^ 40) (du (((((((((((((((y3.1++(⟨⟨[32]⟩⟩:ByteArray))++y4.1)++(⟨⟨[32,118]⟩⟩:ByteArray))++y5.1)++(⟨⟨[32,101,112,111,99,104,32]⟩⟩:ByteArray))++y6.1)++(⟨⟨[32]⟩⟩:ByteArray))++y8.1)++(⟨⟨[32,108,111,103,32]⟩⟩:ByteArray))++y9.1)++(⟨⟨[43]⟩⟩:ByteArray))++y10.1)++(⟨⟨[32,99,111,109,109,105,116,32]⟩⟩:ByteArray))++y11.1).size+(⟨⟨[32,115,105,100,101,32]⟩⟩:ByteArray).size<=2 ^ 40) (du (0<=a1) ((a0.sides[a1.toNat]?).bind fun x12=>(fg x12).bind fun y13=>du ((((((((((((((((y3.1++(⟨⟨[32]⟩⟩:ByteArray))++y4.1)++(⟨⟨[32,118]⟩⟩:ByteArray))++y5.1)++(⟨⟨[32,101,112,111,99,104,32]⟩⟩:ByteArray))++y6.1)++(⟨⟨[32]⟩⟩:ByteArray))++y8.1)++(⟨⟨[32,108,111,103,32]⟩⟩:ByteArray))++y9.1)++(⟨⟨[43]⟩⟩:ByteArray))++y10.1)++(⟨⟨[32,99,111,109,109,105,116,32]⟩⟩:ByteArray))++y11.1)++(⟨⟨[32,115,105,100,101,32]⟩⟩:ByteArray)).size+y13.1.size<=2 ^ 40) (some (((((((((((((((((y3.1++(⟨⟨[32]⟩⟩:ByteArray))++y4.1)++(⟨⟨[32,118]⟩⟩:ByteArray))++y5.1)++(⟨⟨[32,101,112,111,99,104,32]⟩⟩:ByteArray))++y6.1)++(⟨⟨[32]⟩⟩:ByteArray))++y8.1)++(⟨⟨[32,108,111,103,32]⟩⟩:ByteArray))++y9.1)++(⟨⟨[43]⟩⟩:ByteArray))++y10.1)++(⟨⟨[32,99,111,109,109,105,116,32]⟩⟩:ByteArray))++y11.1)++(⟨⟨[32,115,105,100,101,32]⟩⟩:ByteArray))++y13.1),())) none) none) none) none) none) none) none) none) none) none) none) none) none) none) none) none) none) none)
def wI:=fm 7 Tryz.f7 [.ty (.st .cluster), .ty (.i .i64)] [.s] (fun x=>fS x.1 x.2.1) [Cz,CA,yQ,yP,Ax] [] (by kernel_rfl) fun x=>by simp only[fS,tm]; kernel_rfl
def dQ (a0:Int) (a1:Int) (a2:Int):Option (Bool×Unit):=
 br (decide (a1<=a0)) (some ((decide (a0<=a2)),())) (some (false,()))
def gx:=fm 75 Tryz.f75 [.ty (.i .i64), .ty (.i .i64), .ty (.i .i64)] [.b] (fun x=>dQ x.1 x.2.1 x.2.2.1) [] [] (by kernel_rfl) fun x=>by simp only[dQ,tm]; kernel_rfl
def j4 (a0:Int):Option (Bool×Unit):=
 (dQ a0 0 3).bind fun y1=>some ((!y1.1),())
def uJ:=fm 136 Tryz.f136 [.ty (.i .i64)] [.b] (fun x=>j4 x.1) [gx] [] (by kernel_rfl) fun x=>by simp only[j4,tm]; kernel_rfl
abbrev gi:LX:=⟨⟨[(0, .cl (.ro (.i .i64))),(1, .cl (.fc 136)),(7, .cl (.int .i64)),(8, .cl (.int .i64))],[],[],0,19⟩,[(.ret,⟨[(4, .cl (.int .i64))],[],[],0,19⟩),(.ext 0,⟨[(4, .cl (.dead))],[],[],0,19⟩)],[],[0,1,7,8],[4]⟩
def dP (s: (List Int×Unit×Int×Int×Unit)×Unit×Unit):gi.R:=
 br (decide (s.1.2.2.2.1<s.1.2.2.1)) (du (0<=s.1.2.2.2.1) ((s.1.1[s.1.2.2.2.1.toNat]?).bind fun x4=>(j4 x4).bind fun y5=>br y5.1 (some (.inr (.inl (s.1.2.2.2,(()),(()))))) (some (.inl ((s.1.1,(),s.1.2.2.1,(IntKind.wrap .i64 (s.1.2.2.2.1+1)),()),(()),(()))))) none) (some (.inr (.inr (((),()),(()),(())))))
def eU:=ij dP
def jD:=nk Tryz.f160 [0] gi dP [uJ] [] (by kernel_rfl) fun s=>by simp only[dP,tm]; kernel_rfl
def eC (a0:List Int):Option (Int×Unit):=
 (eU ((a0,(),(a0.length:Int),0,()),(()),(()))).bind fun e6=>Sum.elim (fun e6_0=>some e6_0.1) (fun _=>some ((-1),())) e6
def kj:=fm 160 Tryz.f160 [.ty (.ls (.i .i64)), .fc 136] [.i .i64] (fun x=>eC x.1) [] [jD] (by kernel_rfl) fun x=>by simp only[eC,tm]; kernel_rfl
def en (a0:List Int):Option (Bool×Unit):=
 (eC a0).bind fun y1=>some ((decide (y1.1≥0)),())
def ju:=fm 135 Tryz.f135 [.ty (.ls (.i .i64)), .fc 136] [.b] (fun x=>en x.1) [kj] [] (by kernel_rfl) fun x=>by simp only[en,tm]; kernel_rfl
def jR (a0:List Int):Option (Bool×Unit):=
 br ((a0.length:Int)==5) ((en a0).bind fun y1=>some ((!y1.1),())) (some (false,()))
def Ay:=fm 95 Tryz.f95 [.ty (.ls (.i .i64))] [.b] (fun x=>jR x.1) [ju] [] (by kernel_rfl) fun x=>by simp only[jR,tm]; kernel_rfl
abbrev nV:LX:=⟨⟨[(0, .cl (.ro (.i .i64))),(5, .cl (.ro (.i .i64))),(6, .cl (.int .i64)),(7, .cl (.int .i64))],[],[],0,29⟩,[(.ret,⟨[(2, .cl (.bl))],[],[],0,29⟩),(.ext 0,⟨[(2, .cl (.dead))],[],[],0,29⟩)],[],[0,5,6,7],[2]⟩
def gy (s: (List Int×List Int×Int×Int×Unit)×Unit×Unit):nV.R:=
 br (decide (s.1.2.2.2.1<s.1.2.2.1)) (du (0<=s.1.2.2.2.1) ((s.1.2.1[s.1.2.2.2.1.toNat]?).bind fun x5=>(dQ x5 0 4).bind fun y6=>br (!y6.1) (some (.inr (.inl ((false,()),(()),(()))))) (br (decide (s.1.2.2.2.1>0)) (du (0<=(IntKind.wrap .i64 (s.1.2.2.2.1-1))) ((s.1.1[(IntKind.wrap .i64 (s.1.2.2.2.1-1)).toNat]?).bind fun x7=>br (decide (x5<=x7)) (some (.inr (.inl ((false,()),(()),(()))))) (some (.inl ((s.1.1,s.1.2.1,s.1.2.2.1,(IntKind.wrap .i64 (s.1.2.2.2.1+1)),()),(()),(()))))) none) (some (.inl ((s.1.1,s.1.2.1,s.1.2.2.1,(IntKind.wrap .i64 (s.1.2.2.2.1+1)),()),(()),(())))))) none) (some (.inr (.inr (((),()),(()),(())))))
def lH:=ij gy
def tJ:=nk Tryz.f126 [0] nV gy [gx] [] (by kernel_rfl) fun s=>by simp only[gy,tm]; kernel_rfl
def gR (a0:List Int):Option (Bool×Unit):=
 (lH ((a0,a0,(a0.length:Int),0,()),(()),(()))).bind fun e8=>Sum.elim (fun e8_0=>some e8_0.1) (fun _=>some (true,())) e8
def wJ:=fm 126 Tryz.f126 [.ty (.ls (.i .i64))] [.b] (fun x=>gR x.1) [] [tJ] (by kernel_rfl) fun x=>by simp only[gR,tm]; kernel_rfl
abbrev nW:LX:=⟨⟨[(0, .cl (.ro (.i .i64))),(1, .cl (.int .i64)),(7, .cl (.int .i64)),(8, .cl (.int .i64))],[],[],0,19⟩,[(.ret,⟨[(4, .cl (.int .i64))],[],[],0,19⟩),(.ext 0,⟨[(4, .cl (.dead))],[],[],0,19⟩)],[],[0,1,7,8],[4]⟩
def gz (s: (List Int×Int×Int×Int×Unit)×Unit×Unit):nW.R:=
 br (decide (s.1.2.2.2.1<s.1.2.2.1)) (du (0<=s.1.2.2.2.1) ((s.1.1[s.1.2.2.2.1.toNat]?).bind fun x5=>br (s.1.2.1==x5) (some (.inr (.inl (s.1.2.2.2,(()),(()))))) (some (.inl ((s.1.1,s.1.2.1,s.1.2.2.1,(IntKind.wrap .i64 (s.1.2.2.2.1+1)),()),(()),(()))))) none) (some (.inr (.inr (((),()),(()),(())))))
def lI:=ij gz
def tK:=nk Tryz.f156 [0] nW gz [] [] (by kernel_rfl) fun s=>by simp only[gz,tm]; kernel_rfl
def kU (a0:List Int) (a1:Int):Option (Int×Unit):=
 (lI ((a0,a1,(a0.length:Int),0,()),(()),(()))).bind fun e6=>Sum.elim (fun e6_0=>some e6_0.1) (fun _=>some ((-1),())) e6
def wK:=fm 156 Tryz.f156 [.ty (.ls (.i .i64)), .ty (.i .i64)] [.i .i64] (fun x=>kU x.1 x.2.1) [] [tK] (by kernel_rfl) fun x=>by simp only[kU,tm]; kernel_rfl
def i8 (a0:List Int) (a1:Int):Option (Bool×Unit):=
 (kU a0 a1).bind fun y1=>some ((decide (y1.1≥0)),())
def rJ:=fm 128 Tryz.f128 [.ty (.ls (.i .i64)), .ty (.i .i64)] [.b] (fun x=>i8 x.1 x.2.1) [wK] [] (by kernel_rfl) fun x=>by simp only[i8,tm]; kernel_rfl
def gH (a0:List Int) (a1:Int):Option (Bool×Unit):=
 (i8 a0 a1).bind fun y1=>some (y1.1,())
def nX:=fm 81 Tryz.f81 [.ty (.ls (.i .i64)), .ty (.i .i64)] [.b] (fun x=>gH x.1 x.2.1) [rJ] [] (by kernel_rfl) fun x=>by simp only[gH,tm]; kernel_rfl
def m0 (a0:List Int):Option ((List Int)×Unit):=du (a0.length*8<=2 ^ 40) (some (a0,())) none
def wL:=Jg 180 Tryz.f180 (.i .i64) 8 m0 (by kernel_rfl) (fun _=>rfl) fun _=>by kernel_rfl
def pC (a0:Int):Option (Int×Unit):=
 br (decide (a0≥4294967296)) (none) (br (decide (a0≥65536)) (none) (br (decide (a0≥256)) (none) (du (0<=(IntKind.wrap .u8 a0)) ((Jf[(IntKind.wrap .u8 a0).toNat]?).bind fun x1=>some ((IntKind.wrap .i64 (0+(IntKind.wrap .i64 (x1.toNat:Int)))),())) none)))
def Az:=fm 176 Tryz.f176 [.ty (.i .u64)] [.i .i64] (fun x=>pC x.1) [] [] (by kernel_rfl) fun x=>by simp only[pC,tm]; kernel_rfl
def qf (a0:Int):Option (Int×Unit):=
 (pC a0).bind fun y1=>some (y1.1,())
def Ev:=fm 187 Tryz.f187 [.ty (.i .u64)] [.i .i64] (fun x=>qf x.1) [Az] [] (by kernel_rfl) fun x=>by simp only[qf,tm]; kernel_rfl
def iY (a0:Int):Option (Bool×Unit):=
 some ((!(a0==a0)),())
def uK:=fm 203 Tryz.f203 [.ty (.i .i64)] [.b] (fun x=>iY x.1) [] [] (by kernel_rfl) fun x=>by simp only[iY,tm]; kernel_rfl
def jv (a0:Int) (a1:Int):Option (Bool×Unit):=
 (iY a0).bind fun y1=>br y1.1 ((iY a1).bind fun y2=>br (!y2.1) (some (true,())) (some ((decide (a0<a1)),()))) (some ((decide (a0<a1)),()))
def wM:=fm 194 Tryz.f194 [.ty (.i .i64), .ty (.i .i64)] [.b] (fun x=>jv x.1 x.2.1) [uK] [] (by kernel_rfl) fun x=>by simp only[jv,tm]; kernel_rfl
abbrev fT:LX:=⟨⟨[(0, .cl (.own 0 (.i .i64))),(1, .cl (.int .i64)),(2, .cl (.int .i64)),(6, .cl (.int .i64)),(7, .cl (.int .i64))],[],[.i .i64],1,49⟩,[(.ext 2,⟨[(0, .cl (.own 0 (.i .i64))),(1, .cl (.int .i64)),(2, .cl (.int .i64)),(6, .cl (.int .i64))],[],[.i .i64],1,49⟩)],[],[0,1,2,6,7],[0,1,2,6]⟩
def eo (s: (Unit×Int×Int×Int×Int×Unit)×Unit×List Int×Unit):fT.R:=
 br (decide (s.1.2.2.2.2.1>s.1.2.1)) (du (0<=s.1.2.2.2.2.1/\s.1.2.2.2.2.1< (s.2.2.1.length:Int)) ((s.2.2.1[s.1.2.2.2.2.1.toNat]?).bind fun x10=>du (0<=(IntKind.wrap .i64 (s.1.2.2.2.2.1-1))/\(IntKind.wrap .i64 (s.1.2.2.2.2.1-1))< (s.2.2.1.length:Int)) ((s.2.2.1[(IntKind.wrap .i64 (s.1.2.2.2.2.1-1)).toNat]?).bind fun x11=>(jv x10 x11).bind fun y12=>br y12.1 (du (0<=(IntKind.wrap .i64 (s.1.2.2.2.2.1-1))/\(IntKind.wrap .i64 (s.1.2.2.2.2.1-1))< (s.2.2.1.length:Int)) ((s.2.2.1[(IntKind.wrap .i64 (s.1.2.2.2.2.1-1)).toNat]?).bind fun x13=>du (0<=s.1.2.2.2.2.1/\s.1.2.2.2.2.1< (s.2.2.1.length:Int)) ((s.2.2.1[s.1.2.2.2.2.1.toNat]?).bind fun x14=>du (0<=s.1.2.2.2.2.1/\s.1.2.2.2.2.1< (s.2.2.1.length:Int)) (du (0<=(IntKind.wrap .i64 (s.1.2.2.2.2.1-1))/\(IntKind.wrap .i64 (s.1.2.2.2.2.1-1))< (s.2.2.1.length:Int)) ((s.2.2.1[s.1.2.2.2.2.1.toNat]?).bind fun _=>let z16:=s.2.2.1.set s.1.2.2.2.2.1.toNat x13; (z16[(IntKind.wrap .i64 (s.1.2.2.2.2.1-1)).toNat]?).bind fun _=>some (.inl (((),s.1.2.1,s.1.2.2.1,s.1.2.2.2.1,(IntKind.wrap .i64 (s.1.2.2.2.2.1-1)),()),(()),(z16.set ((IntKind.wrap .i64 (s.1.2.2.2.2.1-1)).toNat) x14),()))) none) none) none) none) (some (.inr (((),s.1.2.1,s.1.2.2.1,s.1.2.2.2.1,()),(()),s.2.2)))) none) none) (some (.inr (((),s.1.2.1,s.1.2.2.1,s.1.2.2.2.1,()),(()),s.2.2)))
def fU:=ij eo
def jw:=nk Tryz.f188 [0,0] fT eo [wM] [] (by kernel_rfl) fun s=>by simp only[eo,tm]; kernel_rfl
abbrev fV:LX:=⟨⟨[(0, .cl (.own 0 (.i .i64))),(1, .cl (.int .i64)),(2, .cl (.int .i64)),(6, .cl (.int .i64))],[],[.i .i64],1,49⟩,[(.ext 0,⟨[],[],[.i .i64],1,49⟩)],[],[0,1,2,6],[]⟩
def dN (s: (Unit×Int×Int×Int×Unit)×Unit×List Int×Unit):fV.R:=
 br (decide (s.1.2.2.2.1<s.1.2.2.1)) ((fU (((),s.1.2.1,s.1.2.2.1,s.1.2.2.2.1,s.1.2.2.2),(()),s.2.2)).bind fun e19=>some (.inl (((),e19.1.2.1,e19.1.2.2.1,(IntKind.wrap .i64 (e19.1.2.2.2.1+1)),()),(()),e19.2.2))) (some (.inr ((()),(()),s.2.2)))
def fW:=ij dN
def jx:=nk Tryz.f188 [0] fV dN [] [jw] (by kernel_rfl) fun s=>by simp only[dN,tm]; kernel_rfl
def dZ (a0:List Int) (a1:Int) (a2:Int):Option ((List Int)×Unit):=
 (fW (((),a1,a2,(IntKind.wrap .i64 (a1+1)),()),(()),a0,())).bind fun e20=>some e20.2.2
def jS:=I3 188 Tryz.f188 (.i .i64) [.ty (.i .i64), .ty (.i .i64)] [] (fun l x=>dZ l x.1 x.2.1) [] [jx] (by kernel_rfl) fun l x=>by simp only[dZ,tm]; kernel_rfl
abbrev iy:LX:=⟨⟨[(0, .cl (.own 0 (.i .i64))),(1, .cl (.int .i64)),(2, .cl (.int .i64)),(3, .cl (.int .i64)),(8, .cl (.bl)),(9, .cl (.bl))],[],[.i .i64],1,134⟩,[(.ret,⟨[],[],[.i .i64],1,134⟩)],[],[0,1,2,3,8,9],[]⟩
def eN (s: (Unit×Int×Int×Int×Bool×Bool×Unit)×Unit×List Int×Unit):iy.R:=
 br (decide ((IntKind.wrap .i64 (s.1.2.2.1-s.1.2.1))<=12)) ((dZ s.2.2.1 s.1.2.1 s.1.2.2.1).bind fun y7=>du (y7.1.length=s.2.2.1.length) (some (.inr ((()),(()),y7.1,()))) none) (br (s.1.2.2.2.1==0) (none) (br (!s.1.2.2.2.2.1) (none) (none)))
def iz:=ij eN
def lJ:=nk Tryz.f186 [0] iy eN [jS] [] (by kernel_rfl) fun s=>by simp only[eN,tm,-eq_self]; kernel_rfl
def eE (a0:List Int) (a1:Int) (a2:Int) (a3:Int):Option ((List Int)×Unit):=
 (iz (((),a1,a2,a3,true,true,()),(()),a0,())).bind fun e8=>some e8.2.2
def mh:=I3 186 Tryz.f186 (.i .i64) [.ty (.i .i64), .ty (.i .i64), .ty (.i .i64)] [] (fun l x=>eE l x.1 x.2.1 x.2.2.1) [] [lJ] (by kernel_rfl) fun l x=>by simp only[eE,tm]; kernel_rfl
def iA (a0:List Int):Option ((List Int)×Unit):=
 (qf (IntKind.wrap .u64 (a0.length:Int))).bind fun y1=>(eE a0 0 (a0.length:Int) y1.1).bind fun y2=>du (y2.1.length=a0.length) (some (y2.1,())) none
def tL:=I3 181 Tryz.f181 (.i .i64) [] [] (fun l _=>iA l) [Ev,mh] [] (by kernel_rfl) fun l x=>by simp only[iA,tm,-eq_self]; kernel_rfl
abbrev kI:LX:=⟨⟨[(0, .cl (.own 0 (.i .i64))),(3, .cl (.int .i64)),(4, .cl (.sub 0 (.i .i64))),(5, .cl (.int .i64))],[],[.i .i64],0,61⟩,[(.ext 2,⟨[(0, .cl (.own 0 (.i .i64))),(3, .cl (.int .i64))],[],[.i .i64],0,61⟩)],[],[0,3,4,5],[0,3]⟩
def iO (s: (Unit×Int×(Nat×Nat)×Int×Unit)×Unit×List Int×Unit):kI.R:=
 br (decide (s.1.2.2.2.1< ((s.1.2.2.1.2:Nat):Int))) (du (0<=s.1.2.2.2.1/\s.1.2.2.2.1< ((s.1.2.2.1.2:Nat):Int)) ((s.2.2.1[(s.1.2.2.1.1+s.1.2.2.2.1.toNat)]?).bind fun x9=>du (0<=(IntKind.wrap .i64 (s.1.2.2.2.1-1))/\(IntKind.wrap .i64 (s.1.2.2.2.1-1))< ((s.1.2.2.1.2:Nat):Int)) ((s.2.2.1[(s.1.2.2.1.1+(IntKind.wrap .i64 (s.1.2.2.2.1-1)).toNat)]?).bind fun x10=>br (!(x9==x10)) (du (0<=s.1.2.2.2.1/\s.1.2.2.2.1< ((s.1.2.2.1.2:Nat):Int)) ((s.2.2.1[(s.1.2.2.1.1+s.1.2.2.2.1.toNat)]?).bind fun x11=>du (0<=s.1.2.1/\s.1.2.1< (s.2.2.1.length:Int)) ((s.2.2.1[s.1.2.1.toNat]?).bind fun _=>some (.inl (((),(IntKind.wrap .i64 (s.1.2.1+1)),s.1.2.2.1,(IntKind.wrap .i64 (s.1.2.2.2.1+1)),()),(()),(s.2.2.1.set s.1.2.1.toNat x11),()))) none) none) (some (.inl (((),s.1.2.1,s.1.2.2.1,(IntKind.wrap .i64 (s.1.2.2.2.1+1)),()),(()),s.2.2)))) none) none) (some (.inr (((),s.1.2.1,()),(()),s.2.2)))
def oD:=ij iO
def oE:=nk Tryz.f182 [0,0] kI iO [] [] (by kernel_rfl) fun s=>by simp only[iO,tm]; kernel_rfl
abbrev kJ:LX:=⟨⟨[(0, .cl (.own 0 (.i .i64))),(3, .cl (.int .i64))],[],[.i .i64],0,61⟩,[(.ret,⟨[(0, .cl (.own 0 (.i .i64))),(2, .cl (.sub 0 (.i .i64)))],[],[.i .i64],0,61⟩),(.ext 0,⟨[(0, .cl (.own 0 (.i .i64))),(2, .cl (.dead))],[],[.i .i64],0,61⟩)],[],[0,3],[0,2]⟩
def eO (s: (Unit×Int×Unit)×Unit×List Int×Unit):kJ.R:=
 br (decide (s.1.2.1< (s.2.2.1.length:Int))) (du (0<=s.1.2.1/\s.1.2.1< (s.2.2.1.length:Int)) ((s.2.2.1[s.1.2.1.toNat]?).bind fun x3=>du (0<=(IntKind.wrap .i64 (s.1.2.1-1))/\(IntKind.wrap .i64 (s.1.2.1-1))< (s.2.2.1.length:Int)) ((s.2.2.1[(IntKind.wrap .i64 (s.1.2.1-1)).toNat]?).bind fun x4=>br (x3==x4) (du (0<=s.1.2.1/\s.1.2.1<=(s.2.2.1.length:Int)/\(s.2.2.1.length:Int)<=((s.2.2.1.length:Nat):Int)) ((oD (((),s.1.2.1,((0+s.1.2.1.toNat),((s.2.2.1.length:Int).toNat-s.1.2.1.toNat)),1,()),(()),s.2.2)).bind fun e16=>du (0<=e16.1.2.1/\e16.1.2.1<=(e16.2.2.1.length:Int)/\(e16.2.2.1.length:Int)<=((e16.2.2.1.length:Nat):Int)) (du ((0+e16.1.2.1.toNat)+((e16.2.2.1.length:Int).toNat-e16.1.2.1.toNat)<=e16.2.2.1.length) (du (0<=(0:Int)/\(0:Int)<=e16.1.2.1/\e16.1.2.1<=((e16.2.2.1.length:Nat):Int)) (some (.inr (.inl (((),((0+(0:Int).toNat),(e16.1.2.1.toNat-(0:Int).toNat)),()),(()),(e16.2.2.1.take (0+e16.1.2.1.toNat)++List.replicate ((e16.2.2.1.length:Int).toNat-e16.1.2.1.toNat) (0:Int)++e16.2.2.1.drop ((0+e16.1.2.1.toNat)+((e16.2.2.1.length:Int).toNat-e16.1.2.1.toNat))),())))) none) none) none) none) (some (.inl (((),(IntKind.wrap .i64 (s.1.2.1+1)),()),(()),s.2.2)))) none) none) (some (.inr (.inr (((),(),()),(()),s.2.2))))
def kK:=ij eO
def oF:=nk Tryz.f182 [0] kJ eO [] [oE] (by kernel_rfl) fun s=>by simp only[eO,tm]; kernel_rfl
def fX (a0:List Int):Option ((List Int)×Unit):=
 br (decide ((a0.length:Int)<2)) (some (a0,())) ((kK (((),1,()),(()),a0,())).bind fun e17=>Sum.elim (fun e17_0=>du (e17_0.1.2.1.1=0/\e17_0.1.2.1.2<=e17_0.2.2.1.length) (some ((e17_0.2.2.1.take e17_0.1.2.1.2),())) none) (fun e17_1=>some e17_1.2.2) e17)
def qg:=Ja 182 Tryz.f182 (.i .i64) [] [.ls (.i .i64)] (fun l _=>fX l) [] [oF] (by kernel_rfl) fun l x=>by simp only[fX,tm,-eq_self]; kernel_rfl
def km (a0:List Int):Option ((List Int)×Unit):=
 (m0 a0).bind fun y1=>(iA y1.1).bind fun y2=>du (y2.1.length=y1.1.length) ((fX y2.1).bind fun y3=>some (y3.1,())) none
def yR:=fm 171 Tryz.f171 [.ty (.ls (.i .i64))] [.ls (.i .i64)] (fun x=>km x.1) [wL,tL,qg] [] (by kernel_rfl) fun x=>by simp only[km,tm,-eq_self]; kernel_rfl
def eP (a0:Int) (a1:List Int):Option (Bool×Unit):=
 (gH a1 a0).bind fun y1=>some (y1.1,())
def kL:=fm 172 Tryz.f172 [.ty (.i .i64), .pr (.ls (.i .i64))] [.b] (fun x=>eP x.1 x.2.1) [nX] [] (by kernel_rfl) fun x=>by simp only[eP,tm]; kernel_rfl
abbrev fk:LX:=⟨⟨[(0, .cl (.ro (.i .i64))),(1, .fn 172 [.pro (.ls (.i .i64))]),(7, .cl (.int .i64)),(8, .cl (.int .i64))],[],[],0,19⟩,[(.ret,⟨[(4, .cl (.int .i64))],[],[],0,19⟩),(.ext 0,⟨[(4, .cl (.dead))],[],[],0,19⟩)],[],[0,1,7,8],[4]⟩
def dD (s: (List Int×(List Int×Unit)×Int×Int×Unit)×Unit×Unit):fk.R:=
 br (decide (s.1.2.2.2.1<s.1.2.2.1)) (du (0<=s.1.2.2.2.1) ((s.1.1[s.1.2.2.2.1.toNat]?).bind fun x5=>(eP x5 s.1.2.1.1).bind fun y6=>br y6.1 (some (.inr (.inl (s.1.2.2.2,(()),(()))))) (some (.inl ((s.1.1,s.1.2.1,s.1.2.2.1,(IntKind.wrap .i64 (s.1.2.2.2.1+1)),()),(()),(()))))) none) (some (.inr (.inr (((),()),(()),(())))))
def eA:=ij dD
def iH:=nk Tryz.f160 [0] fk dD [kL] [] (by kernel_rfl) fun s=>by simp only[dD,tm]; kernel_rfl
def eb (a0:List Int) (a1_0:List Int):Option (Int×Unit):=
 (eA ((a0,(a1_0,()),(a0.length:Int),0,()),(()),(()))).bind fun e7=>Sum.elim (fun e7_0=>some e7_0.1) (fun _=>some ((-1),())) e7
def iZ:=fm 160 Tryz.f160 [.ty (.ls (.i .i64)), .fn 172 [.ls (.i .i64)]] [.i .i64] (fun x=>eb x.1 x.2.1.1) [] [iH] (by kernel_rfl) fun x=>by simp only[eb,tm]; kernel_rfl
abbrev eR:LX:=⟨⟨[(0, .cl (.own 0 (.i .i64))),(1, .fn 172 [.pro (.ls (.i .i64))]),(5, .cl (.int .i64)),(6, .cl (.int .i64))],[],[.i .i64],0,42⟩,[(.ext 0,⟨[(0, .cl (.own 0 (.i .i64))),(5, .cl (.int .i64))],[],[.i .i64],0,42⟩)],[],[0,1,5,6],[0,5]⟩
def dz (s: (Unit×(List Int×Unit)×Int×Int×Unit)×Unit×List Int×Unit):eR.R:=
 br (decide (s.1.2.2.2.1< (s.2.2.1.length:Int))) (du (0<=s.1.2.2.2.1/\s.1.2.2.2.1< (s.2.2.1.length:Int)) ((s.2.2.1[s.1.2.2.2.1.toNat]?).bind fun x6=>(eP x6 s.1.2.1.1).bind fun y7=>br (!y7.1) (du (0<=s.1.2.2.1/\s.1.2.2.1< (s.2.2.1.length:Int)) ((s.2.2.1[s.1.2.2.1.toNat]?).bind fun _=>some (.inl (((),s.1.2.1,(IntKind.wrap .i64 (s.1.2.2.1+1)),(IntKind.wrap .i64 (s.1.2.2.2.1+1)),()),(()),(s.2.2.1.set s.1.2.2.1.toNat x6),()))) none) (some (.inl (((),s.1.2.1,s.1.2.2.1,(IntKind.wrap .i64 (s.1.2.2.2.1+1)),()),(()),s.2.2)))) none) (some (.inr (((),s.1.2.2.1,()),(()),s.2.2)))
def eS:=ij dz
def gV:=nk Tryz.f170 [0] eR dz [kL] [] (by kernel_rfl) fun s=>by simp only[dz,tm]; kernel_rfl
def dK (a0:List Int) (a1_0:List Int):Option ((List Int)×Unit):=
 (eb a0 a1_0).bind fun y1=>br (y1.1==(-1)) (some (a0,())) ((eS (((),(a1_0,()),y1.1,(IntKind.wrap .i64 (y1.1+1)),()),(()),a0,())).bind fun e12=>du (0<=e12.1.2.1/\e12.1.2.1<=(e12.2.2.1.length:Int)/\(e12.2.2.1.length:Int)<=((e12.2.2.1.length:Nat):Int)) (du ((0+e12.1.2.1.toNat)+((e12.2.2.1.length:Int).toNat-e12.1.2.1.toNat)<=e12.2.2.1.length) (du (0<=(0:Int)/\(0:Int)<=e12.1.2.1/\e12.1.2.1<=((e12.2.2.1.length:Nat):Int)) (du ((0+(0:Int).toNat)=0/\(e12.1.2.1.toNat-(0:Int).toNat)<=(e12.2.2.1.take (0+e12.1.2.1.toNat)++List.replicate ((e12.2.2.1.length:Int).toNat-e12.1.2.1.toNat) (0:Int)++e12.2.2.1.drop ((0+e12.1.2.1.toNat)+((e12.2.2.1.length:Int).toNat-e12.1.2.1.toNat))).length) (some (((e12.2.2.1.take (0+e12.1.2.1.toNat)++List.replicate ((e12.2.2.1.length:Int).toNat-e12.1.2.1.toNat) (0:Int)++e12.2.2.1.drop ((0+e12.1.2.1.toNat)+((e12.2.2.1.length:Int).toNat-e12.1.2.1.toNat))).take (e12.1.2.1.toNat-(0:Int).toNat)),())) none) none) none) none)
def ii:=Ja 170 Tryz.f170 (.i .i64) [.fn 172 [.ls (.i .i64)]] [.ls (.i .i64)] (fun l x=>dK l x.1.1) [iZ] [gV] (by kernel_rfl) fun l x=>by simp only[dK,tm,-eq_self]; kernel_rfl
def fw (a0:List Int) (a1:List Int):Option ((List Int)×Unit):=
 (km a0).bind fun y1=>(dK y1.1 a1).bind fun y2=>some (y2.1,())
def qS:=fm 155 Tryz.f155 [.ty (.ls (.i .i64)), .ty (.ls (.i .i64))] [.ls (.i .i64)] (fun x=>fw x.1 x.2.1) [yR,ii] [] (by kernel_rfl) fun x=>by simp only[fw,tm]; kernel_rfl
def gW (a0:List Int) (a1:List Int):Option ((List Int)×Unit):=
 (fw a0 a1).bind fun y1=>(fw a0 y1.1).bind fun y2=>some (y2.1,())
def rK:=fm 127 Tryz.f127 [.ty (.ls (.i .i64)), .ty (.ls (.i .i64))] [.ls (.i .i64)] (fun x=>gW x.1 x.2.1) [qS] [] (by kernel_rfl) fun x=>by simp only[gW,tm]; kernel_rfl
def fM (a0:dA):Option (Bool×Unit):=
 (dQ a0.epoch 1 20).bind fun y1=>br y1.1 ((gR a0.replicas).bind fun y2=>br y2.1 ((gR a0.witnesses).bind fun y3=>br y3.1 ((gH a0.replicas a0.primary).bind fun y4=>br y4.1 ((gW a0.replicas a0.witnesses).bind fun y5=>some (((y5.1.length:Int)==0),())) (some (false,()))) (some (false,()))) (some (false,()))) (some (false,()))
def np:=fm 80 Tryz.f80 [.ty (.st .config)] [.b] (fun x=>fM x.1) [gx,wJ,nX,rK] [] (by kernel_rfl) fun x=>by simp only[fM,tm]; kernel_rfl
abbrev nq:LX:=⟨⟨[(1, .cl (.ptr 0 0)),(6, .cl (.ro (.st .config))),(7, .cl (.int .i64)),(8, .cl (.int .i64))],[[.ro (.st .config), .int .i64]],[],0,30⟩,[(.ret,⟨[(1, .cl (.ptr 0 0)),(2, .cl (.bl))],[[.ro (.st .config), .int .i64]],[],0,30⟩),(.ext 0,⟨[(1, .cl (.ptr 0 0)),(2, .cl (.dead))],[[.ro (.st .config), .int .i64]],[],0,30⟩)],[],[1,6,7,8],[1,2]⟩
def fO (s: (Unit×List dA×Int×Int×Unit)×((List dA×Int×Unit)×Unit)×Unit):nq.R:=
 br (decide (s.1.2.2.2.1<s.1.2.2.1)) (du (0<=s.1.2.2.2.1) ((s.1.2.1[s.1.2.2.2.1.toNat]?).bind fun x6=>(fM x6).bind fun y7=>br (!y7.1) (some (.inr (.inl (((),false,()),s.2.1,(()))))) (br (!(x6.epoch==(IntKind.wrap .i64 (s.1.2.2.2.1+1)))) (some (.inr (.inl (((),false,()),s.2.1,(()))))) (some (.inl (((),s.1.2.1,s.1.2.2.1,(IntKind.wrap .i64 (s.1.2.2.2.1+1)),()),s.2.1,(())))))) none) (some (.inr (.inr (((),(),()),s.2.1,(())))))
def kB:=ij fO
def rL:=nk Tryz.f96 [0] nq fO [np] [] (by kernel_rfl) fun s=>by simp only[fO,tm]; kernel_rfl
def hQ (a0:dT):Option (Bool×Unit):=
 (kB (((),a0.configs,(a0.configs.length:Int),0,()),((a0.configs,a0.activated,()),()),(()))).bind fun e8=>Sum.elim (fun e8_0=>some e8_0.1.2) (fun e8_1=>(dQ e8_1.2.1.1.2.1 0 (e8_1.2.1.1.1.length:Int)).bind fun y9=>some (y9.1,())) e8
def o2:=fm 96 Tryz.f96 [.ty (.st .masterLog)] [.b] (fun x=>hQ x.1) [gx] [rL] (by kernel_rfl) fun x=>by simp only[hQ,tm]; kernel_rfl
def mH (a0:mu):Option (Bool×Unit):=
 br ((a0.epoch==0)&&((a0.holder==0)&&((a0.ends==0)&&true))) (some (true,())) ((dQ a0.epoch 1 20).bind fun y1=>br y1.1 ((dQ a0.holder 0 4).bind fun y2=>br y2.1 ((dQ a0.ends 1 1049).bind fun y3=>some (y3.1,())) (some (false,()))) (some (false,())))
def CB:=fm 97 Tryz.f97 [.ty (.st .lease)] [.b] (fun x=>mH x.1) [gx] [] (by kernel_rfl) fun x=>by simp only[mH,tm]; kernel_rfl
def jy (a0:fA):Option (Bool×Unit):=
 (dQ a0.rack 0 9).bind fun y1=>br (!y1.1) (some (true,())) ((dQ a0.capacity 0 9).bind fun y2=>br (!y2.1) (some (true,())) ((dQ a0.load 0 99).bind fun y3=>some ((!y3.1),())))
def tM:=fm 138 Tryz.f138 [.ty (.st .place)] [.b] (fun x=>jy x.1) [gx] [] (by kernel_rfl) fun x=>by simp only[jy,tm]; kernel_rfl
abbrev fD:LX:=⟨⟨[(0, .cl (.ro (.st .place))),(1, .cl (.fc 138)),(7, .cl (.int .i64)),(8, .cl (.int .i64))],[],[],0,19⟩,[(.ret,⟨[(4, .cl (.int .i64))],[],[],0,19⟩),(.ext 0,⟨[(4, .cl (.dead))],[],[],0,19⟩)],[],[0,1,7,8],[4]⟩
def dI (s: (List fA×Unit×Int×Int×Unit)×Unit×Unit):fD.R:=
 br (decide (s.1.2.2.2.1<s.1.2.2.1)) (du (0<=s.1.2.2.2.1) ((s.1.1[s.1.2.2.2.1.toNat]?).bind fun x4=>(jy x4).bind fun y5=>br y5.1 (some (.inr (.inl (s.1.2.2.2,(()),(()))))) (some (.inl ((s.1.1,(),s.1.2.2.1,(IntKind.wrap .i64 (s.1.2.2.2.1+1)),()),(()),(()))))) none) (some (.inr (.inr (((),()),(()),(())))))
def eH:=ij dI
def jc:=nk Tryz.f161 [0] fD dI [tM] [] (by kernel_rfl) fun s=>by simp only[dI,tm]; kernel_rfl
def ep (a0:List fA):Option (Int×Unit):=
 (eH ((a0,(),(a0.length:Int),0,()),(()),(()))).bind fun e6=>Sum.elim (fun e6_0=>some e6_0.1) (fun _=>some ((-1),())) e6
def jz:=fm 161 Tryz.f161 [.ty (.ls (.st .place)), .fc 138] [.i .i64] (fun x=>ep x.1) [] [jc] (by kernel_rfl) fun x=>by simp only[ep,tm]; kernel_rfl
def ec (a0:List fA):Option (Bool×Unit):=
 (ep a0).bind fun y1=>some ((decide (y1.1≥0)),())
def i4:=fm 137 Tryz.f137 [.ty (.ls (.st .place)), .fc 138] [.b] (fun x=>ec x.1) [jz] [] (by kernel_rfl) fun x=>by simp only[ec,tm]; kernel_rfl
def ko (a0:List fA):Option (Bool×Unit):=
 br ((a0.length:Int)==5) ((ec a0).bind fun y1=>some ((!y1.1),())) (some (false,()))
def yS:=fm 98 Tryz.f98 [.ty (.ls (.st .place))] [.b] (fun x=>ko x.1) [i4] [] (by kernel_rfl) fun x=>by simp only[ko,tm]; kernel_rfl
def ji (a0:Op):Option (Bool×Unit):=
 (dQ a0.client 0 2).bind fun y1=>br (!y1.1) (some (false,())) ((dQ a0.seq 1 99).bind fun y2=>br (!y2.1) (some (false,())) ((dQ a0.object 0 2).bind fun y3=>br (!y3.1) (some (false,())) ((dQ a0.value 0 9).bind fun y4=>br (!y4.1) (some (false,())) (br (a0.kind==1) (br (a0.old==0) (some (true,())) (br (a0.kind==2) ((dQ a0.old 0 9).bind fun y5=>some (y5.1,())) (some (false,())))) (br (a0.kind==2) ((dQ a0.old 0 9).bind fun y6=>some (y6.1,())) (some (false,())))))))
def yT:=fm 147 Tryz.f147 [.ty (.st .op)] [.b] (fun x=>ji x.1) [gx] [] (by kernel_rfl) fun x=>by simp only[ji,tm]; kernel_rfl
abbrev vw:LX:=⟨⟨[(0, .cl (.ro (.st .entry))),(5, .cl (.ro (.st .entry))),(6, .cl (.int .i64)),(7, .cl (.int .i64))],[],[],0,41⟩,[(.ret,⟨[(0, .cl (.ro (.st .entry))),(2, .cl (.bl))],[],[],0,41⟩),(.ext 0,⟨[(0, .cl (.ro (.st .entry))),(2, .cl (.dead))],[],[],0,41⟩)],[],[0,5,6,7],[0,2]⟩
def li (s: (List ff×List ff×Int×Int×Unit)×Unit×Unit):vw.R:=
 br (decide (s.1.2.2.2.1<s.1.2.2.1)) (du (0<=s.1.2.2.2.1) ((s.1.2.1[s.1.2.2.2.1.toNat]?).bind fun x5=>(dQ x5.epoch 1 20).bind fun y6=>br (!y6.1) (some (.inr (.inl ((s.1.1,false,()),(()),(()))))) (br (decide (s.1.2.2.2.1>0)) (du (0<=(IntKind.wrap .i64 (s.1.2.2.2.1-1))) ((s.1.1[(IntKind.wrap .i64 (s.1.2.2.2.1-1)).toNat]?).bind fun x7=>br (decide (x5.epoch<x7.epoch)) (some (.inr (.inl ((s.1.1,false,()),(()),(()))))) ((ji x5.op).bind fun y8=>br (!y8.1) (some (.inr (.inl ((s.1.1,false,()),(()),(()))))) (some (.inl ((s.1.1,s.1.2.1,s.1.2.2.1,(IntKind.wrap .i64 (s.1.2.2.2.1+1)),()),(()),(())))))) none) ((ji x5.op).bind fun y9=>br (!y9.1) (some (.inr (.inl ((s.1.1,false,()),(()),(()))))) (some (.inl ((s.1.1,s.1.2.1,s.1.2.2.1,(IntKind.wrap .i64 (s.1.2.2.2.1+1)),()),(()),(()))))))) none) (some (.inr (.inr ((s.1.1,(),()),(()),(())))))
def qT:=ij li
def CC:=nk Tryz.f110 [0] vw li [gx,yT] [] (by kernel_rfl) fun s=>by simp only[li,tm]; kernel_rfl
def l5 (a0:List ff):Option (Bool×Unit):=
 (qT ((a0,a0,(a0.length:Int),0,()),(()),(()))).bind fun e10=>Sum.elim (fun e10_0=>some e10_0.1.2) (fun e10_1=>some ((decide ((e10_1.1.1.length:Int)<=16)),())) e10
def Bz:=fm 110 Tryz.f110 [.ty (.ls (.st .entry))] [.b] (fun x=>l5 x.1) [] [CC] (by kernel_rfl) fun x=>by simp only[l5,tm]; kernel_rfl
abbrev nY:LX:=⟨⟨[(0, .cl (.ro (.i .i64))),(1, .cl (.ro (.i .i64))),(12, .cl (.int .i64)),(13, .cl (.int .i64))],[],[],0,26⟩,[(.ret,⟨[(4, .cl (.bl))],[],[],0,26⟩),(.ext 0,⟨[(4, .cl (.dead))],[],[],0,26⟩)],[],[0,1,12,13],[4]⟩
def gA (s: (List Int×List Int×Int×Int×Unit)×Unit×Unit):nY.R:=
 br (decide (s.1.2.2.2.1<s.1.2.2.1)) (du (0<=s.1.2.2.2.1) ((s.1.1[s.1.2.2.2.1.toNat]?).bind fun x5=>du (0<=s.1.2.2.2.1) ((s.1.2.1[s.1.2.2.2.1.toNat]?).bind fun x6=>br (!(x5==x6)) (some (.inr (.inl ((false,()),(()),(()))))) (some (.inl ((s.1.1,s.1.2.1,s.1.2.2.1,(IntKind.wrap .i64 (s.1.2.2.2.1+1)),()),(()),(()))))) none) none) (some (.inr (.inr (((),()),(()),(())))))
def lK:=ij gA
def tN:=nk Tryz.f149 [0] nY gA [] [] (by kernel_rfl) fun s=>by simp only[gA,tm]; kernel_rfl
def kV (a0:List Int) (a1:List Int):Option (Bool×Unit):=
 br (!((a0.length:Int)==(a1.length:Int))) (some (false,())) ((lK ((a0,a1,(a0.length:Int),0,()),(()),(()))).bind fun e7=>Sum.elim (fun e7_0=>some e7_0.1) (fun _=>some (true,())) e7)
def wN:=fm 149 Tryz.f149 [.ty (.ls (.i .i64)), .ty (.ls (.i .i64))] [.b] (fun x=>kV x.1 x.2.1) [] [tN] (by kernel_rfl) fun x=>by simp only[kV,tm]; kernel_rfl
def gC (a0:List Int) (a1:List Int):Option (Bool×Unit):=
 (kV a0 a1).bind fun y1=>some (y1.1,())
def tO:=fm 114 Tryz.f114 [.ty (.ls (.i .i64)), .ty (.ls (.i .i64))] [.b] (fun x=>gC x.1 x.2.1) [wN] [] (by kernel_rfl) fun x=>by simp only[gC,tm]; kernel_rfl
def fE (a0:dA) (a1:dA):Option (Bool×Unit):=
 br (a0.epoch==a1.epoch) (br (a0.primary==a1.primary) ((gC a0.replicas a1.replicas).bind fun y1=>br y1.1 ((gC a0.witnesses a1.witnesses).bind fun y2=>some (y2.1,())) (some (false,()))) (some (false,()))) (some (false,()))
def nZ:=fm 60 Tryz.f60 [.ty (.st .config), .ty (.st .config)] [.b] (fun x=>fE x.1 x.2.1) [tO] [] (by kernel_rfl) fun x=>by simp only[fE,tm]; kernel_rfl
def jj (a0:List ff):Option (Int×Unit):=
 br ((a0.length:Int)==0) (some (0,())) (du (0<=(IntKind.wrap .i64 ((a0.length:Int)-1))) ((a0[(IntKind.wrap .i64 ((a0.length:Int)-1)).toNat]?).bind fun x1=>some (x1.epoch,())) none)
def rr:=fm 100 Tryz.f100 [.ty (.ls (.st .entry))] [.i .i64] (fun x=>jj x.1) [] [] (by kernel_rfl) fun x=>by simp only[jj,tm]; kernel_rfl
def mJ (a0:dA) (a1:Int):Option (Int×Unit):=
 (fM a0).bind fun y1=>br (!y1.1) (some (0,())) (br (a1==a0.primary) (some (1,())) ((gH a0.replicas a1).bind fun y2=>br y2.1 (some (2,())) ((gH a0.witnesses a1).bind fun y3=>br y3.1 (some (3,())) (some (0,())))))
def yU:=fm 38 Tryz.f38 [.ty (.st .config), .ty (.i .i64)] [.i .i64] (fun x=>mJ x.1 x.2.1) [np,nX] [] (by kernel_rfl) fun x=>by simp only[mJ,tm]; kernel_rfl
def n5 (a0:Int) (a1:List ff):Option (Bool×Unit):=
 (l5 a1).bind fun y1=>br y1.1 (br (decide ((a1.length:Int)<=3)) ((dQ a0 0 (IntKind.wrap .i64 (16-(a1.length:Int)))).bind fun y2=>br y2.1 (br (a0==0) (some (true,())) (some (((a1.length:Int)==3),()))) (some (false,()))) (some (false,()))) (some (false,()))
def Ew:=fm 139 Tryz.f139 [.ty (.i .i64), .ty (.ls (.st .entry))] [.b] (fun x=>n5 x.1 x.2.1) [Bz,gx] [] (by kernel_rfl) fun x=>by simp only[n5,tm]; kernel_rfl
def gX (a0:ek) (a1:Int):Option (Bool×Unit):=
 (dQ a0.version 1 2).bind fun y1=>br (!y1.1) (some (false,())) ((dQ a0.epoch 0 20).bind fun y2=>br (!y2.1) (some (false,())) ((l5 a0.log).bind fun y3=>br (!y3.1) (some (false,())) ((l5 a0.learned).bind fun y4=>br (!y4.1) (some (false,())) ((dQ a0.first 0 16).bind fun y5=>br (!y5.1) (some (false,())) (br (decide ((IntKind.wrap .i64 (a0.first+(a0.log.length:Int)))>16)) (some (false,())) ((dQ a0.commit 0 (IntKind.wrap .i64 (a0.first+(a0.log.length:Int)))).bind fun y6=>br (!y6.1) (some (false,())) ((fE a0.config (⟨0,0,([]:List Int),([]:List Int)⟩:dA)).bind fun y7=>br y7.1 (br (a0.first==0) (br (a0.commit==0) (some (((a0.log.length:Int)==0),())) (some (false,()))) (some (false,()))) (br (!a0.intact) (some (false,())) (br (decide (a0.epoch<a0.config.epoch)) (some (false,())) ((jj a0.log).bind fun y8=>br (decide (y8.1>a0.config.epoch)) (some (false,())) ((mJ a0.config a1).bind fun y9=>br (y9.1==1) (some ((a0.first==0),())) (br (y9.1==2) (some ((a0.first==0),())) (br (y9.1==3) ((n5 a0.first a0.log).bind fun y12=>some (y12.1,())) (some (false,())))))))))))))))
def rM:=fm 99 Tryz.f99 [.ty (.st .server), .ty (.i .i64)] [.b] (fun x=>gX x.1 x.2.1) [gx,Bz,nZ,rr,yU,Ew] [] (by kernel_rfl) fun x=>by simp only[gX,tm]; kernel_rfl
def jA (a0:dA):Option (dA×Unit):=
 du ((([]:List Int)++a0.replicas).length*8<=2 ^ 40) (du ((([]:List Int)++a0.witnesses).length*8<=2 ^ 40) (some ((⟨a0.epoch,a0.primary,(([]:List Int)++a0.replicas),(([]:List Int)++a0.witnesses)⟩:dA),())) none) none
def wO:=fm 140 Tryz.f140 [.ty (.st .config)] [.st .config] (fun x=>jA x.1) [] [] (by kernel_rfl) fun x=>by simp only[jA,tm]; kernel_rfl
def lL (a0:dT) (a1:Int):Option (dA×Bool×Unit):=
 (hQ a0).bind fun y1=>br (!y1.1) (some ((⟨0,0,([]:List Int),([]:List Int)⟩:dA),false,())) ((dQ a1 1 (a0.configs.length:Int)).bind fun y2=>br (!y2.1) (some ((⟨0,0,([]:List Int),([]:List Int)⟩:dA),false,())) (du (0<=(IntKind.wrap .i64 (a1-1))) ((a0.configs[(IntKind.wrap .i64 (a1-1)).toNat]?).bind fun x3=>(jA x3).bind fun y4=>some (y4.1,true,())) none))
def AA:=fm 101 Tryz.f101 [.ty (.st .masterLog), .ty (.i .i64)] [.st .config, .b] (fun x=>lL x.1 x.2.1) [o2,gx,wO] [] (by kernel_rfl) fun x=>by simp only[lL,tm]; kernel_rfl
abbrev lM:LX:=⟨⟨[(1, .cl (.ptr 0 0)),(57, .cl (.ro (.st .server))),(58, .cl (.int .i64)),(59, .cl (.int .i64))],[[.int .i64, .ro (.st .server), .ro (.i .i64), .ro (.st .config), .int .i64, .int .i64, .int .i64, .int .i64, .int .i64, .ro (.st .place)]],[],0,118⟩,[(.ret,⟨[(2, .cl (.bl))],[],[],0,118⟩),(.ext 0,⟨[(2, .cl (.dead))],[],[],0,118⟩)],[],[1,57,58,59],[2]⟩
def eZ (s: (Unit×List ek×Int×Int×Unit)×((Int×List ek×List Int×List dA×Int×Int×Int×Int×Int×List fA×Unit)×Unit)×Unit):lM.R:=
 br (decide (s.1.2.2.2.1<s.1.2.2.1)) (du (0<=s.1.2.2.2.1) ((s.1.2.1[s.1.2.2.2.1.toNat]?).bind fun x20=>(gX x20 s.1.2.2.2.1).bind fun y21=>br (!y21.1) (some (.inr (.inl ((false,()),(()),(()))))) (br (decide (x20.epoch>(s.2.1.1.2.2.2.1.length:Int))) (some (.inr (.inl ((false,()),(()),(()))))) ((jj x20.learned).bind fun y22=>br (decide (y22.1>s.2.1.1.2.2.2.2.1)) (some (.inr (.inl ((false,()),(()),(()))))) ((fE x20.config (⟨0,0,([]:List Int),([]:List Int)⟩:dA)).bind fun y23=>br y23.1 (some (.inl (((),s.1.2.1,s.1.2.2.1,(IntKind.wrap .i64 (s.1.2.2.2.1+1)),()),s.2.1,(())))) ((lL (⟨s.2.1.1.2.2.2.1,s.2.1.1.2.2.2.2.1⟩:dT) x20.config.epoch).bind fun y24=>br (!y24.2.1) (some (.inr (.inl ((false,()),(()),(()))))) ((fE y24.1 x20.config).bind fun y25=>br (!y25.1) (some (.inr (.inl ((false,()),(()),(()))))) (br (decide (x20.config.epoch>s.2.1.1.2.2.2.2.1)) (some (.inr (.inl ((false,()),(()),(()))))) (some (.inl (((),s.1.2.1,s.1.2.2.1,(IntKind.wrap .i64 (s.1.2.2.2.1+1)),()),s.2.1,(()))))))))))) none) (some (.inr (.inr (((),()),(()),(())))))
def jd:=ij eZ
def pD:=nk Tryz.f48 [0] lM eZ [rM,rr,nZ,AA] [] (by kernel_rfl) fun s=>by simp only[eZ,tm]; kernel_rfl
def gD (a0:ev):Option (Bool×Unit):=
 (dQ a0.now 0 999).bind fun y1=>br (!y1.1) (some (false,())) (br (!((a0.servers.length:Int)==5)) (some (false,())) ((jR a0.sides).bind fun y2=>br (!y2.1) (some (false,())) ((hQ a0.master).bind fun y3=>br (!y3.1) (some (false,())) ((mH a0.lease).bind fun y4=>br (!y4.1) (some (false,())) ((ko a0.places).bind fun y5=>br (!y5.1) (some (false,())) ((dQ a0.masterUp 0 3).bind fun y6=>br (!y6.1) (some (false,())) (br (decide (a0.lease.epoch>a0.master.activated)) (some (false,())) ((jd (((),a0.servers,(a0.servers.length:Int),0,()),((a0.now,a0.servers,a0.sides,a0.master.configs,a0.master.activated,a0.masterUp,a0.lease.epoch,a0.lease.holder,a0.lease.ends,a0.places,()),()),(()))).bind fun e26=>Sum.elim (fun e26_0=>some e26_0.1) (fun _=>some (true,())) e26))))))))
def qU:=fm 48 Tryz.f48 [.ty (.st .cluster)] [.b] (fun x=>gD x.1) [gx,Ay,o2,CB,yS] [pD] (by kernel_rfl) fun x=>by simp only[gD,tm]; kernel_rfl
def hU (a0:ev) (a1:Int):Option (Bool×Unit):=
 (gD a0).bind fun y1=>br y1.1 ((dQ a1 0 4).bind fun y2=>some (y2.1,())) (some (false,()))
def uL:=fm 33 Tryz.f33 [.ty (.st .cluster), .ty (.i .i64)] [.b] (fun x=>hU x.1 x.2.1) [qU,gx] [] (by kernel_rfl) fun x=>by simp only[hU,tm]; kernel_rfl
def n6 (a0:Bool) (a1:ByteArray) (a2:ByteArray):Option (ByteArray×Unit):=
 br a0 (some (a1,())) (some (a2,()))
def Ey:=fm 35 Tryz.f35 [.ty (.b), .ty (.s), .ty (.s)] [.s] (fun x=>n6 x.1 x.2.1 x.2.2.1) [] [] (by kernel_rfl) fun x=>by simp only[n6,tm]; kernel_rfl
section
open Go.Shelf Go.RowKit
def F6:Ren:=⟨fun x=>match x with | 171=>79| 243=>125| 246=>154| 283=>166| 284=>167| 285=>168| 286=>169| 129=>176| 317=>175| 318=>177| 319=>178| 320=>179| 337=>184| 338=>185|n=>n,fun x=>match x with | 3=>3| 9=>9| 2=>2| 4=>4| 171=>170| 0=>0| 53=>171| 37=>98| 5=>5| 173=>174| 212=>181| 51=>182| 20=>20| 213=>183| 46=>184| 232=>190| 233=>191|n=>n,fun x=>match x with | 17=>1| 18=>2| 19=>3|n=>n⟩
set_option maxRecDepth 100000 in
theorem Ez:Lays.n171 Tryz.prog F6:= { mixed:=jt,f129:=by kernel_rfl,f171:=by kernel_rfl,f243:=by kernel_rfl,f246:=by kernel_rfl,f283:=by kernel_rfl,f284:=by kernel_rfl,f285:=by kernel_rfl,f286:=by kernel_rfl,f317:=by kernel_rfl,f318:=by kernel_rfl,f319:=by kernel_rfl,f320:=by kernel_rfl,f337:=by kernel_rfl,f338:=by kernel_rfl,t0:=by kernel_rfl,a0:=fun _=>by kernel_rfl,z0:=fun _=>by kernel_rfl,v0:=fun _=>by kernel_rfl,t2:=by kernel_rfl,a2:=fun _=>by kernel_rfl,z2:=fun _=>by kernel_rfl,v2:=fun _=>by kernel_rfl,t3:=by kernel_rfl,a3:=fun _=>by kernel_rfl,z3:=fun _=>by kernel_rfl,v3:=fun _=>by kernel_rfl,t4:=by kernel_rfl,a4:=fun _=>by kernel_rfl,z4:=fun _=>by kernel_rfl,v4:=fun _=>by kernel_rfl,t5:=by kernel_rfl,a5:=fun _=>by kernel_rfl,z5:=fun _=>by kernel_rfl,v5:=fun _=>by kernel_rfl,t9:=by kernel_rfl,a9:=fun _=>by kernel_rfl,z9:=fun _=>by kernel_rfl,v9:=fun _=>by kernel_rfl,t20:=by kernel_rfl,a20:=fun _=>by kernel_rfl,z20:=fun _=>by kernel_rfl,v20:=fun _=>by kernel_rfl,t37:=by kernel_rfl,a37:=fun _=>by kernel_rfl,z37:=fun _=>by kernel_rfl,v37:=fun _=>by kernel_rfl,t46:=by kernel_rfl,a46:=fun _=>by kernel_rfl,z46:=fun _=>by kernel_rfl,v46:=fun _=>by kernel_rfl,t51:=by kernel_rfl,a51:=fun _=>by kernel_rfl,z51:=fun _=>by kernel_rfl,v51:=fun _=>by kernel_rfl,t53:=by kernel_rfl,a53:=fun _=>by kernel_rfl,z53:=fun _=>by kernel_rfl,v53:=fun _=>by kernel_rfl,t171:=by kernel_rfl,a171:=fun _=>by kernel_rfl,z171:=fun _=>by kernel_rfl,v171:=fun _=>by kernel_rfl,t173:=by kernel_rfl,a173:=fun _=>by kernel_rfl,z173:=fun _=>by kernel_rfl,v173:=fun _=>by kernel_rfl,t212:=by kernel_rfl,a212:=fun _=>by kernel_rfl,z212:=fun _=>by kernel_rfl,v212:=fun _=>by kernel_rfl,t213:=by kernel_rfl,a213:=fun _=>by kernel_rfl,z213:=fun _=>by kernel_rfl,t232:=by kernel_rfl,a232:=fun _=>by kernel_rfl,z232:=fun _=>by kernel_rfl,v232:=fun _=>by kernel_rfl,t233:=by kernel_rfl,a233:=fun _=>by kernel_rfl,z233:=fun _=>by kernel_rfl,v233:=fun _=>by kernel_rfl,g17:=by kernel_rfl,g18:=by kernel_rfl,g19:=by kernel_rfl }
end
def kW (a0:Int):Option (ByteArray×Unit):=if 0<=a0/\a0<100 then some (⟨(Lib.decDigits a0.toNat).toArray⟩,()) else none
def wP:=HX 79 (by kernel_rfl) (tB Tryz.func79 (by kernel_rfl) rfl) [.ty (.i .i64)] [.s] rfl rfl (fun x=>kW x.1) fun x y h w=>by
 obtain⟨n,u⟩:=x;unfold kW at h;split at h
 ·rename_i hc;obtain rfl:=Option.some.inj h;have hc:0<=n/\n<100:=hc;obtain⟨m,rfl⟩:=cY hc.1;refine (Any.strconv_Itoa_small Ez m (by omega) w).mono fun e w' he=> ?_;obtain⟨rfl,rfl⟩:=he;exact⟨rfl,Go.RowKit.Below.refl _ _⟩
 ·cases h
def fh (a0:Int):Option (ByteArray×Unit):=
 (kW a0).bind fun y1=>some (y1.1,())
def yV:=fm 36 Tryz.f36 [.ty (.i .i64)] [.s] (fun x=>fh x.1) [wP] [] (by kernel_rfl) fun x=>by simp only[fh,tm]; kernel_rfl
def EA:List ByteArray:= [⟨⟨[110,111,110,101]⟩⟩,⟨⟨[112,114,105,109,97,114,121]⟩⟩,⟨⟨[98,97,99,107,117,112]⟩⟩,⟨⟨[119,105,116,110,101,115,115]⟩⟩]
def m8 (a0:Int):Option (ByteArray×Unit):=if 0<=a0/\a0<=3 then some (EA.getD a0.toNat ⟨⟨[]⟩⟩,()) else some (⟨⟨[]⟩⟩,())
section
open Go.RowKit
set_option maxHeartbeats 40000000 in
set_option maxRecDepth 100000 in
theorem wQ (k:Int) (h1:0<=k) (h2:k<=3) (w:World):Calls Tryz.prog 37 #[.int .i64 k] w fun e w'=>e= .returned (.string (EA.getD k.toNat ⟨⟨[]⟩⟩))/\Below w.heap.size w w':=by
 have mixed:Tryz.prog.follows .mixedOrders=true:=jt;rcases (by omega:k=0\/k=1\/k=2\/k=3) with rfl|rfl|rfl|rfl
 all_goals
  clear h1 h2
  go_enter Tryz.func37,Tryz.ntmps37
  go_wp2
  go_ret
  exact⟨rfl,(Below.refl _ w).alloc (au _) _⟩
set_option maxHeartbeats 40000000 in
set_option maxRecDepth 100000 in
theorem uM (k:Int) (h:k<0\/3<k) (w:World):Calls Tryz.prog 37 #[.int .i64 k] w fun e w'=>e= .returned (.string ⟨⟨[]⟩⟩)/\Below w.heap.size w w':=by
 have mixed:Tryz.prog.follows .mixedOrders=true:=jt;rcases h with h|h
 ·have h1: ¬0<=k:=by omega
  go_enter Tryz.func37,Tryz.ntmps37
  go_wp2
  go_ret
  exact⟨rfl,(Below.refl _ w).alloc (au _) _⟩
 ·have h1:0<=k:=by omega
  have h2: ¬k<=3:=by omega
  go_enter Tryz.func37,Tryz.ntmps37
  go_wp2
  go_ret
  exact⟨rfl,(Below.refl _ w).alloc (au _) _⟩
end
def AB:=HX 37 (by kernel_rfl) (tB Tryz.func37 (by kernel_rfl) rfl) [.ty (.i .i64)] [.s] rfl rfl (fun x=>m8 x.1) fun x y h w=>by
 unfold m8 at h;split at h
 ·rename_i hc;obtain rfl:=Option.some.inj h;exact wQ x.1 hc.1 hc.2 w
 ·rename_i hc;obtain rfl:=Option.some.inj h;exact uM x.1 (by have : ¬ (0<=(x.1:Int)/\(x.1:Int)<=3):=hc; omega) w
section
open Go.Shelf Go.RowKit
def BA:Ren:=⟨fun x=>match x with | 156=>34| 165=>76| 166=>77| 169=>78| 240=>123| 241=>124| 276=>152| 277=>153|n=>n,fun x=>match x with | 31=>71| 9=>9| 3=>3| 4=>4| 0=>0| 20=>20| 72=>109| 76=>113| 70=>107| 37=>98| 75=>112| 127=>144| 164=>161| 5=>5| 80=>115|n=>n,fun x=>x⟩
set_option maxRecDepth 100000 in
theorem yW:Lays.n156 Tryz.prog BA:= { mixed:=jt,f156:=by kernel_rfl,f165:=by kernel_rfl,f166:=by kernel_rfl,f169:=by kernel_rfl,f240:=by kernel_rfl,f241:=by kernel_rfl,f276:=by kernel_rfl,f277:=by kernel_rfl,t0:=by kernel_rfl,a0:=fun _=>by kernel_rfl,z0:=fun _=>by kernel_rfl,v0:=fun _=>by kernel_rfl,t3:=by kernel_rfl,a3:=fun _=>by kernel_rfl,z3:=fun _=>by kernel_rfl,v3:=fun _=>by kernel_rfl,t4:=by kernel_rfl,a4:=fun _=>by kernel_rfl,z4:=fun _=>by kernel_rfl,v4:=fun _=>by kernel_rfl,t9:=by kernel_rfl,a9:=fun _=>by kernel_rfl,z9:=fun _=>by kernel_rfl,v9:=fun _=>by kernel_rfl,t20:=by kernel_rfl,a20:=fun _=>by kernel_rfl,z20:=fun _=>by kernel_rfl,v20:=fun _=>by kernel_rfl,t31:=by kernel_rfl,a31:=fun _=>by kernel_rfl,z31:=fun _=>by kernel_rfl,v31:=fun _=>by kernel_rfl,t37:=by kernel_rfl,a37:=fun _=>by kernel_rfl,z37:=fun _=>by kernel_rfl,v37:=fun _=>by kernel_rfl,t70:=by kernel_rfl,a70:=fun _=>by kernel_rfl,z70:=fun _=>by kernel_rfl,v70:=fun _=>by kernel_rfl,t72:=by kernel_rfl,a72:=fun _=>by kernel_rfl,z72:=fun _=>by kernel_rfl,v72:=fun _=>by kernel_rfl,t75:=by kernel_rfl,a75:=fun _=>by kernel_rfl,z75:=fun _=>by kernel_rfl,v75:=fun _=>by kernel_rfl,t76:=by kernel_rfl,a76:=fun _=>by kernel_rfl,z76:=fun _=>by kernel_rfl,v76:=fun _=>by kernel_rfl,t127:=by kernel_rfl,a127:=fun _=>by kernel_rfl,z127:=fun _=>by kernel_rfl,v127:=fun _=>by kernel_rfl,t164:=by kernel_rfl,a164:=fun _=>by kernel_rfl,z164:=fun _=>by kernel_rfl,v164:=fun _=>by kernel_rfl }
set_option maxRecDepth 100000 in
theorem vx:Builder.Extra Tryz.prog BA:= { sizeBuilder:=by kernel_rfl,liesBuilder:=by kernel_rfl,t5:=by kernel_rfl,a5:=fun _=>by kernel_rfl,z5:=fun _=>by kernel_rfl,v5:=fun _=>by kernel_rfl,infoByte:=by kernel_rfl,cellsByte:=by kernel_rfl,sizeByte:=by kernel_rfl,neB5:=by decide }
end
def rZ (xs:List ByteArray) (s:ByteArray):Option (ByteArray×Unit):=if (Lib.join (xs.map (·.data.toList)) s.data.toList).length<=1048576/\xs.length<=1048576 then some (⟨(Lib.join (xs.map (·.data.toList)) s.data.toList).toArray⟩,()) else none
def F7:=IX 34 (by kernel_rfl) (tB Tryz.func34 (by kernel_rfl) rfl) rZ fun xs s y h w a c hst=>by
 unfold rZ at h;split at h
 ·rename_i hc;obtain rfl:=Option.some.inj h;cases xs with
  |nil=>refine (Any.strings_Join_none yW vx a c s w).mono fun e w' he=> ?_;obtain⟨rfl,rfl⟩:=he;exact⟨rfl,Go.RowKit.Below.refl _ _⟩
  |cons x xs=>obtain⟨b,o,rfl,hb,hcell⟩:=hst.2 (by simp);exact Any.strings_Join yW vx b o c (x::xs) s w hcell hb (by omega) hst.1 (by omega)
 ·cases h
def fY (a0:ev) (a1:Int):Option (ByteArray×Unit):=
 (hU a0 a1).bind fun y1=>br (!y1.1) (some (ByteArray.empty,())) (du (0<=a1) ((a0.servers[a1.toNat]?).bind fun x2=>(n6 x2.up (⟨⟨[117,112]⟩⟩:ByteArray) (⟨⟨[100,111,119,110]⟩⟩:ByteArray)).bind fun y3=>(n6 x2.intact (⟨⟨[105,110,116,97,99,116]⟩⟩:ByteArray) (⟨⟨[119,105,112,101,100]⟩⟩:ByteArray)).bind fun y4=>(fh x2.version).bind fun y5=>du ((⟨⟨[118]⟩⟩:ByteArray).size+y5.1.size<=2 ^ 40) ((fh x2.epoch).bind fun y6=>(mJ x2.config a1).bind fun y7=>(m8 y7.1).bind fun y8=>(fh x2.first).bind fun y9=>du (y9.1.size+(⟨⟨[43]⟩⟩:ByteArray).size<=2 ^ 40) ((fh (x2.log.length:Int)).bind fun y10=>du ((y9.1++(⟨⟨[43]⟩⟩:ByteArray)).size+y10.1.size<=2 ^ 40) ((fh x2.commit).bind fun y11=>du (0<=a1) ((a0.sides[a1.toNat]?).bind fun x12=>(fh x12).bind fun y13=>(rZ ([y3.1,y4.1,((⟨⟨[118]⟩⟩:ByteArray)++y5.1),(⟨⟨[101,112,111,99,104]⟩⟩:ByteArray),y6.1,y8.1,(⟨⟨[108,111,103]⟩⟩:ByteArray),((y9.1++(⟨⟨[43]⟩⟩:ByteArray))++y10.1),(⟨⟨[99,111,109,109,105,116]⟩⟩:ByteArray),y11.1,(⟨⟨[115,105,100,101]⟩⟩:ByteArray),y13.1]:List ByteArray) (⟨⟨[32]⟩⟩:ByteArray)).bind fun y14=>some (y14.1,())) none) none) none) none) none)
def wR:=fm 9 Tryz.f9 [.ty (.st .cluster), .ty (.i .i64)] [.s] (fun x=>fY x.1 x.2.1) [uL,Ey,yV,yU,AB,F7] [] (by kernel_rfl) fun x=>by simp only[fY,tm]; kernel_rfl
abbrev tP:LX:=⟨⟨[(0, .cl (.ro (.i .i64))),(1, .cl (.ro (.i .i64))),(5, .cl (.int .i64))],[],[],0,26⟩,[(.ret,⟨[(4, .cl (.bl))],[],[],0,26⟩),(.ext 0,⟨[(4, .cl (.dead))],[],[],0,26⟩)],[],[0,1,5],[4]⟩
def m9 (s: (List Int×List Int×Int×Unit)×Unit×Unit):tP.R:=
 br (decide (s.1.2.2.1< (s.1.1.length:Int))) (du (0<=s.1.2.2.1) ((s.1.1[s.1.2.2.1.toNat]?).bind fun x4=>du (0<=s.1.2.2.1) ((s.1.2.1[s.1.2.2.1.toNat]?).bind fun x5=>br (!(x4==x5)) (some (.inr (.inl ((false,()),(()),(()))))) (some (.inl ((s.1.1,s.1.2.1,(IntKind.wrap .i64 (s.1.2.2.1+1)),()),(()),(()))))) none) none) (some (.inr (.inr (((),()),(()),(())))))
def AD:=ij m9
def AE:=nk Tryz.f40 [0] tP m9 [] [] (by kernel_rfl) fun s=>by simp only[m9,tm]; kernel_rfl
def lN (a0:List Int) (a1:List Int):Option (Bool×Unit):=
 br (!((a0.length:Int)==(a1.length:Int))) (some (false,())) ((AD ((a0,a1,0,()),(()),(()))).bind fun e6=>Sum.elim (fun e6_0=>some e6_0.1) (fun _=>some (true,())) e6)
def yX:=fm 40 Tryz.f40 [.ty (.ls (.i .i64)), .ty (.ls (.i .i64))] [.b] (fun x=>lN x.1 x.2.1) [] [AE] (by kernel_rfl) fun x=>by simp only[lN,tm]; kernel_rfl
def je (a0:dA) (a1:dA):Option (Bool×Unit):=
 br (!(a0.epoch==a1.epoch)) (some (false,())) (br (!(a0.primary==a1.primary)) (some (false,())) ((lN a0.replicas a1.replicas).bind fun y1=>br (!y1.1) (some (false,())) ((lN a0.witnesses a1.witnesses).bind fun y2=>br (!y2.1) (some (false,())) (some (true,())))))
def tQ:=fm 129 Tryz.f129 [.ty (.st .config), .ty (.st .config)] [.b] (fun x=>je x.1 x.2.1) [yX] [] (by kernel_rfl) fun x=>by simp only[je,tm]; kernel_rfl
def tR (a0:Op) (a1:Op):Option (Bool×Unit):=
 br (!(a0.client==a1.client)) (some (false,())) (br (!(a0.seq==a1.seq)) (some (false,())) (br (!(a0.kind==a1.kind)) (some (false,())) (br (!(a0.object==a1.object)) (some (false,())) (br (!(a0.old==a1.old)) (some (false,())) (br (!(a0.value==a1.value)) (some (false,())) (some (true,())))))))
def Hr:=fm 173 Tryz.f173 [.ty (.st .op), .ty (.st .op)] [.b] (fun x=>tR x.1 x.2.1) [] [] (by kernel_rfl) fun x=>by simp only[tR,tm]; kernel_rfl
def lj (a0:ff) (a1:ff):Option (Bool×Unit):=
 br (!(a0.epoch==a1.epoch)) (some (false,())) ((tR a0.op a1.op).bind fun y1=>br (!y1.1) (some (false,())) (some (true,())))
def CD:=fm 157 Tryz.f157 [.ty (.st .entry), .ty (.st .entry)] [.b] (fun x=>lj x.1 x.2.1) [Hr] [] (by kernel_rfl) fun x=>by simp only[lj,tm]; kernel_rfl
abbrev qh:LX:=⟨⟨[(0, .cl (.ro (.st .entry))),(1, .cl (.ro (.st .entry))),(5, .cl (.int .i64))],[],[],0,27⟩,[(.ret,⟨[(4, .cl (.bl))],[],[],0,27⟩),(.ext 0,⟨[(4, .cl (.dead))],[],[],0,27⟩)],[],[0,1,5],[4]⟩
def kX (s: (List ff×List ff×Int×Unit)×Unit×Unit):qh.R:=
 br (decide (s.1.2.2.1< (s.1.1.length:Int))) (du (0<=s.1.2.2.1) ((s.1.1[s.1.2.2.1.toNat]?).bind fun x4=>du (0<=s.1.2.2.1) ((s.1.2.1[s.1.2.2.1.toNat]?).bind fun x5=>(lj x4 x5).bind fun y6=>br (!y6.1) (some (.inr (.inl ((false,()),(()),(()))))) (some (.inl ((s.1.1,s.1.2.1,(IntKind.wrap .i64 (s.1.2.2.1+1)),()),(()),(()))))) none) none) (some (.inr (.inr (((),()),(()),(())))))
def wS:=ij kX
def wT:=nk Tryz.f130 [0] qh kX [CD] [] (by kernel_rfl) fun s=>by simp only[kX,tm]; kernel_rfl
def jT (a0:List ff) (a1:List ff):Option (Bool×Unit):=
 br (!((a0.length:Int)==(a1.length:Int))) (some (false,())) ((wS ((a0,a1,0,()),(()),(()))).bind fun e7=>Sum.elim (fun e7_0=>some e7_0.1) (fun _=>some (true,())) e7)
def AF:=fm 130 Tryz.f130 [.ty (.ls (.st .entry)), .ty (.ls (.st .entry))] [.b] (fun x=>jT x.1 x.2.1) [] [wT] (by kernel_rfl) fun x=>by simp only[jT,tm]; kernel_rfl
def jU (a0:ek) (a1:ek):Option (Bool×Unit):=
 br (!(a0.up==a1.up)) (some (false,())) (br (!(a0.intact==a1.intact)) (some (false,())) (br (!(a0.version==a1.version)) (some (false,())) (br (!(a0.epoch==a1.epoch)) (some (false,())) ((je a0.config a1.config).bind fun y1=>br (!y1.1) (some (false,())) (br (!(a0.first==a1.first)) (some (false,())) ((jT a0.log a1.log).bind fun y2=>br (!y2.1) (some (false,())) (br (!(a0.commit==a1.commit)) (some (false,())) ((jT a0.learned a1.learned).bind fun y3=>br (!y3.1) (some (false,())) (some (true,()))))))))))
def AG:=fm 82 Tryz.f82 [.ty (.st .server), .ty (.st .server)] [.b] (fun x=>jU x.1 x.2.1) [tQ,AF] [] (by kernel_rfl) fun x=>by simp only[jU,tm]; kernel_rfl
abbrev o3:LX:=⟨⟨[(0, .cl (.ro (.st .server))),(1, .cl (.ro (.st .server))),(5, .cl (.int .i64))],[],[],0,27⟩,[(.ret,⟨[(4, .cl (.bl))],[],[],0,27⟩),(.ext 0,⟨[(4, .cl (.dead))],[],[],0,27⟩)],[],[0,1,5],[4]⟩
def j6 (s: (List ek×List ek×Int×Unit)×Unit×Unit):o3.R:=
 br (decide (s.1.2.2.1< (s.1.1.length:Int))) (du (0<=s.1.2.2.1) ((s.1.1[s.1.2.2.1.toNat]?).bind fun x4=>du (0<=s.1.2.2.1) ((s.1.2.1[s.1.2.2.1.toNat]?).bind fun x5=>(jU x4 x5).bind fun y6=>br (!y6.1) (some (.inr (.inl ((false,()),(()),(()))))) (some (.inl ((s.1.1,s.1.2.1,(IntKind.wrap .i64 (s.1.2.2.1+1)),()),(()),(()))))) none) none) (some (.inr (.inr (((),()),(()),(())))))
def uN:=ij j6
def uO:=nk Tryz.f39 [0] o3 j6 [AG] [] (by kernel_rfl) fun s=>by simp only[j6,tm]; kernel_rfl
def kp (a0:List ek) (a1:List ek):Option (Bool×Unit):=
 br (!((a0.length:Int)==(a1.length:Int))) (some (false,())) ((uN ((a0,a1,0,()),(()),(()))).bind fun e7=>Sum.elim (fun e7_0=>some e7_0.1) (fun _=>some (true,())) e7)
def yY:=fm 39 Tryz.f39 [.ty (.ls (.st .server)), .ty (.ls (.st .server))] [.b] (fun x=>kp x.1 x.2.1) [] [uO] (by kernel_rfl) fun x=>by simp only[kp,tm]; kernel_rfl
abbrev o4:LX:=⟨⟨[(0, .cl (.ro (.st .config))),(1, .cl (.ro (.st .config))),(5, .cl (.int .i64))],[],[],0,27⟩,[(.ret,⟨[(4, .cl (.bl))],[],[],0,27⟩),(.ext 0,⟨[(4, .cl (.dead))],[],[],0,27⟩)],[],[0,1,5],[4]⟩
def j8 (s: (List dA×List dA×Int×Unit)×Unit×Unit):o4.R:=
 br (decide (s.1.2.2.1< (s.1.1.length:Int))) (du (0<=s.1.2.2.1) ((s.1.1[s.1.2.2.1.toNat]?).bind fun x4=>du (0<=s.1.2.2.1) ((s.1.2.1[s.1.2.2.1.toNat]?).bind fun x5=>(je x4 x5).bind fun y6=>br (!y6.1) (some (.inr (.inl ((false,()),(()),(()))))) (some (.inl ((s.1.1,s.1.2.1,(IntKind.wrap .i64 (s.1.2.2.1+1)),()),(()),(()))))) none) none) (some (.inr (.inr (((),()),(()),(())))))
def uP:=ij j8
def uQ:=nk Tryz.f83 [0] o4 j8 [tQ] [] (by kernel_rfl) fun s=>by simp only[j8,tm]; kernel_rfl
def kr (a0:List dA) (a1:List dA):Option (Bool×Unit):=
 br (!((a0.length:Int)==(a1.length:Int))) (some (false,())) ((uP ((a0,a1,0,()),(()),(()))).bind fun e7=>Sum.elim (fun e7_0=>some e7_0.1) (fun _=>some (true,())) e7)
def yZ:=fm 83 Tryz.f83 [.ty (.ls (.st .config)), .ty (.ls (.st .config))] [.b] (fun x=>kr x.1 x.2.1) [] [uQ] (by kernel_rfl) fun x=>by simp only[kr,tm]; kernel_rfl
def i5 (a0:dT) (a1:dT):Option (Bool×Unit):=
 (kr a0.configs a1.configs).bind fun y1=>br (!y1.1) (some (false,())) (br (!(a0.activated==a1.activated)) (some (false,())) (some (true,())))
def uR:=fm 41 Tryz.f41 [.ty (.st .masterLog), .ty (.st .masterLog)] [.b] (fun x=>i5 x.1 x.2.1) [yZ] [] (by kernel_rfl) fun x=>by simp only[i5,tm]; kernel_rfl
def mL (a0:mu) (a1:mu):Option (Bool×Unit):=
 br (!(a0.epoch==a1.epoch)) (some (false,())) (br (!(a0.holder==a1.holder)) (some (false,())) (br (!(a0.ends==a1.ends)) (some (false,())) (some (true,()))))
def CE:=fm 42 Tryz.f42 [.ty (.st .lease), .ty (.st .lease)] [.b] (fun x=>mL x.1 x.2.1) [] [] (by kernel_rfl) fun x=>by simp only[mL,tm]; kernel_rfl
def ll (a0:fA) (a1:fA):Option (Bool×Unit):=
 br (!(a0.rack==a1.rack)) (some (false,())) (br (!(a0.capacity==a1.capacity)) (some (false,())) (br (!(a0.load==a1.load)) (some (false,())) (some (true,()))))
def CF:=fm 84 Tryz.f84 [.ty (.st .place), .ty (.st .place)] [.b] (fun x=>ll x.1 x.2.1) [] [] (by kernel_rfl) fun x=>by simp only[ll,tm]; kernel_rfl
abbrev qi:LX:=⟨⟨[(0, .cl (.ro (.st .place))),(1, .cl (.ro (.st .place))),(5, .cl (.int .i64))],[],[],0,27⟩,[(.ret,⟨[(4, .cl (.bl))],[],[],0,27⟩),(.ext 0,⟨[(4, .cl (.dead))],[],[],0,27⟩)],[],[0,1,5],[4]⟩
def kY (s: (List fA×List fA×Int×Unit)×Unit×Unit):qi.R:=
 br (decide (s.1.2.2.1< (s.1.1.length:Int))) (du (0<=s.1.2.2.1) ((s.1.1[s.1.2.2.1.toNat]?).bind fun x4=>du (0<=s.1.2.2.1) ((s.1.2.1[s.1.2.2.1.toNat]?).bind fun x5=>(ll x4 x5).bind fun y6=>br (!y6.1) (some (.inr (.inl ((false,()),(()),(()))))) (some (.inl ((s.1.1,s.1.2.1,(IntKind.wrap .i64 (s.1.2.2.1+1)),()),(()),(()))))) none) none) (some (.inr (.inr (((),()),(()),(())))))
def wU:=ij kY
def wV:=nk Tryz.f43 [0] qi kY [CF] [] (by kernel_rfl) fun s=>by simp only[kY,tm]; kernel_rfl
def lO (a0:List fA) (a1:List fA):Option (Bool×Unit):=
 br (!((a0.length:Int)==(a1.length:Int))) (some (false,())) ((wU ((a0,a1,0,()),(()),(()))).bind fun e7=>Sum.elim (fun e7_0=>some e7_0.1) (fun _=>some (true,())) e7)
def AH:=fm 43 Tryz.f43 [.ty (.ls (.st .place)), .ty (.ls (.st .place))] [.b] (fun x=>lO x.1 x.2.1) [] [wV] (by kernel_rfl) fun x=>by simp only[lO,tm]; kernel_rfl
def kt (a0:ev) (a1:ev):Option (Bool×Unit):=
 br (!(a0.now==a1.now)) (some (false,())) ((kp a0.servers a1.servers).bind fun y1=>br (!y1.1) (some (false,())) ((lN a0.sides a1.sides).bind fun y2=>br (!y2.1) (some (false,())) ((i5 a0.master a1.master).bind fun y3=>br (!y3.1) (some (false,())) (br (!(a0.masterUp==a1.masterUp)) (some (false,())) ((mL a0.lease a1.lease).bind fun y4=>br (!y4.1) (some (false,())) ((lO a0.places a1.places).bind fun y5=>br (!y5.1) (some (false,())) (some (true,()))))))))
def za:=fm 10 Tryz.f10 [.ty (.st .cluster), .ty (.st .cluster)] [.b] (fun x=>kt x.1 x.2.1) [yY,yX,uR,CE,AH] [] (by kernel_rfl) fun x=>by simp only[kt,tm]; kernel_rfl
def gm (a0:ev) (a1:Int):Option (Bool×Unit):=
 (gF a0 1048576).bind fun y1=>br (decide (y1.1<0)) (some (true,())) ((iw a0).bind fun y2=>(fS y2.1 a1).bind fun y3=>(iw a0).bind fun y4=>(fY y4.1 a1).bind fun y5=>br (!(Hy y5.1 y3.1)) (some (false,())) ((iw a0).bind fun y6=>(kt y4.1 y6.1).bind fun y7=>br (!y7.1) (some (false,())) (some (true,()))))
def oG:=fm 3 Tryz.f3 [.ty (.st .cluster), .ty (.i .i64)] [.b] (fun x=>gm x.1 x.2.1) [yI,yM,wI,wR,za] [] (by kernel_rfl) fun x=>by simp only[gm,tm]; kernel_rfl
end
end Go.Proofs.YtadpelkpdaohnaaGreatDoor.En
