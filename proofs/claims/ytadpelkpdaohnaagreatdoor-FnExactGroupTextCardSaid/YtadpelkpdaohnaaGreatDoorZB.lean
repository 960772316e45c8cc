/- Printed by a program: the walk. -/
import Derived.Test.YtadpelkpdaohnaaGreatDoorZTh
import Derived.Shelf.Strconv.Itoa3
import Derived.Shelf.Strings.OnBuilder
namespace Go.Proofs.YtadpelkpdaohnaaGreatDoor.En
open Go
noncomputable section
def Lj:ByteArray:=⟨⟨[0,1,2,2,3,3,3,3,4,4,4,4,4,4,4,4,5,5,5,5,5,5,5,5,5,5,5,5,5,5,5,5,6,6,6,6,6,6,6,6,6,6,6,6,6,6,6,6,6,6,6,6,6,6,6,6,6,6,6,6,6,6,6,6,7,7,7,7,7,7,7,7,7,7,7,7,7,7,7,7,7,7,7,7,7,7,7,7,7,7,7,7,7,7,7,7,7,7,7,7,7,7,7,7,7,7,7,7,7,7,7,7,7,7,7,7,7,7,7,7,7,7,7,7,7,7,7,7,8,8,8,8,8,8,8,8,8,8,8,8,8,8,8,8,8,8,8,8,8,8,8,8,8,8,8,8,8,8,8,8,8,8,8,8,8,8,8,8,8,8,8,8,8,8,8,8,8,8,8,8,8,8,8,8,8,8,8,8,8,8,8,8,8,8,8,8,8,8,8,8,8,8,8,8,8,8,8,8,8,8,8,8,8,8,8,8,8,8,8,8,8,8,8,8,8,8,8,8,8,8,8,8,8,8,8,8,8,8,8,8,8,8,8,8,8,8,8,8,8,8,8,8,8,8,8,8]⟩⟩
theorem mH:Tryz.prog.follows .mixedOrders=true:=by kernel_rfl
abbrev nh:= @Li _ _ Em mH
abbrev fm:= @Lc _ _ Em mH
abbrev Le:= @KU _ _ Em mH
abbrev K5:= @KV _ _ Em mH
abbrev Lk:= @KX _ _ Em mH
def mJ (a0:List Int) (a1:Int):Option (Int×Unit):=
 br (decide ((IntKind.wrap .i64 (a1-(a0.length:Int)))<0)) (some ((-1),())) (some ((IntKind.wrap .i64 (a1-(a0.length:Int))),()))
def AU:=fm 20 Tryz.f20 [.ty (.ls (.i .i64)), .ty (.i .i64)] [.i .i64] (fun x=>mJ x.1 x.2.1) [] [] (by kernel_rfl) fun x=>by simp only[mJ,tm]; kernel_rfl
def gZ (a0:dM) (a1:Int):Option (Int×Unit):=
 (mJ a0.replicas a1).bind fun y1=>br (decide (y1.1<0)) (some ((-1),())) ((mJ a0.witnesses y1.1).bind fun y2=>br (decide (y2.1<0)) (some ((-1),())) (some (y2.1,())))
def vq:=fm 117 Tryz.f117 [.ty (.st .config), .ty (.i .i64)] [.i .i64] (fun x=>gZ x.1 x.2.1) [AU] [] (by kernel_rfl) fun x=>by simp only[gZ,tm]; kernel_rfl
def kT (a0:List fO) (a1:Int):Option (Int×Unit):=
 br (decide ((IntKind.wrap .i64 (a1-(a0.length:Int)))<0)) (some ((-1),())) (some ((IntKind.wrap .i64 (a1-(a0.length:Int))),()))
def Cp:=fm 118 Tryz.f118 [.ty (.ls (.st .entry)), .ty (.i .i64)] [.i .i64] (fun x=>kT x.1 x.2.1) [] [] (by kernel_rfl) fun x=>by simp only[kT,tm]; kernel_rfl
def iJ (a0:eL) (a1:Int):Option (Int×Unit):=
 (gZ a0.config a1).bind fun y1=>br (decide (y1.1<0)) (some ((-1),())) ((kT a0.log y1.1).bind fun y2=>br (decide (y2.1<0)) (some ((-1),())) ((kT a0.learned y2.1).bind fun y3=>br (decide (y3.1<0)) (some ((-1),())) (some (y3.1,()))))
def Cq:=fm 67 Tryz.f67 [.ty (.st .server), .ty (.i .i64)] [.i .i64] (fun x=>iJ x.1 x.2.1) [vq,Cp] [] (by kernel_rfl) fun x=>by simp only[iJ,tm]; kernel_rfl
abbrev qs:LX:=⟨⟨[(0, .cl (.ro (.st .server))),(1, .cl (.int .i64)),(5, .cl (.int .i64))],[],[],0,27⟩,[(.ret,⟨[(1, .cl (.int .i64)),(4, .cl (.int .i64))],[],[],0,27⟩),(.ext 0,⟨[(1, .cl (.int .i64)),(4, .cl (.dead))],[],[],0,27⟩)],[],[0,1,5],[1,4]⟩
def jP (s: (List eL×Int×Int×Unit)×Unit×Unit):qs.R:=
 br (decide (s.1.2.2.1< (s.1.1.length:Int))) (dJ (0<=s.1.2.2.1) ((s.1.1[s.1.2.2.1.toNat]?).bind fun x4=>(iJ x4 s.1.2.1).bind fun y5=>br (decide (y5.1<0)) (some (.inr (.inl ((y5.1,(-1),()),(()),(()))))) (some (.inl ((s.1.1,y5.1,(IntKind.wrap .i64 (s.1.2.2.1+1)),()),(()),(()))))) none) (some (.inr (.inr ((s.1.2.1,(),()),(()),(())))))
def wz:=hZ jP
def wA:=nh Tryz.f19 [0] qs jP [Cq] [] (by kernel_rfl) fun s=>by simp only[jP,tm]; kernel_rfl
def lq (a0:List eL) (a1:Int):Option (Int×Unit):=
 br (decide ((IntKind.wrap .i64 (a1-(a0.length:Int)))<0)) (some ((-1),())) ((wz ((a0,(IntKind.wrap .i64 (a1-(a0.length:Int))),0,()),(()),(()))).bind fun e6=>Sum.elim (fun e6_0=>some e6_0.1.2) (fun e6_1=>some (e6_1.1.1,())) e6)
def AW:=fm 19 Tryz.f19 [.ty (.ls (.st .server)), .ty (.i .i64)] [.i .i64] (fun x=>lq x.1 x.2.1) [] [wA] (by kernel_rfl) fun x=>by simp only[lq,tm]; kernel_rfl
abbrev qt:LX:=⟨⟨[(0, .cl (.ro (.st .config))),(1, .cl (.int .i64)),(5, .cl (.int .i64))],[],[],0,27⟩,[(.ret,⟨[(1, .cl (.int .i64)),(4, .cl (.int .i64))],[],[],0,27⟩),(.ext 0,⟨[(1, .cl (.int .i64)),(4, .cl (.dead))],[],[],0,27⟩)],[],[0,1,5],[1,4]⟩
def jQ (s: (List dM×Int×Int×Unit)×Unit×Unit):qt.R:=
 br (decide (s.1.2.2.1< (s.1.1.length:Int))) (dJ (0<=s.1.2.2.1) ((s.1.1[s.1.2.2.1.toNat]?).bind fun x4=>(gZ x4 s.1.2.1).bind fun y5=>br (decide (y5.1<0)) (some (.inr (.inl ((y5.1,(-1),()),(()),(()))))) (some (.inl ((s.1.1,y5.1,(IntKind.wrap .i64 (s.1.2.2.1+1)),()),(()),(()))))) none) (some (.inr (.inr ((s.1.2.1,(),()),(()),(())))))
def wB:=hZ jQ
def wC:=nh Tryz.f68 [0] qt jQ [vq] [] (by kernel_rfl) fun s=>by simp only[jQ,tm]; kernel_rfl
def lr (a0:List dM) (a1:Int):Option (Int×Unit):=
 br (decide ((IntKind.wrap .i64 (a1-(a0.length:Int)))<0)) (some ((-1),())) ((wB ((a0,(IntKind.wrap .i64 (a1-(a0.length:Int))),0,()),(()),(()))).bind fun e6=>Sum.elim (fun e6_0=>some e6_0.1.2) (fun e6_1=>some (e6_1.1.1,())) e6)
def AX:=fm 68 Tryz.f68 [.ty (.ls (.st .config)), .ty (.i .i64)] [.i .i64] (fun x=>lr x.1 x.2.1) [] [wC] (by kernel_rfl) fun x=>by simp only[lr,tm]; kernel_rfl
def hO (a0:ec) (a1:Int):Option (Int×Unit):=
 (lr a0.configs a1).bind fun y1=>br (decide (y1.1<0)) (some ((-1),())) (some (y1.1,()))
def wD:=fm 21 Tryz.f21 [.ty (.st .masterLog), .ty (.i .i64)] [.i .i64] (fun x=>hO x.1 x.2.1) [AX] [] (by kernel_rfl) fun x=>by simp only[hO,tm]; kernel_rfl
def mL (a0:List fZ) (a1:Int):Option (Int×Unit):=
 br (decide ((IntKind.wrap .i64 (a1-(a0.length:Int)))<0)) (some ((-1),())) (some ((IntKind.wrap .i64 (a1-(a0.length:Int))),()))
def Cr:=fm 22 Tryz.f22 [.ty (.ls (.st .place)), .ty (.i .i64)] [.i .i64] (fun x=>mL x.1 x.2.1) [] [] (by kernel_rfl) fun x=>by simp only[mL,tm]; kernel_rfl
def iB (a0:dX) (a1:Int):Option (Int×Unit):=
 (lq a0.servers a1).bind fun y1=>br (decide (y1.1<0)) (some ((-1),())) ((mJ a0.sides y1.1).bind fun y2=>br (decide (y2.1<0)) (some ((-1),())) ((hO a0.master y2.1).bind fun y3=>br (decide (y3.1<0)) (some ((-1),())) ((mL a0.places y3.1).bind fun y4=>br (decide (y4.1<0)) (some ((-1),())) (some (y4.1,())))))
def AY:=fm 6 Tryz.f6 [.ty (.st .cluster), .ty (.i .i64)] [.i .i64] (fun x=>iB x.1 x.2.1) [AW,AU,wD,Cr] [] (by kernel_rfl) fun x=>by simp only[iB,tm]; kernel_rfl
abbrev vr:LX:=⟨⟨[(0, .cl (.ro (.i .i64))),(3, .cl (.own 0 (.i .i64))),(4, .cl (.int .i64))],[],[.i .i64],0,22⟩,[(.ext 0,⟨[(3, .cl (.own 0 (.i .i64)))],[],[.i .i64],0,22⟩)],[],[0,3,4],[3]⟩
def oH (s: (List Int×Unit×Int×Unit)×Unit×List Int×Unit):vr.R:=
 br (decide (s.1.2.2.1< (s.1.1.length:Int))) (dJ (0<=s.1.2.2.1) ((s.1.1[s.1.2.2.1.toNat]?).bind fun x4=>dJ (0<=s.1.2.2.1/\s.1.2.2.1< (s.2.2.1.length:Int)) ((s.2.2.1[s.1.2.2.1.toNat]?).bind fun _=>some (.inl ((s.1.1,(),(IntKind.wrap .i64 (s.1.2.2.1+1)),()),(()),(s.2.2.1.set s.1.2.2.1.toNat x4),()))) none) none) (some (.inr (((),()),(()),s.2.2)))
def Ct:=hZ oH
def Cu:=nh Tryz.f29 [0] vr oH [] [] (by kernel_rfl) fun s=>by simp only[oH,tm]; kernel_rfl
def mM (a0:List Int):Option ((List Int)×Unit):=
 dJ (0<=(a0.length:Int)/\(a0.length:Int)=(a0.length:Int)/\(a0.length:Int)*((8:Nat):Int)<=2 ^ 40) ((Ct ((a0,(),0,()),(()),(List.replicate (a0.length:Int).toNat (0:Int)),())).bind fun e7=>some e7.2.2) none
def AZ:=fm 29 Tryz.f29 [.ty (.ls (.i .i64))] [.ls (.i .i64)] (fun x=>mM x.1) [] [Cu] (by kernel_rfl) fun x=>by simp only[mM,tm,-eq_self]; kernel_rfl
def kb (a0:dM):Option (dM×Unit):=
 (mM a0.replicas).bind fun y1=>(mM a0.witnesses).bind fun y2=>some ((⟨a0.epoch,a0.primary,y1.1,y2.1⟩:dM),())
def vt:=fm 121 Tryz.f121 [.ty (.st .config)] [.st .config] (fun x=>kb x.1) [AZ] [] (by kernel_rfl) fun x=>by simp only[kb,tm]; kernel_rfl
def Cv (a0:Op):Option (Op×Unit):=
 some (a0,())
def Jw:=fm 165 Tryz.f165 [.ty (.st .op)] [.st .op] (fun x=>Cv x.1) [] [] (by kernel_rfl) fun x=>by simp only[Cv,tm]; kernel_rfl
def p8 (a0:fO):Option (fO×Unit):=
 (Cv a0.op).bind fun y1=>some ((⟨a0.epoch,y1.1⟩:fO),())
def Eo:=fm 151 Tryz.f151 [.ty (.st .entry)] [.st .entry] (fun x=>p8 x.1) [Jw] [] (by kernel_rfl) fun x=>by simp only[p8,tm]; kernel_rfl
abbrev rM:LX:=⟨⟨[(0, .cl (.ro (.st .entry))),(3, .cl (.own 0 (.st .entry))),(4, .cl (.int .i64))],[],[.st .entry],0,23⟩,[(.ext 0,⟨[(3, .cl (.own 0 (.st .entry)))],[],[.st .entry],0,23⟩)],[],[0,3,4],[3]⟩
def l8 (s: (List fO×Unit×Int×Unit)×Unit×List fO×Unit):rM.R:=
 br (decide (s.1.2.2.1< (s.1.1.length:Int))) (dJ (0<=s.1.2.2.1) ((s.1.1[s.1.2.2.1.toNat]?).bind fun x4=>(p8 x4).bind fun y5=>dJ (0<=s.1.2.2.1/\s.1.2.2.1< (s.2.2.1.length:Int)) ((s.2.2.1[s.1.2.2.1.toNat]?).bind fun _=>some (.inl ((s.1.1,(),(IntKind.wrap .i64 (s.1.2.2.1+1)),()),(()),(s.2.2.1.set s.1.2.2.1.toNat y5.1),()))) none) none) (some (.inr (((),()),(()),s.2.2)))
def yJ:=hZ l8
def yK:=nh Tryz.f122 [0] rM l8 [Eo] [] (by kernel_rfl) fun s=>by simp only[l8,tm]; kernel_rfl
def kU (a0:List fO):Option ((List fO)×Unit):=
 dJ (0<=(a0.length:Int)/\(a0.length:Int)=(a0.length:Int)/\(a0.length:Int)*((56:Nat):Int)<=2 ^ 40) ((yJ ((a0,(),0,()),(()),(List.replicate (a0.length:Int).toNat (⟨0,(⟨0,0,0,0,0,0⟩:Op)⟩:fO)),())).bind fun e8=>some e8.2.2) none
def Cw:=fm 122 Tryz.f122 [.ty (.ls (.st .entry))] [.ls (.st .entry)] (fun x=>kU x.1) [] [yK] (by kernel_rfl) fun x=>by simp only[kU,tm,-eq_self]; kernel_rfl
def kV (a0:eL):Option (eL×Unit):=
 (kb a0.config).bind fun y1=>(kU a0.log).bind fun y2=>(kU a0.learned).bind fun y3=>some ((⟨a0.up,a0.intact,a0.version,a0.epoch,y1.1,a0.first,y2.1,a0.commit,y3.1⟩:eL),())
def Cx:=fm 72 Tryz.f72 [.ty (.st .server)] [.st .server] (fun x=>kV x.1) [vt,Cw] [] (by kernel_rfl) fun x=>by simp only[kV,tm]; kernel_rfl
abbrev qu:LX:=⟨⟨[(0, .cl (.ro (.st .server))),(3, .cl (.own 0 (.st .server))),(4, .cl (.int .i64))],[],[.st .server],0,23⟩,[(.ext 0,⟨[(3, .cl (.own 0 (.st .server)))],[],[.st .server],0,23⟩)],[],[0,3,4],[3]⟩
def ld (s: (List eL×Unit×Int×Unit)×Unit×List eL×Unit):qu.R:=
 br (decide (s.1.2.2.1< (s.1.1.length:Int))) (dJ (0<=s.1.2.2.1) ((s.1.1[s.1.2.2.1.toNat]?).bind fun x4=>(kV x4).bind fun y5=>dJ (0<=s.1.2.2.1/\s.1.2.2.1< (s.2.2.1.length:Int)) ((s.2.2.1[s.1.2.2.1.toNat]?).bind fun _=>some (.inl ((s.1.1,(),(IntKind.wrap .i64 (s.1.2.2.1+1)),()),(()),(s.2.2.1.set s.1.2.2.1.toNat y5.1),()))) none) none) (some (.inr (((),()),(()),s.2.2)))
def wE:=hZ ld
def wF:=nh Tryz.f28 [0] qu ld [Cx] [] (by kernel_rfl) fun s=>by simp only[ld,tm]; kernel_rfl
def lu (a0:List eL):Option ((List eL)×Unit):=
 dJ (0<=(a0.length:Int)/\(a0.length:Int)=(a0.length:Int)/\(a0.length:Int)*((152:Nat):Int)<=2 ^ 40) ((wE ((a0,(),0,()),(()),(List.replicate (a0.length:Int).toNat (⟨false,false,0,0,(⟨0,0,([]:List Int),([]:List Int)⟩:dM),0,([]:List fO),0,([]:List fO)⟩:eL)),())).bind fun e8=>some e8.2.2) none
def A0:=fm 28 Tryz.f28 [.ty (.ls (.st .server))] [.ls (.st .server)] (fun x=>lu x.1) [] [wF] (by kernel_rfl) fun x=>by simp only[lu,tm,-eq_self]; kernel_rfl
abbrev qv:LX:=⟨⟨[(0, .cl (.ro (.st .config))),(3, .cl (.own 0 (.st .config))),(4, .cl (.int .i64))],[],[.st .config],0,23⟩,[(.ext 0,⟨[(3, .cl (.own 0 (.st .config)))],[],[.st .config],0,23⟩)],[],[0,3,4],[3]⟩
def lf (s: (List dM×Unit×Int×Unit)×Unit×List dM×Unit):qv.R:=
 br (decide (s.1.2.2.1< (s.1.1.length:Int))) (dJ (0<=s.1.2.2.1) ((s.1.1[s.1.2.2.1.toNat]?).bind fun x4=>(kb x4).bind fun y5=>dJ (0<=s.1.2.2.1/\s.1.2.2.1< (s.2.2.1.length:Int)) ((s.2.2.1[s.1.2.2.1.toNat]?).bind fun _=>some (.inl ((s.1.1,(),(IntKind.wrap .i64 (s.1.2.2.1+1)),()),(()),(s.2.2.1.set s.1.2.2.1.toNat y5.1),()))) none) none) (some (.inr (((),()),(()),s.2.2)))
def wG:=hZ lf
def wH:=nh Tryz.f73 [0] qv lf [vt] [] (by kernel_rfl) fun s=>by simp only[lf,tm]; kernel_rfl
def lw (a0:List dM):Option ((List dM)×Unit):=
 dJ (0<=(a0.length:Int)/\(a0.length:Int)=(a0.length:Int)/\(a0.length:Int)*((64:Nat):Int)<=2 ^ 40) ((wG ((a0,(),0,()),(()),(List.replicate (a0.length:Int).toNat (⟨0,0,([]:List Int),([]:List Int)⟩:dM)),())).bind fun e8=>some e8.2.2) none
def A1:=fm 73 Tryz.f73 [.ty (.ls (.st .config))] [.ls (.st .config)] (fun x=>lw x.1) [] [wH] (by kernel_rfl) fun x=>by simp only[lw,tm,-eq_self]; kernel_rfl
def jR (a0:ec):Option (ec×Unit):=
 (lw a0.configs).bind fun y1=>some ((⟨y1.1,a0.activated⟩:ec),())
def wI:=fm 30 Tryz.f30 [.ty (.st .masterLog)] [.st .masterLog] (fun x=>jR x.1) [A1] [] (by kernel_rfl) fun x=>by simp only[jR,tm]; kernel_rfl
def p9 (a0:mF):Option (mF×Unit):=
 some (a0,())
def Ep:=fm 31 Tryz.f31 [.ty (.st .lease)] [.st .lease] (fun x=>p9 x.1) [] [] (by kernel_rfl) fun x=>by simp only[p9,tm]; kernel_rfl
def qa (a0:fZ):Option (fZ×Unit):=
 some (a0,())
def Er:=fm 74 Tryz.f74 [.ty (.st .place)] [.st .place] (fun x=>qa x.1) [] [] (by kernel_rfl) fun x=>by simp only[qa,tm]; kernel_rfl
abbrev rN:LX:=⟨⟨[(0, .cl (.ro (.st .place))),(3, .cl (.own 0 (.st .place))),(4, .cl (.int .i64))],[],[.st .place],0,23⟩,[(.ext 0,⟨[(3, .cl (.own 0 (.st .place)))],[],[.st .place],0,23⟩)],[],[0,3,4],[3]⟩
def l9 (s: (List fZ×Unit×Int×Unit)×Unit×List fZ×Unit):rN.R:=
 br (decide (s.1.2.2.1< (s.1.1.length:Int))) (dJ (0<=s.1.2.2.1) ((s.1.1[s.1.2.2.1.toNat]?).bind fun x4=>(qa x4).bind fun y5=>dJ (0<=s.1.2.2.1/\s.1.2.2.1< (s.2.2.1.length:Int)) ((s.2.2.1[s.1.2.2.1.toNat]?).bind fun _=>some (.inl ((s.1.1,(),(IntKind.wrap .i64 (s.1.2.2.1+1)),()),(()),(s.2.2.1.set s.1.2.2.1.toNat y5.1),()))) none) none) (some (.inr (((),()),(()),s.2.2)))
def yL:=hZ l9
def yM:=nh Tryz.f32 [0] rN l9 [Er] [] (by kernel_rfl) fun s=>by simp only[l9,tm]; kernel_rfl
def mN (a0:List fZ):Option ((List fZ)×Unit):=
 dJ (0<=(a0.length:Int)/\(a0.length:Int)=(a0.length:Int)/\(a0.length:Int)*((24:Nat):Int)<=2 ^ 40) ((yL ((a0,(),0,()),(()),(List.replicate (a0.length:Int).toNat (⟨0,0,0⟩:fZ)),())).bind fun e8=>some e8.2.2) none
def Cy:=fm 32 Tryz.f32 [.ty (.ls (.st .place))] [.ls (.st .place)] (fun x=>mN x.1) [] [yM] (by kernel_rfl) fun x=>by simp only[mN,tm,-eq_self]; kernel_rfl
def jl (a0:dX):Option (dX×Unit):=
 (lu a0.servers).bind fun y1=>(mM a0.sides).bind fun y2=>(jR a0.master).bind fun y3=>(p9 a0.lease).bind fun y4=>(mN a0.places).bind fun y5=>some ((⟨a0.now,y1.1,y2.1,y3.1,a0.masterUp,y4.1,y5.1⟩:dX),())
def A2:=fm 8 Tryz.f8 [.ty (.st .cluster)] [.st .cluster] (fun x=>jl x.1) [A0,AZ,wI,Ep,Cy] [] (by kernel_rfl) fun x=>by simp only[jl,tm]; kernel_rfl
def fo (a0:Int) (a1:Int) (a2:Int):Option (Bool×Unit):=
 br (decide (a0≥a1)) (some ((decide (a0<=a2)),())) (some (false,()))
def lP:=fm 69 Tryz.f69 [.ty (.i .i64), .ty (.i .i64), .ty (.i .i64)] [.b] (fun x=>fo x.1 x.2.1 x.2.2.1) [] [] (by kernel_rfl) fun x=>by simp only[fo,tm]; kernel_rfl
abbrev rO:LX:=⟨⟨[(0, .cl (.ro (.i .i64))),(3, .cl (.int .i64))],[],[],0,19⟩,[(.ret,⟨[(0, .cl (.ro (.i .i64))),(2, .cl (.bl))],[],[],0,19⟩),(.ext 0,⟨[(0, .cl (.ro (.i .i64))),(2, .cl (.dead))],[],[],0,19⟩)],[],[0,3],[0,2]⟩
def jB (s: (List Int×Int×Unit)×Unit×Unit):rO.R:=
 br (decide (s.1.2.1< (s.1.1.length:Int))) (dJ (0<=s.1.2.1) ((s.1.1[s.1.2.1.toNat]?).bind fun x3=>(fo x3 0 3).bind fun y4=>br (!y4.1) (some (.inr (.inl ((s.1.1,false,()),(()),(()))))) (some (.inl ((s.1.1,(IntKind.wrap .i64 (s.1.2.1+1)),()),(()),(()))))) none) (some (.inr (.inr ((s.1.1,(),()),(()),(())))))
def oI:=hZ jB
def yN:=nh Tryz.f85 [0] rO jB [lP] [] (by kernel_rfl) fun s=>by simp only[jB,tm]; kernel_rfl
def jm (a0:List Int):Option (Bool×Unit):=
 (oI ((a0,0,()),(()),(()))).bind fun e5=>Sum.elim (fun e5_0=>some e5_0.1.2) (fun e5_1=>some (((e5_1.1.1.length:Int)==5),())) e5
def vu:=fm 85 Tryz.f85 [.ty (.ls (.i .i64))] [.b] (fun x=>jm x.1) [] [yN] (by kernel_rfl) fun x=>by simp only[jm,tm]; kernel_rfl
abbrev pz:LX:=⟨⟨[(0, .cl (.ro (.i .i64))),(3, .cl (.int .i64))],[],[],0,32⟩,[(.ret,⟨[(2, .cl (.bl))],[],[],0,32⟩),(.ext 0,⟨[(2, .cl (.dead))],[],[],0,32⟩)],[],[0,3],[2]⟩
def il (s: (List Int×Int×Unit)×Unit×Unit):pz.R:=
 br (decide (s.1.2.1< (s.1.1.length:Int))) (dJ (0<=s.1.2.1) ((s.1.1[s.1.2.1.toNat]?).bind fun x3=>(fo x3 0 4).bind fun y4=>br (!y4.1) (some (.inr (.inl ((false,()),(()),(()))))) (br (decide (s.1.2.1>0)) (dJ (0<=(IntKind.wrap .i64 (s.1.2.1-1))) ((s.1.1[(IntKind.wrap .i64 (s.1.2.1-1)).toNat]?).bind fun x5=>dJ (0<=s.1.2.1) ((s.1.1[s.1.2.1.toNat]?).bind fun x6=>br (decide (x5≥x6)) (some (.inr (.inl ((false,()),(()),(()))))) (some (.inl ((s.1.1,(IntKind.wrap .i64 (s.1.2.1+1)),()),(()),(()))))) none) none) (some (.inl ((s.1.1,(IntKind.wrap .i64 (s.1.2.1+1)),()),(()),(())))))) none) (some (.inr (.inr (((),()),(()),(())))))
def mO:=hZ il
def vv:=nh Tryz.f119 [0] pz il [lP] [] (by kernel_rfl) fun s=>by simp only[il,tm]; kernel_rfl
def gP (a0:List Int):Option (Bool×Unit):=
 (mO ((a0,0,()),(()),(()))).bind fun e7=>Sum.elim (fun e7_0=>some e7_0.1) (fun _=>some (true,())) e7
def rP:=fm 119 Tryz.f119 [.ty (.ls (.i .i64))] [.b] (fun x=>gP x.1) [] [vv] (by kernel_rfl) fun x=>by simp only[gP,tm]; kernel_rfl
abbrev qw:LX:=⟨⟨[(0, .cl (.ro (.i .i64))),(1, .cl (.int .i64)),(5, .cl (.int .i64))],[],[],0,18⟩,[(.ret,⟨[(4, .cl (.bl))],[],[],0,18⟩),(.ext 0,⟨[(4, .cl (.dead))],[],[],0,18⟩)],[],[0,1,5],[4]⟩
def iX (s: (List Int×Int×Int×Unit)×Unit×Unit):qw.R:=
 br (decide (s.1.2.2.1< (s.1.1.length:Int))) (dJ (0<=s.1.2.2.1) ((s.1.1[s.1.2.2.1.toNat]?).bind fun x4=>br (x4==s.1.2.1) (some (.inr (.inl ((true,()),(()),(()))))) (some (.inl ((s.1.1,s.1.2.1,(IntKind.wrap .i64 (s.1.2.2.1+1)),()),(()),(()))))) none) (some (.inr (.inr (((),()),(()),(())))))
def nM:=hZ iX
def wJ:=nh Tryz.f71 [0] qw iX [] [] (by kernel_rfl) fun s=>by simp only[iX,tm]; kernel_rfl
def iC (a0:List Int) (a1:Int):Option (Bool×Unit):=
 (nM ((a0,a1,0,()),(()),(()))).bind fun e5=>Sum.elim (fun e5_0=>some e5_0.1) (fun _=>some (false,())) e5
def pA:=fm 71 Tryz.f71 [.ty (.ls (.i .i64)), .ty (.i .i64)] [.b] (fun x=>iC x.1 x.2.1) [] [wJ] (by kernel_rfl) fun x=>by simp only[iC,tm]; kernel_rfl
abbrev xB:LX:=⟨⟨[(0, .cl (.ro (.i .i64))),(1, .cl (.int .i64)),(5, .cl (.int .i64))],[],[],0,47⟩,[(.ext 0,⟨[(0, .cl (.ro (.i .i64))),(1, .cl (.int .i64)),(5, .cl (.int .i64))],[],[],0,47⟩)],[],[0,1,5],[0,1,5]⟩
def jC (s: (List Int×Int×Int×Unit)×Unit×Unit):xB.R:=
 br (decide (s.1.2.2.1< (s.1.1.length:Int))) (dJ (0<=s.1.2.2.1) ((s.1.1[s.1.2.2.1.toNat]?).bind fun x4=>br (decide (x4<s.1.2.1)) (some (.inl ((s.1.1,s.1.2.1,(IntKind.wrap .i64 (s.1.2.2.1+1)),()),(()),(())))) (some (.inr (s.1,(()),(()))))) none) (some (.inr (s.1,(()),(()))))
def sR:=hZ jC
def Es:=nh Tryz.f150 [0] xB jC [] [] (by kernel_rfl) fun s=>by simp only[jC,tm]; kernel_rfl
def lg (a0:List Int) (a1:Int):Option ((List Int)×Unit):=
 (sR ((a0,a1,0,()),(()),(()))).bind fun e5=>let j7:Option ((List Int)×Unit):=dJ (0<=(0:Int)/\(0:Int)<=e5.1.2.2.1/\e5.1.2.2.1<=(e5.1.1.length:Int)) (dJ ((([]:List Int)++((e5.1.1.drop (0:Int).toNat).take (e5.1.2.2.1.toNat-(0:Int).toNat))).length*8<=2 ^ 40) (dJ (((([]:List Int)++((e5.1.1.drop (0:Int).toNat).take (e5.1.2.2.1.toNat-(0:Int).toNat)))++([e5.1.2.1]:List Int)).length*8<=2 ^ 40) (dJ (0<=e5.1.2.2.1/\e5.1.2.2.1<=(e5.1.1.length:Int)/\(e5.1.1.length:Int)<=(e5.1.1.length:Int)) (dJ ((((([]:List Int)++((e5.1.1.drop (0:Int).toNat).take (e5.1.2.2.1.toNat-(0:Int).toNat)))++([e5.1.2.1]:List Int))++((e5.1.1.drop e5.1.2.2.1.toNat).take ((e5.1.1.length:Int).toNat-e5.1.2.2.1.toNat))).length*8<=2 ^ 40) (some ((((([]:List Int)++((e5.1.1.drop (0:Int).toNat).take (e5.1.2.2.1.toNat-(0:Int).toNat)))++([e5.1.2.1]:List Int))++((e5.1.1.drop e5.1.2.2.1.toNat).take ((e5.1.1.length:Int).toNat-e5.1.2.2.1.toNat))),())) none) none) none) none) none; br (decide (e5.1.2.2.1< (e5.1.1.length:Int))) (dJ (0<=e5.1.2.2.1) ((e5.1.1[e5.1.2.2.1.toNat]?).bind fun x6=>br (x6==e5.1.2.1) (dJ ((([]:List Int)++e5.1.1).length*8<=2 ^ 40) (some ((([]:List Int)++e5.1.1),())) none) (j7)) none) (j7)
def yO:=fm 150 Tryz.f150 [.ty (.ls (.i .i64)), .ty (.i .i64)] [.ls (.i .i64)] (fun x=>lg x.1 x.2.1) [] [Es] (by kernel_rfl) fun x=>by simp only[lg,tm]; kernel_rfl
abbrev nw:LX:=⟨⟨[(0, .cl (.ro (.i .i64))),(1, .cl (.ro (.i .i64))),(5, .cl (.own 0 (.i .i64))),(6, .cl (.int .i64))],[],[.i .i64],0,27⟩,[(.ext 0,⟨[(5, .cl (.own 0 (.i .i64)))],[],[.i .i64],0,27⟩)],[],[0,1,5,6],[5]⟩
def fR (s: (List Int×List Int×Unit×Int×Unit)×Unit×List Int×Unit):nw.R:=
 br (decide (s.1.2.2.2.1< (s.1.1.length:Int))) (dJ (0<=s.1.2.2.2.1) ((s.1.1[s.1.2.2.2.1.toNat]?).bind fun x5=>(iC s.1.2.1 x5).bind fun y6=>br y6.1 (dJ (0<=s.1.2.2.2.1) ((s.1.1[s.1.2.2.2.1.toNat]?).bind fun x7=>(lg s.2.2.1 x7).bind fun y8=>some (.inl ((s.1.1,s.1.2.1,(),(IntKind.wrap .i64 (s.1.2.2.2.1+1)),()),(()),y8.1,()))) none) (some (.inl ((s.1.1,s.1.2.1,(),(IntKind.wrap .i64 (s.1.2.2.2.1+1)),()),(()),s.2.2)))) none) (some (.inr (((),()),(()),s.2.2)))
def nx:=hZ fR
def rQ:=nh Tryz.f120 [0] nw fR [pA,yO] [] (by kernel_rfl) fun s=>by simp only[fR,tm]; kernel_rfl
def iR (a0:List Int) (a1:List Int):Option ((List Int)×Unit):=
 (nx ((a0,a1,(),0,()),(()),([]:List Int),())).bind fun e10=>some e10.2.2
def tQ:=fm 120 Tryz.f120 [.ty (.ls (.i .i64)), .ty (.ls (.i .i64))] [.ls (.i .i64)] (fun x=>iR x.1 x.2.1) [] [rQ] (by kernel_rfl) fun x=>by simp only[iR,tm]; kernel_rfl
def ej (a0:dM):Option (Bool×Unit):=
 (fo a0.epoch 1 20).bind fun y1=>br y1.1 ((gP a0.replicas).bind fun y2=>br y2.1 ((gP a0.witnesses).bind fun y3=>br y3.1 ((iC a0.replicas a0.primary).bind fun y4=>br y4.1 ((iR a0.replicas a0.witnesses).bind fun y5=>some (((y5.1.length:Int)==0),())) (some (false,()))) (some (false,()))) (some (false,()))) (some (false,()))
def j4:=fm 70 Tryz.f70 [.ty (.st .config)] [.b] (fun x=>ej x.1) [lP,rP,pA,tQ] [] (by kernel_rfl) fun x=>by simp only[ej,tm]; kernel_rfl
abbrev oW:LX:=⟨⟨[(1, .cl (.ptr 0 0)),(3, .cl (.int .i64))],[[.ro (.st .config), .int .i64]],[],0,35⟩,[(.ret,⟨[(1, .cl (.ptr 0 0)),(2, .cl (.bl))],[[.ro (.st .config), .int .i64]],[],0,35⟩),(.ext 0,⟨[(1, .cl (.ptr 0 0)),(2, .cl (.dead))],[[.ro (.st .config), .int .i64]],[],0,35⟩)],[],[1,3],[1,2]⟩
def eD (s: (Unit×Int×Unit)×((List dM×Int×Unit)×Unit)×Unit):oW.R:=
 br (decide (s.1.2.1< (s.2.1.1.1.length:Int))) (dJ (0<=s.1.2.1) ((s.2.1.1.1[s.1.2.1.toNat]?).bind fun x4=>(ej x4).bind fun y5=>br (!y5.1) (some (.inr (.inl (((),false,()),s.2.1,(()))))) (dJ (0<=s.1.2.1) ((s.2.1.1.1[s.1.2.1.toNat]?).bind fun x6=>br (!(x6.epoch==(IntKind.wrap .i64 (s.1.2.1+1)))) (some (.inr (.inl (((),false,()),s.2.1,(()))))) (some (.inl (((),(IntKind.wrap .i64 (s.1.2.1+1)),()),s.2.1,(()))))) none)) none) (some (.inr (.inr (((),(),()),s.2.1,(())))))
def iT:=hZ eD
def tR:=nh Tryz.f86 [0] oW eD [j4] [] (by kernel_rfl) fun s=>by simp only[eD,tm]; kernel_rfl
def ft (a0:ec):Option (Bool×Unit):=
 (iT (((),0,()),((a0.configs,a0.activated,()),()),(()))).bind fun e7=>Sum.elim (fun e7_0=>some e7_0.1.2) (fun e7_1=>(fo e7_1.2.1.1.2.1 0 (e7_1.2.1.1.1.length:Int)).bind fun y8=>some (y8.1,())) e7
def qx:=fm 86 Tryz.f86 [.ty (.st .masterLog)] [.b] (fun x=>ft x.1) [lP] [tR] (by kernel_rfl) fun x=>by simp only[ft,tm]; kernel_rfl
def mm (a0:mF):Option (Bool×Unit):=
 br ((a0.epoch==0)&&((a0.holder==0)&&((a0.ends==0)&&true))) (some (true,())) ((fo a0.epoch 1 20).bind fun y1=>br y1.1 ((fo a0.holder 0 4).bind fun y2=>br y2.1 ((fo a0.ends 1 1049).bind fun y3=>some (y3.1,())) (some (false,()))) (some (false,())))
def Et:=fm 87 Tryz.f87 [.ty (.st .lease)] [.b] (fun x=>mm x.1) [lP] [] (by kernel_rfl) fun x=>by simp only[mm,tm]; kernel_rfl
abbrev qy:LX:=⟨⟨[(0, .cl (.ro (.st .place))),(3, .cl (.int .i64))],[],[],0,38⟩,[(.ret,⟨[(0, .cl (.ro (.st .place))),(2, .cl (.bl))],[],[],0,38⟩),(.ext 0,⟨[(0, .cl (.ro (.st .place))),(2, .cl (.dead))],[],[],0,38⟩)],[],[0,3],[0,2]⟩
def iY (s: (List fZ×Int×Unit)×Unit×Unit):qy.R:=
 br (decide (s.1.2.1< (s.1.1.length:Int))) (dJ (0<=s.1.2.1) ((s.1.1[s.1.2.1.toNat]?).bind fun x3=>(fo x3.rack 0 9).bind fun y4=>br (!y4.1) (some (.inr (.inl ((s.1.1,false,()),(()),(()))))) (dJ (0<=s.1.2.1) ((s.1.1[s.1.2.1.toNat]?).bind fun x5=>(fo x5.capacity 0 9).bind fun y6=>br (!y6.1) (some (.inr (.inl ((s.1.1,false,()),(()),(()))))) (dJ (0<=s.1.2.1) ((s.1.1[s.1.2.1.toNat]?).bind fun x7=>(fo x7.load 0 99).bind fun y8=>br (!y8.1) (some (.inr (.inl ((s.1.1,false,()),(()),(()))))) (some (.inl ((s.1.1,(IntKind.wrap .i64 (s.1.2.1+1)),()),(()),(()))))) none)) none)) none) (some (.inr (.inr ((s.1.1,(),()),(()),(())))))
def nN:=hZ iY
def wK:=nh Tryz.f88 [0] qy iY [lP] [] (by kernel_rfl) fun s=>by simp only[iY,tm]; kernel_rfl
def ko (a0:List fZ):Option (Bool×Unit):=
 (nN ((a0,0,()),(()),(()))).bind fun e9=>Sum.elim (fun e9_0=>some e9_0.1.2) (fun e9_1=>some (((e9_1.1.1.length:Int)==5),())) e9
def A3:=fm 88 Tryz.f88 [.ty (.ls (.st .place))] [.b] (fun x=>ko x.1) [] [wK] (by kernel_rfl) fun x=>by simp only[ko,tm]; kernel_rfl
def lx (a0:Op):Option (Bool×Unit):=
 (fo a0.client 0 2).bind fun y1=>br (!y1.1) (some (false,())) ((fo a0.seq 1 99).bind fun y2=>br (!y2.1) (some (false,())) ((fo a0.object 0 2).bind fun y3=>br (!y3.1) (some (false,())) ((fo a0.value 0 9).bind fun y4=>br (!y4.1) (some (false,())) (br (a0.kind==1) (br (a0.old==0) (some (true,())) (br (a0.kind==2) ((fo a0.old 0 9).bind fun y5=>some (y5.1,())) (some (false,())))) (br (a0.kind==2) ((fo a0.old 0 9).bind fun y6=>some (y6.1,())) (some (false,())))))))
def A4:=fm 145 Tryz.f145 [.ty (.st .op)] [.b] (fun x=>lx x.1) [lP] [] (by kernel_rfl) fun x=>by simp only[lx,tm]; kernel_rfl
abbrev xC:LX:=⟨⟨[(0, .cl (.ro (.st .entry))),(3, .cl (.int .i64))],[],[],0,47⟩,[(.ret,⟨[(0, .cl (.ro (.st .entry))),(2, .cl (.bl))],[],[],0,47⟩),(.ext 0,⟨[(0, .cl (.ro (.st .entry))),(2, .cl (.dead))],[],[],0,47⟩)],[],[0,3],[0,2]⟩
def mn (s: (List fO×Int×Unit)×Unit×Unit):xC.R:=
 br (decide (s.1.2.1< (s.1.1.length:Int))) (dJ (0<=s.1.2.1) ((s.1.1[s.1.2.1.toNat]?).bind fun x3=>(fo x3.epoch 1 20).bind fun y4=>br (!y4.1) (some (.inr (.inl ((s.1.1,false,()),(()),(()))))) (dJ (0<=s.1.2.1) ((s.1.1[s.1.2.1.toNat]?).bind fun x5=>(lx x5.op).bind fun y6=>br (!y6.1) (some (.inr (.inl ((s.1.1,false,()),(()),(()))))) (br (decide (s.1.2.1>0)) (dJ (0<=(IntKind.wrap .i64 (s.1.2.1-1))) ((s.1.1[(IntKind.wrap .i64 (s.1.2.1-1)).toNat]?).bind fun x7=>dJ (0<=s.1.2.1) ((s.1.1[s.1.2.1.toNat]?).bind fun x8=>br (decide (x7.epoch>x8.epoch)) (some (.inr (.inl ((s.1.1,false,()),(()),(()))))) (some (.inl ((s.1.1,(IntKind.wrap .i64 (s.1.2.1+1)),()),(()),(()))))) none) none) (some (.inl ((s.1.1,(IntKind.wrap .i64 (s.1.2.1+1)),()),(()),(())))))) none)) none) (some (.inr (.inr ((s.1.1,(),()),(()),(())))))
def sS:=hZ mn
def Eu:=nh Tryz.f104 [0] xC mn [lP,A4] [] (by kernel_rfl) fun s=>by simp only[mn,tm]; kernel_rfl
def oJ (a0:List fO):Option (Bool×Unit):=
 (sS ((a0,0,()),(()),(()))).bind fun e9=>Sum.elim (fun e9_0=>some e9_0.1.2) (fun e9_1=>some ((decide ((e9_1.1.1.length:Int)<=16)),())) e9
def H1:=fm 104 Tryz.f104 [.ty (.ls (.st .entry))] [.b] (fun x=>oJ x.1) [] [Eu] (by kernel_rfl) fun x=>by simp only[oJ,tm]; kernel_rfl
abbrev od:LX:=⟨⟨[(0, .cl (.ro (.i .i64))),(1, .cl (.ro (.i .i64))),(5, .cl (.int .i64))],[],[],0,26⟩,[(.ret,⟨[(4, .cl (.bl))],[],[],0,26⟩),(.ext 0,⟨[(4, .cl (.dead))],[],[],0,26⟩)],[],[0,1,5],[4]⟩
def ga (s: (List Int×List Int×Int×Unit)×Unit×Unit):od.R:=
 br (decide (s.1.2.2.1< (s.1.1.length:Int))) (dJ (0<=s.1.2.2.1) ((s.1.1[s.1.2.2.1.toNat]?).bind fun x4=>dJ (0<=s.1.2.2.1) ((s.1.2.1[s.1.2.2.1.toNat]?).bind fun x5=>br (!(x4==x5)) (some (.inr (.inl ((false,()),(()),(()))))) (some (.inl ((s.1.1,s.1.2.1,(IntKind.wrap .i64 (s.1.2.2.1+1)),()),(()),(()))))) none) none) (some (.inr (.inr (((),()),(()),(())))))
def kW:=hZ ga
def sT:=nh Tryz.f108 [0] od ga [] [] (by kernel_rfl) fun s=>by simp only[ga,tm]; kernel_rfl
def im (a0:List Int) (a1:List Int):Option (Bool×Unit):=
 br (!((a0.length:Int)==(a1.length:Int))) (some (false,())) ((kW ((a0,a1,0,()),(()),(()))).bind fun e6=>Sum.elim (fun e6_0=>some e6_0.1) (fun _=>some (true,())) e6)
def vw:=fm 108 Tryz.f108 [.ty (.ls (.i .i64)), .ty (.ls (.i .i64))] [.b] (fun x=>im x.1 x.2.1) [] [sT] (by kernel_rfl) fun x=>by simp only[im,tm]; kernel_rfl
def gq (a0:dM) (a1:dM):Option (Bool×Unit):=
 br (a0.epoch==a1.epoch) (br (a0.primary==a1.primary) ((im a0.replicas a1.replicas).bind fun y1=>br y1.1 ((im a0.witnesses a1.witnesses).bind fun y2=>some (y2.1,())) (some (false,()))) (some (false,()))) (some (false,()))
def mP:=fm 55 Tryz.f55 [.ty (.st .config), .ty (.st .config)] [.b] (fun x=>gq x.1 x.2.1) [vw] [] (by kernel_rfl) fun x=>by simp only[gq,tm]; kernel_rfl
def mo (a0:dM):Option (Bool×Unit):=
 (gq a0 (⟨0,0,([]:List Int),([]:List Int)⟩:dM)).bind fun y1=>some (y1.1,())
def xD:=fm 92 Tryz.f92 [.ty (.st .config)] [.b] (fun x=>mo x.1) [mP] [] (by kernel_rfl) fun x=>by simp only[mo,tm]; kernel_rfl
def mp (a0:List fO):Option (Int×Unit):=
 br ((a0.length:Int)==0) (some (0,())) (dJ (0<=(IntKind.wrap .i64 ((a0.length:Int)-1))) ((a0[(IntKind.wrap .i64 ((a0.length:Int)-1)).toNat]?).bind fun x1=>some (x1.epoch,())) none)
def xE:=fm 90 Tryz.f90 [.ty (.ls (.st .entry))] [.i .i64] (fun x=>mp x.1) [] [] (by kernel_rfl) fun x=>by simp only[mp,tm]; kernel_rfl
def oe (a0:dM) (a1:Int):Option (Int×Unit):=
 (ej a0).bind fun y1=>br (!y1.1) (some (0,())) (br (a1==a0.primary) (some (1,())) ((iC a0.replicas a1).bind fun y2=>br y2.1 (some (2,())) ((iC a0.witnesses a1).bind fun y3=>br y3.1 (some (3,())) (some (0,())))))
def A5:=fm 27 Tryz.f27 [.ty (.st .config), .ty (.i .i64)] [.i .i64] (fun x=>oe x.1 x.2.1) [j4,pA] [] (by kernel_rfl) fun x=>by simp only[oe,tm]; kernel_rfl
def fj (a0:eL) (a1:Int):Option (Bool×Unit):=
 (fo a0.version 1 2).bind fun y1=>br (!y1.1) (some (false,())) ((fo a0.epoch 0 20).bind fun y2=>br (!y2.1) (some (false,())) ((oJ a0.log).bind fun y3=>br (!y3.1) (some (false,())) ((oJ a0.learned).bind fun y4=>br (!y4.1) (some (false,())) ((fo a0.first 0 16).bind fun y5=>br (!y5.1) (some (false,())) ((fo (IntKind.wrap .i64 (a0.first+(a0.log.length:Int))) 0 16).bind fun y6=>br (!y6.1) (some (false,())) ((fo a0.commit 0 (IntKind.wrap .i64 (a0.first+(a0.log.length:Int)))).bind fun y7=>br (!y7.1) (some (false,())) ((mo a0.config).bind fun y8=>br y8.1 (br (a0.first==0) (br ((a0.log.length:Int)==0) (some ((a0.commit==0),())) (some (false,()))) (some (false,()))) (br (!a0.intact) (some (false,())) (br (decide (a0.epoch<a0.config.epoch)) (some (false,())) ((mp a0.log).bind fun y9=>br (decide (y9.1>a0.config.epoch)) (some (false,())) ((oe a0.config a1).bind fun y10=>br (y10.1==0) (some (false,())) (br (y10.1==3) (br (decide ((a0.log.length:Int)<=3)) (br ((a0.log.length:Int)==3) (some (true,())) (some ((a0.first==0),()))) (some (false,()))) (some ((a0.first==0),()))))))))))))))
def oX:=fm 89 Tryz.f89 [.ty (.st .server), .ty (.i .i64)] [.b] (fun x=>fj x.1 x.2.1) [lP,H1,xD,xE,A5] [] (by kernel_rfl) fun x=>by simp only[fj,tm]; kernel_rfl
def mQ (a0:dM):Option (dM×Unit):=
 dJ ((([]:List Int)++a0.replicas).length*8<=2 ^ 40) (dJ ((([]:List Int)++a0.witnesses).length*8<=2 ^ 40) (some ((⟨a0.epoch,a0.primary,(([]:List Int)++a0.replicas),(([]:List Int)++a0.witnesses)⟩:dM),())) none) none
def Gu:=fm 131 Tryz.f131 [.ty (.st .config)] [.st .config] (fun x=>mQ x.1) [] [] (by kernel_rfl) fun x=>by simp only[mQ,tm]; kernel_rfl
def jn (a0:ec) (a1:Int):Option (dM×Bool×Unit):=
 (ft a0).bind fun y1=>br (!y1.1) (some ((⟨0,0,([]:List Int),([]:List Int)⟩:dM),false,())) ((fo a1 1 (a0.configs.length:Int)).bind fun y2=>br (!y2.1) (some ((⟨0,0,([]:List Int),([]:List Int)⟩:dM),false,())) (dJ (0<=(IntKind.wrap .i64 (a1-1))) ((a0.configs[(IntKind.wrap .i64 (a1-1)).toNat]?).bind fun x3=>(mQ x3).bind fun y4=>some (y4.1,true,())) none))
def vx:=fm 91 Tryz.f91 [.ty (.st .masterLog), .ty (.i .i64)] [.st .config, .b] (fun x=>jn x.1 x.2.1) [qx,lP,Gu] [] (by kernel_rfl) fun x=>by simp only[jn,tm]; kernel_rfl
abbrev mR:LX:=⟨⟨[(1, .cl (.ptr 0 0)),(3, .cl (.int .i64))],[[.int .i64, .ro (.st .server), .ro (.i .i64), .ro (.st .config), .int .i64, .int .i64, .int .i64, .int .i64, .int .i64, .ro (.st .place)]],[],0,123⟩,[(.ret,⟨[(2, .cl (.bl))],[],[],0,123⟩),(.ext 0,⟨[(2, .cl (.dead))],[],[],0,123⟩)],[],[1,3],[2]⟩
def ed (s: (Unit×Int×Unit)×((Int×List eL×List Int×List dM×Int×Int×Int×Int×Int×List fZ×Unit)×Unit)×Unit):mR.R:=
 br (decide (s.1.2.1< (s.2.1.1.2.1.length:Int))) (dJ (0<=s.1.2.1) ((s.2.1.1.2.1[s.1.2.1.toNat]?).bind fun x18=>(fj x18 s.1.2.1).bind fun y19=>br (!y19.1) (some (.inr (.inl ((false,()),(()),(()))))) (br (decide (x18.epoch>(s.2.1.1.2.2.2.1.length:Int))) (some (.inr (.inl ((false,()),(()),(()))))) ((mp x18.learned).bind fun y20=>br (decide (y20.1>s.2.1.1.2.2.2.2.1)) (some (.inr (.inl ((false,()),(()),(()))))) ((jn (⟨s.2.1.1.2.2.2.1,s.2.1.1.2.2.2.2.1⟩:ec) x18.config.epoch).bind fun y21=>(mo x18.config).bind fun y22=>br (!y22.1) (br (!y21.2.1) (some (.inr (.inl ((false,()),(()),(()))))) ((gq y21.1 x18.config).bind fun y23=>br (!y23.1) (some (.inr (.inl ((false,()),(()),(()))))) (br (decide (x18.config.epoch>s.2.1.1.2.2.2.2.1)) (some (.inr (.inl ((false,()),(()),(()))))) (some (.inl (((),(IntKind.wrap .i64 (s.1.2.1+1)),()),s.2.1,(()))))))) (some (.inl (((),(IntKind.wrap .i64 (s.1.2.1+1)),()),s.2.1,(())))))))) none) (some (.inr (.inr (((),()),(()),(())))))
def iK:=hZ ed
def rf:=nh Tryz.f44 [0] mR ed [oX,xE,vx,xD,mP] [] (by kernel_rfl) fun s=>by simp only[ed,tm]; kernel_rfl
def fb (a0:dX):Option (Bool×Unit):=
 (fo a0.now 0 999).bind fun y1=>br (!y1.1) (some (false,())) (br (!((a0.servers.length:Int)==5)) (some (false,())) ((jm a0.sides).bind fun y2=>br (!y2.1) (some (false,())) ((ft a0.master).bind fun y3=>br (!y3.1) (some (false,())) ((fo a0.masterUp 0 3).bind fun y4=>br (!y4.1) (some (false,())) ((mm a0.lease).bind fun y5=>br (!y5.1) (some (false,())) ((ko a0.places).bind fun y6=>br (!y6.1) (some (false,())) (br (decide (a0.lease.epoch>a0.master.activated)) (some (false,())) ((iK (((),0,()),((a0.now,a0.servers,a0.sides,a0.master.configs,a0.master.activated,a0.masterUp,a0.lease.epoch,a0.lease.holder,a0.lease.ends,a0.places,()),()),(()))).bind fun e24=>Sum.elim (fun e24_0=>some e24_0.1) (fun _=>some (true,())) e24))))))))
def of:=fm 44 Tryz.f44 [.ty (.st .cluster)] [.b] (fun x=>fb x.1) [lP,vu,qx,Et,A3] [rf] (by kernel_rfl) fun x=>by simp only[fb,tm]; kernel_rfl
def fy (a0:ec):Option (dM×Bool×Unit):=
 (jn a0 a0.activated).bind fun y1=>some (y1.1,y1.2.1,())
def oY:=fm 45 Tryz.f45 [.ty (.st .masterLog)] [.st .config, .b] (fun x=>fy x.1) [vx] [] (by kernel_rfl) fun x=>by simp only[fy,tm]; kernel_rfl
abbrev nP:LX:=⟨⟨[(0, .cl (.int .i64)),(3, .cl (.str)),(4, .cl (.bl))],[],[],0,31⟩,[(.ext 0,⟨[(3, .cl (.str)),(4, .cl (.bl))],[],[],0,31⟩)],[],[0,3,4],[3,4]⟩
def hQ (s: (Int×ByteArray×Bool×Unit)×Unit×Unit):nP.R:=
 br (!(s.1.1==0)) (let j5 (p4:Int):nP.R:=dJ (0< ([(IntKind.wrap .u8 (IntKind.wrap .i64 (48+p4)))]:List Int).length/\0+([(IntKind.wrap .u8 (IntKind.wrap .i64 (48+p4)))]:List Int).length<=([(IntKind.wrap .u8 (IntKind.wrap .i64 (48+p4)))]:List Int).length) (dJ ((DD ((([(IntKind.wrap .u8 (IntKind.wrap .i64 (48+p4)))]:List Int).drop 0).take (([(IntKind.wrap .u8 (IntKind.wrap .i64 (48+p4)))]:List Int).length))).size+s.1.2.1.size<=2 ^ 40) (some (.inl (((IntKind.wrap .i64 (Int.tdiv s.1.1 10)),((DD ((([(IntKind.wrap .u8 (IntKind.wrap .i64 (48+p4)))]:List Int).drop 0).take (([(IntKind.wrap .u8 (IntKind.wrap .i64 (48+p4)))]:List Int).length)))++s.1.2.1),s.1.2.2),(()),(())))) none) none; br (decide ((Int.tmod s.1.1 10)<0)) (j5 (IntKind.wrap .i64 (0-(Int.tmod s.1.1 10)))) (j5 (Int.tmod s.1.1 10))) (some (.inr (s.1.2,(()),(()))))
def qz:=hZ hQ
def wL:=nh Tryz.f25 [0] nP hQ [] [] (by kernel_rfl) fun s=>by simp only[hQ,tm]; kernel_rfl
def gQ (a0:Int):Option (ByteArray×Unit):=
 br (a0==0) (some ((⟨⟨[48]⟩⟩:ByteArray),())) ((qz ((a0,ByteArray.empty,(decide (a0<0)),()),(()),(()))).bind fun e6=>br e6.1.2.1 (dJ ((⟨⟨[45]⟩⟩:ByteArray).size+e6.1.1.size<=2 ^ 40) (some (((⟨⟨[45]⟩⟩:ByteArray)++e6.1.1),())) none) (some (e6.1.1,())))
def pB:=fm 25 Tryz.f25 [.ty (.i .i64)] [.s] (fun x=>gQ x.1) [] [wL] (by kernel_rfl) fun x=>by simp only[gQ,tm]; kernel_rfl
abbrev ny:LX:=⟨⟨[(0, .cl (.ro (.i .i64))),(3, .cl (.str)),(4, .cl (.int .i64))],[],[],0,25⟩,[(.ext 0,⟨[(3, .cl (.str))],[],[],0,25⟩)],[],[0,3,4],[3]⟩
def fS (s: (List Int×ByteArray×Int×Unit)×Unit×Unit):ny.R:=
 br (decide (s.1.2.2.1< (s.1.1.length:Int))) (dJ (0<=s.1.2.2.1) ((s.1.1[s.1.2.2.1.toNat]?).bind fun x5=>(gQ x5).bind fun y6=>dJ (s.1.2.1.size+y6.1.size<=2 ^ 40) (some (.inl ((s.1.1,(s.1.2.1++y6.1),(IntKind.wrap .i64 (s.1.2.2.1+1)),()),(()),(())))) none) none) (some (.inr ((s.1.2.1,()),(()),(()))))
def nz:=hZ fS
def rR:=nh Tryz.f93 [0] ny fS [pB] [] (by kernel_rfl) fun s=>by simp only[fS,tm]; kernel_rfl
def gE (a0:List Int):Option (ByteArray×Unit):=
 (gP a0).bind fun y1=>br (!y1.1) (some (ByteArray.empty,())) (br ((a0.length:Int)==0) (some ((⟨⟨[110,111,110,101]⟩⟩:ByteArray),())) ((nz ((a0,ByteArray.empty,0,()),(()),(()))).bind fun e7=>some e7.1))
def tS:=fm 93 Tryz.f93 [.ty (.ls (.i .i64))] [.s] (fun x=>gE x.1) [rP] [rR] (by kernel_rfl) fun x=>by simp only[gE,tm]; kernel_rfl
def ip (a0:dM):Option (ByteArray×Unit):=
 (ej a0).bind fun y1=>br (!y1.1) (some (ByteArray.empty,())) ((gQ a0.epoch).bind fun y2=>dJ (y2.1.size+(⟨⟨[32]⟩⟩:ByteArray).size<=2 ^ 40) ((gQ a0.primary).bind fun y3=>dJ ((y2.1++(⟨⟨[32]⟩⟩:ByteArray)).size+y3.1.size<=2 ^ 40) (dJ (((y2.1++(⟨⟨[32]⟩⟩:ByteArray))++y3.1).size+(⟨⟨[32]⟩⟩:ByteArray).size<=2 ^ 40) ((gE a0.replicas).bind fun y4=>dJ ((((y2.1++(⟨⟨[32]⟩⟩:ByteArray))++y3.1)++(⟨⟨[32]⟩⟩:ByteArray)).size+y4.1.size<=2 ^ 40) (dJ (((((y2.1++(⟨⟨[32]⟩⟩:ByteArray))++y3.1)++(⟨⟨[32]⟩⟩:ByteArray))++y4.1).size+(⟨⟨[32]⟩⟩:ByteArray).size<=2 ^ 40) ((gE a0.witnesses).bind fun y5=>dJ ((((((y2.1++(⟨⟨[32]⟩⟩:ByteArray))++y3.1)++(⟨⟨[32]⟩⟩:ByteArray))++y4.1)++(⟨⟨[32]⟩⟩:ByteArray)).size+y5.1.size<=2 ^ 40) (some (((((((y2.1++(⟨⟨[32]⟩⟩:ByteArray))++y3.1)++(⟨⟨[32]⟩⟩:ByteArray))++y4.1)++(⟨⟨[32]⟩⟩:ByteArray))++y5.1),())) none) none) none) none) none) none)
def vy:=fm 46 Tryz.f46 [.ty (.st .config)] [.s] (fun x=>ip x.1) [j4,pB,tS] [] (by kernel_rfl) fun x=>by simp only[ip,tm]; kernel_rfl
def jo (a0:eL) (a1:Int):Option (Bool×Unit):=
 (fj a0 a1).bind fun y1=>br y1.1 (br a0.up ((oe a0.config a1).bind fun y2=>br (y2.1==1) (some ((a0.epoch==a0.config.epoch),())) (some (false,()))) (some (false,()))) (some (false,()))
def vz:=fm 132 Tryz.f132 [.ty (.st .server), .ty (.i .i64)] [.b] (fun x=>jo x.1 x.2.1) [oX,A5] [] (by kernel_rfl) fun x=>by simp only[jo,tm]; kernel_rfl
abbrev og:LX:=⟨⟨[(0, .cl (.ro (.i .i64))),(1, .cl (.ro (.i .i64))),(5, .cl (.own 0 (.i .i64))),(6, .cl (.int .i64))],[],[.i .i64],0,34⟩,[(.ext 0,⟨[(1, .cl (.ro (.i .i64))),(5, .cl (.own 0 (.i .i64)))],[],[.i .i64],0,34⟩)],[],[0,1,5,6],[1,5]⟩
def gb (s: (List Int×List Int×Unit×Int×Unit)×Unit×List Int×Unit):og.R:=
 br (decide (s.1.2.2.2.1< (s.1.1.length:Int))) (dJ (0<=s.1.2.2.2.1) ((s.1.1[s.1.2.2.2.1.toNat]?).bind fun x5=>(lg s.2.2.1 x5).bind fun y6=>some (.inl ((s.1.1,s.1.2.1,(),(IntKind.wrap .i64 (s.1.2.2.2.1+1)),()),(()),y6.1,()))) none) (some (.inr ((s.1.2.1,(),()),(()),s.2.2)))
def oh:=hZ gb
def sU:=nh Tryz.f158 [0] og gb [yO] [] (by kernel_rfl) fun s=>by simp only[gb,tm]; kernel_rfl
abbrev ol:LX:=⟨⟨[(1, .cl (.ro (.i .i64))),(5, .cl (.own 0 (.i .i64))),(7, .cl (.int .i64))],[],[.i .i64],0,34⟩,[(.ext 2,⟨[(5, .cl (.own 0 (.i .i64)))],[],[.i .i64],0,34⟩)],[],[1,5,7],[5]⟩
def gf (s: (List Int×Unit×Int×Unit)×Unit×List Int×Unit):ol.R:=
 br (decide (s.1.2.2.1< (s.1.1.length:Int))) (dJ (0<=s.1.2.2.1) ((s.1.1[s.1.2.2.1.toNat]?).bind fun x11=>(lg s.2.2.1 x11).bind fun y12=>some (.inl ((s.1.1,(),(IntKind.wrap .i64 (s.1.2.2.1+1)),()),(()),y12.1,()))) none) (some (.inr (((),()),(()),s.2.2)))
def om:=hZ gf
def sV:=nh Tryz.f158 [1] ol gf [yO] [] (by kernel_rfl) fun s=>by simp only[gf,tm]; kernel_rfl
def iq (a0:List Int) (a1:List Int):Option ((List Int)×Unit):=
 (oh ((a0,a1,(),0,()),(()),([]:List Int),())).bind fun e7=>(om ((e7.1.1,(),0,()),(()),e7.2.2)).bind fun e13=>some e13.2.2
def vA:=fm 158 Tryz.f158 [.ty (.ls (.i .i64)), .ty (.ls (.i .i64))] [.ls (.i .i64)] (fun x=>iq x.1 x.2.1) [] [sU,sV] (by kernel_rfl) fun x=>by simp only[iq,tm]; kernel_rfl
def ly (a0:dM):Option ((List Int)×Unit):=
 (ej a0).bind fun y1=>br (!y1.1) (some (([]:List Int),())) ((iq a0.replicas a0.witnesses).bind fun y2=>some (y2.1,()))
def A6:=fm 133 Tryz.f133 [.ty (.st .config)] [.ls (.i .i64)] (fun x=>ly x.1) [j4,vA] [] (by kernel_rfl) fun x=>by simp only[ly,tm]; kernel_rfl
def mS (a0:List Int) (a1:Int) (a2:Int):Option (Bool×Unit):=
 (jm a0).bind fun y1=>br y1.1 ((fo a1 0 4).bind fun y2=>br y2.1 ((fo a2 0 4).bind fun y3=>br y3.1 (dJ (0<=a1) ((a0[a1.toNat]?).bind fun x4=>dJ (0<=a2) ((a0[a2.toNat]?).bind fun x5=>some ((x4==x5),())) none) none) (some (false,()))) (some (false,()))) (some (false,()))
def Cz:=fm 159 Tryz.f159 [.ty (.ls (.i .i64)), .ty (.i .i64), .ty (.i .i64)] [.b] (fun x=>mS x.1 x.2.1 x.2.2.1) [vu,lP] [] (by kernel_rfl) fun x=>by simp only[mS,tm]; kernel_rfl
def mT (a0:dX) (a1:Int) (a2:Int):Option (Bool×Unit):=
 dJ (0<=a2) ((a0.servers[a2.toNat]?).bind fun x1=>(mS a0.sides a1 a2).bind fun y2=>br y2.1 (br x1.up (dJ (0<=a1) ((a0.servers[a1.toNat]?).bind fun x3=>br (x1.epoch==x3.epoch) (dJ (0<=a1) ((a0.servers[a1.toNat]?).bind fun x4=>br (decide (x1.commit<=(x4.log.length:Int))) (dJ (0<=a1) ((a0.servers[a1.toNat]?).bind fun x5=>(gq x1.config x5.config).bind fun y6=>some (y6.1,())) none) (some (false,()))) none) (some (false,()))) none) (some (false,()))) (some (false,()))) none
def CA:=fm 134 Tryz.f134 [.ty (.st .cluster), .ty (.i .i64), .ty (.i .i64)] [.b] (fun x=>mT x.1 x.2.1 x.2.2.1) [Cz,mP] [] (by kernel_rfl) fun x=>by simp only[mT,tm]; kernel_rfl
abbrev mU:LX:=⟨⟨[(1, .cl (.ptr 0 0)),(3, .cl (.ptr 1 0)),(5, .cl (.own 0 (.i .i64))),(6, .cl (.int .i64))],[[.int .i64, .ro (.st .server), .ro (.i .i64), .ro (.st .config), .int .i64, .int .i64, .int .i64, .int .i64, .int .i64, .ro (.st .place)],[.int .i64, .int .i64, .own 1 (.i .i64), .own 2 (.i .i64)]],[.i .i64, .i .i64, .i .i64],0,64⟩,[(.ret,⟨[(2, .cl (.int .i64)),(3, .cl (.ptr 0 0))],[[.int .i64, .int .i64, .own 0 (.i .i64), .own 1 (.i .i64)]],[.i .i64, .i .i64],0,64⟩),(.ext 0,⟨[(2, .cl (.dead)),(3, .cl (.ptr 0 0))],[[.int .i64, .int .i64, .own 0 (.i .i64), .own 1 (.i .i64)]],[.i .i64, .i .i64],0,64⟩)],[],[1,3,5,6],[2,3]⟩
def fJ (s: (Unit×Unit×Unit×Int×Unit)×((Int×List eL×List Int×List dM×Int×Int×Int×Int×Int×List fZ×Unit)×(Int×Int×Unit×Unit×Unit)×Unit)×List Int×List Int×List Int×Unit):mU.R:=
 br (decide (s.1.2.2.2.1< (s.2.2.1.length:Int))) (dJ (0<=s.1.2.2.2.1/\s.1.2.2.2.1< (s.2.2.1.length:Int)) ((s.2.2.1[s.1.2.2.2.1.toNat]?).bind fun x23=>(mT (⟨s.2.1.1.1,s.2.1.1.2.1,s.2.1.1.2.2.1,(⟨s.2.1.1.2.2.2.1,s.2.1.1.2.2.2.2.1⟩:ec),s.2.1.1.2.2.2.2.2.1,(⟨s.2.1.1.2.2.2.2.2.2.1,s.2.1.1.2.2.2.2.2.2.2.1,s.2.1.1.2.2.2.2.2.2.2.2.1⟩:mF),s.2.1.1.2.2.2.2.2.2.2.2.2.1⟩:dX) s.2.1.2.1.2.1 x23).bind fun y24=>br (!y24.1) (some (.inr (.inl (((-1),(),()),s.2.1.2,s.2.2.2)))) (some (.inl (((),(),(),(IntKind.wrap .i64 (s.1.2.2.2.1+1)),()),s.2)))) none) (some (.inr (.inr (((),(),()),s.2.1.2,s.2.2.2))))
def ke:=hZ fJ
def rg:=nh Tryz.f94 [0] mU fJ [CA] [] (by kernel_rfl) fun s=>by simp only[fJ,tm]; kernel_rfl
def ir (a0:dX):Option (Int×Unit):=
 (fy a0.master).bind fun y1=>(fb a0).bind fun y2=>br (!y2.1) (some ((-1),())) (br (!y1.2.1) (some ((-1),())) (dJ (0<=y1.1.primary) ((a0.servers[y1.1.primary.toNat]?).bind fun x3=>(jo x3 y1.1.primary).bind fun y4=>br (!y4.1) (some ((-1),())) (dJ (0<=y1.1.primary) ((a0.servers[y1.1.primary.toNat]?).bind fun x5=>br (!(x5.config.epoch==y1.1.epoch)) (some ((-1),())) ((ly y1.1).bind fun y6=>(ke (((),(),(),0,()),((a0.now,a0.servers,a0.sides,a0.master.configs,a0.master.activated,a0.masterUp,a0.lease.epoch,a0.lease.holder,a0.lease.ends,a0.places,()),(y1.1.epoch,y1.1.primary,(),(),()),()),y6.1,y1.1.replicas,y1.1.witnesses,())).bind fun e25=>Sum.elim (fun e25_0=>some (e25_0.1.1,())) (fun e25_1=>some (e25_1.2.1.1.2.1,())) e25)) none)) none))
def sW:=fm 94 Tryz.f94 [.ty (.st .cluster)] [.i .i64] (fun x=>ir x.1) [oY,of,vz,A6] [rg] (by kernel_rfl) fun x=>by simp only[ir,tm]; kernel_rfl
def lz (a0:dX):Option (Bool×Unit):=
 (ir a0).bind fun y1=>some ((decide (y1.1≥0)),())
def A7:=fm 47 Tryz.f47 [.ty (.st .cluster)] [.b] (fun x=>lz x.1) [sW] [] (by kernel_rfl) fun x=>by simp only[lz,tm]; kernel_rfl
def qb (a0:Bool) (a1:ByteArray) (a2:ByteArray):Option (ByteArray×Unit):=
 br a0 (some (a1,())) (some (a2,()))
def Ev:=fm 24 Tryz.f24 [.ty (.b), .ty (.s), .ty (.s)] [.s] (fun x=>qb x.1 x.2.1 x.2.2.1) [] [] (by kernel_rfl) fun x=>by simp only[qb,tm]; kernel_rfl
def lA (a0:dX):Option (ByteArray×Unit):=
 (fb a0).bind fun y1=>br (!y1.1) (some (ByteArray.empty,())) ((fy a0.master).bind fun y2=>br (!y2.2.1) (some ((⟨⟨[110,111,110,101]⟩⟩:ByteArray),())) ((ip y2.1).bind fun y3=>dJ (y3.1.size+(⟨⟨[32,99,104,111,115,101,110,32]⟩⟩:ByteArray).size<=2 ^ 40) ((gQ (a0.master.configs.length:Int)).bind fun y4=>dJ ((y3.1++(⟨⟨[32,99,104,111,115,101,110,32]⟩⟩:ByteArray)).size+y4.1.size<=2 ^ 40) (dJ (((y3.1++(⟨⟨[32,99,104,111,115,101,110,32]⟩⟩:ByteArray))++y4.1).size+(⟨⟨[32]⟩⟩:ByteArray).size<=2 ^ 40) ((lz a0).bind fun y5=>(qb y5.1 (⟨⟨[115,101,114,118,105,110,103]⟩⟩:ByteArray) (⟨⟨[119,97,105,116,105,110,103]⟩⟩:ByteArray)).bind fun y6=>dJ ((((y3.1++(⟨⟨[32,99,104,111,115,101,110,32]⟩⟩:ByteArray))++y4.1)++(⟨⟨[32]⟩⟩:ByteArray)).size+y6.1.size<=2 ^ 40) (some (((((y3.1++(⟨⟨[32,99,104,111,115,101,110,32]⟩⟩:ByteArray))++y4.1)++(⟨⟨[32]⟩⟩:ByteArray))++y6.1),())) none) none) none) none))
def A8:=fm 11 Tryz.f11 [.ty (.st .cluster)] [.s] (fun x=>lA x.1) [of,oY,vy,pB,A7,Ev] [] (by kernel_rfl) fun x=>by simp only[lA,tm]; kernel_rfl
def ep (a0:Int) (a1:Int) (a2:Int):Option (Bool×Unit):=
 br (decide (a1<=a0)) (some ((decide (a0<=a2)),())) (some (false,()))
def gR:=fm 75 Tryz.f75 [.ty (.i .i64), .ty (.i .i64), .ty (.i .i64)] [.b] (fun x=>ep x.1 x.2.1 x.2.2.1) [] [] (by kernel_rfl) fun x=>by simp only[ep,tm]; kernel_rfl
def lh (a0:Int):Option (Bool×Unit):=
 (ep a0 0 3).bind fun y1=>some ((!y1.1),())
def wM:=fm 136 Tryz.f136 [.ty (.i .i64)] [.b] (fun x=>lh x.1) [gR] [] (by kernel_rfl) fun x=>by simp only[lh,tm]; kernel_rfl
abbrev ia:LX:=⟨⟨[(0, .cl (.ro (.i .i64))),(1, .cl (.fc 136)),(7, .cl (.int .i64)),(8, .cl (.int .i64))],[],[],0,19⟩,[(.ret,⟨[(4, .cl (.int .i64))],[],[],0,19⟩),(.ext 0,⟨[(4, .cl (.dead))],[],[],0,19⟩)],[],[0,1,7,8],[4]⟩
def eo (s: (List Int×Unit×Int×Int×Unit)×Unit×Unit):ia.R:=
 br (decide (s.1.2.2.2.1<s.1.2.2.1)) (dJ (0<=s.1.2.2.2.1) ((s.1.1[s.1.2.2.2.1.toNat]?).bind fun x4=>(lh x4).bind fun y5=>br y5.1 (some (.inr (.inl (s.1.2.2.2,(()),(()))))) (some (.inl ((s.1.1,(),s.1.2.2.1,(IntKind.wrap .i64 (s.1.2.2.2.1+1)),()),(()),(()))))) none) (some (.inr (.inr (((),()),(()),(())))))
def fF:=hZ eo
def kK:=nh Tryz.f160 [0] ia eo [wM] [] (by kernel_rfl) fun s=>by simp only[eo,tm]; kernel_rfl
def fh (a0:List Int):Option (Int×Unit):=
 (fF ((a0,(),(a0.length:Int),0,()),(()),(()))).bind fun e6=>Sum.elim (fun e6_0=>some e6_0.1) (fun _=>some ((-1),())) e6
def lB:=fm 160 Tryz.f160 [.ty (.ls (.i .i64)), .fc 136] [.i .i64] (fun x=>fh x.1) [] [kK] (by kernel_rfl) fun x=>by simp only[fh,tm]; kernel_rfl
def eR (a0:List Int):Option (Bool×Unit):=
 (fh a0).bind fun y1=>some ((decide (y1.1≥0)),())
def kD:=fm 135 Tryz.f135 [.ty (.ls (.i .i64)), .fc 136] [.b] (fun x=>eR x.1) [lB] [] (by kernel_rfl) fun x=>by simp only[eR,tm]; kernel_rfl
def kf (a0:List Int):Option (Bool×Unit):=
 br ((a0.length:Int)==5) ((eR a0).bind fun y1=>some ((!y1.1),())) (some (false,()))
def vB:=fm 95 Tryz.f95 [.ty (.ls (.i .i64))] [.b] (fun x=>kf x.1) [kD] [] (by kernel_rfl) fun x=>by simp only[kf,tm]; kernel_rfl
abbrev pC:LX:=⟨⟨[(0, .cl (.ro (.i .i64))),(5, .cl (.ro (.i .i64))),(6, .cl (.int .i64)),(7, .cl (.int .i64))],[],[],0,29⟩,[(.ret,⟨[(2, .cl (.bl))],[],[],0,29⟩),(.ext 0,⟨[(2, .cl (.dead))],[],[],0,29⟩)],[],[0,5,6,7],[2]⟩
def it (s: (List Int×List Int×Int×Int×Unit)×Unit×Unit):pC.R:=
 br (decide (s.1.2.2.2.1<s.1.2.2.1)) (dJ (0<=s.1.2.2.2.1) ((s.1.2.1[s.1.2.2.2.1.toNat]?).bind fun x5=>(ep x5 0 4).bind fun y6=>br (!y6.1) (some (.inr (.inl ((false,()),(()),(()))))) (br (decide (s.1.2.2.2.1>0)) (dJ (0<=(IntKind.wrap .i64 (s.1.2.2.2.1-1))) ((s.1.1[(IntKind.wrap .i64 (s.1.2.2.2.1-1)).toNat]?).bind fun x7=>br (decide (x5<=x7)) (some (.inr (.inl ((false,()),(()),(()))))) (some (.inl ((s.1.1,s.1.2.1,s.1.2.2.1,(IntKind.wrap .i64 (s.1.2.2.2.1+1)),()),(()),(()))))) none) (some (.inl ((s.1.1,s.1.2.1,s.1.2.2.1,(IntKind.wrap .i64 (s.1.2.2.2.1+1)),()),(()),(())))))) none) (some (.inr (.inr (((),()),(()),(())))))
def mW:=hZ it
def vC:=nh Tryz.f126 [0] pC it [gR] [] (by kernel_rfl) fun s=>by simp only[it,tm]; kernel_rfl
def gT (a0:List Int):Option (Bool×Unit):=
 (mW ((a0,a0,(a0.length:Int),0,()),(()),(()))).bind fun e8=>Sum.elim (fun e8_0=>some e8_0.1) (fun _=>some (true,())) e8
def rS:=fm 126 Tryz.f126 [.ty (.ls (.i .i64))] [.b] (fun x=>gT x.1) [] [vC] (by kernel_rfl) fun x=>by simp only[gT,tm]; kernel_rfl
abbrev pD:LX:=⟨⟨[(0, .cl (.ro (.i .i64))),(1, .cl (.int .i64)),(7, .cl (.int .i64)),(8, .cl (.int .i64))],[],[],0,19⟩,[(.ret,⟨[(4, .cl (.int .i64))],[],[],0,19⟩),(.ext 0,⟨[(4, .cl (.dead))],[],[],0,19⟩)],[],[0,1,7,8],[4]⟩
def iu (s: (List Int×Int×Int×Int×Unit)×Unit×Unit):pD.R:=
 br (decide (s.1.2.2.2.1<s.1.2.2.1)) (dJ (0<=s.1.2.2.2.1) ((s.1.1[s.1.2.2.2.1.toNat]?).bind fun x5=>br (s.1.2.1==x5) (some (.inr (.inl (s.1.2.2.2,(()),(()))))) (some (.inl ((s.1.1,s.1.2.1,s.1.2.2.1,(IntKind.wrap .i64 (s.1.2.2.2.1+1)),()),(()),(()))))) none) (some (.inr (.inr (((),()),(()),(())))))
def mX:=hZ iu
def vD:=nh Tryz.f156 [0] pD iu [] [] (by kernel_rfl) fun s=>by simp only[iu,tm]; kernel_rfl
def ma (a0:List Int) (a1:Int):Option (Int×Unit):=
 (mX ((a0,a1,(a0.length:Int),0,()),(()),(()))).bind fun e6=>Sum.elim (fun e6_0=>some e6_0.1) (fun _=>some ((-1),())) e6
def yP:=fm 156 Tryz.f156 [.ty (.ls (.i .i64)), .ty (.i .i64)] [.i .i64] (fun x=>ma x.1 x.2.1) [] [vD] (by kernel_rfl) fun x=>by simp only[ma,tm]; kernel_rfl
def j6 (a0:List Int) (a1:Int):Option (Bool×Unit):=
 (ma a0 a1).bind fun y1=>some ((decide (y1.1≥0)),())
def tT:=fm 128 Tryz.f128 [.ty (.ls (.i .i64)), .ty (.i .i64)] [.b] (fun x=>j6 x.1 x.2.1) [yP] [] (by kernel_rfl) fun x=>by simp only[j6,tm]; kernel_rfl
def iE (a0:List Int) (a1:Int):Option (Bool×Unit):=
 (j6 a0 a1).bind fun y1=>some (y1.1,())
def pE:=fm 81 Tryz.f81 [.ty (.ls (.i .i64)), .ty (.i .i64)] [.b] (fun x=>iE x.1 x.2.1) [tT] [] (by kernel_rfl) fun x=>by simp only[iE,tm]; kernel_rfl
def mb (a0:List Int):Option ((List Int)×Unit):=dJ (a0.length*8<=2 ^ 40) (some (a0,())) none
def yQ:=Lk 180 Tryz.f180 (.i .i64) 8 mb (by kernel_rfl) (fun _=>rfl) fun _=>by kernel_rfl
def rh (a0:Int):Option (Int×Unit):=
 br (decide (a0≥4294967296)) (none) (br (decide (a0≥65536)) (none) (br (decide (a0≥256)) (none) (dJ (0<=(IntKind.wrap .u8 a0)) ((Lj[(IntKind.wrap .u8 a0).toNat]?).bind fun x1=>some ((IntKind.wrap .i64 (0+(IntKind.wrap .i64 (x1.toNat:Int)))),())) none)))
def CB:=fm 176 Tryz.f176 [.ty (.i .u64)] [.i .i64] (fun x=>rh x.1) [] [] (by kernel_rfl) fun x=>by simp only[rh,tm]; kernel_rfl
def pF (a0:Int):Option (Int×Unit):=
 (rh a0).bind fun y1=>some (y1.1,())
def Gv:=fm 187 Tryz.f187 [.ty (.i .u64)] [.i .i64] (fun x=>pF x.1) [CB] [] (by kernel_rfl) fun x=>by simp only[pF,tm]; kernel_rfl
def iZ (a0:Int):Option (Bool×Unit):=
 some ((!(a0==a0)),())
def wN:=fm 203 Tryz.f203 [.ty (.i .i64)] [.b] (fun x=>iZ x.1) [] [] (by kernel_rfl) fun x=>by simp only[iZ,tm]; kernel_rfl
def iL (a0:Int) (a1:Int):Option (Bool×Unit):=
 (iZ a0).bind fun y1=>br y1.1 ((iZ a1).bind fun y2=>br (!y2.1) (some (true,())) (some ((decide (a0<a1)),()))) (some ((decide (a0<a1)),()))
def yR:=fm 194 Tryz.f194 [.ty (.i .i64), .ty (.i .i64)] [.b] (fun x=>iL x.1 x.2.1) [wN] [] (by kernel_rfl) fun x=>by simp only[iL,tm]; kernel_rfl
abbrev gU:LX:=⟨⟨[(0, .cl (.own 0 (.i .i64))),(1, .cl (.int .i64)),(2, .cl (.int .i64)),(6, .cl (.int .i64)),(7, .cl (.int .i64))],[],[.i .i64],1,49⟩,[(.ext 2,⟨[(0, .cl (.own 0 (.i .i64))),(1, .cl (.int .i64)),(2, .cl (.int .i64)),(6, .cl (.int .i64))],[],[.i .i64],1,49⟩)],[],[0,1,2,6,7],[0,1,2,6]⟩
def dY (s: (Unit×Int×Int×Int×Int×Unit)×Unit×List Int×Unit):gU.R:=
 br (decide (s.1.2.2.2.2.1>s.1.2.1)) (dJ (0<=s.1.2.2.2.2.1/\s.1.2.2.2.2.1< (s.2.2.1.length:Int)) ((s.2.2.1[s.1.2.2.2.2.1.toNat]?).bind fun x10=>dJ (0<=(IntKind.wrap .i64 (s.1.2.2.2.2.1-1))/\(IntKind.wrap .i64 (s.1.2.2.2.2.1-1))< (s.2.2.1.length:Int)) ((s.2.2.1[(IntKind.wrap .i64 (s.1.2.2.2.2.1-1)).toNat]?).bind fun x11=>(iL x10 x11).bind fun y12=>br y12.1 (dJ (0<=(IntKind.wrap .i64 (s.1.2.2.2.2.1-1))/\(IntKind.wrap .i64 (s.1.2.2.2.2.1-1))< (s.2.2.1.length:Int)) ((s.2.2.1[(IntKind.wrap .i64 (s.1.2.2.2.2.1-1)).toNat]?).bind fun x13=>dJ (0<=s.1.2.2.2.2.1/\s.1.2.2.2.2.1< (s.2.2.1.length:Int)) ((s.2.2.1[s.1.2.2.2.2.1.toNat]?).bind fun x14=>dJ (0<=s.1.2.2.2.2.1/\s.1.2.2.2.2.1< (s.2.2.1.length:Int)) (dJ (0<=(IntKind.wrap .i64 (s.1.2.2.2.2.1-1))/\(IntKind.wrap .i64 (s.1.2.2.2.2.1-1))< (s.2.2.1.length:Int)) ((s.2.2.1[s.1.2.2.2.2.1.toNat]?).bind fun _=>let z16:=s.2.2.1.set s.1.2.2.2.2.1.toNat x13; (z16[(IntKind.wrap .i64 (s.1.2.2.2.2.1-1)).toNat]?).bind fun _=>some (.inl (((),s.1.2.1,s.1.2.2.1,s.1.2.2.2.1,(IntKind.wrap .i64 (s.1.2.2.2.2.1-1)),()),(()),(z16.set ((IntKind.wrap .i64 (s.1.2.2.2.2.1-1)).toNat) x14),()))) none) none) none) none) (some (.inr (((),s.1.2.1,s.1.2.2.1,s.1.2.2.2.1,()),(()),s.2.2)))) none) none) (some (.inr (((),s.1.2.1,s.1.2.2.1,s.1.2.2.2.1,()),(()),s.2.2)))
def eS:=hZ dY
def kE:=nh Tryz.f188 [0,0] gU dY [yR] [] (by kernel_rfl) fun s=>by simp only[dY,tm]; kernel_rfl
abbrev gV:LX:=⟨⟨[(0, .cl (.own 0 (.i .i64))),(1, .cl (.int .i64)),(2, .cl (.int .i64)),(6, .cl (.int .i64))],[],[.i .i64],1,49⟩,[(.ext 0,⟨[],[],[.i .i64],1,49⟩)],[],[0,1,2,6],[]⟩
def dN (s: (Unit×Int×Int×Int×Unit)×Unit×List Int×Unit):gV.R:=
 br (decide (s.1.2.2.2.1<s.1.2.2.1)) ((eS (((),s.1.2.1,s.1.2.2.1,s.1.2.2.2.1,s.1.2.2.2),(()),s.2.2)).bind fun e19=>some (.inl (((),e19.1.2.1,e19.1.2.2.1,(IntKind.wrap .i64 (e19.1.2.2.2.1+1)),()),(()),e19.2.2))) (some (.inr ((()),(()),s.2.2)))
def eT:=hZ dN
def kF:=nh Tryz.f188 [0] gV dN [] [kE] (by kernel_rfl) fun s=>by simp only[dN,tm]; kernel_rfl
def ef (a0:List Int) (a1:Int) (a2:Int):Option ((List Int)×Unit):=
 (eT (((),a1,a2,(IntKind.wrap .i64 (a1+1)),()),(()),a0,())).bind fun e20=>some e20.2.2
def kX:=K5 188 Tryz.f188 (.i .i64) [.ty (.i .i64), .ty (.i .i64)] [] (fun l x=>ef l x.1 x.2.1) [] [kF] (by kernel_rfl) fun l x=>by simp only[ef,tm]; kernel_rfl
abbrev jq:LX:=⟨⟨[(0, .cl (.own 0 (.i .i64))),(1, .cl (.int .i64)),(2, .cl (.int .i64)),(3, .cl (.int .i64)),(8, .cl (.bl)),(9, .cl (.bl))],[],[.i .i64],1,134⟩,[(.ret,⟨[],[],[.i .i64],1,134⟩)],[],[0,1,2,3,8,9],[]⟩
def eX (s: (Unit×Int×Int×Int×Bool×Bool×Unit)×Unit×List Int×Unit):jq.R:=
 br (decide ((IntKind.wrap .i64 (s.1.2.2.1-s.1.2.1))<=12)) ((ef s.2.2.1 s.1.2.1 s.1.2.2.1).bind fun y7=>dJ (y7.1.length=s.2.2.1.length) (some (.inr ((()),(()),y7.1,()))) none) (br (s.1.2.2.2.1==0) (none) (br (!s.1.2.2.2.2.1) (none) (none)))
def gr:=hZ eX
def mY:=nh Tryz.f186 [0] jq eX [kX] [] (by kernel_rfl) fun s=>by simp only[eX,tm,-eq_self]; kernel_rfl
def eB (a0:List Int) (a1:Int) (a2:Int) (a3:Int):Option ((List Int)×Unit):=
 (gr (((),a1,a2,a3,true,true,()),(()),a0,())).bind fun e8=>some e8.2.2
def nQ:=K5 186 Tryz.f186 (.i .i64) [.ty (.i .i64), .ty (.i .i64), .ty (.i .i64)] [] (fun l x=>eB l x.1 x.2.1 x.2.2.1) [] [mY] (by kernel_rfl) fun l x=>by simp only[eB,tm]; kernel_rfl
def gt (a0:List Int):Option ((List Int)×Unit):=
 (pF (IntKind.wrap .u64 (a0.length:Int))).bind fun y1=>(eB a0 0 (a0.length:Int) y1.1).bind fun y2=>dJ (y2.1.length=a0.length) (some (y2.1,())) none
def vE:=K5 181 Tryz.f181 (.i .i64) [] [] (fun l _=>gt l) [Gv,nQ] [] (by kernel_rfl) fun l x=>by simp only[gt,tm,-eq_self]; kernel_rfl
abbrev lW:LX:=⟨⟨[(0, .cl (.own 0 (.i .i64))),(3, .cl (.int .i64)),(4, .cl (.sub 0 (.i .i64))),(5, .cl (.int .i64))],[],[.i .i64],0,61⟩,[(.ext 2,⟨[(0, .cl (.own 0 (.i .i64))),(3, .cl (.int .i64))],[],[.i .i64],0,61⟩)],[],[0,3,4,5],[0,3]⟩
def fw (s: (Unit×Int×(Nat×Nat)×Int×Unit)×Unit×List Int×Unit):lW.R:=
 br (decide (s.1.2.2.2.1< ((s.1.2.2.1.2:Nat):Int))) (dJ (0<=s.1.2.2.2.1/\s.1.2.2.2.1< ((s.1.2.2.1.2:Nat):Int)) ((s.2.2.1[(s.1.2.2.1.1+s.1.2.2.2.1.toNat)]?).bind fun x9=>dJ (0<=(IntKind.wrap .i64 (s.1.2.2.2.1-1))/\(IntKind.wrap .i64 (s.1.2.2.2.1-1))< ((s.1.2.2.1.2:Nat):Int)) ((s.2.2.1[(s.1.2.2.1.1+(IntKind.wrap .i64 (s.1.2.2.2.1-1)).toNat)]?).bind fun x10=>br (!(x9==x10)) (dJ (0<=s.1.2.2.2.1/\s.1.2.2.2.1< ((s.1.2.2.1.2:Nat):Int)) ((s.2.2.1[(s.1.2.2.1.1+s.1.2.2.2.1.toNat)]?).bind fun x11=>dJ (0<=s.1.2.1/\s.1.2.1< (s.2.2.1.length:Int)) ((s.2.2.1[s.1.2.1.toNat]?).bind fun _=>some (.inl (((),(IntKind.wrap .i64 (s.1.2.1+1)),s.1.2.2.1,(IntKind.wrap .i64 (s.1.2.2.2.1+1)),()),(()),(s.2.2.1.set s.1.2.1.toNat x11),()))) none) none) (some (.inl (((),s.1.2.1,s.1.2.2.1,(IntKind.wrap .i64 (s.1.2.2.2.1+1)),()),(()),s.2.2)))) none) none) (some (.inr (((),s.1.2.1,()),(()),s.2.2)))
def lX:=hZ fw
def qd:=nh Tryz.f182 [0,0] lW fw [] [] (by kernel_rfl) fun s=>by simp only[fw,tm]; kernel_rfl
abbrev lY:LX:=⟨⟨[(0, .cl (.own 0 (.i .i64))),(3, .cl (.int .i64))],[],[.i .i64],0,61⟩,[(.ret,⟨[(0, .cl (.own 0 (.i .i64))),(2, .cl (.sub 0 (.i .i64)))],[],[.i .i64],0,61⟩),(.ext 0,⟨[(0, .cl (.own 0 (.i .i64))),(2, .cl (.dead))],[],[.i .i64],0,61⟩)],[],[0,3],[0,2]⟩
def ev (s: (Unit×Int×Unit)×Unit×List Int×Unit):lY.R:=
 br (decide (s.1.2.1< (s.2.2.1.length:Int))) (dJ (0<=s.1.2.1/\s.1.2.1< (s.2.2.1.length:Int)) ((s.2.2.1[s.1.2.1.toNat]?).bind fun x3=>dJ (0<=(IntKind.wrap .i64 (s.1.2.1-1))/\(IntKind.wrap .i64 (s.1.2.1-1))< (s.2.2.1.length:Int)) ((s.2.2.1[(IntKind.wrap .i64 (s.1.2.1-1)).toNat]?).bind fun x4=>br (x3==x4) (dJ (0<=s.1.2.1/\s.1.2.1<=(s.2.2.1.length:Int)/\(s.2.2.1.length:Int)<=((s.2.2.1.length:Nat):Int)) ((lX (((),s.1.2.1,((0+s.1.2.1.toNat),((s.2.2.1.length:Int).toNat-s.1.2.1.toNat)),1,()),(()),s.2.2)).bind fun e16=>dJ (0<=e16.1.2.1/\e16.1.2.1<=(e16.2.2.1.length:Int)/\(e16.2.2.1.length:Int)<=((e16.2.2.1.length:Nat):Int)) (dJ ((0+e16.1.2.1.toNat)+((e16.2.2.1.length:Int).toNat-e16.1.2.1.toNat)<=e16.2.2.1.length) (dJ (0<=(0:Int)/\(0:Int)<=e16.1.2.1/\e16.1.2.1<=((e16.2.2.1.length:Nat):Int)) (some (.inr (.inl (((),((0+(0:Int).toNat),(e16.1.2.1.toNat-(0:Int).toNat)),()),(()),(e16.2.2.1.take (0+e16.1.2.1.toNat)++List.replicate ((e16.2.2.1.length:Int).toNat-e16.1.2.1.toNat) (0:Int)++e16.2.2.1.drop ((0+e16.1.2.1.toNat)+((e16.2.2.1.length:Int).toNat-e16.1.2.1.toNat))),())))) none) none) none) none) (some (.inl (((),(IntKind.wrap .i64 (s.1.2.1+1)),()),(()),s.2.2)))) none) none) (some (.inr (.inr (((),(),()),(()),s.2.2))))
def jK:=hZ ev
def qe:=nh Tryz.f182 [0] lY ev [] [qd] (by kernel_rfl) fun s=>by simp only[ev,tm]; kernel_rfl
def fv (a0:List Int):Option ((List Int)×Unit):=
 br (decide ((a0.length:Int)<2)) (some (a0,())) ((jK (((),1,()),(()),a0,())).bind fun e17=>Sum.elim (fun e17_0=>dJ (e17_0.1.2.1.1=0/\e17_0.1.2.1.2<=e17_0.2.2.1.length) (some ((e17_0.2.2.1.take e17_0.1.2.1.2),())) none) (fun e17_1=>some e17_1.2.2) e17)
def rT:=Le 182 Tryz.f182 (.i .i64) [] [.ls (.i .i64)] (fun l _=>fv l) [] [qe] (by kernel_rfl) fun l x=>by simp only[fv,tm,-eq_self]; kernel_rfl
def iG (a0:List Int):Option ((List Int)×Unit):=
 (mb a0).bind fun y1=>(gt y1.1).bind fun y2=>dJ (y2.1.length=y1.1.length) ((fv y2.1).bind fun y3=>some (y3.1,())) none
def tE:=fm 171 Tryz.f171 [.ty (.ls (.i .i64))] [.ls (.i .i64)] (fun x=>iG x.1) [yQ,vE,rT] [] (by kernel_rfl) fun x=>by simp only[iG,tm,-eq_self]; kernel_rfl
def fx (a0:Int) (a1:List Int):Option (Bool×Unit):=
 (iE a1 a0).bind fun y1=>some (y1.1,())
def lZ:=fm 172 Tryz.f172 [.ty (.i .i64), .pr (.ls (.i .i64))] [.b] (fun x=>fx x.1 x.2.1) [pE] [] (by kernel_rfl) fun x=>by simp only[fx,tm]; kernel_rfl
abbrev fT:LX:=⟨⟨[(0, .cl (.ro (.i .i64))),(1, .fn 172 [.pro (.ls (.i .i64))]),(7, .cl (.int .i64)),(8, .cl (.int .i64))],[],[],0,19⟩,[(.ret,⟨[(4, .cl (.int .i64))],[],[],0,19⟩),(.ext 0,⟨[(4, .cl (.dead))],[],[],0,19⟩)],[],[0,1,7,8],[4]⟩
def dV (s: (List Int×(List Int×Unit)×Int×Int×Unit)×Unit×Unit):fT.R:=
 br (decide (s.1.2.2.2.1<s.1.2.2.1)) (dJ (0<=s.1.2.2.2.1) ((s.1.1[s.1.2.2.2.1.toNat]?).bind fun x5=>(fx x5 s.1.2.1.1).bind fun y6=>br y6.1 (some (.inr (.inl (s.1.2.2.2,(()),(()))))) (some (.inl ((s.1.1,s.1.2.1,s.1.2.2.1,(IntKind.wrap .i64 (s.1.2.2.2.1+1)),()),(()),(()))))) none) (some (.inr (.inr (((),()),(()),(())))))
def fe:=hZ dV
def jD:=nh Tryz.f160 [0] fT dV [lZ] [] (by kernel_rfl) fun s=>by simp only[dV,tm]; kernel_rfl
def eF (a0:List Int) (a1_0:List Int):Option (Int×Unit):=
 (fe ((a0,(a1_0,()),(a0.length:Int),0,()),(()),(()))).bind fun e7=>Sum.elim (fun e7_0=>some e7_0.1) (fun _=>some ((-1),())) e7
def jS:=fm 160 Tryz.f160 [.ty (.ls (.i .i64)), .fn 172 [.ls (.i .i64)]] [.i .i64] (fun x=>eF x.1 x.2.1.1) [] [jD] (by kernel_rfl) fun x=>by simp only[eF,tm]; kernel_rfl
abbrev fA:LX:=⟨⟨[(0, .cl (.own 0 (.i .i64))),(1, .fn 172 [.pro (.ls (.i .i64))]),(5, .cl (.int .i64)),(6, .cl (.int .i64))],[],[.i .i64],0,42⟩,[(.ext 0,⟨[(0, .cl (.own 0 (.i .i64))),(5, .cl (.int .i64))],[],[.i .i64],0,42⟩)],[],[0,1,5,6],[0,5]⟩
def dQ (s: (Unit×(List Int×Unit)×Int×Int×Unit)×Unit×List Int×Unit):fA.R:=
 br (decide (s.1.2.2.2.1< (s.2.2.1.length:Int))) (dJ (0<=s.1.2.2.2.1/\s.1.2.2.2.1< (s.2.2.1.length:Int)) ((s.2.2.1[s.1.2.2.2.1.toNat]?).bind fun x6=>(fx x6 s.1.2.1.1).bind fun y7=>br (!y7.1) (dJ (0<=s.1.2.2.1/\s.1.2.2.1< (s.2.2.1.length:Int)) ((s.2.2.1[s.1.2.2.1.toNat]?).bind fun _=>some (.inl (((),s.1.2.1,(IntKind.wrap .i64 (s.1.2.2.1+1)),(IntKind.wrap .i64 (s.1.2.2.2.1+1)),()),(()),(s.2.2.1.set s.1.2.2.1.toNat x6),()))) none) (some (.inl (((),s.1.2.1,s.1.2.2.1,(IntKind.wrap .i64 (s.1.2.2.2.1+1)),()),(()),s.2.2)))) none) (some (.inr (((),s.1.2.2.1,()),(()),s.2.2)))
def fB:=hZ dQ
def iU:=nh Tryz.f170 [0] fA dQ [lZ] [] (by kernel_rfl) fun s=>by simp only[dQ,tm]; kernel_rfl
def ei (a0:List Int) (a1_0:List Int):Option ((List Int)×Unit):=
 (eF a0 a1_0).bind fun y1=>br (y1.1==(-1)) (some (a0,())) ((fB (((),(a1_0,()),y1.1,(IntKind.wrap .i64 (y1.1+1)),()),(()),a0,())).bind fun e12=>dJ (0<=e12.1.2.1/\e12.1.2.1<=(e12.2.2.1.length:Int)/\(e12.2.2.1.length:Int)<=((e12.2.2.1.length:Nat):Int)) (dJ ((0+e12.1.2.1.toNat)+((e12.2.2.1.length:Int).toNat-e12.1.2.1.toNat)<=e12.2.2.1.length) (dJ (0<=(0:Int)/\(0:Int)<=e12.1.2.1/\e12.1.2.1<=((e12.2.2.1.length:Nat):Int)) (dJ ((0+(0:Int).toNat)=0/\(e12.1.2.1.toNat-(0:Int).toNat)<=(e12.2.2.1.take (0+e12.1.2.1.toNat)++List.replicate ((e12.2.2.1.length:Int).toNat-e12.1.2.1.toNat) (0:Int)++e12.2.2.1.drop ((0+e12.1.2.1.toNat)+((e12.2.2.1.length:Int).toNat-e12.1.2.1.toNat))).length) (some (((e12.2.2.1.take (0+e12.1.2.1.toNat)++List.replicate ((e12.2.2.1.length:Int).toNat-e12.1.2.1.toNat) (0:Int)++e12.2.2.1.drop ((0+e12.1.2.1.toNat)+((e12.2.2.1.length:Int).toNat-e12.1.2.1.toNat))).take (e12.1.2.1.toNat-(0:Int).toNat)),())) none) none) none) none)
def jb:=Le 170 Tryz.f170 (.i .i64) [.fn 172 [.ls (.i .i64)]] [.ls (.i .i64)] (fun l x=>ei l x.1.1) [jS] [iU] (by kernel_rfl) fun l x=>by simp only[ei,tm,-eq_self]; kernel_rfl
def gg (a0:List Int) (a1:List Int):Option ((List Int)×Unit):=
 (iG a0).bind fun y1=>(ei y1.1 a1).bind fun y2=>some (y2.1,())
def sX:=fm 155 Tryz.f155 [.ty (.ls (.i .i64)), .ty (.ls (.i .i64))] [.ls (.i .i64)] (fun x=>gg x.1 x.2.1) [tE,jb] [] (by kernel_rfl) fun x=>by simp only[gg,tm]; kernel_rfl
def iV (a0:List Int) (a1:List Int):Option ((List Int)×Unit):=
 (gg a0 a1).bind fun y1=>(gg a0 y1.1).bind fun y2=>some (y2.1,())
def tU:=fm 127 Tryz.f127 [.ty (.ls (.i .i64)), .ty (.ls (.i .i64))] [.ls (.i .i64)] (fun x=>iV x.1 x.2.1) [sX] [] (by kernel_rfl) fun x=>by simp only[iV,tm]; kernel_rfl
def fC (a0:dM):Option (Bool×Unit):=
 (ep a0.epoch 1 20).bind fun y1=>br y1.1 ((gT a0.replicas).bind fun y2=>br y2.1 ((gT a0.witnesses).bind fun y3=>br y3.1 ((iE a0.replicas a0.primary).bind fun y4=>br y4.1 ((iV a0.replicas a0.witnesses).bind fun y5=>some (((y5.1.length:Int)==0),())) (some (false,()))) (some (false,()))) (some (false,()))) (some (false,()))
def j8:=fm 80 Tryz.f80 [.ty (.st .config)] [.b] (fun x=>fC x.1) [gR,rS,pE,tU] [] (by kernel_rfl) fun x=>by simp only[fC,tm]; kernel_rfl
abbrev oZ:LX:=⟨⟨[(1, .cl (.ptr 0 0)),(6, .cl (.ro (.st .config))),(7, .cl (.int .i64)),(8, .cl (.int .i64))],[[.ro (.st .config), .int .i64]],[],0,30⟩,[(.ret,⟨[(1, .cl (.ptr 0 0)),(2, .cl (.bl))],[[.ro (.st .config), .int .i64]],[],0,30⟩),(.ext 0,⟨[(1, .cl (.ptr 0 0)),(2, .cl (.dead))],[[.ro (.st .config), .int .i64]],[],0,30⟩)],[],[1,6,7,8],[1,2]⟩
def gF (s: (Unit×List dM×Int×Int×Unit)×((List dM×Int×Unit)×Unit)×Unit):oZ.R:=
 br (decide (s.1.2.2.2.1<s.1.2.2.1)) (dJ (0<=s.1.2.2.2.1) ((s.1.2.1[s.1.2.2.2.1.toNat]?).bind fun x6=>(fC x6).bind fun y7=>br (!y7.1) (some (.inr (.inl (((),false,()),s.2.1,(()))))) (br (!(x6.epoch==(IntKind.wrap .i64 (s.1.2.2.2.1+1)))) (some (.inr (.inl (((),false,()),s.2.1,(()))))) (some (.inl (((),s.1.2.1,s.1.2.2.1,(IntKind.wrap .i64 (s.1.2.2.2.1+1)),()),s.2.1,(())))))) none) (some (.inr (.inr (((),(),()),s.2.1,(())))))
def lQ:=hZ gF
def tV:=nh Tryz.f96 [0] oZ gF [j8] [] (by kernel_rfl) fun s=>by simp only[gF,tm]; kernel_rfl
def i4 (a0:ec):Option (Bool×Unit):=
 (lQ (((),a0.configs,(a0.configs.length:Int),0,()),((a0.configs,a0.activated,()),()),(()))).bind fun e8=>Sum.elim (fun e8_0=>some e8_0.1.2) (fun e8_1=>(ep e8_1.2.1.1.2.1 0 (e8_1.2.1.1.1.length:Int)).bind fun y9=>some (y9.1,())) e8
def qA:=fm 96 Tryz.f96 [.ty (.st .masterLog)] [.b] (fun x=>i4 x.1) [gR] [tV] (by kernel_rfl) fun x=>by simp only[i4,tm]; kernel_rfl
def oo (a0:mF):Option (Bool×Unit):=
 br ((a0.epoch==0)&&((a0.holder==0)&&((a0.ends==0)&&true))) (some (true,())) ((ep a0.epoch 1 20).bind fun y1=>br y1.1 ((ep a0.holder 0 4).bind fun y2=>br y2.1 ((ep a0.ends 1 1049).bind fun y3=>some (y3.1,())) (some (false,()))) (some (false,())))
def Ew:=fm 97 Tryz.f97 [.ty (.st .lease)] [.b] (fun x=>oo x.1) [gR] [] (by kernel_rfl) fun x=>by simp only[oo,tm]; kernel_rfl
def kG (a0:fZ):Option (Bool×Unit):=
 (ep a0.rack 0 9).bind fun y1=>br (!y1.1) (some (true,())) ((ep a0.capacity 0 9).bind fun y2=>br (!y2.1) (some (true,())) ((ep a0.load 0 99).bind fun y3=>some ((!y3.1),())))
def vF:=fm 138 Tryz.f138 [.ty (.st .place)] [.b] (fun x=>kG x.1) [gR] [] (by kernel_rfl) fun x=>by simp only[kG,tm]; kernel_rfl
abbrev gv:LX:=⟨⟨[(0, .cl (.ro (.st .place))),(1, .cl (.fc 138)),(7, .cl (.int .i64)),(8, .cl (.int .i64))],[],[],0,19⟩,[(.ret,⟨[(4, .cl (.int .i64))],[],[],0,19⟩),(.ext 0,⟨[(4, .cl (.dead))],[],[],0,19⟩)],[],[0,1,7,8],[4]⟩
def eg (s: (List fZ×Unit×Int×Int×Unit)×Unit×Unit):gv.R:=
 br (decide (s.1.2.2.2.1<s.1.2.2.1)) (dJ (0<=s.1.2.2.2.1) ((s.1.1[s.1.2.2.2.1.toNat]?).bind fun x4=>(kG x4).bind fun y5=>br y5.1 (some (.inr (.inl (s.1.2.2.2,(()),(()))))) (some (.inl ((s.1.1,(),s.1.2.2.1,(IntKind.wrap .i64 (s.1.2.2.2.1+1)),()),(()),(()))))) none) (some (.inr (.inr (((),()),(()),(())))))
def fp:=hZ eg
def kg:=nh Tryz.f161 [0] gv eg [vF] [] (by kernel_rfl) fun s=>by simp only[eg,tm]; kernel_rfl
def eU (a0:List fZ):Option (Int×Unit):=
 (fp ((a0,(),(a0.length:Int),0,()),(()),(()))).bind fun e6=>Sum.elim (fun e6_0=>some e6_0.1) (fun _=>some ((-1),())) e6
def kH:=fm 161 Tryz.f161 [.ty (.ls (.st .place)), .fc 138] [.i .i64] (fun x=>eU x.1) [] [kg] (by kernel_rfl) fun x=>by simp only[eU,tm]; kernel_rfl
def eG (a0:List fZ):Option (Bool×Unit):=
 (eU a0).bind fun y1=>some ((decide (y1.1≥0)),())
def jT:=fm 137 Tryz.f137 [.ty (.ls (.st .place)), .fc 138] [.b] (fun x=>eG x.1) [kH] [] (by kernel_rfl) fun x=>by simp only[eG,tm]; kernel_rfl
def lC (a0:List fZ):Option (Bool×Unit):=
 br ((a0.length:Int)==5) ((eG a0).bind fun y1=>some ((!y1.1),())) (some (false,()))
def A9:=fm 98 Tryz.f98 [.ty (.ls (.st .place))] [.b] (fun x=>lC x.1) [jT] [] (by kernel_rfl) fun x=>by simp only[lC,tm]; kernel_rfl
def kp (a0:Op):Option (Bool×Unit):=
 (ep a0.client 0 2).bind fun y1=>br (!y1.1) (some (false,())) ((ep a0.seq 1 99).bind fun y2=>br (!y2.1) (some (false,())) ((ep a0.object 0 2).bind fun y3=>br (!y3.1) (some (false,())) ((ep a0.value 0 9).bind fun y4=>br (!y4.1) (some (false,())) (br (a0.kind==1) (br (a0.old==0) (some (true,())) (br (a0.kind==2) ((ep a0.old 0 9).bind fun y5=>some (y5.1,())) (some (false,())))) (br (a0.kind==2) ((ep a0.old 0 9).bind fun y6=>some (y6.1,())) (some (false,())))))))
def Ba:=fm 147 Tryz.f147 [.ty (.st .op)] [.b] (fun x=>kp x.1) [gR] [] (by kernel_rfl) fun x=>by simp only[kp,tm]; kernel_rfl
abbrev xF:LX:=⟨⟨[(0, .cl (.ro (.st .entry))),(5, .cl (.ro (.st .entry))),(6, .cl (.int .i64)),(7, .cl (.int .i64))],[],[],0,41⟩,[(.ret,⟨[(0, .cl (.ro (.st .entry))),(2, .cl (.bl))],[],[],0,41⟩),(.ext 0,⟨[(0, .cl (.ro (.st .entry))),(2, .cl (.dead))],[],[],0,41⟩)],[],[0,5,6,7],[0,2]⟩
def mq (s: (List fO×List fO×Int×Int×Unit)×Unit×Unit):xF.R:=
 br (decide (s.1.2.2.2.1<s.1.2.2.1)) (dJ (0<=s.1.2.2.2.1) ((s.1.2.1[s.1.2.2.2.1.toNat]?).bind fun x5=>(ep x5.epoch 1 20).bind fun y6=>br (!y6.1) (some (.inr (.inl ((s.1.1,false,()),(()),(()))))) (br (decide (s.1.2.2.2.1>0)) (dJ (0<=(IntKind.wrap .i64 (s.1.2.2.2.1-1))) ((s.1.1[(IntKind.wrap .i64 (s.1.2.2.2.1-1)).toNat]?).bind fun x7=>br (decide (x5.epoch<x7.epoch)) (some (.inr (.inl ((s.1.1,false,()),(()),(()))))) ((kp x5.op).bind fun y8=>br (!y8.1) (some (.inr (.inl ((s.1.1,false,()),(()),(()))))) (some (.inl ((s.1.1,s.1.2.1,s.1.2.2.1,(IntKind.wrap .i64 (s.1.2.2.2.1+1)),()),(()),(())))))) none) ((kp x5.op).bind fun y9=>br (!y9.1) (some (.inr (.inl ((s.1.1,false,()),(()),(()))))) (some (.inl ((s.1.1,s.1.2.1,s.1.2.2.1,(IntKind.wrap .i64 (s.1.2.2.2.1+1)),()),(()),(()))))))) none) (some (.inr (.inr ((s.1.1,(),()),(()),(())))))
def sY:=hZ mq
def Ey:=nh Tryz.f110 [0] xF mq [gR,Ba] [] (by kernel_rfl) fun s=>by simp only[mq,tm]; kernel_rfl
def nA (a0:List fO):Option (Bool×Unit):=
 (sY ((a0,a0,(a0.length:Int),0,()),(()),(()))).bind fun e10=>Sum.elim (fun e10_0=>some e10_0.1.2) (fun e10_1=>some ((decide ((e10_1.1.1.length:Int)<=16)),())) e10
def Du:=fm 110 Tryz.f110 [.ty (.ls (.st .entry))] [.b] (fun x=>nA x.1) [] [Ey] (by kernel_rfl) fun x=>by simp only[nA,tm]; kernel_rfl
abbrev pG:LX:=⟨⟨[(0, .cl (.ro (.i .i64))),(1, .cl (.ro (.i .i64))),(12, .cl (.int .i64)),(13, .cl (.int .i64))],[],[],0,26⟩,[(.ret,⟨[(4, .cl (.bl))],[],[],0,26⟩),(.ext 0,⟨[(4, .cl (.dead))],[],[],0,26⟩)],[],[0,1,12,13],[4]⟩
def iv (s: (List Int×List Int×Int×Int×Unit)×Unit×Unit):pG.R:=
 br (decide (s.1.2.2.2.1<s.1.2.2.1)) (dJ (0<=s.1.2.2.2.1) ((s.1.1[s.1.2.2.2.1.toNat]?).bind fun x5=>dJ (0<=s.1.2.2.2.1) ((s.1.2.1[s.1.2.2.2.1.toNat]?).bind fun x6=>br (!(x5==x6)) (some (.inr (.inl ((false,()),(()),(()))))) (some (.inl ((s.1.1,s.1.2.1,s.1.2.2.1,(IntKind.wrap .i64 (s.1.2.2.2.1+1)),()),(()),(()))))) none) none) (some (.inr (.inr (((),()),(()),(())))))
def mZ:=hZ iv
def vG:=nh Tryz.f149 [0] pG iv [] [] (by kernel_rfl) fun s=>by simp only[iv,tm]; kernel_rfl
def mc (a0:List Int) (a1:List Int):Option (Bool×Unit):=
 br (!((a0.length:Int)==(a1.length:Int))) (some (false,())) ((mZ ((a0,a1,(a0.length:Int),0,()),(()),(()))).bind fun e7=>Sum.elim (fun e7_0=>some e7_0.1) (fun _=>some (true,())) e7)
def yS:=fm 149 Tryz.f149 [.ty (.ls (.i .i64)), .ty (.ls (.i .i64))] [.b] (fun x=>mc x.1 x.2.1) [] [vG] (by kernel_rfl) fun x=>by simp only[mc,tm]; kernel_rfl
def iw (a0:List Int) (a1:List Int):Option (Bool×Unit):=
 (mc a0 a1).bind fun y1=>some (y1.1,())
def vH:=fm 114 Tryz.f114 [.ty (.ls (.i .i64)), .ty (.ls (.i .i64))] [.b] (fun x=>iw x.1 x.2.1) [yS] [] (by kernel_rfl) fun x=>by simp only[iw,tm]; kernel_rfl
def fQ (a0:dM) (a1:dM):Option (Bool×Unit):=
 br (a0.epoch==a1.epoch) (br (a0.primary==a1.primary) ((iw a0.replicas a1.replicas).bind fun y1=>br y1.1 ((iw a0.witnesses a1.witnesses).bind fun y2=>some (y2.1,())) (some (false,()))) (some (false,()))) (some (false,()))
def m0:=fm 60 Tryz.f60 [.ty (.st .config), .ty (.st .config)] [.b] (fun x=>fQ x.1 x.2.1) [vH] [] (by kernel_rfl) fun x=>by simp only[fQ,tm]; kernel_rfl
def kr (a0:List fO):Option (Int×Unit):=
 br ((a0.length:Int)==0) (some (0,())) (dJ (0<=(IntKind.wrap .i64 ((a0.length:Int)-1))) ((a0[(IntKind.wrap .i64 ((a0.length:Int)-1)).toNat]?).bind fun x1=>some (x1.epoch,())) none)
def tF:=fm 100 Tryz.f100 [.ty (.ls (.st .entry))] [.i .i64] (fun x=>kr x.1) [] [] (by kernel_rfl) fun x=>by simp only[kr,tm]; kernel_rfl
def oq (a0:dM) (a1:Int):Option (Int×Unit):=
 (fC a0).bind fun y1=>br (!y1.1) (some (0,())) (br (a1==a0.primary) (some (1,())) ((iE a0.replicas a1).bind fun y2=>br y2.1 (some (2,())) ((iE a0.witnesses a1).bind fun y3=>br y3.1 (some (3,())) (some (0,())))))
def Bb:=fm 38 Tryz.f38 [.ty (.st .config), .ty (.i .i64)] [.i .i64] (fun x=>oq x.1 x.2.1) [j8,pE] [] (by kernel_rfl) fun x=>by simp only[oq,tm]; kernel_rfl
def pH (a0:Int) (a1:List fO):Option (Bool×Unit):=
 (nA a1).bind fun y1=>br y1.1 (br (decide ((a1.length:Int)<=3)) ((ep a0 0 (IntKind.wrap .i64 (16-(a1.length:Int)))).bind fun y2=>br y2.1 (br (a0==0) (some (true,())) (some (((a1.length:Int)==3),()))) (some (false,()))) (some (false,()))) (some (false,()))
def Gw:=fm 139 Tryz.f139 [.ty (.i .i64), .ty (.ls (.st .entry))] [.b] (fun x=>pH x.1 x.2.1) [Du,gR] [] (by kernel_rfl) fun x=>by simp only[pH,tm]; kernel_rfl
def gG (a0:eL) (a1:Int):Option (Bool×Unit):=
 (ep a0.version 1 2).bind fun y1=>br (!y1.1) (some (false,())) ((ep a0.epoch 0 20).bind fun y2=>br (!y2.1) (some (false,())) ((nA a0.log).bind fun y3=>br (!y3.1) (some (false,())) ((nA a0.learned).bind fun y4=>br (!y4.1) (some (false,())) ((ep a0.first 0 16).bind fun y5=>br (!y5.1) (some (false,())) (br (decide ((IntKind.wrap .i64 (a0.first+(a0.log.length:Int)))>16)) (some (false,())) ((ep a0.commit 0 (IntKind.wrap .i64 (a0.first+(a0.log.length:Int)))).bind fun y6=>br (!y6.1) (some (false,())) ((fQ a0.config (⟨0,0,([]:List Int),([]:List Int)⟩:dM)).bind fun y7=>br y7.1 (br (a0.first==0) (br (a0.commit==0) (some (((a0.log.length:Int)==0),())) (some (false,()))) (some (false,()))) (br (!a0.intact) (some (false,())) (br (decide (a0.epoch<a0.config.epoch)) (some (false,())) ((kr a0.log).bind fun y8=>br (decide (y8.1>a0.config.epoch)) (some (false,())) ((oq a0.config a1).bind fun y9=>br (y9.1==1) (some ((a0.first==0),())) (br (y9.1==2) (some ((a0.first==0),())) (br (y9.1==3) ((pH a0.first a0.log).bind fun y12=>some (y12.1,())) (some (false,())))))))))))))))
def o0:=fm 99 Tryz.f99 [.ty (.st .server), .ty (.i .i64)] [.b] (fun x=>gG x.1 x.2.1) [gR,Du,m0,tF,Bb,Gw] [] (by kernel_rfl) fun x=>by simp only[gG,tm]; kernel_rfl
def iM (a0:dM):Option (dM×Unit):=
 dJ ((([]:List Int)++a0.replicas).length*8<=2 ^ 40) (dJ ((([]:List Int)++a0.witnesses).length*8<=2 ^ 40) (some ((⟨a0.epoch,a0.primary,(([]:List Int)++a0.replicas),(([]:List Int)++a0.witnesses)⟩:dM),())) none) none
def yT:=fm 140 Tryz.f140 [.ty (.st .config)] [.st .config] (fun x=>iM x.1) [] [] (by kernel_rfl) fun x=>by simp only[iM,tm]; kernel_rfl
def jr (a0:ec) (a1:Int):Option (dM×Bool×Unit):=
 (i4 a0).bind fun y1=>br (!y1.1) (some ((⟨0,0,([]:List Int),([]:List Int)⟩:dM),false,())) ((ep a1 1 (a0.configs.length:Int)).bind fun y2=>br (!y2.1) (some ((⟨0,0,([]:List Int),([]:List Int)⟩:dM),false,())) (dJ (0<=(IntKind.wrap .i64 (a1-1))) ((a0.configs[(IntKind.wrap .i64 (a1-1)).toNat]?).bind fun x3=>(iM x3).bind fun y4=>some (y4.1,true,())) none))
def vI:=fm 101 Tryz.f101 [.ty (.st .masterLog), .ty (.i .i64)] [.st .config, .b] (fun x=>jr x.1 x.2.1) [qA,gR,yT] [] (by kernel_rfl) fun x=>by simp only[jr,tm]; kernel_rfl
abbrev m8:LX:=⟨⟨[(1, .cl (.ptr 0 0)),(57, .cl (.ro (.st .server))),(58, .cl (.int .i64)),(59, .cl (.int .i64))],[[.int .i64, .ro (.st .server), .ro (.i .i64), .ro (.st .config), .int .i64, .int .i64, .int .i64, .int .i64, .int .i64, .ro (.st .place)]],[],0,118⟩,[(.ret,⟨[(2, .cl (.bl))],[],[],0,118⟩),(.ext 0,⟨[(2, .cl (.dead))],[],[],0,118⟩)],[],[1,57,58,59],[2]⟩
def fK (s: (Unit×List eL×Int×Int×Unit)×((Int×List eL×List Int×List dM×Int×Int×Int×Int×Int×List fZ×Unit)×Unit)×Unit):m8.R:=
 br (decide (s.1.2.2.2.1<s.1.2.2.1)) (dJ (0<=s.1.2.2.2.1) ((s.1.2.1[s.1.2.2.2.1.toNat]?).bind fun x20=>(gG x20 s.1.2.2.2.1).bind fun y21=>br (!y21.1) (some (.inr (.inl ((false,()),(()),(()))))) (br (decide (x20.epoch>(s.2.1.1.2.2.2.1.length:Int))) (some (.inr (.inl ((false,()),(()),(()))))) ((kr x20.learned).bind fun y22=>br (decide (y22.1>s.2.1.1.2.2.2.2.1)) (some (.inr (.inl ((false,()),(()),(()))))) ((fQ x20.config (⟨0,0,([]:List Int),([]:List Int)⟩:dM)).bind fun y23=>br y23.1 (some (.inl (((),s.1.2.1,s.1.2.2.1,(IntKind.wrap .i64 (s.1.2.2.2.1+1)),()),s.2.1,(())))) ((jr (⟨s.2.1.1.2.2.2.1,s.2.1.1.2.2.2.2.1⟩:ec) x20.config.epoch).bind fun y24=>br (!y24.2.1) (some (.inr (.inl ((false,()),(()),(()))))) ((fQ y24.1 x20.config).bind fun y25=>br (!y25.1) (some (.inr (.inl ((false,()),(()),(()))))) (br (decide (x20.config.epoch>s.2.1.1.2.2.2.2.1)) (some (.inr (.inl ((false,()),(()),(()))))) (some (.inl (((),s.1.2.1,s.1.2.2.1,(IntKind.wrap .i64 (s.1.2.2.2.1+1)),()),s.2.1,(()))))))))))) none) (some (.inr (.inr (((),()),(()),(())))))
def kh:=hZ fK
def ri:=nh Tryz.f48 [0] m8 fK [o0,tF,m0,vI] [] (by kernel_rfl) fun s=>by simp only[fK,tm]; kernel_rfl
def gi (a0:dX):Option (Bool×Unit):=
 (ep a0.now 0 999).bind fun y1=>br (!y1.1) (some (false,())) (br (!((a0.servers.length:Int)==5)) (some (false,())) ((kf a0.sides).bind fun y2=>br (!y2.1) (some (false,())) ((i4 a0.master).bind fun y3=>br (!y3.1) (some (false,())) ((oo a0.lease).bind fun y4=>br (!y4.1) (some (false,())) ((lC a0.places).bind fun y5=>br (!y5.1) (some (false,())) ((ep a0.masterUp 0 3).bind fun y6=>br (!y6.1) (some (false,())) (br (decide (a0.lease.epoch>a0.master.activated)) (some (false,())) ((kh (((),a0.servers,(a0.servers.length:Int),0,()),((a0.now,a0.servers,a0.sides,a0.master.configs,a0.master.activated,a0.masterUp,a0.lease.epoch,a0.lease.holder,a0.lease.ends,a0.places,()),()),(()))).bind fun e26=>Sum.elim (fun e26_0=>some e26_0.1) (fun _=>some (true,())) e26))))))))
def ot:=fm 48 Tryz.f48 [.ty (.st .cluster)] [.b] (fun x=>gi x.1) [gR,vB,qA,Ew,A9] [ri] (by kernel_rfl) fun x=>by simp only[gi,tm]; kernel_rfl
def fD (a0:ec):Option (dM×Bool×Unit):=
 (jr a0 a0.activated).bind fun y1=>some (y1.1,y1.2.1,())
def o1:=fm 49 Tryz.f49 [.ty (.st .masterLog)] [.st .config, .b] (fun x=>fD x.1) [vI] [] (by kernel_rfl) fun x=>by simp only[fD,tm]; kernel_rfl
section
open Go.Shelf Go.RowKit
def H2:Ren:=⟨fun x=>match x with | 171=>79| 243=>125| 246=>154| 283=>166| 284=>167| 285=>168| 286=>169| 129=>176| 317=>175| 318=>177| 319=>178| 320=>179| 337=>184| 338=>185|n=>n,fun x=>match x with | 3=>3| 9=>9| 2=>2| 4=>4| 171=>170| 0=>0| 53=>171| 37=>98| 5=>5| 173=>174| 212=>181| 51=>182| 20=>20| 213=>183| 46=>184| 232=>190| 233=>191|n=>n,fun x=>match x with | 17=>1| 18=>2| 19=>3|n=>n⟩
set_option maxRecDepth 100000 in
theorem Gx:Lays.n171 Tryz.prog H2:= { mixed:=mH,f129:=by kernel_rfl,f171:=by kernel_rfl,f243:=by kernel_rfl,f246:=by kernel_rfl,f283:=by kernel_rfl,f284:=by kernel_rfl,f285:=by kernel_rfl,f286:=by kernel_rfl,f317:=by kernel_rfl,f318:=by kernel_rfl,f319:=by kernel_rfl,f320:=by kernel_rfl,f337:=by kernel_rfl,f338:=by kernel_rfl,t0:=by kernel_rfl,a0:=fun _=>by kernel_rfl,z0:=fun _=>by kernel_rfl,v0:=fun _=>by kernel_rfl,t2:=by kernel_rfl,a2:=fun _=>by kernel_rfl,z2:=fun _=>by kernel_rfl,v2:=fun _=>by kernel_rfl,t3:=by kernel_rfl,a3:=fun _=>by kernel_rfl,z3:=fun _=>by kernel_rfl,v3:=fun _=>by kernel_rfl,t4:=by kernel_rfl,a4:=fun _=>by kernel_rfl,z4:=fun _=>by kernel_rfl,v4:=fun _=>by kernel_rfl,t5:=by kernel_rfl,a5:=fun _=>by kernel_rfl,z5:=fun _=>by kernel_rfl,v5:=fun _=>by kernel_rfl,t9:=by kernel_rfl,a9:=fun _=>by kernel_rfl,z9:=fun _=>by kernel_rfl,v9:=fun _=>by kernel_rfl,t20:=by kernel_rfl,a20:=fun _=>by kernel_rfl,z20:=fun _=>by kernel_rfl,v20:=fun _=>by kernel_rfl,t37:=by kernel_rfl,a37:=fun _=>by kernel_rfl,z37:=fun _=>by kernel_rfl,v37:=fun _=>by kernel_rfl,t46:=by kernel_rfl,a46:=fun _=>by kernel_rfl,z46:=fun _=>by kernel_rfl,v46:=fun _=>by kernel_rfl,t51:=by kernel_rfl,a51:=fun _=>by kernel_rfl,z51:=fun _=>by kernel_rfl,v51:=fun _=>by kernel_rfl,t53:=by kernel_rfl,a53:=fun _=>by kernel_rfl,z53:=fun _=>by kernel_rfl,v53:=fun _=>by kernel_rfl,t171:=by kernel_rfl,a171:=fun _=>by kernel_rfl,z171:=fun _=>by kernel_rfl,v171:=fun _=>by kernel_rfl,t173:=by kernel_rfl,a173:=fun _=>by kernel_rfl,z173:=fun _=>by kernel_rfl,v173:=fun _=>by kernel_rfl,t212:=by kernel_rfl,a212:=fun _=>by kernel_rfl,z212:=fun _=>by kernel_rfl,v212:=fun _=>by kernel_rfl,t213:=by kernel_rfl,a213:=fun _=>by kernel_rfl,z213:=fun _=>by kernel_rfl,t232:=by kernel_rfl,a232:=fun _=>by kernel_rfl,z232:=fun _=>by kernel_rfl,v232:=fun _=>by kernel_rfl,t233:=by kernel_rfl,a233:=fun _=>by kernel_rfl,z233:=fun _=>by kernel_rfl,v233:=fun _=>by kernel_rfl,g17:=by kernel_rfl,g18:=by kernel_rfl,g19:=by kernel_rfl }
end
def md (a0:Int):Option (ByteArray×Unit):=if 0<=a0/\a0<100 then some (⟨(Lib.decDigits a0.toNat).toArray⟩,()) else none
def yU:=KY 79 (by kernel_rfl) (AQ Tryz.func79 (by kernel_rfl) rfl) [.ty (.i .i64)] [.s] rfl rfl (fun x=>md x.1) fun x y h w=>by
 obtain⟨n,u⟩:=x;unfold md at h;split at h
 ·rename_i hc;obtain rfl:=Option.some.inj h;have hc:0<=n/\n<100:=hc;obtain⟨m,rfl⟩:=dh hc.1;refine (Any.strconv_Itoa_small Gx m (by omega) w).mono fun e w' he=> ?_;obtain⟨rfl,rfl⟩:=he;exact⟨rfl,Go.RowKit.Below.refl _ _⟩
 ·cases h
def gW (a0:Int):Option (ByteArray×Unit):=
 (md a0).bind fun y1=>some (y1.1,())
def pI:=fm 36 Tryz.f36 [.ty (.i .i64)] [.s] (fun x=>gW x.1) [yU] [] (by kernel_rfl) fun x=>by simp only[gW,tm]; kernel_rfl
abbrev nB:LX:=⟨⟨[(3, .cl (.str)),(14, .cl (.ro (.i .i64))),(15, .cl (.int .i64)),(16, .cl (.int .i64))],[],[],0,26⟩,[(.ext 1,⟨[(3, .cl (.str))],[],[],0,26⟩)],[],[3,14,15,16],[3]⟩
def fU (s: (ByteArray×List Int×Int×Int×Unit)×Unit×Unit):nB.R:=
 br (decide (s.1.2.2.2.1<s.1.2.2.1)) (dJ (0<=s.1.2.2.2.1) ((s.1.2.1[s.1.2.2.2.1.toNat]?).bind fun x6=>(gW x6).bind fun y7=>dJ (s.1.1.size+y7.1.size<=2 ^ 40) (some (.inl (((s.1.1++y7.1),s.1.2.1,s.1.2.2.1,(IntKind.wrap .i64 (s.1.2.2.2.1+1)),()),(()),(())))) none) none) (some (.inr ((s.1.1,()),(()),(()))))
def nC:=hZ fU
def rU:=nh Tryz.f102 [0] nB fU [pI] [] (by kernel_rfl) fun s=>by simp only[fU,tm]; kernel_rfl
def gH (a0:List Int):Option (ByteArray×Unit):=
 (gT a0).bind fun y1=>br (!y1.1) (some (ByteArray.empty,())) (br ((a0.length:Int)==0) (some ((⟨⟨[110,111,110,101]⟩⟩:ByteArray),())) ((nC ((ByteArray.empty,a0,(a0.length:Int),0,()),(()),(()))).bind fun e8=>some e8.1))
def tW:=fm 102 Tryz.f102 [.ty (.ls (.i .i64))] [.s] (fun x=>gH x.1) [rS] [rU] (by kernel_rfl) fun x=>by simp only[gH,tm]; kernel_rfl
section
open Go.Shelf Go.RowKit
def Dv:Ren:=⟨fun x=>match x with | 156=>34| 165=>76| 166=>77| 169=>78| 240=>123| 241=>124| 276=>152| 277=>153|n=>n,fun x=>match x with | 31=>71| 9=>9| 3=>3| 4=>4| 0=>0| 20=>20| 72=>109| 76=>113| 70=>107| 37=>98| 75=>112| 127=>144| 164=>161| 5=>5| 80=>115|n=>n,fun x=>x⟩
set_option maxRecDepth 100000 in
theorem Bc:Lays.n156 Tryz.prog Dv:= { mixed:=mH,f156:=by kernel_rfl,f165:=by kernel_rfl,f166:=by kernel_rfl,f169:=by kernel_rfl,f240:=by kernel_rfl,f241:=by kernel_rfl,f276:=by kernel_rfl,f277:=by kernel_rfl,t0:=by kernel_rfl,a0:=fun _=>by kernel_rfl,z0:=fun _=>by kernel_rfl,v0:=fun _=>by kernel_rfl,t3:=by kernel_rfl,a3:=fun _=>by kernel_rfl,z3:=fun _=>by kernel_rfl,v3:=fun _=>by kernel_rfl,t4:=by kernel_rfl,a4:=fun _=>by kernel_rfl,z4:=fun _=>by kernel_rfl,v4:=fun _=>by kernel_rfl,t9:=by kernel_rfl,a9:=fun _=>by kernel_rfl,z9:=fun _=>by kernel_rfl,v9:=fun _=>by kernel_rfl,t20:=by kernel_rfl,a20:=fun _=>by kernel_rfl,z20:=fun _=>by kernel_rfl,v20:=fun _=>by kernel_rfl,t31:=by kernel_rfl,a31:=fun _=>by kernel_rfl,z31:=fun _=>by kernel_rfl,v31:=fun _=>by kernel_rfl,t37:=by kernel_rfl,a37:=fun _=>by kernel_rfl,z37:=fun _=>by kernel_rfl,v37:=fun _=>by kernel_rfl,t70:=by kernel_rfl,a70:=fun _=>by kernel_rfl,z70:=fun _=>by kernel_rfl,v70:=fun _=>by kernel_rfl,t72:=by kernel_rfl,a72:=fun _=>by kernel_rfl,z72:=fun _=>by kernel_rfl,v72:=fun _=>by kernel_rfl,t75:=by kernel_rfl,a75:=fun _=>by kernel_rfl,z75:=fun _=>by kernel_rfl,v75:=fun _=>by kernel_rfl,t76:=by kernel_rfl,a76:=fun _=>by kernel_rfl,z76:=fun _=>by kernel_rfl,v76:=fun _=>by kernel_rfl,t127:=by kernel_rfl,a127:=fun _=>by kernel_rfl,z127:=fun _=>by kernel_rfl,v127:=fun _=>by kernel_rfl,t164:=by kernel_rfl,a164:=fun _=>by kernel_rfl,z164:=fun _=>by kernel_rfl,v164:=fun _=>by kernel_rfl }
set_option maxRecDepth 100000 in
theorem xG:Builder.Extra Tryz.prog Dv:= { sizeBuilder:=by kernel_rfl,liesBuilder:=by kernel_rfl,t5:=by kernel_rfl,a5:=fun _=>by kernel_rfl,z5:=fun _=>by kernel_rfl,v5:=fun _=>by kernel_rfl,infoByte:=by kernel_rfl,cellsByte:=by kernel_rfl,sizeByte:=by kernel_rfl,neB5:=by decide }
end
def uh (xs:List ByteArray) (s:ByteArray):Option (ByteArray×Unit):=if (Lib.join (xs.map (·.data.toList)) s.data.toList).length<=1048576/\xs.length<=1048576 then some (⟨(Lib.join (xs.map (·.data.toList)) s.data.toList).toArray⟩,()) else none
def H3:=KZ 34 (by kernel_rfl) (AQ Tryz.func34 (by kernel_rfl) rfl) uh fun xs s y h w a c hst=>by
 unfold uh at h;split at h
 ·rename_i hc;obtain rfl:=Option.some.inj h;cases xs with
  |nil=>refine (Any.strings_Join_none Bc xG a c s w).mono fun e w' he=> ?_;obtain⟨rfl,rfl⟩:=he;exact⟨rfl,Go.RowKit.Below.refl _ _⟩
  |cons x xs=>obtain⟨b,o,rfl,hb,hcell⟩:=hst.2 (by simp);exact Any.strings_Join Bc xG b o c (x::xs) s w hcell hb (by omega) hst.1 (by omega)
 ·cases h
def iy (a0:dM):Option (ByteArray×Unit):=
 (fC a0).bind fun y1=>br (!y1.1) (some (ByteArray.empty,())) ((gW a0.epoch).bind fun y2=>(gW a0.primary).bind fun y3=>(gH a0.replicas).bind fun y4=>(gH a0.witnesses).bind fun y5=>(uh ([y2.1,y3.1,y4.1,y5.1]:List ByteArray) (⟨⟨[32]⟩⟩:ByteArray)).bind fun y6=>some (y6.1,()))
def vJ:=fm 50 Tryz.f50 [.ty (.st .config)] [.s] (fun x=>iy x.1) [j8,pI,tW,H3] [] (by kernel_rfl) fun x=>by simp only[iy,tm]; kernel_rfl
def jU (a0:dX) (a1:Int):Option (Bool×Unit):=
 (gi a0).bind fun y1=>br y1.1 ((ep a1 0 4).bind fun y2=>some (y2.1,())) (some (false,()))
def wO:=fm 33 Tryz.f33 [.ty (.st .cluster), .ty (.i .i64)] [.b] (fun x=>jU x.1 x.2.1) [ot,gR] [] (by kernel_rfl) fun x=>by simp only[jU,tm]; kernel_rfl
def js (a0:eL) (a1:Int):Option (Bool×Unit):=
 (gG a0 a1).bind fun y1=>br y1.1 (br a0.up ((oq a0.config a1).bind fun y2=>br (y2.1==1) (some ((a0.epoch==a0.config.epoch),())) (some (false,()))) (some (false,()))) (some (false,()))
def vK:=fm 162 Tryz.f162 [.ty (.st .server), .ty (.i .i64)] [.b] (fun x=>js x.1 x.2.1) [o0,Bb] [] (by kernel_rfl) fun x=>by simp only[js,tm]; kernel_rfl
def hU (a0:dX) (a1:Int):Option (Bool×Unit):=
 (jU a0 a1).bind fun y1=>br y1.1 (dJ (0<=a1) ((a0.servers[a1.toNat]?).bind fun x2=>(js x2 a1).bind fun y3=>some (y3.1,())) none) (some (false,()))
def wP:=fm 141 Tryz.f141 [.ty (.st .cluster), .ty (.i .i64)] [.b] (fun x=>hU x.1 x.2.1) [wO,vK] [] (by kernel_rfl) fun x=>by simp only[hU,tm]; kernel_rfl
def jt (a1:Int):Option ((List Int)×Unit):=
 br (decide (a1<0)) (none) (br (decide ((IntKind.wrap .i64 (a1-(IntKind.wrap .i64 (0-0))))>0)) (dJ ((0:Int)=0/\(0:Int)=0) (dJ (0< (IntKind.wrap .i64 (a1-(IntKind.wrap .i64 (0-0))))/\(IntKind.wrap .i64 (a1-(IntKind.wrap .i64 (0-0))))*((8:Nat):Int)<=2 ^ 40) (dJ (0<=(0:Int)/\(0:Int)<=(0:Int)/\(0:Int)<=(((IntKind.wrap .i64 (a1-(IntKind.wrap .i64 (0-0)))).toNat:Nat):Int)) (dJ ((0+(0:Int).toNat)=0/\((0:Int).toNat-(0:Int).toNat)<=(List.replicate (IntKind.wrap .i64 (a1-(IntKind.wrap .i64 (0-0)))).toNat (0:Int)).length) (some (((List.replicate (IntKind.wrap .i64 (a1-(IntKind.wrap .i64 (0-0)))).toNat (0:Int)).take ((0:Int).toNat-(0:Int).toNat)),())) none) none) none) none) (some (([]:List Int),())))
def vL:=fm 183 Tryz.f183 [.nl, .ty (.i .i64)] [.ls (.i .i64)] (fun x=>jt x.2.1) [] [] (by kernel_rfl) fun x=>by simp only[jt,tm,-eq_self]; kernel_rfl
abbrev o2:LX:=⟨⟨[(0, .cl (.ro (.ls (.i .i64)))),(3, .cl (.int .i64)),(9, .cl (.ro (.ls (.i .i64)))),(10, .cl (.int .i64)),(11, .cl (.int .i64))],[],[],0,36⟩,[(.ext 0,⟨[(0, .cl (.ro (.ls (.i .i64)))),(3, .cl (.int .i64))],[],[],0,36⟩)],[],[0,3,9,10,11],[0,3]⟩
def gJ (s: (List (List Int)×Int×List (List Int)×Int×Int×Unit)×Unit×Unit):o2.R:=
 br (decide (s.1.2.2.2.2.1<s.1.2.2.2.1)) (dJ (0<=s.1.2.2.2.2.1) ((s.1.2.2.1[s.1.2.2.2.2.1.toNat]?).bind fun x6=>br (decide ((IntKind.wrap .i64 (s.1.2.1+(x6.length:Int)))<0)) (none) (some (.inl ((s.1.1,(IntKind.wrap .i64 (s.1.2.1+(x6.length:Int))),s.1.2.2.1,s.1.2.2.2.1,(IntKind.wrap .i64 (s.1.2.2.2.2.1+1)),()),(()),(()))))) none) (some (.inr ((s.1.1,s.1.2.1,()),(()),(()))))
def o3:=hZ gJ
def tX:=nh Tryz.f174 [0] o2 gJ [] [] (by kernel_rfl) fun s=>by simp only[gJ,tm]; kernel_rfl
abbrev ou:LX:=⟨⟨[(6, .cl (.own 0 (.i .i64))),(25, .cl (.ro (.ls (.i .i64)))),(26, .cl (.int .i64)),(27, .cl (.int .i64))],[],[.i .i64],0,36⟩,[(.ext 2,⟨[(6, .cl (.own 0 (.i .i64)))],[],[.i .i64],0,36⟩)],[],[6,25,26,27],[6]⟩
def gk (s: (Unit×List (List Int)×Int×Int×Unit)×Unit×List Int×Unit):ou.R:=
 br (decide (s.1.2.2.2.1<s.1.2.2.1)) (dJ (0<=s.1.2.2.2.1) ((s.1.2.1[s.1.2.2.2.1.toNat]?).bind fun x13=>dJ ((s.2.2.1++x13).length*8<=2 ^ 40) (some (.inl (((),s.1.2.1,s.1.2.2.1,(IntKind.wrap .i64 (s.1.2.2.2.1+1)),()),(()),(s.2.2.1++x13),()))) none) none) (some (.inr (((),()),(()),s.2.2)))
def ov:=hZ gk
def sZ:=nh Tryz.f174 [1] ou gk [] [] (by kernel_rfl) fun s=>by simp only[gk,tm]; kernel_rfl
def jV (a0:List (List Int)):Option ((List Int)×Unit):=
 (o3 ((a0,0,a0,(a0.length:Int),0,()),(()),(()))).bind fun e7=>(jt e7.1.2.1).bind fun y8=>(ov (((),e7.1.1,(e7.1.1.length:Int),0,()),(()),y8.1,())).bind fun e14=>some e14.2.2
def wQ:=fm 174 Tryz.f174 [.ty (.ls (.ls (.i .i64)))] [.ls (.i .i64)] (fun x=>jV x.1) [vL] [tX,sZ] (by kernel_rfl) fun x=>by simp only[jV,tm]; kernel_rfl
def ju (a0:List Int) (a1:List Int):Option ((List Int)×Unit):=
 (jV ([a0,a1]:List (List Int))).bind fun y1=>(iG y1.1).bind fun y2=>some (y2.1,())
def vM:=fm 163 Tryz.f163 [.ty (.ls (.i .i64)), .ty (.ls (.i .i64))] [.ls (.i .i64)] (fun x=>ju x.1 x.2.1) [wQ,tE] [] (by kernel_rfl) fun x=>by simp only[ju,tm]; kernel_rfl
def lD (a0:dM):Option ((List Int)×Unit):=
 (fC a0).bind fun y1=>br (!y1.1) (some (([]:List Int),())) ((ju a0.replicas a0.witnesses).bind fun y2=>some (y2.1,()))
def Bd:=fm 142 Tryz.f142 [.ty (.st .config)] [.ls (.i .i64)] (fun x=>lD x.1) [j8,vM] [] (by kernel_rfl) fun x=>by simp only[lD,tm]; kernel_rfl
def m9 (a0:List Int) (a1:Int) (a2:Int):Option (Bool×Unit):=
 (kf a0).bind fun y1=>br y1.1 ((ep a1 0 4).bind fun y2=>br y2.1 ((ep a2 0 4).bind fun y3=>br y3.1 (dJ (0<=a1) ((a0[a1.toNat]?).bind fun x4=>dJ (0<=a2) ((a0[a2.toNat]?).bind fun x5=>some ((x4==x5),())) none) none) (some (false,()))) (some (false,()))) (some (false,()))
def CC:=fm 164 Tryz.f164 [.ty (.ls (.i .i64)), .ty (.i .i64), .ty (.i .i64)] [.b] (fun x=>m9 x.1 x.2.1 x.2.2.1) [vB,gR] [] (by kernel_rfl) fun x=>by simp only[m9,tm]; kernel_rfl
def rV (a0:dX) (a1:Int) (a2:Int):Option (Bool×Unit):=
 dJ (0<=a1) ((a0.servers[a1.toNat]?).bind fun x1=>dJ (0<=a2) ((a0.servers[a2.toNat]?).bind fun x2=>(m9 a0.sides a1 a2).bind fun y3=>br y3.1 (br x2.up (br (x2.epoch==x1.epoch) ((fQ x2.config x1.config).bind fun y4=>br y4.1 (some ((decide (x2.commit<=(x1.log.length:Int))),())) (some (false,()))) (some (false,()))) (some (false,()))) (some (false,()))) none) none
def H4:=fm 144 Tryz.f144 [.ty (.st .cluster), .ty (.i .i64), .ty (.i .i64)] [.b] (fun x=>rV x.1 x.2.1 x.2.2.1) [CC,m0] [] (by kernel_rfl) fun x=>by simp only[rV,tm]; kernel_rfl
def ig (a0:Int) (a1:dX) (a2:dM):Option (Bool×Unit):=
 (rV a1 a2.primary a0).bind fun y1=>some ((!y1.1),())
def qf:=fm 143 Tryz.f143 [.ty (.i .i64), .pr (.st .cluster), .pr (.st .config)] [.b] (fun x=>ig x.1 x.2.1 x.2.2.1) [H4] [] (by kernel_rfl) fun x=>by simp only[ig,tm]; kernel_rfl
abbrev fV:LX:=⟨⟨[(0, .cl (.ro (.i .i64))),(1, .fn 143 [.pro (.st .cluster), .pro (.st .config)]),(7, .cl (.int .i64)),(8, .cl (.int .i64))],[],[],0,19⟩,[(.ret,⟨[(4, .cl (.int .i64))],[],[],0,19⟩),(.ext 0,⟨[(4, .cl (.dead))],[],[],0,19⟩)],[],[0,1,7,8],[4]⟩
def dW (s: (List Int×(dX×dM×Unit)×Int×Int×Unit)×Unit×Unit):fV.R:=
 br (decide (s.1.2.2.2.1<s.1.2.2.1)) (dJ (0<=s.1.2.2.2.1) ((s.1.1[s.1.2.2.2.1.toNat]?).bind fun x6=>(ig x6 s.1.2.1.1 s.1.2.1.2.1).bind fun y7=>br y7.1 (some (.inr (.inl (s.1.2.2.2,(()),(()))))) (some (.inl ((s.1.1,s.1.2.1,s.1.2.2.1,(IntKind.wrap .i64 (s.1.2.2.2.1+1)),()),(()),(()))))) none) (some (.inr (.inr (((),()),(()),(())))))
def ff:=hZ dW
def jE:=nh Tryz.f160 [0] fV dW [qf] [] (by kernel_rfl) fun s=>by simp only[dW,tm]; kernel_rfl
def eH (a0:List Int) (a1_0:dX) (a1_1:dM):Option (Int×Unit):=
 (ff ((a0,(a1_0,a1_1,()),(a0.length:Int),0,()),(()),(()))).bind fun e8=>Sum.elim (fun e8_0=>some e8_0.1) (fun _=>some ((-1),())) e8
def jW:=fm 160 Tryz.f160 [.ty (.ls (.i .i64)), .fn 143 [.st .cluster, .st .config]] [.i .i64] (fun x=>eH x.1 x.2.1.1 x.2.1.2.1) [] [jE] (by kernel_rfl) fun x=>by simp only[eH,tm]; kernel_rfl
def eA (a0:List Int) (a1_0:dX) (a1_1:dM):Option (Bool×Unit):=
 (eH a0 a1_0 a1_1).bind fun y1=>some ((decide (y1.1≥0)),())
def jv:=fm 135 Tryz.f135 [.ty (.ls (.i .i64)), .fn 143 [.st .cluster, .st .config]] [.b] (fun x=>eA x.1 x.2.1.1 x.2.1.2.1) [jW] [] (by kernel_rfl) fun x=>by simp only[eA,tm]; kernel_rfl
def iz (a0:dX):Option (Int×Unit):=
 (fD a0.master).bind fun y1=>br (!y1.2.1) (some ((-1),())) ((hU a0 y1.1.primary).bind fun y2=>br (!y2.1) (some ((-1),())) (dJ (0<=y1.1.primary) ((a0.servers[y1.1.primary.toNat]?).bind fun x3=>br (!(x3.config.epoch==y1.1.epoch)) (some ((-1),())) ((lD y1.1).bind fun y4=>(eA y4.1 a0 y1.1).bind fun y5=>br y5.1 (some ((-1),())) (some (y1.1.primary,())))) none))
def s5:=fm 103 Tryz.f103 [.ty (.st .cluster)] [.i .i64] (fun x=>iz x.1) [o1,wP,Bd,jv] [] (by kernel_rfl) fun x=>by simp only[iz,tm]; kernel_rfl
def lE (a0:dX):Option (Bool×Unit):=
 (iz a0).bind fun y1=>some ((!(y1.1==(-1))),())
def Be:=fm 51 Tryz.f51 [.ty (.st .cluster)] [.b] (fun x=>lE x.1) [s5] [] (by kernel_rfl) fun x=>by simp only[lE,tm]; kernel_rfl
def rX (a0:Bool) (a1:ByteArray) (a2:ByteArray):Option (ByteArray×Unit):=
 br a0 (some (a1,())) (some (a2,()))
def Gy:=fm 35 Tryz.f35 [.ty (.b), .ty (.s), .ty (.s)] [.s] (fun x=>rX x.1 x.2.1 x.2.2.1) [] [] (by kernel_rfl) fun x=>by simp only[rX,tm]; kernel_rfl
def lF (a0:dX):Option (ByteArray×Unit):=
 (gi a0).bind fun y1=>br (!y1.1) (some (ByteArray.empty,())) ((fD a0.master).bind fun y2=>br (!y2.2.1) (some ((⟨⟨[110,111,110,101]⟩⟩:ByteArray),())) ((iy y2.1).bind fun y3=>dJ (y3.1.size+(⟨⟨[32,99,104,111,115,101,110,32]⟩⟩:ByteArray).size<=2 ^ 40) ((gW (a0.master.configs.length:Int)).bind fun y4=>dJ ((y3.1++(⟨⟨[32,99,104,111,115,101,110,32]⟩⟩:ByteArray)).size+y4.1.size<=2 ^ 40) (dJ (((y3.1++(⟨⟨[32,99,104,111,115,101,110,32]⟩⟩:ByteArray))++y4.1).size+(⟨⟨[32]⟩⟩:ByteArray).size<=2 ^ 40) ((lE a0).bind fun y5=>(rX y5.1 (⟨⟨[115,101,114,118,105,110,103]⟩⟩:ByteArray) (⟨⟨[119,97,105,116,105,110,103]⟩⟩:ByteArray)).bind fun y6=>dJ ((((y3.1++(⟨⟨[32,99,104,111,115,101,110,32]⟩⟩:ByteArray))++y4.1)++(⟨⟨[32]⟩⟩:ByteArray)).size+y6.1.size<=2 ^ 40) (some (((((y3.1++(⟨⟨[32,99,104,111,115,101,110,32]⟩⟩:ByteArray))++y4.1)++(⟨⟨[32]⟩⟩:ByteArray))++y6.1),())) none) none) none) none))
def Bf:=fm 12 Tryz.f12 [.ty (.st .cluster)] [.s] (fun x=>lF x.1) [ot,o1,vJ,pI,Be,Gy] [] (by kernel_rfl) fun x=>by simp only[lF,tm]; kernel_rfl
abbrev vN:LX:=⟨⟨[(0, .cl (.ro (.i .i64))),(1, .cl (.ro (.i .i64))),(5, .cl (.int .i64))],[],[],0,26⟩,[(.ret,⟨[(4, .cl (.bl))],[],[],0,26⟩),(.ext 0,⟨[(4, .cl (.dead))],[],[],0,26⟩)],[],[0,1,5],[4]⟩
def oK (s: (List Int×List Int×Int×Unit)×Unit×Unit):vN.R:=
 br (decide (s.1.2.2.1< (s.1.1.length:Int))) (dJ (0<=s.1.2.2.1) ((s.1.1[s.1.2.2.1.toNat]?).bind fun x4=>dJ (0<=s.1.2.2.1) ((s.1.2.1[s.1.2.2.1.toNat]?).bind fun x5=>br (!(x4==x5)) (some (.inr (.inl ((false,()),(()),(()))))) (some (.inl ((s.1.1,s.1.2.1,(IntKind.wrap .i64 (s.1.2.2.1+1)),()),(()),(()))))) none) none) (some (.inr (.inr (((),()),(()),(())))))
def CD:=hZ oK
def CE:=nh Tryz.f40 [0] vN oK [] [] (by kernel_rfl) fun s=>by simp only[oK,tm]; kernel_rfl
def na (a0:List Int) (a1:List Int):Option (Bool×Unit):=
 br (!((a0.length:Int)==(a1.length:Int))) (some (false,())) ((CD ((a0,a1,0,()),(()),(()))).bind fun e6=>Sum.elim (fun e6_0=>some e6_0.1) (fun _=>some (true,())) e6)
def Bg:=fm 40 Tryz.f40 [.ty (.ls (.i .i64)), .ty (.ls (.i .i64))] [.b] (fun x=>na x.1 x.2.1) [] [CE] (by kernel_rfl) fun x=>by simp only[na,tm]; kernel_rfl
def ki (a0:dM) (a1:dM):Option (Bool×Unit):=
 br (!(a0.epoch==a1.epoch)) (some (false,())) (br (!(a0.primary==a1.primary)) (some (false,())) ((na a0.replicas a1.replicas).bind fun y1=>br (!y1.1) (some (false,())) ((na a0.witnesses a1.witnesses).bind fun y2=>br (!y2.1) (some (false,())) (some (true,())))))
def vO:=fm 129 Tryz.f129 [.ty (.st .config), .ty (.st .config)] [.b] (fun x=>ki x.1 x.2.1) [Bg] [] (by kernel_rfl) fun x=>by simp only[ki,tm]; kernel_rfl
def vP (a0:Op) (a1:Op):Option (Bool×Unit):=
 br (!(a0.client==a1.client)) (some (false,())) (br (!(a0.seq==a1.seq)) (some (false,())) (br (!(a0.kind==a1.kind)) (some (false,())) (br (!(a0.object==a1.object)) (some (false,())) (br (!(a0.old==a1.old)) (some (false,())) (br (!(a0.value==a1.value)) (some (false,())) (some (true,())))))))
def Jx:=fm 173 Tryz.f173 [.ty (.st .op), .ty (.st .op)] [.b] (fun x=>vP x.1 x.2.1) [] [] (by kernel_rfl) fun x=>by simp only[vP,tm]; kernel_rfl
def mr (a0:fO) (a1:fO):Option (Bool×Unit):=
 br (!(a0.epoch==a1.epoch)) (some (false,())) ((vP a0.op a1.op).bind fun y1=>br (!y1.1) (some (false,())) (some (true,())))
def Ez:=fm 157 Tryz.f157 [.ty (.st .entry), .ty (.st .entry)] [.b] (fun x=>mr x.1 x.2.1) [Jx] [] (by kernel_rfl) fun x=>by simp only[mr,tm]; kernel_rfl
abbrev rY:LX:=⟨⟨[(0, .cl (.ro (.st .entry))),(1, .cl (.ro (.st .entry))),(5, .cl (.int .i64))],[],[],0,27⟩,[(.ret,⟨[(4, .cl (.bl))],[],[],0,27⟩),(.ext 0,⟨[(4, .cl (.dead))],[],[],0,27⟩)],[],[0,1,5],[4]⟩
def me (s: (List fO×List fO×Int×Unit)×Unit×Unit):rY.R:=
 br (decide (s.1.2.2.1< (s.1.1.length:Int))) (dJ (0<=s.1.2.2.1) ((s.1.1[s.1.2.2.1.toNat]?).bind fun x4=>dJ (0<=s.1.2.2.1) ((s.1.2.1[s.1.2.2.1.toNat]?).bind fun x5=>(mr x4 x5).bind fun y6=>br (!y6.1) (some (.inr (.inl ((false,()),(()),(()))))) (some (.inl ((s.1.1,s.1.2.1,(IntKind.wrap .i64 (s.1.2.2.1+1)),()),(()),(()))))) none) none) (some (.inr (.inr (((),()),(()),(())))))
def yV:=hZ me
def yW:=nh Tryz.f130 [0] rY me [Ez] [] (by kernel_rfl) fun s=>by simp only[me,tm]; kernel_rfl
def kY (a0:List fO) (a1:List fO):Option (Bool×Unit):=
 br (!((a0.length:Int)==(a1.length:Int))) (some (false,())) ((yV ((a0,a1,0,()),(()),(()))).bind fun e7=>Sum.elim (fun e7_0=>some e7_0.1) (fun _=>some (true,())) e7)
def CF:=fm 130 Tryz.f130 [.ty (.ls (.st .entry)), .ty (.ls (.st .entry))] [.b] (fun x=>kY x.1 x.2.1) [] [yW] (by kernel_rfl) fun x=>by simp only[kY,tm]; kernel_rfl
def kZ (a0:eL) (a1:eL):Option (Bool×Unit):=
 br (!(a0.up==a1.up)) (some (false,())) (br (!(a0.intact==a1.intact)) (some (false,())) (br (!(a0.version==a1.version)) (some (false,())) (br (!(a0.epoch==a1.epoch)) (some (false,())) ((ki a0.config a1.config).bind fun y1=>br (!y1.1) (some (false,())) (br (!(a0.first==a1.first)) (some (false,())) ((kY a0.log a1.log).bind fun y2=>br (!y2.1) (some (false,())) (br (!(a0.commit==a1.commit)) (some (false,())) ((kY a0.learned a1.learned).bind fun y3=>br (!y3.1) (some (false,())) (some (true,()))))))))))
def CG:=fm 82 Tryz.f82 [.ty (.st .server), .ty (.st .server)] [.b] (fun x=>kZ x.1 x.2.1) [vO,CF] [] (by kernel_rfl) fun x=>by simp only[kZ,tm]; kernel_rfl
abbrev qB:LX:=⟨⟨[(0, .cl (.ro (.st .server))),(1, .cl (.ro (.st .server))),(5, .cl (.int .i64))],[],[],0,27⟩,[(.ret,⟨[(4, .cl (.bl))],[],[],0,27⟩),(.ext 0,⟨[(4, .cl (.dead))],[],[],0,27⟩)],[],[0,1,5],[4]⟩
def li (s: (List eL×List eL×Int×Unit)×Unit×Unit):qB.R:=
 br (decide (s.1.2.2.1< (s.1.1.length:Int))) (dJ (0<=s.1.2.2.1) ((s.1.1[s.1.2.2.1.toNat]?).bind fun x4=>dJ (0<=s.1.2.2.1) ((s.1.2.1[s.1.2.2.1.toNat]?).bind fun x5=>(kZ x4 x5).bind fun y6=>br (!y6.1) (some (.inr (.inl ((false,()),(()),(()))))) (some (.inl ((s.1.1,s.1.2.1,(IntKind.wrap .i64 (s.1.2.2.1+1)),()),(()),(()))))) none) none) (some (.inr (.inr (((),()),(()),(())))))
def wR:=hZ li
def wS:=nh Tryz.f39 [0] qB li [CG] [] (by kernel_rfl) fun s=>by simp only[li,tm]; kernel_rfl
def lG (a0:List eL) (a1:List eL):Option (Bool×Unit):=
 br (!((a0.length:Int)==(a1.length:Int))) (some (false,())) ((wR ((a0,a1,0,()),(()),(()))).bind fun e7=>Sum.elim (fun e7_0=>some e7_0.1) (fun _=>some (true,())) e7)
def Bh:=fm 39 Tryz.f39 [.ty (.ls (.st .server)), .ty (.ls (.st .server))] [.b] (fun x=>lG x.1 x.2.1) [] [wS] (by kernel_rfl) fun x=>by simp only[lG,tm]; kernel_rfl
abbrev qC:LX:=⟨⟨[(0, .cl (.ro (.st .config))),(1, .cl (.ro (.st .config))),(5, .cl (.int .i64))],[],[],0,27⟩,[(.ret,⟨[(4, .cl (.bl))],[],[],0,27⟩),(.ext 0,⟨[(4, .cl (.dead))],[],[],0,27⟩)],[],[0,1,5],[4]⟩
def lj (s: (List dM×List dM×Int×Unit)×Unit×Unit):qC.R:=
 br (decide (s.1.2.2.1< (s.1.1.length:Int))) (dJ (0<=s.1.2.2.1) ((s.1.1[s.1.2.2.1.toNat]?).bind fun x4=>dJ (0<=s.1.2.2.1) ((s.1.2.1[s.1.2.2.1.toNat]?).bind fun x5=>(ki x4 x5).bind fun y6=>br (!y6.1) (some (.inr (.inl ((false,()),(()),(()))))) (some (.inl ((s.1.1,s.1.2.1,(IntKind.wrap .i64 (s.1.2.2.1+1)),()),(()),(()))))) none) none) (some (.inr (.inr (((),()),(()),(())))))
def wT:=hZ lj
def wU:=nh Tryz.f83 [0] qC lj [vO] [] (by kernel_rfl) fun s=>by simp only[lj,tm]; kernel_rfl
def lH (a0:List dM) (a1:List dM):Option (Bool×Unit):=
 br (!((a0.length:Int)==(a1.length:Int))) (some (false,())) ((wT ((a0,a1,0,()),(()),(()))).bind fun e7=>Sum.elim (fun e7_0=>some e7_0.1) (fun _=>some (true,())) e7)
def Bi:=fm 83 Tryz.f83 [.ty (.ls (.st .config)), .ty (.ls (.st .config))] [.b] (fun x=>lH x.1 x.2.1) [] [wU] (by kernel_rfl) fun x=>by simp only[lH,tm]; kernel_rfl
def jX (a0:ec) (a1:ec):Option (Bool×Unit):=
 (lH a0.configs a1.configs).bind fun y1=>br (!y1.1) (some (false,())) (br (!(a0.activated==a1.activated)) (some (false,())) (some (true,())))
def wV:=fm 41 Tryz.f41 [.ty (.st .masterLog), .ty (.st .masterLog)] [.b] (fun x=>jX x.1 x.2.1) [Bi] [] (by kernel_rfl) fun x=>by simp only[jX,tm]; kernel_rfl
def ow (a0:mF) (a1:mF):Option (Bool×Unit):=
 br (!(a0.epoch==a1.epoch)) (some (false,())) (br (!(a0.holder==a1.holder)) (some (false,())) (br (!(a0.ends==a1.ends)) (some (false,())) (some (true,()))))
def EA:=fm 42 Tryz.f42 [.ty (.st .lease), .ty (.st .lease)] [.b] (fun x=>ow x.1 x.2.1) [] [] (by kernel_rfl) fun x=>by simp only[ow,tm]; kernel_rfl
def mt (a0:fZ) (a1:fZ):Option (Bool×Unit):=
 br (!(a0.rack==a1.rack)) (some (false,())) (br (!(a0.capacity==a1.capacity)) (some (false,())) (br (!(a0.load==a1.load)) (some (false,())) (some (true,()))))
def EB:=fm 84 Tryz.f84 [.ty (.st .place), .ty (.st .place)] [.b] (fun x=>mt x.1 x.2.1) [] [] (by kernel_rfl) fun x=>by simp only[mt,tm]; kernel_rfl
abbrev rZ:LX:=⟨⟨[(0, .cl (.ro (.st .place))),(1, .cl (.ro (.st .place))),(5, .cl (.int .i64))],[],[],0,27⟩,[(.ret,⟨[(4, .cl (.bl))],[],[],0,27⟩),(.ext 0,⟨[(4, .cl (.dead))],[],[],0,27⟩)],[],[0,1,5],[4]⟩
def mf (s: (List fZ×List fZ×Int×Unit)×Unit×Unit):rZ.R:=
 br (decide (s.1.2.2.1< (s.1.1.length:Int))) (dJ (0<=s.1.2.2.1) ((s.1.1[s.1.2.2.1.toNat]?).bind fun x4=>dJ (0<=s.1.2.2.1) ((s.1.2.1[s.1.2.2.1.toNat]?).bind fun x5=>(mt x4 x5).bind fun y6=>br (!y6.1) (some (.inr (.inl ((false,()),(()),(()))))) (some (.inl ((s.1.1,s.1.2.1,(IntKind.wrap .i64 (s.1.2.2.1+1)),()),(()),(()))))) none) none) (some (.inr (.inr (((),()),(()),(())))))
def yX:=hZ mf
def yY:=nh Tryz.f43 [0] rZ mf [EB] [] (by kernel_rfl) fun s=>by simp only[mf,tm]; kernel_rfl
def nc (a0:List fZ) (a1:List fZ):Option (Bool×Unit):=
 br (!((a0.length:Int)==(a1.length:Int))) (some (false,())) ((yX ((a0,a1,0,()),(()),(()))).bind fun e7=>Sum.elim (fun e7_0=>some e7_0.1) (fun _=>some (true,())) e7)
def CH:=fm 43 Tryz.f43 [.ty (.ls (.st .place)), .ty (.ls (.st .place))] [.b] (fun x=>nc x.1 x.2.1) [] [yY] (by kernel_rfl) fun x=>by simp only[nc,tm]; kernel_rfl
def lI (a0:dX) (a1:dX):Option (Bool×Unit):=
 br (!(a0.now==a1.now)) (some (false,())) ((lG a0.servers a1.servers).bind fun y1=>br (!y1.1) (some (false,())) ((na a0.sides a1.sides).bind fun y2=>br (!y2.1) (some (false,())) ((jX a0.master a1.master).bind fun y3=>br (!y3.1) (some (false,())) (br (!(a0.masterUp==a1.masterUp)) (some (false,())) ((ow a0.lease a1.lease).bind fun y4=>br (!y4.1) (some (false,())) ((nc a0.places a1.places).bind fun y5=>br (!y5.1) (some (false,())) (some (true,()))))))))
def Bk:=fm 10 Tryz.f10 [.ty (.st .cluster), .ty (.st .cluster)] [.b] (fun x=>lI x.1 x.2.1) [Bh,Bg,wV,EA,CH] [] (by kernel_rfl) fun x=>by simp only[lI,tm]; kernel_rfl
def iO (a0:dX):Option (Bool×Unit):=
 (iB a0 1048576).bind fun y1=>br (decide (y1.1<0)) (some (true,())) ((jl a0).bind fun y2=>(lA y2.1).bind fun y3=>(jl a0).bind fun y4=>(lF y4.1).bind fun y5=>br (!(KD y5.1 y3.1)) (some (false,())) ((jl a0).bind fun y6=>(lI y4.1 y6.1).bind fun y7=>br (!y7.1) (some (false,())) (some (true,()))))
def rj:=fm 4 Tryz.f4 [.ty (.st .cluster)] [.b] (fun x=>iO x.1) [AY,A2,A8,Bf,Bk] [] (by kernel_rfl) fun x=>by simp only[iO,tm]; kernel_rfl
end
end Go.Proofs.YtadpelkpdaohnaaGreatDoor.En
