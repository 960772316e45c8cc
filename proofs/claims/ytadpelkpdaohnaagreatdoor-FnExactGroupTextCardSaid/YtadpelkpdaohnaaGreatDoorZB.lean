/- Printed by a program: the walk. -/
import Derived.Test.YtadpelkpdaohnaaGreatDoorZTh
namespace Go.Proofs.YtadpelkpdaohnaaGreatDoor.En
open Go
noncomputable section
def JT:ByteArray:=⟨⟨[0,1,2,2,3,3,3,3,4,4,4,4,4,4,4,4,5,5,5,5,5,5,5,5,5,5,5,5,5,5,5,5,6,6,6,6,6,6,6,6,6,6,6,6,6,6,6,6,6,6,6,6,6,6,6,6,6,6,6,6,6,6,6,6,7,7,7,7,7,7,7,7,7,7,7,7,7,7,7,7,7,7,7,7,7,7,7,7,7,7,7,7,7,7,7,7,7,7,7,7,7,7,7,7,7,7,7,7,7,7,7,7,7,7,7,7,7,7,7,7,7,7,7,7,7,7,7,7,8,8,8,8,8,8,8,8,8,8,8,8,8,8,8,8,8,8,8,8,8,8,8,8,8,8,8,8,8,8,8,8,8,8,8,8,8,8,8,8,8,8,8,8,8,8,8,8,8,8,8,8,8,8,8,8,8,8,8,8,8,8,8,8,8,8,8,8,8,8,8,8,8,8,8,8,8,8,8,8,8,8,8,8,8,8,8,8,8,8,8,8,8,8,8,8,8,8,8,8,8,8,8,8,8,8,8,8,8,8,8,8,8,8,8,8,8,8,8,8,8,8,8,8,8,8,8,8]⟩⟩
theorem oO:Tryz.prog.follows .mixedOrders=true:=by kernel_rfl
abbrev nf:= @JS _ _ CY oO
abbrev fD:= @JM _ _ CY oO
abbrev JO:= @Jw _ _ CY oO
abbrev JF:= @Jx _ _ CY oO
abbrev JU:= @Jz _ _ CY oO
def l6 (a0:List Int) (a1:Int):Option (Int×Unit):=
 br (decide ((IntKind.wrap .i64 (a1-(a0.length:Int)))<0)) (some ((-1),())) (some ((IntKind.wrap .i64 (a1-(a0.length:Int))),()))
def zC:=fD 20 Tryz.f20 [.ty (.ls (.i .i64)), .ty (.i .i64)] [.i .i64] (fun x=>l6 x.1 x.2.1) [] [] (by kernel_rfl) fun x=>by simp only[l6,tm]; kernel_rfl
def gG (a0:dM) (a1:Int):Option (Int×Unit):=
 (l6 a0.replicas a1).bind fun y1=>br (decide (y1.1<0)) (some ((-1),())) ((l6 a0.witnesses y1.1).bind fun y2=>br (decide (y2.1<0)) (some ((-1),())) (some (y2.1,())))
def uw:=fD 117 Tryz.f117 [.ty (.st .config), .ty (.i .i64)] [.i .i64] (fun x=>gG x.1 x.2.1) [zC] [] (by kernel_rfl) fun x=>by simp only[gG,tm]; kernel_rfl
def kp (a0:List fG) (a1:Int):Option (Int×Unit):=
 br (decide ((IntKind.wrap .i64 (a1-(a0.length:Int)))<0)) (some ((-1),())) (some ((IntKind.wrap .i64 (a1-(a0.length:Int))),()))
def A4:=fD 118 Tryz.f118 [.ty (.ls (.st .entry)), .ty (.i .i64)] [.i .i64] (fun x=>kp x.1 x.2.1) [] [] (by kernel_rfl) fun x=>by simp only[kp,tm]; kernel_rfl
def ik (a0:eK) (a1:Int):Option (Int×Unit):=
 (gG a0.config a1).bind fun y1=>br (decide (y1.1<0)) (some ((-1),())) ((kp a0.log y1.1).bind fun y2=>br (decide (y2.1<0)) (some ((-1),())) ((kp a0.learned y2.1).bind fun y3=>br (decide (y3.1<0)) (some ((-1),())) (some (y3.1,()))))
def A5:=fD 67 Tryz.f67 [.ty (.st .server), .ty (.i .i64)] [.i .i64] (fun x=>ik x.1 x.2.1) [uw,A4] [] (by kernel_rfl) fun x=>by simp only[ik,tm]; kernel_rfl
abbrev pI:LX:=⟨⟨[(0, .cl (.ro (.st .server))),(1, .cl (.int .i64)),(5, .cl (.int .i64))],[],[],0,27⟩,[(.ret,⟨[(1, .cl (.int .i64)),(4, .cl (.int .i64))],[],[],0,27⟩),(.ext 0,⟨[(1, .cl (.int .i64)),(4, .cl (.dead))],[],[],0,27⟩)],[],[0,1,5],[1,4]⟩
def jv (s: (List eK×Int×Int×Unit)×Unit×Unit):pI.R:=
 br (decide (s.1.2.2.1< (s.1.1.length:Int))) (dI (0<=s.1.2.2.1) ((s.1.1[s.1.2.2.1.toNat]?).bind fun x4=>(ik x4 s.1.2.1).bind fun y5=>br (decide (y5.1<0)) (some (.inr (.inl ((y5.1,(-1),()),(()),(()))))) (some (.inl ((s.1.1,y5.1,(IntKind.wrap .i64 (s.1.2.2.1+1)),()),(()),(()))))) none) (some (.inr (.inr ((s.1.2.1,(),()),(()),(())))))
def vt:=ia jv
def vu:=nf Tryz.f19 [0] pI jv [A5] [] (by kernel_rfl) fun s=>by simp only[jv,tm]; kernel_rfl
def kL (a0:List eK) (a1:Int):Option (Int×Unit):=
 br (decide ((IntKind.wrap .i64 (a1-(a0.length:Int)))<0)) (some ((-1),())) ((vt ((a0,(IntKind.wrap .i64 (a1-(a0.length:Int))),0,()),(()),(()))).bind fun e6=>Sum.elim (fun e6_0=>some e6_0.1.2) (fun e6_1=>some (e6_1.1.1,())) e6)
def zD:=fD 19 Tryz.f19 [.ty (.ls (.st .server)), .ty (.i .i64)] [.i .i64] (fun x=>kL x.1 x.2.1) [] [vu] (by kernel_rfl) fun x=>by simp only[kL,tm]; kernel_rfl
abbrev pJ:LX:=⟨⟨[(0, .cl (.ro (.st .config))),(1, .cl (.int .i64)),(5, .cl (.int .i64))],[],[],0,27⟩,[(.ret,⟨[(1, .cl (.int .i64)),(4, .cl (.int .i64))],[],[],0,27⟩),(.ext 0,⟨[(1, .cl (.int .i64)),(4, .cl (.dead))],[],[],0,27⟩)],[],[0,1,5],[1,4]⟩
def jw (s: (List dM×Int×Int×Unit)×Unit×Unit):pJ.R:=
 br (decide (s.1.2.2.1< (s.1.1.length:Int))) (dI (0<=s.1.2.2.1) ((s.1.1[s.1.2.2.1.toNat]?).bind fun x4=>(gG x4 s.1.2.1).bind fun y5=>br (decide (y5.1<0)) (some (.inr (.inl ((y5.1,(-1),()),(()),(()))))) (some (.inl ((s.1.1,y5.1,(IntKind.wrap .i64 (s.1.2.2.1+1)),()),(()),(()))))) none) (some (.inr (.inr ((s.1.2.1,(),()),(()),(())))))
def vv:=ia jw
def vw:=nf Tryz.f68 [0] pJ jw [uw] [] (by kernel_rfl) fun s=>by simp only[jw,tm]; kernel_rfl
def kM (a0:List dM) (a1:Int):Option (Int×Unit):=
 br (decide ((IntKind.wrap .i64 (a1-(a0.length:Int)))<0)) (some ((-1),())) ((vv ((a0,(IntKind.wrap .i64 (a1-(a0.length:Int))),0,()),(()),(()))).bind fun e6=>Sum.elim (fun e6_0=>some e6_0.1.2) (fun e6_1=>some (e6_1.1.1,())) e6)
def zE:=fD 68 Tryz.f68 [.ty (.ls (.st .config)), .ty (.i .i64)] [.i .i64] (fun x=>kM x.1 x.2.1) [] [vw] (by kernel_rfl) fun x=>by simp only[kM,tm]; kernel_rfl
def gH (a0:dZ) (a1:Int):Option (Int×Unit):=
 (kM a0.configs a1).bind fun y1=>br (decide (y1.1<0)) (some ((-1),())) (some (y1.1,()))
def vx:=fD 21 Tryz.f21 [.ty (.st .masterLog), .ty (.i .i64)] [.i .i64] (fun x=>gH x.1 x.2.1) [zE] [] (by kernel_rfl) fun x=>by simp only[gH,tm]; kernel_rfl
def l7 (a0:List fR) (a1:Int):Option (Int×Unit):=
 br (decide ((IntKind.wrap .i64 (a1-(a0.length:Int)))<0)) (some ((-1),())) (some ((IntKind.wrap .i64 (a1-(a0.length:Int))),()))
def A6:=fD 22 Tryz.f22 [.ty (.ls (.st .place)), .ty (.i .i64)] [.i .i64] (fun x=>l7 x.1 x.2.1) [] [] (by kernel_rfl) fun x=>by simp only[l7,tm]; kernel_rfl
def ic (a0:ek) (a1:Int):Option (Int×Unit):=
 (kL a0.servers a1).bind fun y1=>br (decide (y1.1<0)) (some ((-1),())) ((l6 a0.sides y1.1).bind fun y2=>br (decide (y2.1<0)) (some ((-1),())) ((gH a0.master y2.1).bind fun y3=>br (decide (y3.1<0)) (some ((-1),())) ((l7 a0.places y3.1).bind fun y4=>br (decide (y4.1<0)) (some ((-1),())) (some (y4.1,())))))
def zF:=fD 6 Tryz.f6 [.ty (.st .cluster), .ty (.i .i64)] [.i .i64] (fun x=>ic x.1 x.2.1) [zD,zC,vx,A6] [] (by kernel_rfl) fun x=>by simp only[ic,tm]; kernel_rfl
abbrev ux:LX:=⟨⟨[(0, .cl (.ro (.i .i64))),(3, .cl (.own 0 (.i .i64))),(4, .cl (.int .i64))],[],[.i .i64],0,22⟩,[(.ext 0,⟨[(3, .cl (.own 0 (.i .i64)))],[],[.i .i64],0,22⟩)],[],[0,3,4],[3]⟩
def nW (s: (List Int×Unit×Int×Unit)×Unit×List Int×Unit):ux.R:=
 br (decide (s.1.2.2.1< (s.1.1.length:Int))) (dI (0<=s.1.2.2.1) ((s.1.1[s.1.2.2.1.toNat]?).bind fun x4=>dI (0<=s.1.2.2.1/\s.1.2.2.1< (s.2.2.1.length:Int)) ((s.2.2.1[s.1.2.2.1.toNat]?).bind fun _=>some (.inl ((s.1.1,(),(IntKind.wrap .i64 (s.1.2.2.1+1)),()),(()),(s.2.2.1.set s.1.2.2.1.toNat x4),()))) none) none) (some (.inr (((),()),(()),s.2.2)))
def A7:=ia nW
def A8:=nf Tryz.f29 [0] ux nW [] [] (by kernel_rfl) fun s=>by simp only[nW,tm]; kernel_rfl
def l8 (a0:List Int):Option ((List Int)×Unit):=
 dI (0<=(a0.length:Int)/\(a0.length:Int)=(a0.length:Int)/\(a0.length:Int)*((8:Nat):Int)<=2 ^ 40) ((A7 ((a0,(),0,()),(()),(List.replicate (a0.length:Int).toNat (0:Int)),())).bind fun e7=>some e7.2.2) none
def zG:=fD 29 Tryz.f29 [.ty (.ls (.i .i64))] [.ls (.i .i64)] (fun x=>l8 x.1) [] [A8] (by kernel_rfl) fun x=>by simp only[l8,tm,-eq_self]; kernel_rfl
def jG (a0:dM):Option (dM×Unit):=
 (l8 a0.replicas).bind fun y1=>(l8 a0.witnesses).bind fun y2=>some ((⟨a0.epoch,a0.primary,y1.1,y2.1⟩:dM),())
def uy:=fD 121 Tryz.f121 [.ty (.st .config)] [.st .config] (fun x=>jG x.1) [zG] [] (by kernel_rfl) fun x=>by simp only[jG,tm]; kernel_rfl
def A9 (a0:Op):Option (Op×Unit):=
 some (a0,())
def H0:=fD 165 Tryz.f165 [.ty (.st .op)] [.st .op] (fun x=>A9 x.1) [] [] (by kernel_rfl) fun x=>by simp only[A9,tm]; kernel_rfl
def pm (a0:fG):Option (fG×Unit):=
 (A9 a0.op).bind fun y1=>some ((⟨a0.epoch,y1.1⟩:fG),())
def CZ:=fD 151 Tryz.f151 [.ty (.st .entry)] [.st .entry] (fun x=>pm x.1) [H0] [] (by kernel_rfl) fun x=>by simp only[pm,tm]; kernel_rfl
abbrev qU:LX:=⟨⟨[(0, .cl (.ro (.st .entry))),(3, .cl (.own 0 (.st .entry))),(4, .cl (.int .i64))],[],[.st .entry],0,23⟩,[(.ext 0,⟨[(3, .cl (.own 0 (.st .entry)))],[],[.st .entry],0,23⟩)],[],[0,3,4],[3]⟩
def lB (s: (List fG×Unit×Int×Unit)×Unit×List fG×Unit):qU.R:=
 br (decide (s.1.2.2.1< (s.1.1.length:Int))) (dI (0<=s.1.2.2.1) ((s.1.1[s.1.2.2.1.toNat]?).bind fun x4=>(pm x4).bind fun y5=>dI (0<=s.1.2.2.1/\s.1.2.2.1< (s.2.2.1.length:Int)) ((s.2.2.1[s.1.2.2.1.toNat]?).bind fun _=>some (.inl ((s.1.1,(),(IntKind.wrap .i64 (s.1.2.2.1+1)),()),(()),(s.2.2.1.set s.1.2.2.1.toNat y5.1),()))) none) none) (some (.inr (((),()),(()),s.2.2)))
def xp:=ia lB
def xq:=nf Tryz.f122 [0] qU lB [CZ] [] (by kernel_rfl) fun s=>by simp only[lB,tm]; kernel_rfl
def kr (a0:List fG):Option ((List fG)×Unit):=
 dI (0<=(a0.length:Int)/\(a0.length:Int)=(a0.length:Int)/\(a0.length:Int)*((56:Nat):Int)<=2 ^ 40) ((xp ((a0,(),0,()),(()),(List.replicate (a0.length:Int).toNat (⟨0,(⟨0,0,0,0,0,0⟩:Op)⟩:fG)),())).bind fun e8=>some e8.2.2) none
def Ba:=fD 122 Tryz.f122 [.ty (.ls (.st .entry))] [.ls (.st .entry)] (fun x=>kr x.1) [] [xq] (by kernel_rfl) fun x=>by simp only[kr,tm,-eq_self]; kernel_rfl
def kt (a0:eK):Option (eK×Unit):=
 (jG a0.config).bind fun y1=>(kr a0.log).bind fun y2=>(kr a0.learned).bind fun y3=>some ((⟨a0.up,a0.intact,a0.version,a0.epoch,y1.1,a0.first,y2.1,a0.commit,y3.1⟩:eK),())
def Bb:=fD 72 Tryz.f72 [.ty (.st .server)] [.st .server] (fun x=>kt x.1) [uy,Ba] [] (by kernel_rfl) fun x=>by simp only[kt,tm]; kernel_rfl
abbrev pK:LX:=⟨⟨[(0, .cl (.ro (.st .server))),(3, .cl (.own 0 (.st .server))),(4, .cl (.int .i64))],[],[.st .server],0,23⟩,[(.ext 0,⟨[(3, .cl (.own 0 (.st .server)))],[],[.st .server],0,23⟩)],[],[0,3,4],[3]⟩
def kC (s: (List eK×Unit×Int×Unit)×Unit×List eK×Unit):pK.R:=
 br (decide (s.1.2.2.1< (s.1.1.length:Int))) (dI (0<=s.1.2.2.1) ((s.1.1[s.1.2.2.1.toNat]?).bind fun x4=>(kt x4).bind fun y5=>dI (0<=s.1.2.2.1/\s.1.2.2.1< (s.2.2.1.length:Int)) ((s.2.2.1[s.1.2.2.1.toNat]?).bind fun _=>some (.inl ((s.1.1,(),(IntKind.wrap .i64 (s.1.2.2.1+1)),()),(()),(s.2.2.1.set s.1.2.2.1.toNat y5.1),()))) none) none) (some (.inr (((),()),(()),s.2.2)))
def vy:=ia kC
def vz:=nf Tryz.f28 [0] pK kC [Bb] [] (by kernel_rfl) fun s=>by simp only[kC,tm]; kernel_rfl
def kN (a0:List eK):Option ((List eK)×Unit):=
 dI (0<=(a0.length:Int)/\(a0.length:Int)=(a0.length:Int)/\(a0.length:Int)*((152:Nat):Int)<=2 ^ 40) ((vy ((a0,(),0,()),(()),(List.replicate (a0.length:Int).toNat (⟨false,false,0,0,(⟨0,0,([]:List Int),([]:List Int)⟩:dM),0,([]:List fG),0,([]:List fG)⟩:eK)),())).bind fun e8=>some e8.2.2) none
def zH:=fD 28 Tryz.f28 [.ty (.ls (.st .server))] [.ls (.st .server)] (fun x=>kN x.1) [] [vz] (by kernel_rfl) fun x=>by simp only[kN,tm,-eq_self]; kernel_rfl
abbrev pL:LX:=⟨⟨[(0, .cl (.ro (.st .config))),(3, .cl (.own 0 (.st .config))),(4, .cl (.int .i64))],[],[.st .config],0,23⟩,[(.ext 0,⟨[(3, .cl (.own 0 (.st .config)))],[],[.st .config],0,23⟩)],[],[0,3,4],[3]⟩
def kD (s: (List dM×Unit×Int×Unit)×Unit×List dM×Unit):pL.R:=
 br (decide (s.1.2.2.1< (s.1.1.length:Int))) (dI (0<=s.1.2.2.1) ((s.1.1[s.1.2.2.1.toNat]?).bind fun x4=>(jG x4).bind fun y5=>dI (0<=s.1.2.2.1/\s.1.2.2.1< (s.2.2.1.length:Int)) ((s.2.2.1[s.1.2.2.1.toNat]?).bind fun _=>some (.inl ((s.1.1,(),(IntKind.wrap .i64 (s.1.2.2.1+1)),()),(()),(s.2.2.1.set s.1.2.2.1.toNat y5.1),()))) none) none) (some (.inr (((),()),(()),s.2.2)))
def vA:=ia kD
def vB:=nf Tryz.f73 [0] pL kD [uy] [] (by kernel_rfl) fun s=>by simp only[kD,tm]; kernel_rfl
def kO (a0:List dM):Option ((List dM)×Unit):=
 dI (0<=(a0.length:Int)/\(a0.length:Int)=(a0.length:Int)/\(a0.length:Int)*((64:Nat):Int)<=2 ^ 40) ((vA ((a0,(),0,()),(()),(List.replicate (a0.length:Int).toNat (⟨0,0,([]:List Int),([]:List Int)⟩:dM)),())).bind fun e8=>some e8.2.2) none
def zI:=fD 73 Tryz.f73 [.ty (.ls (.st .config))] [.ls (.st .config)] (fun x=>kO x.1) [] [vB] (by kernel_rfl) fun x=>by simp only[kO,tm,-eq_self]; kernel_rfl
def jx (a0:dZ):Option (dZ×Unit):=
 (kO a0.configs).bind fun y1=>some ((⟨y1.1,a0.activated⟩:dZ),())
def vC:=fD 30 Tryz.f30 [.ty (.st .masterLog)] [.st .masterLog] (fun x=>jx x.1) [zI] [] (by kernel_rfl) fun x=>by simp only[jx,tm]; kernel_rfl
def pn (a0:l4):Option (l4×Unit):=
 some (a0,())
def C0:=fD 31 Tryz.f31 [.ty (.st .lease)] [.st .lease] (fun x=>pn x.1) [] [] (by kernel_rfl) fun x=>by simp only[pn,tm]; kernel_rfl
def po (a0:fR):Option (fR×Unit):=
 some (a0,())
def C1:=fD 74 Tryz.f74 [.ty (.st .place)] [.st .place] (fun x=>po x.1) [] [] (by kernel_rfl) fun x=>by simp only[po,tm]; kernel_rfl
abbrev qV:LX:=⟨⟨[(0, .cl (.ro (.st .place))),(3, .cl (.own 0 (.st .place))),(4, .cl (.int .i64))],[],[.st .place],0,23⟩,[(.ext 0,⟨[(3, .cl (.own 0 (.st .place)))],[],[.st .place],0,23⟩)],[],[0,3,4],[3]⟩
def lC (s: (List fR×Unit×Int×Unit)×Unit×List fR×Unit):qV.R:=
 br (decide (s.1.2.2.1< (s.1.1.length:Int))) (dI (0<=s.1.2.2.1) ((s.1.1[s.1.2.2.1.toNat]?).bind fun x4=>(po x4).bind fun y5=>dI (0<=s.1.2.2.1/\s.1.2.2.1< (s.2.2.1.length:Int)) ((s.2.2.1[s.1.2.2.1.toNat]?).bind fun _=>some (.inl ((s.1.1,(),(IntKind.wrap .i64 (s.1.2.2.1+1)),()),(()),(s.2.2.1.set s.1.2.2.1.toNat y5.1),()))) none) none) (some (.inr (((),()),(()),s.2.2)))
def xt:=ia lC
def xw:=nf Tryz.f32 [0] qV lC [C1] [] (by kernel_rfl) fun s=>by simp only[lC,tm]; kernel_rfl
def l9 (a0:List fR):Option ((List fR)×Unit):=
 dI (0<=(a0.length:Int)/\(a0.length:Int)=(a0.length:Int)/\(a0.length:Int)*((24:Nat):Int)<=2 ^ 40) ((xt ((a0,(),0,()),(()),(List.replicate (a0.length:Int).toNat (⟨0,0,0⟩:fR)),())).bind fun e8=>some e8.2.2) none
def Bc:=fD 32 Tryz.f32 [.ty (.ls (.st .place))] [.ls (.st .place)] (fun x=>l9 x.1) [] [xw] (by kernel_rfl) fun x=>by simp only[l9,tm,-eq_self]; kernel_rfl
def i6 (a0:ek):Option (ek×Unit):=
 (kN a0.servers).bind fun y1=>(l8 a0.sides).bind fun y2=>(jx a0.master).bind fun y3=>(pn a0.lease).bind fun y4=>(l9 a0.places).bind fun y5=>some ((⟨a0.now,y1.1,y2.1,y3.1,a0.masterUp,y4.1,y5.1⟩:ek),())
def zJ:=fD 8 Tryz.f8 [.ty (.st .cluster)] [.st .cluster] (fun x=>i6 x.1) [zH,zG,vC,C0,Bc] [] (by kernel_rfl) fun x=>by simp only[i6,tm]; kernel_rfl
def fg (a0:Int) (a1:Int) (a2:Int):Option (Bool×Unit):=
 br (decide (a0≥a1)) (some ((decide (a0<=a2)),())) (some (false,()))
def lg:=fD 69 Tryz.f69 [.ty (.i .i64), .ty (.i .i64), .ty (.i .i64)] [.b] (fun x=>fg x.1 x.2.1 x.2.2.1) [] [] (by kernel_rfl) fun x=>by simp only[fg,tm]; kernel_rfl
abbrev qW:LX:=⟨⟨[(0, .cl (.ro (.i .i64))),(3, .cl (.int .i64))],[],[],0,19⟩,[(.ret,⟨[(0, .cl (.ro (.i .i64))),(2, .cl (.bl))],[],[],0,19⟩),(.ext 0,⟨[(0, .cl (.ro (.i .i64))),(2, .cl (.dead))],[],[],0,19⟩)],[],[0,3],[0,2]⟩
def jh (s: (List Int×Int×Unit)×Unit×Unit):qW.R:=
 br (decide (s.1.2.1< (s.1.1.length:Int))) (dI (0<=s.1.2.1) ((s.1.1[s.1.2.1.toNat]?).bind fun x3=>(fg x3 0 3).bind fun y4=>br (!y4.1) (some (.inr (.inl ((s.1.1,false,()),(()),(()))))) (some (.inl ((s.1.1,(IntKind.wrap .i64 (s.1.2.1+1)),()),(()),(()))))) none) (some (.inr (.inr ((s.1.1,(),()),(()),(())))))
def nX:=ia jh
def xx:=nf Tryz.f85 [0] qW jh [lg] [] (by kernel_rfl) fun s=>by simp only[jh,tm]; kernel_rfl
def i7 (a0:List Int):Option (Bool×Unit):=
 (nX ((a0,0,()),(()),(()))).bind fun e5=>Sum.elim (fun e5_0=>some e5_0.1.2) (fun e5_1=>some (((e5_1.1.1.length:Int)==5),())) e5
def uz:=fD 85 Tryz.f85 [.ty (.ls (.i .i64))] [.b] (fun x=>i7 x.1) [] [xx] (by kernel_rfl) fun x=>by simp only[i7,tm]; kernel_rfl
abbrev oP:LX:=⟨⟨[(0, .cl (.ro (.i .i64))),(3, .cl (.int .i64))],[],[],0,32⟩,[(.ret,⟨[(2, .cl (.bl))],[],[],0,32⟩),(.ext 0,⟨[(2, .cl (.dead))],[],[],0,32⟩)],[],[0,3],[2]⟩
def gT (s: (List Int×Int×Unit)×Unit×Unit):oP.R:=
 br (decide (s.1.2.1< (s.1.1.length:Int))) (dI (0<=s.1.2.1) ((s.1.1[s.1.2.1.toNat]?).bind fun x3=>(fg x3 0 4).bind fun y4=>br (!y4.1) (some (.inr (.inl ((false,()),(()),(()))))) (br (decide (s.1.2.1>0)) (dI (0<=(IntKind.wrap .i64 (s.1.2.1-1))) ((s.1.1[(IntKind.wrap .i64 (s.1.2.1-1)).toNat]?).bind fun x5=>dI (0<=s.1.2.1) ((s.1.1[s.1.2.1.toNat]?).bind fun x6=>br (decide (x5≥x6)) (some (.inr (.inl ((false,()),(()),(()))))) (some (.inl ((s.1.1,(IntKind.wrap .i64 (s.1.2.1+1)),()),(()),(()))))) none) none) (some (.inl ((s.1.1,(IntKind.wrap .i64 (s.1.2.1+1)),()),(()),(())))))) none) (some (.inr (.inr (((),()),(()),(())))))
def ma:=ia gT
def uA:=nf Tryz.f119 [0] oP gT [lg] [] (by kernel_rfl) fun s=>by simp only[gT,tm]; kernel_rfl
def gz (a0:List Int):Option (Bool×Unit):=
 (ma ((a0,0,()),(()),(()))).bind fun e7=>Sum.elim (fun e7_0=>some e7_0.1) (fun _=>some (true,())) e7
def qX:=fD 119 Tryz.f119 [.ty (.ls (.i .i64))] [.b] (fun x=>gz x.1) [] [uA] (by kernel_rfl) fun x=>by simp only[gz,tm]; kernel_rfl
abbrev pM:LX:=⟨⟨[(0, .cl (.ro (.i .i64))),(1, .cl (.int .i64)),(5, .cl (.int .i64))],[],[],0,18⟩,[(.ret,⟨[(4, .cl (.bl))],[],[],0,18⟩),(.ext 0,⟨[(4, .cl (.dead))],[],[],0,18⟩)],[],[0,1,5],[4]⟩
def iE (s: (List Int×Int×Int×Unit)×Unit×Unit):pM.R:=
 br (decide (s.1.2.2.1< (s.1.1.length:Int))) (dI (0<=s.1.2.2.1) ((s.1.1[s.1.2.2.1.toNat]?).bind fun x4=>br (x4==s.1.2.1) (some (.inr (.inl ((true,()),(()),(()))))) (some (.inl ((s.1.1,s.1.2.1,(IntKind.wrap .i64 (s.1.2.2.1+1)),()),(()),(()))))) none) (some (.inr (.inr (((),()),(()),(())))))
def m8:=ia iE
def vD:=nf Tryz.f71 [0] pM iE [] [] (by kernel_rfl) fun s=>by simp only[iE,tm]; kernel_rfl
def ig (a0:List Int) (a1:Int):Option (Bool×Unit):=
 (m8 ((a0,a1,0,()),(()),(()))).bind fun e5=>Sum.elim (fun e5_0=>some e5_0.1) (fun _=>some (false,())) e5
def oQ:=fD 71 Tryz.f71 [.ty (.ls (.i .i64)), .ty (.i .i64)] [.b] (fun x=>ig x.1 x.2.1) [] [vD] (by kernel_rfl) fun x=>by simp only[ig,tm]; kernel_rfl
abbrev wm:LX:=⟨⟨[(0, .cl (.ro (.i .i64))),(1, .cl (.int .i64)),(5, .cl (.int .i64))],[],[],0,47⟩,[(.ext 0,⟨[(0, .cl (.ro (.i .i64))),(1, .cl (.int .i64)),(5, .cl (.int .i64))],[],[],0,47⟩)],[],[0,1,5],[0,1,5]⟩
def ji (s: (List Int×Int×Int×Unit)×Unit×Unit):wm.R:=
 br (decide (s.1.2.2.1< (s.1.1.length:Int))) (dI (0<=s.1.2.2.1) ((s.1.1[s.1.2.2.1.toNat]?).bind fun x4=>br (decide (x4<s.1.2.1)) (some (.inl ((s.1.1,s.1.2.1,(IntKind.wrap .i64 (s.1.2.2.1+1)),()),(()),(())))) (some (.inr (s.1,(()),(()))))) none) (some (.inr (s.1,(()),(()))))
def rN:=ia ji
def C2:=nf Tryz.f150 [0] wm ji [] [] (by kernel_rfl) fun s=>by simp only[ji,tm]; kernel_rfl
def kE (a0:List Int) (a1:Int):Option ((List Int)×Unit):=
 (rN ((a0,a1,0,()),(()),(()))).bind fun e5=>let j7:Option ((List Int)×Unit):=dI (0<=(0:Int)/\(0:Int)<=e5.1.2.2.1/\e5.1.2.2.1<=(e5.1.1.length:Int)) (dI ((([]:List Int)++((e5.1.1.drop (0:Int).toNat).take (e5.1.2.2.1.toNat-(0:Int).toNat))).length*8<=2 ^ 40) (dI (((([]:List Int)++((e5.1.1.drop (0:Int).toNat).take (e5.1.2.2.1.toNat-(0:Int).toNat)))++([e5.1.2.1]:List Int)).length*8<=2 ^ 40) (dI (0<=e5.1.2.2.1/\e5.1.2.2.1<=(e5.1.1.length:Int)/\(e5.1.1.length:Int)<=(e5.1.1.length:Int)) (dI ((((([]:List Int)++((e5.1.1.drop (0:Int).toNat).take (e5.1.2.2.1.toNat-(0:Int).toNat)))++([e5.1.2.1]:List Int))++((e5.1.1.drop e5.1.2.2.1.toNat).take ((e5.1.1.length:Int).toNat-e5.1.2.2.1.toNat))).length*8<=2 ^ 40) (some ((((([]:List Int)++((e5.1.1.drop (0:Int).toNat).take (e5.1.2.2.1.toNat-(0:Int).toNat)))++([e5.1.2.1]:List Int))++((e5.1.1.drop e5.1.2.2.1.toNat).take ((e5.1.1.length:Int).toNat-e5.1.2.2.1.toNat))),())) none) none) none) none) none; br (decide (e5.1.2.2.1< (e5.1.1.length:Int))) (dI (0<=e5.1.2.2.1) ((e5.1.1[e5.1.2.2.1.toNat]?).bind fun x6=>br (x6==e5.1.2.1) (dI ((([]:List Int)++e5.1.1).length*8<=2 ^ 40) (some ((([]:List Int)++e5.1.1),())) none) (j7)) none) (j7)
def xy:=fD 150 Tryz.f150 [.ty (.ls (.i .i64)), .ty (.i .i64)] [.ls (.i .i64)] (fun x=>kE x.1 x.2.1) [] [C2] (by kernel_rfl) fun x=>by simp only[kE,tm]; kernel_rfl
abbrev mH:LX:=⟨⟨[(0, .cl (.ro (.i .i64))),(1, .cl (.ro (.i .i64))),(5, .cl (.own 0 (.i .i64))),(6, .cl (.int .i64))],[],[.i .i64],0,27⟩,[(.ext 0,⟨[(5, .cl (.own 0 (.i .i64)))],[],[.i .i64],0,27⟩)],[],[0,1,5,6],[5]⟩
def fI (s: (List Int×List Int×Unit×Int×Unit)×Unit×List Int×Unit):mH.R:=
 br (decide (s.1.2.2.2.1< (s.1.1.length:Int))) (dI (0<=s.1.2.2.2.1) ((s.1.1[s.1.2.2.2.1.toNat]?).bind fun x5=>(ig s.1.2.1 x5).bind fun y6=>br y6.1 (dI (0<=s.1.2.2.2.1) ((s.1.1[s.1.2.2.2.1.toNat]?).bind fun x7=>(kE s.2.2.1 x7).bind fun y8=>some (.inl ((s.1.1,s.1.2.1,(),(IntKind.wrap .i64 (s.1.2.2.2.1+1)),()),(()),y8.1,()))) none) (some (.inl ((s.1.1,s.1.2.1,(),(IntKind.wrap .i64 (s.1.2.2.2.1+1)),()),(()),s.2.2)))) none) (some (.inr (((),()),(()),s.2.2)))
def mJ:=ia fI
def qY:=nf Tryz.f120 [0] mH fI [oQ,xy] [] (by kernel_rfl) fun s=>by simp only[fI,tm]; kernel_rfl
def iv (a0:List Int) (a1:List Int):Option ((List Int)×Unit):=
 (mJ ((a0,a1,(),0,()),(()),([]:List Int),())).bind fun e10=>some e10.2.2
def sO:=fD 120 Tryz.f120 [.ty (.ls (.i .i64)), .ty (.ls (.i .i64))] [.ls (.i .i64)] (fun x=>iv x.1 x.2.1) [] [qY] (by kernel_rfl) fun x=>by simp only[iv,tm]; kernel_rfl
def eg (a0:dM):Option (Bool×Unit):=
 (fg a0.epoch 1 20).bind fun y1=>br y1.1 ((gz a0.replicas).bind fun y2=>br y2.1 ((gz a0.witnesses).bind fun y3=>br y3.1 ((ig a0.replicas a0.primary).bind fun y4=>br y4.1 ((iv a0.replicas a0.witnesses).bind fun y5=>some (((y5.1.length:Int)==0),())) (some (false,()))) (some (false,()))) (some (false,()))) (some (false,()))
def jC:=fD 70 Tryz.f70 [.ty (.st .config)] [.b] (fun x=>eg x.1) [lg,qX,oQ,sO] [] (by kernel_rfl) fun x=>by simp only[eg,tm]; kernel_rfl
abbrev od:LX:=⟨⟨[(1, .cl (.ptr 0 0)),(3, .cl (.int .i64))],[[.ro (.st .config), .int .i64]],[],0,35⟩,[(.ret,⟨[(1, .cl (.ptr 0 0)),(2, .cl (.bl))],[[.ro (.st .config), .int .i64]],[],0,35⟩),(.ext 0,⟨[(1, .cl (.ptr 0 0)),(2, .cl (.dead))],[[.ro (.st .config), .int .i64]],[],0,35⟩)],[],[1,3],[1,2]⟩
def eA (s: (Unit×Int×Unit)×((List dM×Int×Unit)×Unit)×Unit):od.R:=
 br (decide (s.1.2.1< (s.2.1.1.1.length:Int))) (dI (0<=s.1.2.1) ((s.2.1.1.1[s.1.2.1.toNat]?).bind fun x4=>(eg x4).bind fun y5=>br (!y5.1) (some (.inr (.inl (((),false,()),s.2.1,(()))))) (dI (0<=s.1.2.1) ((s.2.1.1.1[s.1.2.1.toNat]?).bind fun x6=>br (!(x6.epoch==(IntKind.wrap .i64 (s.1.2.1+1)))) (some (.inr (.inl (((),false,()),s.2.1,(()))))) (some (.inl (((),(IntKind.wrap .i64 (s.1.2.1+1)),()),s.2.1,(()))))) none)) none) (some (.inr (.inr (((),(),()),s.2.1,(())))))
def iw:=ia eA
def sP:=nf Tryz.f86 [0] od eA [jC] [] (by kernel_rfl) fun s=>by simp only[eA,tm]; kernel_rfl
def fk (a0:dZ):Option (Bool×Unit):=
 (iw (((),0,()),((a0.configs,a0.activated,()),()),(()))).bind fun e7=>Sum.elim (fun e7_0=>some e7_0.1.2) (fun e7_1=>(fg e7_1.2.1.1.2.1 0 (e7_1.2.1.1.1.length:Int)).bind fun y8=>some (y8.1,())) e7
def pN:=fD 86 Tryz.f86 [.ty (.st .masterLog)] [.b] (fun x=>fk x.1) [lg] [sP] (by kernel_rfl) fun x=>by simp only[fk,tm]; kernel_rfl
def lK (a0:l4):Option (Bool×Unit):=
 br ((a0.epoch==0)&&((a0.holder==0)&&((a0.ends==0)&&true))) (some (true,())) ((fg a0.epoch 1 20).bind fun y1=>br y1.1 ((fg a0.holder 0 4).bind fun y2=>br y2.1 ((fg a0.ends 1 1049).bind fun y3=>some (y3.1,())) (some (false,()))) (some (false,())))
def C3:=fD 87 Tryz.f87 [.ty (.st .lease)] [.b] (fun x=>lK x.1) [lg] [] (by kernel_rfl) fun x=>by simp only[lK,tm]; kernel_rfl
abbrev pO:LX:=⟨⟨[(0, .cl (.ro (.st .place))),(3, .cl (.int .i64))],[],[],0,38⟩,[(.ret,⟨[(0, .cl (.ro (.st .place))),(2, .cl (.bl))],[],[],0,38⟩),(.ext 0,⟨[(0, .cl (.ro (.st .place))),(2, .cl (.dead))],[],[],0,38⟩)],[],[0,3],[0,2]⟩
def iG (s: (List fR×Int×Unit)×Unit×Unit):pO.R:=
 br (decide (s.1.2.1< (s.1.1.length:Int))) (dI (0<=s.1.2.1) ((s.1.1[s.1.2.1.toNat]?).bind fun x3=>(fg x3.rack 0 9).bind fun y4=>br (!y4.1) (some (.inr (.inl ((s.1.1,false,()),(()),(()))))) (dI (0<=s.1.2.1) ((s.1.1[s.1.2.1.toNat]?).bind fun x5=>(fg x5.capacity 0 9).bind fun y6=>br (!y6.1) (some (.inr (.inl ((s.1.1,false,()),(()),(()))))) (dI (0<=s.1.2.1) ((s.1.1[s.1.2.1.toNat]?).bind fun x7=>(fg x7.load 0 99).bind fun y8=>br (!y8.1) (some (.inr (.inl ((s.1.1,false,()),(()),(()))))) (some (.inl ((s.1.1,(IntKind.wrap .i64 (s.1.2.1+1)),()),(()),(()))))) none)) none)) none) (some (.inr (.inr ((s.1.1,(),()),(()),(())))))
def m9:=ia iG
def vE:=nf Tryz.f88 [0] pO iG [lg] [] (by kernel_rfl) fun s=>by simp only[iG,tm]; kernel_rfl
def jN (a0:List fR):Option (Bool×Unit):=
 (m9 ((a0,0,()),(()),(()))).bind fun e9=>Sum.elim (fun e9_0=>some e9_0.1.2) (fun e9_1=>some (((e9_1.1.1.length:Int)==5),())) e9
def zK:=fD 88 Tryz.f88 [.ty (.ls (.st .place))] [.b] (fun x=>jN x.1) [] [vE] (by kernel_rfl) fun x=>by simp only[jN,tm]; kernel_rfl
def kP (a0:Op):Option (Bool×Unit):=
 (fg a0.client 0 2).bind fun y1=>br (!y1.1) (some (false,())) ((fg a0.seq 1 99).bind fun y2=>br (!y2.1) (some (false,())) ((fg a0.object 0 2).bind fun y3=>br (!y3.1) (some (false,())) ((fg a0.value 0 9).bind fun y4=>br (!y4.1) (some (false,())) (br (a0.kind==1) (br (a0.old==0) (some (true,())) (br (a0.kind==2) ((fg a0.old 0 9).bind fun y5=>some (y5.1,())) (some (false,())))) (br (a0.kind==2) ((fg a0.old 0 9).bind fun y6=>some (y6.1,())) (some (false,())))))))
def zL:=fD 145 Tryz.f145 [.ty (.st .op)] [.b] (fun x=>kP x.1) [lg] [] (by kernel_rfl) fun x=>by simp only[kP,tm]; kernel_rfl
abbrev wn:LX:=⟨⟨[(0, .cl (.ro (.st .entry))),(3, .cl (.int .i64))],[],[],0,47⟩,[(.ret,⟨[(0, .cl (.ro (.st .entry))),(2, .cl (.bl))],[],[],0,47⟩),(.ext 0,⟨[(0, .cl (.ro (.st .entry))),(2, .cl (.dead))],[],[],0,47⟩)],[],[0,3],[0,2]⟩
def lL (s: (List fG×Int×Unit)×Unit×Unit):wn.R:=
 br (decide (s.1.2.1< (s.1.1.length:Int))) (dI (0<=s.1.2.1) ((s.1.1[s.1.2.1.toNat]?).bind fun x3=>(fg x3.epoch 1 20).bind fun y4=>br (!y4.1) (some (.inr (.inl ((s.1.1,false,()),(()),(()))))) (dI (0<=s.1.2.1) ((s.1.1[s.1.2.1.toNat]?).bind fun x5=>(kP x5.op).bind fun y6=>br (!y6.1) (some (.inr (.inl ((s.1.1,false,()),(()),(()))))) (br (decide (s.1.2.1>0)) (dI (0<=(IntKind.wrap .i64 (s.1.2.1-1))) ((s.1.1[(IntKind.wrap .i64 (s.1.2.1-1)).toNat]?).bind fun x7=>dI (0<=s.1.2.1) ((s.1.1[s.1.2.1.toNat]?).bind fun x8=>br (decide (x7.epoch>x8.epoch)) (some (.inr (.inl ((s.1.1,false,()),(()),(()))))) (some (.inl ((s.1.1,(IntKind.wrap .i64 (s.1.2.1+1)),()),(()),(()))))) none) none) (some (.inl ((s.1.1,(IntKind.wrap .i64 (s.1.2.1+1)),()),(()),(())))))) none)) none) (some (.inr (.inr ((s.1.1,(),()),(()),(())))))
def rO:=ia lL
def C4:=nf Tryz.f104 [0] wn lL [lg,zL] [] (by kernel_rfl) fun s=>by simp only[lL,tm]; kernel_rfl
def nY (a0:List fG):Option (Bool×Unit):=
 (rO ((a0,0,()),(()),(()))).bind fun e9=>Sum.elim (fun e9_0=>some e9_0.1.2) (fun e9_1=>some ((decide ((e9_1.1.1.length:Int)<=16)),())) e9
def GG:=fD 104 Tryz.f104 [.ty (.ls (.st .entry))] [.b] (fun x=>nY x.1) [] [C4] (by kernel_rfl) fun x=>by simp only[nY,tm]; kernel_rfl
abbrev nB:LX:=⟨⟨[(0, .cl (.ro (.i .i64))),(1, .cl (.ro (.i .i64))),(5, .cl (.int .i64))],[],[],0,26⟩,[(.ret,⟨[(4, .cl (.bl))],[],[],0,26⟩),(.ext 0,⟨[(4, .cl (.dead))],[],[],0,26⟩)],[],[0,1,5],[4]⟩
def fU (s: (List Int×List Int×Int×Unit)×Unit×Unit):nB.R:=
 br (decide (s.1.2.2.1< (s.1.1.length:Int))) (dI (0<=s.1.2.2.1) ((s.1.1[s.1.2.2.1.toNat]?).bind fun x4=>dI (0<=s.1.2.2.1) ((s.1.2.1[s.1.2.2.1.toNat]?).bind fun x5=>br (!(x4==x5)) (some (.inr (.inl ((false,()),(()),(()))))) (some (.inl ((s.1.1,s.1.2.1,(IntKind.wrap .i64 (s.1.2.2.1+1)),()),(()),(()))))) none) none) (some (.inr (.inr (((),()),(()),(())))))
def ku:=ia fU
def rP:=nf Tryz.f108 [0] nB fU [] [] (by kernel_rfl) fun s=>by simp only[fU,tm]; kernel_rfl
def gU (a0:List Int) (a1:List Int):Option (Bool×Unit):=
 br (!((a0.length:Int)==(a1.length:Int))) (some (false,())) ((ku ((a0,a1,0,()),(()),(()))).bind fun e6=>Sum.elim (fun e6_0=>some e6_0.1) (fun _=>some (true,())) e6)
def uB:=fD 108 Tryz.f108 [.ty (.ls (.i .i64)), .ty (.ls (.i .i64))] [.b] (fun x=>gU x.1 x.2.1) [] [rP] (by kernel_rfl) fun x=>by simp only[gU,tm]; kernel_rfl
def ga (a0:dM) (a1:dM):Option (Bool×Unit):=
 br (a0.epoch==a1.epoch) (br (a0.primary==a1.primary) ((gU a0.replicas a1.replicas).bind fun y1=>br y1.1 ((gU a0.witnesses a1.witnesses).bind fun y2=>some (y2.1,())) (some (false,()))) (some (false,()))) (some (false,()))
def mb:=fD 55 Tryz.f55 [.ty (.st .config), .ty (.st .config)] [.b] (fun x=>ga x.1 x.2.1) [uB] [] (by kernel_rfl) fun x=>by simp only[ga,tm]; kernel_rfl
def lM (a0:dM):Option (Bool×Unit):=
 (ga a0 (⟨0,0,([]:List Int),([]:List Int)⟩:dM)).bind fun y1=>some (y1.1,())
def wo:=fD 92 Tryz.f92 [.ty (.st .config)] [.b] (fun x=>lM x.1) [mb] [] (by kernel_rfl) fun x=>by simp only[lM,tm]; kernel_rfl
def lN (a0:List fG):Option (Int×Unit):=
 br ((a0.length:Int)==0) (some (0,())) (dI (0<=(IntKind.wrap .i64 ((a0.length:Int)-1))) ((a0[(IntKind.wrap .i64 ((a0.length:Int)-1)).toNat]?).bind fun x1=>some (x1.epoch,())) none)
def wq:=fD 90 Tryz.f90 [.ty (.ls (.st .entry))] [.i .i64] (fun x=>lN x.1) [] [] (by kernel_rfl) fun x=>by simp only[lN,tm]; kernel_rfl
def nC (a0:dM) (a1:Int):Option (Int×Unit):=
 (eg a0).bind fun y1=>br (!y1.1) (some (0,())) (br (a1==a0.primary) (some (1,())) ((ig a0.replicas a1).bind fun y2=>br y2.1 (some (2,())) ((ig a0.witnesses a1).bind fun y3=>br y3.1 (some (3,())) (some (0,())))))
def zM:=fD 27 Tryz.f27 [.ty (.st .config), .ty (.i .i64)] [.i .i64] (fun x=>nC x.1 x.2.1) [jC,oQ] [] (by kernel_rfl) fun x=>by simp only[nC,tm]; kernel_rfl
def fe (a0:eK) (a1:Int):Option (Bool×Unit):=
 (fg a0.version 1 2).bind fun y1=>br (!y1.1) (some (false,())) ((fg a0.epoch 0 20).bind fun y2=>br (!y2.1) (some (false,())) ((nY a0.log).bind fun y3=>br (!y3.1) (some (false,())) ((nY a0.learned).bind fun y4=>br (!y4.1) (some (false,())) ((fg a0.first 0 16).bind fun y5=>br (!y5.1) (some (false,())) ((fg (IntKind.wrap .i64 (a0.first+(a0.log.length:Int))) 0 16).bind fun y6=>br (!y6.1) (some (false,())) ((fg a0.commit 0 (IntKind.wrap .i64 (a0.first+(a0.log.length:Int)))).bind fun y7=>br (!y7.1) (some (false,())) ((lM a0.config).bind fun y8=>br y8.1 (br (a0.first==0) (br ((a0.log.length:Int)==0) (some ((a0.commit==0),())) (some (false,()))) (some (false,()))) (br (!a0.intact) (some (false,())) (br (decide (a0.epoch<a0.config.epoch)) (some (false,())) ((lN a0.log).bind fun y9=>br (decide (y9.1>a0.config.epoch)) (some (false,())) ((nC a0.config a1).bind fun y10=>br (y10.1==0) (some (false,())) (br (y10.1==3) (br (decide ((a0.log.length:Int)<=3)) (br ((a0.log.length:Int)==3) (some (true,())) (some ((a0.first==0),()))) (some (false,()))) (some ((a0.first==0),()))))))))))))))
def oe:=fD 89 Tryz.f89 [.ty (.st .server), .ty (.i .i64)] [.b] (fun x=>fe x.1 x.2.1) [lg,GG,wo,wq,zM] [] (by kernel_rfl) fun x=>by simp only[fe,tm]; kernel_rfl
def mc (a0:dM):Option (dM×Unit):=
 dI ((([]:List Int)++a0.replicas).length*8<=2 ^ 40) (dI ((([]:List Int)++a0.witnesses).length*8<=2 ^ 40) (some ((⟨a0.epoch,a0.primary,(([]:List Int)++a0.replicas),(([]:List Int)++a0.witnesses)⟩:dM),())) none) none
def Fb:=fD 131 Tryz.f131 [.ty (.st .config)] [.st .config] (fun x=>mc x.1) [] [] (by kernel_rfl) fun x=>by simp only[mc,tm]; kernel_rfl
def i8 (a0:dZ) (a1:Int):Option (dM×Bool×Unit):=
 (fk a0).bind fun y1=>br (!y1.1) (some ((⟨0,0,([]:List Int),([]:List Int)⟩:dM),false,())) ((fg a1 1 (a0.configs.length:Int)).bind fun y2=>br (!y2.1) (some ((⟨0,0,([]:List Int),([]:List Int)⟩:dM),false,())) (dI (0<=(IntKind.wrap .i64 (a1-1))) ((a0.configs[(IntKind.wrap .i64 (a1-1)).toNat]?).bind fun x3=>(mc x3).bind fun y4=>some (y4.1,true,())) none))
def uC:=fD 91 Tryz.f91 [.ty (.st .masterLog), .ty (.i .i64)] [.st .config, .b] (fun x=>i8 x.1 x.2.1) [pN,lg,Fb] [] (by kernel_rfl) fun x=>by simp only[i8,tm]; kernel_rfl
abbrev md:LX:=⟨⟨[(1, .cl (.ptr 0 0)),(3, .cl (.int .i64))],[[.int .i64, .ro (.st .server), .ro (.i .i64), .ro (.st .config), .int .i64, .int .i64, .int .i64, .int .i64, .int .i64, .ro (.st .place)]],[],0,123⟩,[(.ret,⟨[(2, .cl (.bl))],[],[],0,123⟩),(.ext 0,⟨[(2, .cl (.dead))],[],[],0,123⟩)],[],[1,3],[2]⟩
def ea (s: (Unit×Int×Unit)×((Int×List eK×List Int×List dM×Int×Int×Int×Int×Int×List fR×Unit)×Unit)×Unit):md.R:=
 br (decide (s.1.2.1< (s.2.1.1.2.1.length:Int))) (dI (0<=s.1.2.1) ((s.2.1.1.2.1[s.1.2.1.toNat]?).bind fun x18=>(fe x18 s.1.2.1).bind fun y19=>br (!y19.1) (some (.inr (.inl ((false,()),(()),(()))))) (br (decide (x18.epoch>(s.2.1.1.2.2.2.1.length:Int))) (some (.inr (.inl ((false,()),(()),(()))))) ((lN x18.learned).bind fun y20=>br (decide (y20.1>s.2.1.1.2.2.2.2.1)) (some (.inr (.inl ((false,()),(()),(()))))) ((i8 (⟨s.2.1.1.2.2.2.1,s.2.1.1.2.2.2.2.1⟩:dZ) x18.config.epoch).bind fun y21=>(lM x18.config).bind fun y22=>br (!y22.1) (br (!y21.2.1) (some (.inr (.inl ((false,()),(()),(()))))) ((ga y21.1 x18.config).bind fun y23=>br (!y23.1) (some (.inr (.inl ((false,()),(()),(()))))) (br (decide (x18.config.epoch>s.2.1.1.2.2.2.2.1)) (some (.inr (.inl ((false,()),(()),(()))))) (some (.inl (((),(IntKind.wrap .i64 (s.1.2.1+1)),()),s.2.1,(()))))))) (some (.inl (((),(IntKind.wrap .i64 (s.1.2.1+1)),()),s.2.1,(())))))))) none) (some (.inr (.inr (((),()),(()),(())))))
def il:=ia ea
def qq:=nf Tryz.f44 [0] md ea [oe,wq,uC,wo,mb] [] (by kernel_rfl) fun s=>by simp only[ea,tm]; kernel_rfl
def eW (a0:ek):Option (Bool×Unit):=
 (fg a0.now 0 999).bind fun y1=>br (!y1.1) (some (false,())) (br (!((a0.servers.length:Int)==5)) (some (false,())) ((i7 a0.sides).bind fun y2=>br (!y2.1) (some (false,())) ((fk a0.master).bind fun y3=>br (!y3.1) (some (false,())) ((fg a0.masterUp 0 3).bind fun y4=>br (!y4.1) (some (false,())) ((lK a0.lease).bind fun y5=>br (!y5.1) (some (false,())) ((jN a0.places).bind fun y6=>br (!y6.1) (some (false,())) (br (decide (a0.lease.epoch>a0.master.activated)) (some (false,())) ((il (((),0,()),((a0.now,a0.servers,a0.sides,a0.master.configs,a0.master.activated,a0.masterUp,a0.lease.epoch,a0.lease.holder,a0.lease.ends,a0.places,()),()),(()))).bind fun e24=>Sum.elim (fun e24_0=>some e24_0.1) (fun _=>some (true,())) e24))))))))
def nD:=fD 44 Tryz.f44 [.ty (.st .cluster)] [.b] (fun x=>eW x.1) [lg,uz,pN,C3,zK] [qq] (by kernel_rfl) fun x=>by simp only[eW,tm]; kernel_rfl
def fr (a0:dZ):Option (dM×Bool×Unit):=
 (i8 a0 a0.activated).bind fun y1=>some (y1.1,y1.2.1,())
def of:=fD 45 Tryz.f45 [.ty (.st .masterLog)] [.st .config, .b] (fun x=>fr x.1) [uC] [] (by kernel_rfl) fun x=>by simp only[fr,tm]; kernel_rfl
abbrev na:LX:=⟨⟨[(0, .cl (.int .i64)),(3, .cl (.str)),(4, .cl (.bl))],[],[],0,31⟩,[(.ext 0,⟨[(3, .cl (.str)),(4, .cl (.bl))],[],[],0,31⟩)],[],[0,3,4],[3,4]⟩
def gJ (s: (Int×ByteArray×Bool×Unit)×Unit×Unit):na.R:=
 br (!(s.1.1==0)) (let j5 (p4:Int):na.R:=dI (0< ([(IntKind.wrap .u8 (IntKind.wrap .i64 (48+p4)))]:List Int).length/\0+([(IntKind.wrap .u8 (IntKind.wrap .i64 (48+p4)))]:List Int).length<=([(IntKind.wrap .u8 (IntKind.wrap .i64 (48+p4)))]:List Int).length) (dI ((Ch ((([(IntKind.wrap .u8 (IntKind.wrap .i64 (48+p4)))]:List Int).drop 0).take (([(IntKind.wrap .u8 (IntKind.wrap .i64 (48+p4)))]:List Int).length))).size+s.1.2.1.size<=2 ^ 40) (some (.inl (((IntKind.wrap .i64 (Int.tdiv s.1.1 10)),((Ch ((([(IntKind.wrap .u8 (IntKind.wrap .i64 (48+p4)))]:List Int).drop 0).take (([(IntKind.wrap .u8 (IntKind.wrap .i64 (48+p4)))]:List Int).length)))++s.1.2.1),s.1.2.2),(()),(())))) none) none; br (decide ((Int.tmod s.1.1 10)<0)) (j5 (IntKind.wrap .i64 (0-(Int.tmod s.1.1 10)))) (j5 (Int.tmod s.1.1 10))) (some (.inr (s.1.2,(()),(()))))
def pP:=ia gJ
def vF:=nf Tryz.f25 [0] na gJ [] [] (by kernel_rfl) fun s=>by simp only[gJ,tm]; kernel_rfl
def gA (a0:Int):Option (ByteArray×Unit):=
 br (a0==0) (some ((⟨⟨[48]⟩⟩:ByteArray),())) ((pP ((a0,ByteArray.empty,(decide (a0<0)),()),(()),(()))).bind fun e6=>br e6.1.2.1 (dI ((⟨⟨[45]⟩⟩:ByteArray).size+e6.1.1.size<=2 ^ 40) (some (((⟨⟨[45]⟩⟩:ByteArray)++e6.1.1),())) none) (some (e6.1.1,())))
def oS:=fD 25 Tryz.f25 [.ty (.i .i64)] [.s] (fun x=>gA x.1) [] [vF] (by kernel_rfl) fun x=>by simp only[gA,tm]; kernel_rfl
abbrev mL:LX:=⟨⟨[(0, .cl (.ro (.i .i64))),(3, .cl (.str)),(4, .cl (.int .i64))],[],[],0,25⟩,[(.ext 0,⟨[(3, .cl (.str))],[],[],0,25⟩)],[],[0,3,4],[3]⟩
def fJ (s: (List Int×ByteArray×Int×Unit)×Unit×Unit):mL.R:=
 br (decide (s.1.2.2.1< (s.1.1.length:Int))) (dI (0<=s.1.2.2.1) ((s.1.1[s.1.2.2.1.toNat]?).bind fun x5=>(gA x5).bind fun y6=>dI (s.1.2.1.size+y6.1.size<=2 ^ 40) (some (.inl ((s.1.1,(s.1.2.1++y6.1),(IntKind.wrap .i64 (s.1.2.2.1+1)),()),(()),(())))) none) none) (some (.inr ((s.1.2.1,()),(()),(()))))
def mM:=ia fJ
def qZ:=nf Tryz.f93 [0] mL fJ [oS] [] (by kernel_rfl) fun s=>by simp only[fJ,tm]; kernel_rfl
def gr (a0:List Int):Option (ByteArray×Unit):=
 (gz a0).bind fun y1=>br (!y1.1) (some (ByteArray.empty,())) (br ((a0.length:Int)==0) (some ((⟨⟨[110,111,110,101]⟩⟩:ByteArray),())) ((mM ((a0,ByteArray.empty,0,()),(()),(()))).bind fun e7=>some e7.1))
def sQ:=fD 93 Tryz.f93 [.ty (.ls (.i .i64))] [.s] (fun x=>gr x.1) [qX] [qZ] (by kernel_rfl) fun x=>by simp only[gr,tm]; kernel_rfl
def gV (a0:dM):Option (ByteArray×Unit):=
 (eg a0).bind fun y1=>br (!y1.1) (some (ByteArray.empty,())) ((gA a0.epoch).bind fun y2=>dI (y2.1.size+(⟨⟨[32]⟩⟩:ByteArray).size<=2 ^ 40) ((gA a0.primary).bind fun y3=>dI ((y2.1++(⟨⟨[32]⟩⟩:ByteArray)).size+y3.1.size<=2 ^ 40) (dI (((y2.1++(⟨⟨[32]⟩⟩:ByteArray))++y3.1).size+(⟨⟨[32]⟩⟩:ByteArray).size<=2 ^ 40) ((gr a0.replicas).bind fun y4=>dI ((((y2.1++(⟨⟨[32]⟩⟩:ByteArray))++y3.1)++(⟨⟨[32]⟩⟩:ByteArray)).size+y4.1.size<=2 ^ 40) (dI (((((y2.1++(⟨⟨[32]⟩⟩:ByteArray))++y3.1)++(⟨⟨[32]⟩⟩:ByteArray))++y4.1).size+(⟨⟨[32]⟩⟩:ByteArray).size<=2 ^ 40) ((gr a0.witnesses).bind fun y5=>dI ((((((y2.1++(⟨⟨[32]⟩⟩:ByteArray))++y3.1)++(⟨⟨[32]⟩⟩:ByteArray))++y4.1)++(⟨⟨[32]⟩⟩:ByteArray)).size+y5.1.size<=2 ^ 40) (some (((((((y2.1++(⟨⟨[32]⟩⟩:ByteArray))++y3.1)++(⟨⟨[32]⟩⟩:ByteArray))++y4.1)++(⟨⟨[32]⟩⟩:ByteArray))++y5.1),())) none) none) none) none) none) none)
def uD:=fD 46 Tryz.f46 [.ty (.st .config)] [.s] (fun x=>gV x.1) [jC,oS,sQ] [] (by kernel_rfl) fun x=>by simp only[gV,tm]; kernel_rfl
def i9 (a0:eK) (a1:Int):Option (Bool×Unit):=
 (fe a0 a1).bind fun y1=>br y1.1 (br a0.up ((nC a0.config a1).bind fun y2=>br (y2.1==1) (some ((a0.epoch==a0.config.epoch),())) (some (false,()))) (some (false,()))) (some (false,()))
def uE:=fD 132 Tryz.f132 [.ty (.st .server), .ty (.i .i64)] [.b] (fun x=>i9 x.1 x.2.1) [oe,zM] [] (by kernel_rfl) fun x=>by simp only[i9,tm]; kernel_rfl
abbrev nE:LX:=⟨⟨[(0, .cl (.ro (.i .i64))),(1, .cl (.ro (.i .i64))),(5, .cl (.own 0 (.i .i64))),(6, .cl (.int .i64))],[],[.i .i64],0,34⟩,[(.ext 0,⟨[(1, .cl (.ro (.i .i64))),(5, .cl (.own 0 (.i .i64)))],[],[.i .i64],0,34⟩)],[],[0,1,5,6],[1,5]⟩
def fV (s: (List Int×List Int×Unit×Int×Unit)×Unit×List Int×Unit):nE.R:=
 br (decide (s.1.2.2.2.1< (s.1.1.length:Int))) (dI (0<=s.1.2.2.2.1) ((s.1.1[s.1.2.2.2.1.toNat]?).bind fun x5=>(kE s.2.2.1 x5).bind fun y6=>some (.inl ((s.1.1,s.1.2.1,(),(IntKind.wrap .i64 (s.1.2.2.2.1+1)),()),(()),y6.1,()))) none) (some (.inr ((s.1.2.1,(),()),(()),s.2.2)))
def nF:=ia fV
def rQ:=nf Tryz.f158 [0] nE fV [xy] [] (by kernel_rfl) fun s=>by simp only[fV,tm]; kernel_rfl
abbrev nG:LX:=⟨⟨[(1, .cl (.ro (.i .i64))),(5, .cl (.own 0 (.i .i64))),(7, .cl (.int .i64))],[],[.i .i64],0,34⟩,[(.ext 2,⟨[(5, .cl (.own 0 (.i .i64)))],[],[.i .i64],0,34⟩)],[],[1,5,7],[5]⟩
def fW (s: (List Int×Unit×Int×Unit)×Unit×List Int×Unit):nG.R:=
 br (decide (s.1.2.2.1< (s.1.1.length:Int))) (dI (0<=s.1.2.2.1) ((s.1.1[s.1.2.2.1.toNat]?).bind fun x11=>(kE s.2.2.1 x11).bind fun y12=>some (.inl ((s.1.1,(),(IntKind.wrap .i64 (s.1.2.2.1+1)),()),(()),y12.1,()))) none) (some (.inr (((),()),(()),s.2.2)))
def nH:=ia fW
def rR:=nf Tryz.f158 [1] nG fW [xy] [] (by kernel_rfl) fun s=>by simp only[fW,tm]; kernel_rfl
def gW (a0:List Int) (a1:List Int):Option ((List Int)×Unit):=
 (nF ((a0,a1,(),0,()),(()),([]:List Int),())).bind fun e7=>(nH ((e7.1.1,(),0,()),(()),e7.2.2)).bind fun e13=>some e13.2.2
def uF:=fD 158 Tryz.f158 [.ty (.ls (.i .i64)), .ty (.ls (.i .i64))] [.ls (.i .i64)] (fun x=>gW x.1 x.2.1) [] [rQ,rR] (by kernel_rfl) fun x=>by simp only[gW,tm]; kernel_rfl
def kQ (a0:dM):Option ((List Int)×Unit):=
 (eg a0).bind fun y1=>br (!y1.1) (some (([]:List Int),())) ((gW a0.replicas a0.witnesses).bind fun y2=>some (y2.1,()))
def zN:=fD 133 Tryz.f133 [.ty (.st .config)] [.ls (.i .i64)] (fun x=>kQ x.1) [jC,uF] [] (by kernel_rfl) fun x=>by simp only[kQ,tm]; kernel_rfl
def me (a0:List Int) (a1:Int) (a2:Int):Option (Bool×Unit):=
 (i7 a0).bind fun y1=>br y1.1 ((fg a1 0 4).bind fun y2=>br y2.1 ((fg a2 0 4).bind fun y3=>br y3.1 (dI (0<=a1) ((a0[a1.toNat]?).bind fun x4=>dI (0<=a2) ((a0[a2.toNat]?).bind fun x5=>some ((x4==x5),())) none) none) (some (false,()))) (some (false,()))) (some (false,()))
def Bd:=fD 159 Tryz.f159 [.ty (.ls (.i .i64)), .ty (.i .i64), .ty (.i .i64)] [.b] (fun x=>me x.1 x.2.1 x.2.2.1) [uz,lg] [] (by kernel_rfl) fun x=>by simp only[me,tm]; kernel_rfl
def mf (a0:ek) (a1:Int) (a2:Int):Option (Bool×Unit):=
 dI (0<=a2) ((a0.servers[a2.toNat]?).bind fun x1=>(me a0.sides a1 a2).bind fun y2=>br y2.1 (br x1.up (dI (0<=a1) ((a0.servers[a1.toNat]?).bind fun x3=>br (x1.epoch==x3.epoch) (dI (0<=a1) ((a0.servers[a1.toNat]?).bind fun x4=>br (decide (x1.commit<=(x4.log.length:Int))) (dI (0<=a1) ((a0.servers[a1.toNat]?).bind fun x5=>(ga x1.config x5.config).bind fun y6=>some (y6.1,())) none) (some (false,()))) none) (some (false,()))) none) (some (false,()))) (some (false,()))) none
def Be:=fD 134 Tryz.f134 [.ty (.st .cluster), .ty (.i .i64), .ty (.i .i64)] [.b] (fun x=>mf x.1 x.2.1 x.2.2.1) [Bd,mb] [] (by kernel_rfl) fun x=>by simp only[mf,tm]; kernel_rfl
abbrev mg:LX:=⟨⟨[(1, .cl (.ptr 0 0)),(3, .cl (.ptr 1 0)),(5, .cl (.own 0 (.i .i64))),(6, .cl (.int .i64))],[[.int .i64, .ro (.st .server), .ro (.i .i64), .ro (.st .config), .int .i64, .int .i64, .int .i64, .int .i64, .int .i64, .ro (.st .place)],[.int .i64, .int .i64, .own 1 (.i .i64), .own 2 (.i .i64)]],[.i .i64, .i .i64, .i .i64],0,64⟩,[(.ret,⟨[(2, .cl (.int .i64)),(3, .cl (.ptr 0 0))],[[.int .i64, .int .i64, .own 0 (.i .i64), .own 1 (.i .i64)]],[.i .i64, .i .i64],0,64⟩),(.ext 0,⟨[(2, .cl (.dead)),(3, .cl (.ptr 0 0))],[[.int .i64, .int .i64, .own 0 (.i .i64), .own 1 (.i .i64)]],[.i .i64, .i .i64],0,64⟩)],[],[1,3,5,6],[2,3]⟩
def fB (s: (Unit×Unit×Unit×Int×Unit)×((Int×List eK×List Int×List dM×Int×Int×Int×Int×Int×List fR×Unit)×(Int×Int×Unit×Unit×Unit)×Unit)×List Int×List Int×List Int×Unit):mg.R:=
 br (decide (s.1.2.2.2.1< (s.2.2.1.length:Int))) (dI (0<=s.1.2.2.2.1/\s.1.2.2.2.1< (s.2.2.1.length:Int)) ((s.2.2.1[s.1.2.2.2.1.toNat]?).bind fun x23=>(mf (⟨s.2.1.1.1,s.2.1.1.2.1,s.2.1.1.2.2.1,(⟨s.2.1.1.2.2.2.1,s.2.1.1.2.2.2.2.1⟩:dZ),s.2.1.1.2.2.2.2.2.1,(⟨s.2.1.1.2.2.2.2.2.2.1,s.2.1.1.2.2.2.2.2.2.2.1,s.2.1.1.2.2.2.2.2.2.2.2.1⟩:l4),s.2.1.1.2.2.2.2.2.2.2.2.2.1⟩:ek) s.2.1.2.1.2.1 x23).bind fun y24=>br (!y24.1) (some (.inr (.inl (((-1),(),()),s.2.1.2,s.2.2.2)))) (some (.inl (((),(),(),(IntKind.wrap .i64 (s.1.2.2.2.1+1)),()),s.2)))) none) (some (.inr (.inr (((),(),()),s.2.1.2,s.2.2.2))))
def jH:=ia fB
def qs:=nf Tryz.f94 [0] mg fB [Be] [] (by kernel_rfl) fun s=>by simp only[fB,tm]; kernel_rfl
def gX (a0:ek):Option (Int×Unit):=
 (fr a0.master).bind fun y1=>(eW a0).bind fun y2=>br (!y2.1) (some ((-1),())) (br (!y1.2.1) (some ((-1),())) (dI (0<=y1.1.primary) ((a0.servers[y1.1.primary.toNat]?).bind fun x3=>(i9 x3 y1.1.primary).bind fun y4=>br (!y4.1) (some ((-1),())) (dI (0<=y1.1.primary) ((a0.servers[y1.1.primary.toNat]?).bind fun x5=>br (!(x5.config.epoch==y1.1.epoch)) (some ((-1),())) ((kQ y1.1).bind fun y6=>(jH (((),(),(),0,()),((a0.now,a0.servers,a0.sides,a0.master.configs,a0.master.activated,a0.masterUp,a0.lease.epoch,a0.lease.holder,a0.lease.ends,a0.places,()),(y1.1.epoch,y1.1.primary,(),(),()),()),y6.1,y1.1.replicas,y1.1.witnesses,())).bind fun e25=>Sum.elim (fun e25_0=>some (e25_0.1.1,())) (fun e25_1=>some (e25_1.2.1.1.2.1,())) e25)) none)) none))
def rS:=fD 94 Tryz.f94 [.ty (.st .cluster)] [.i .i64] (fun x=>gX x.1) [of,nD,uE,zN] [qs] (by kernel_rfl) fun x=>by simp only[gX,tm]; kernel_rfl
def kR (a0:ek):Option (Bool×Unit):=
 (gX a0).bind fun y1=>some ((decide (y1.1≥0)),())
def zO:=fD 47 Tryz.f47 [.ty (.st .cluster)] [.b] (fun x=>kR x.1) [rS] [] (by kernel_rfl) fun x=>by simp only[kR,tm]; kernel_rfl
def pp (a0:Bool) (a1:ByteArray) (a2:ByteArray):Option (ByteArray×Unit):=
 br a0 (some (a1,())) (some (a2,()))
def C5:=fD 24 Tryz.f24 [.ty (.b), .ty (.s), .ty (.s)] [.s] (fun x=>pp x.1 x.2.1 x.2.2.1) [] [] (by kernel_rfl) fun x=>by simp only[pp,tm]; kernel_rfl
def kS (a0:ek):Option (ByteArray×Unit):=
 (eW a0).bind fun y1=>br (!y1.1) (some (ByteArray.empty,())) ((fr a0.master).bind fun y2=>br (!y2.2.1) (some ((⟨⟨[110,111,110,101]⟩⟩:ByteArray),())) ((gV y2.1).bind fun y3=>dI (y3.1.size+(⟨⟨[32,99,104,111,115,101,110,32]⟩⟩:ByteArray).size<=2 ^ 40) ((gA (a0.master.configs.length:Int)).bind fun y4=>dI ((y3.1++(⟨⟨[32,99,104,111,115,101,110,32]⟩⟩:ByteArray)).size+y4.1.size<=2 ^ 40) (dI (((y3.1++(⟨⟨[32,99,104,111,115,101,110,32]⟩⟩:ByteArray))++y4.1).size+(⟨⟨[32]⟩⟩:ByteArray).size<=2 ^ 40) ((kR a0).bind fun y5=>(pp y5.1 (⟨⟨[115,101,114,118,105,110,103]⟩⟩:ByteArray) (⟨⟨[119,97,105,116,105,110,103]⟩⟩:ByteArray)).bind fun y6=>dI ((((y3.1++(⟨⟨[32,99,104,111,115,101,110,32]⟩⟩:ByteArray))++y4.1)++(⟨⟨[32]⟩⟩:ByteArray)).size+y6.1.size<=2 ^ 40) (some (((((y3.1++(⟨⟨[32,99,104,111,115,101,110,32]⟩⟩:ByteArray))++y4.1)++(⟨⟨[32]⟩⟩:ByteArray))++y6.1),())) none) none) none) none))
def zP:=fD 11 Tryz.f11 [.ty (.st .cluster)] [.s] (fun x=>kS x.1) [nD,of,uD,oS,zO,C5] [] (by kernel_rfl) fun x=>by simp only[kS,tm]; kernel_rfl
def ew (a0:Int) (a1:Int) (a2:Int):Option (Bool×Unit):=
 br (decide (a1<=a0)) (some ((decide (a0<=a2)),())) (some (false,()))
def iy:=fD 75 Tryz.f75 [.ty (.i .i64), .ty (.i .i64), .ty (.i .i64)] [.b] (fun x=>ew x.1 x.2.1 x.2.2.1) [] [] (by kernel_rfl) fun x=>by simp only[ew,tm]; kernel_rfl
def kF (a0:Int):Option (Bool×Unit):=
 (ew a0 0 3).bind fun y1=>some ((!y1.1),())
def vG:=fD 136 Tryz.f136 [.ty (.i .i64)] [.b] (fun x=>kF x.1) [iy] [] (by kernel_rfl) fun x=>by simp only[kF,tm]; kernel_rfl
abbrev gK:LX:=⟨⟨[(0, .cl (.ro (.i .i64))),(1, .cl (.fc 136)),(7, .cl (.int .i64)),(8, .cl (.int .i64))],[],[],0,19⟩,[(.ret,⟨[(4, .cl (.int .i64))],[],[],0,19⟩),(.ext 0,⟨[(4, .cl (.dead))],[],[],0,19⟩)],[],[0,1,7,8],[4]⟩
def ej (s: (List Int×Unit×Int×Int×Unit)×Unit×Unit):gK.R:=
 br (decide (s.1.2.2.2.1<s.1.2.2.1)) (dI (0<=s.1.2.2.2.1) ((s.1.1[s.1.2.2.2.1.toNat]?).bind fun x4=>(kF x4).bind fun y5=>br y5.1 (some (.inr (.inl (s.1.2.2.2,(()),(()))))) (some (.inl ((s.1.1,(),s.1.2.2.1,(IntKind.wrap .i64 (s.1.2.2.2.1+1)),()),(()),(()))))) none) (some (.inr (.inr (((),()),(()),(())))))
def fw:=ia ej
def ke:=nf Tryz.f160 [0] gK ej [vG] [] (by kernel_rfl) fun s=>by simp only[ej,tm]; kernel_rfl
def eZ (a0:List Int):Option (Int×Unit):=
 (fw ((a0,(),(a0.length:Int),0,()),(()),(()))).bind fun e6=>Sum.elim (fun e6_0=>some e6_0.1) (fun _=>some ((-1),())) e6
def kT:=fD 160 Tryz.f160 [.ty (.ls (.i .i64)), .fc 136] [.i .i64] (fun x=>eZ x.1) [] [ke] (by kernel_rfl) fun x=>by simp only[eZ,tm]; kernel_rfl
def eM (a0:List Int):Option (Bool×Unit):=
 (eZ a0).bind fun y1=>some ((decide (y1.1≥0)),())
def jZ:=fD 135 Tryz.f135 [.ty (.ls (.i .i64)), .fc 136] [.b] (fun x=>eM x.1) [kT] [] (by kernel_rfl) fun x=>by simp only[eM,tm]; kernel_rfl
def kv (a0:List Int):Option (Bool×Unit):=
 br ((a0.length:Int)==5) ((eM a0).bind fun y1=>some ((!y1.1),())) (some (false,()))
def Bf:=fD 95 Tryz.f95 [.ty (.ls (.i .i64))] [.b] (fun x=>kv x.1) [jZ] [] (by kernel_rfl) fun x=>by simp only[kv,tm]; kernel_rfl
abbrev oT:LX:=⟨⟨[(0, .cl (.ro (.i .i64))),(5, .cl (.ro (.i .i64))),(6, .cl (.int .i64)),(7, .cl (.int .i64))],[],[],0,29⟩,[(.ret,⟨[(2, .cl (.bl))],[],[],0,29⟩),(.ext 0,⟨[(2, .cl (.dead))],[],[],0,29⟩)],[],[0,5,6,7],[2]⟩
def gY (s: (List Int×List Int×Int×Int×Unit)×Unit×Unit):oT.R:=
 br (decide (s.1.2.2.2.1<s.1.2.2.1)) (dI (0<=s.1.2.2.2.1) ((s.1.2.1[s.1.2.2.2.1.toNat]?).bind fun x5=>(ew x5 0 4).bind fun y6=>br (!y6.1) (some (.inr (.inl ((false,()),(()),(()))))) (br (decide (s.1.2.2.2.1>0)) (dI (0<=(IntKind.wrap .i64 (s.1.2.2.2.1-1))) ((s.1.1[(IntKind.wrap .i64 (s.1.2.2.2.1-1)).toNat]?).bind fun x7=>br (decide (x5<=x7)) (some (.inr (.inl ((false,()),(()),(()))))) (some (.inl ((s.1.1,s.1.2.1,s.1.2.2.1,(IntKind.wrap .i64 (s.1.2.2.2.1+1)),()),(()),(()))))) none) (some (.inl ((s.1.1,s.1.2.1,s.1.2.2.1,(IntKind.wrap .i64 (s.1.2.2.2.1+1)),()),(()),(())))))) none) (some (.inr (.inr (((),()),(()),(())))))
def mh:=ia gY
def uG:=nf Tryz.f126 [0] oT gY [iy] [] (by kernel_rfl) fun s=>by simp only[gY,tm]; kernel_rfl
def im (a0:List Int):Option (Bool×Unit):=
 (mh ((a0,a0,(a0.length:Int),0,()),(()),(()))).bind fun e8=>Sum.elim (fun e8_0=>some e8_0.1) (fun _=>some (true,())) e8
def xz:=fD 126 Tryz.f126 [.ty (.ls (.i .i64))] [.b] (fun x=>im x.1) [] [uG] (by kernel_rfl) fun x=>by simp only[im,tm]; kernel_rfl
abbrev oU:LX:=⟨⟨[(0, .cl (.ro (.i .i64))),(1, .cl (.int .i64)),(7, .cl (.int .i64)),(8, .cl (.int .i64))],[],[],0,19⟩,[(.ret,⟨[(4, .cl (.int .i64))],[],[],0,19⟩),(.ext 0,⟨[(4, .cl (.dead))],[],[],0,19⟩)],[],[0,1,7,8],[4]⟩
def gZ (s: (List Int×Int×Int×Int×Unit)×Unit×Unit):oU.R:=
 br (decide (s.1.2.2.2.1<s.1.2.2.1)) (dI (0<=s.1.2.2.2.1) ((s.1.1[s.1.2.2.2.1.toNat]?).bind fun x5=>br (s.1.2.1==x5) (some (.inr (.inl (s.1.2.2.2,(()),(()))))) (some (.inl ((s.1.1,s.1.2.1,s.1.2.2.1,(IntKind.wrap .i64 (s.1.2.2.2.1+1)),()),(()),(()))))) none) (some (.inr (.inr (((),()),(()),(())))))
def mi:=ia gZ
def uH:=nf Tryz.f156 [0] oU gZ [] [] (by kernel_rfl) fun s=>by simp only[gZ,tm]; kernel_rfl
def lD (a0:List Int) (a1:Int):Option (Int×Unit):=
 (mi ((a0,a1,(a0.length:Int),0,()),(()),(()))).bind fun e6=>Sum.elim (fun e6_0=>some e6_0.1) (fun _=>some ((-1),())) e6
def xA:=fD 156 Tryz.f156 [.ty (.ls (.i .i64)), .ty (.i .i64)] [.i .i64] (fun x=>lD x.1 x.2.1) [] [uH] (by kernel_rfl) fun x=>by simp only[lD,tm]; kernel_rfl
def jD (a0:List Int) (a1:Int):Option (Bool×Unit):=
 (lD a0 a1).bind fun y1=>some ((decide (y1.1≥0)),())
def sR:=fD 128 Tryz.f128 [.ty (.ls (.i .i64)), .ty (.i .i64)] [.b] (fun x=>jD x.1 x.2.1) [xA] [] (by kernel_rfl) fun x=>by simp only[jD,tm]; kernel_rfl
def ii (a0:List Int) (a1:Int):Option (Bool×Unit):=
 (jD a0 a1).bind fun y1=>some (y1.1,())
def oV:=fD 81 Tryz.f81 [.ty (.ls (.i .i64)), .ty (.i .i64)] [.b] (fun x=>ii x.1 x.2.1) [sR] [] (by kernel_rfl) fun x=>by simp only[ii,tm]; kernel_rfl
def lE (a0:List Int):Option ((List Int)×Unit):=dI (a0.length*8<=2 ^ 40) (some (a0,())) none
def xB:=JU 180 Tryz.f180 (.i .i64) 8 lE (by kernel_rfl) (fun _=>rfl) fun _=>by kernel_rfl
def qt (a0:Int):Option (Int×Unit):=
 br (decide (a0≥4294967296)) (none) (br (decide (a0≥65536)) (none) (br (decide (a0≥256)) (none) (dI (0<=(IntKind.wrap .u8 a0)) ((JT[(IntKind.wrap .u8 a0).toNat]?).bind fun x1=>some ((IntKind.wrap .i64 (0+(IntKind.wrap .i64 (x1.toNat:Int)))),())) none)))
def Bg:=fD 176 Tryz.f176 [.ty (.i .u64)] [.i .i64] (fun x=>qt x.1) [] [] (by kernel_rfl) fun x=>by simp only[qt,tm]; kernel_rfl
def oW (a0:Int):Option (Int×Unit):=
 (qt a0).bind fun y1=>some (y1.1,())
def Fc:=fD 187 Tryz.f187 [.ty (.i .u64)] [.i .i64] (fun x=>oW x.1) [Bg] [] (by kernel_rfl) fun x=>by simp only[oW,tm]; kernel_rfl
def iH (a0:Int):Option (Bool×Unit):=
 some ((!(a0==a0)),())
def vH:=fD 203 Tryz.f203 [.ty (.i .i64)] [.b] (fun x=>iH x.1) [] [] (by kernel_rfl) fun x=>by simp only[iH,tm]; kernel_rfl
def ip (a0:Int) (a1:Int):Option (Bool×Unit):=
 (iH a0).bind fun y1=>br y1.1 ((iH a1).bind fun y2=>br (!y2.1) (some (true,())) (some ((decide (a0<a1)),()))) (some ((decide (a0<a1)),()))
def xC:=fD 194 Tryz.f194 [.ty (.i .i64), .ty (.i .i64)] [.b] (fun x=>ip x.1 x.2.1) [vH] [] (by kernel_rfl) fun x=>by simp only[ip,tm]; kernel_rfl
abbrev gC:LX:=⟨⟨[(0, .cl (.own 0 (.i .i64))),(1, .cl (.int .i64)),(2, .cl (.int .i64)),(6, .cl (.int .i64)),(7, .cl (.int .i64))],[],[.i .i64],1,49⟩,[(.ext 2,⟨[(0, .cl (.own 0 (.i .i64))),(1, .cl (.int .i64)),(2, .cl (.int .i64)),(6, .cl (.int .i64))],[],[.i .i64],1,49⟩)],[],[0,1,2,6,7],[0,1,2,6]⟩
def dV (s: (Unit×Int×Int×Int×Int×Unit)×Unit×List Int×Unit):gC.R:=
 br (decide (s.1.2.2.2.2.1>s.1.2.1)) (dI (0<=s.1.2.2.2.2.1/\s.1.2.2.2.2.1< (s.2.2.1.length:Int)) ((s.2.2.1[s.1.2.2.2.2.1.toNat]?).bind fun x10=>dI (0<=(IntKind.wrap .i64 (s.1.2.2.2.2.1-1))/\(IntKind.wrap .i64 (s.1.2.2.2.2.1-1))< (s.2.2.1.length:Int)) ((s.2.2.1[(IntKind.wrap .i64 (s.1.2.2.2.2.1-1)).toNat]?).bind fun x11=>(ip x10 x11).bind fun y12=>br y12.1 (dI (0<=(IntKind.wrap .i64 (s.1.2.2.2.2.1-1))/\(IntKind.wrap .i64 (s.1.2.2.2.2.1-1))< (s.2.2.1.length:Int)) ((s.2.2.1[(IntKind.wrap .i64 (s.1.2.2.2.2.1-1)).toNat]?).bind fun x13=>dI (0<=s.1.2.2.2.2.1/\s.1.2.2.2.2.1< (s.2.2.1.length:Int)) ((s.2.2.1[s.1.2.2.2.2.1.toNat]?).bind fun x14=>dI (0<=s.1.2.2.2.2.1/\s.1.2.2.2.2.1< (s.2.2.1.length:Int)) (dI (0<=(IntKind.wrap .i64 (s.1.2.2.2.2.1-1))/\(IntKind.wrap .i64 (s.1.2.2.2.2.1-1))< (s.2.2.1.length:Int)) ((s.2.2.1[s.1.2.2.2.2.1.toNat]?).bind fun _=>let z16:=s.2.2.1.set s.1.2.2.2.2.1.toNat x13; (z16[(IntKind.wrap .i64 (s.1.2.2.2.2.1-1)).toNat]?).bind fun _=>some (.inl (((),s.1.2.1,s.1.2.2.1,s.1.2.2.2.1,(IntKind.wrap .i64 (s.1.2.2.2.2.1-1)),()),(()),(z16.set ((IntKind.wrap .i64 (s.1.2.2.2.2.1-1)).toNat) x14),()))) none) none) none) none) (some (.inr (((),s.1.2.1,s.1.2.2.1,s.1.2.2.2.1,()),(()),s.2.2)))) none) none) (some (.inr (((),s.1.2.1,s.1.2.2.1,s.1.2.2.2.1,()),(()),s.2.2)))
def eN:=ia dV
def j4:=nf Tryz.f188 [0,0] gC dV [xC] [] (by kernel_rfl) fun s=>by simp only[dV,tm]; kernel_rfl
abbrev gD:LX:=⟨⟨[(0, .cl (.own 0 (.i .i64))),(1, .cl (.int .i64)),(2, .cl (.int .i64)),(6, .cl (.int .i64))],[],[.i .i64],1,49⟩,[(.ext 0,⟨[],[],[.i .i64],1,49⟩)],[],[0,1,2,6],[]⟩
def dL (s: (Unit×Int×Int×Int×Unit)×Unit×List Int×Unit):gD.R:=
 br (decide (s.1.2.2.2.1<s.1.2.2.1)) ((eN (((),s.1.2.1,s.1.2.2.1,s.1.2.2.2.1,s.1.2.2.2),(()),s.2.2)).bind fun e19=>some (.inl (((),e19.1.2.1,e19.1.2.2.1,(IntKind.wrap .i64 (e19.1.2.2.2.1+1)),()),(()),e19.2.2))) (some (.inr ((()),(()),s.2.2)))
def eO:=ia dL
def j6:=nf Tryz.f188 [0] gD dL [] [j4] (by kernel_rfl) fun s=>by simp only[dL,tm]; kernel_rfl
def eb (a0:List Int) (a1:Int) (a2:Int):Option ((List Int)×Unit):=
 (eO (((),a1,a2,(IntKind.wrap .i64 (a1+1)),()),(()),a0,())).bind fun e20=>some e20.2.2
def kw:=JF 188 Tryz.f188 (.i .i64) [.ty (.i .i64), .ty (.i .i64)] [] (fun l x=>eb l x.1 x.2.1) [] [j6] (by kernel_rfl) fun l x=>by simp only[eb,tm]; kernel_rfl
abbrev ja:LX:=⟨⟨[(0, .cl (.own 0 (.i .i64))),(1, .cl (.int .i64)),(2, .cl (.int .i64)),(3, .cl (.int .i64)),(8, .cl (.bl)),(9, .cl (.bl))],[],[.i .i64],1,134⟩,[(.ret,⟨[],[],[.i .i64],1,134⟩)],[],[0,1,2,3,8,9],[]⟩
def eT (s: (Unit×Int×Int×Int×Bool×Bool×Unit)×Unit×List Int×Unit):ja.R:=
 br (decide ((IntKind.wrap .i64 (s.1.2.2.1-s.1.2.1))<=12)) ((eb s.2.2.1 s.1.2.1 s.1.2.2.1).bind fun y7=>dI (y7.1.length=s.2.2.1.length) (some (.inr ((()),(()),y7.1,()))) none) (br (s.1.2.2.2.1==0) (none) (br (!s.1.2.2.2.2.1) (none) (none)))
def gb:=ia eT
def mm:=nf Tryz.f186 [0] ja eT [kw] [] (by kernel_rfl) fun s=>by simp only[eT,tm,-eq_self]; kernel_rfl
def ey (a0:List Int) (a1:Int) (a2:Int) (a3:Int):Option ((List Int)×Unit):=
 (gb (((),a1,a2,a3,true,true,()),(()),a0,())).bind fun e8=>some e8.2.2
def nc:=JF 186 Tryz.f186 (.i .i64) [.ty (.i .i64), .ty (.i .i64), .ty (.i .i64)] [] (fun l x=>ey l x.1 x.2.1 x.2.2.1) [] [mm] (by kernel_rfl) fun l x=>by simp only[ey,tm]; kernel_rfl
def gf (a0:List Int):Option ((List Int)×Unit):=
 (oW (IntKind.wrap .u64 (a0.length:Int))).bind fun y1=>(ey a0 0 (a0.length:Int) y1.1).bind fun y2=>dI (y2.1.length=a0.length) (some (y2.1,())) none
def uI:=JF 181 Tryz.f181 (.i .i64) [] [] (fun l _=>gf l) [Fc,nc] [] (by kernel_rfl) fun l x=>by simp only[gf,tm,-eq_self]; kernel_rfl
abbrev lq:LX:=⟨⟨[(0, .cl (.own 0 (.i .i64))),(3, .cl (.int .i64)),(4, .cl (.sub 0 (.i .i64))),(5, .cl (.int .i64))],[],[.i .i64],0,61⟩,[(.ext 2,⟨[(0, .cl (.own 0 (.i .i64))),(3, .cl (.int .i64))],[],[.i .i64],0,61⟩)],[],[0,3,4,5],[0,3]⟩
def fp (s: (Unit×Int×(Nat×Nat)×Int×Unit)×Unit×List Int×Unit):lq.R:=
 br (decide (s.1.2.2.2.1< ((s.1.2.2.1.2:Nat):Int))) (dI (0<=s.1.2.2.2.1/\s.1.2.2.2.1< ((s.1.2.2.1.2:Nat):Int)) ((s.2.2.1[(s.1.2.2.1.1+s.1.2.2.2.1.toNat)]?).bind fun x9=>dI (0<=(IntKind.wrap .i64 (s.1.2.2.2.1-1))/\(IntKind.wrap .i64 (s.1.2.2.2.1-1))< ((s.1.2.2.1.2:Nat):Int)) ((s.2.2.1[(s.1.2.2.1.1+(IntKind.wrap .i64 (s.1.2.2.2.1-1)).toNat)]?).bind fun x10=>br (!(x9==x10)) (dI (0<=s.1.2.2.2.1/\s.1.2.2.2.1< ((s.1.2.2.1.2:Nat):Int)) ((s.2.2.1[(s.1.2.2.1.1+s.1.2.2.2.1.toNat)]?).bind fun x11=>dI (0<=s.1.2.1/\s.1.2.1< (s.2.2.1.length:Int)) ((s.2.2.1[s.1.2.1.toNat]?).bind fun _=>some (.inl (((),(IntKind.wrap .i64 (s.1.2.1+1)),s.1.2.2.1,(IntKind.wrap .i64 (s.1.2.2.2.1+1)),()),(()),(s.2.2.1.set s.1.2.1.toNat x11),()))) none) none) (some (.inl (((),s.1.2.1,s.1.2.2.1,(IntKind.wrap .i64 (s.1.2.2.2.1+1)),()),(()),s.2.2)))) none) none) (some (.inr (((),s.1.2.1,()),(()),s.2.2)))
def lr:=ia fp
def pt:=nf Tryz.f182 [0,0] lq fp [] [] (by kernel_rfl) fun s=>by simp only[fp,tm]; kernel_rfl
abbrev lu:LX:=⟨⟨[(0, .cl (.own 0 (.i .i64))),(3, .cl (.int .i64))],[],[.i .i64],0,61⟩,[(.ret,⟨[(0, .cl (.own 0 (.i .i64))),(2, .cl (.sub 0 (.i .i64)))],[],[.i .i64],0,61⟩),(.ext 0,⟨[(0, .cl (.own 0 (.i .i64))),(2, .cl (.dead))],[],[.i .i64],0,61⟩)],[],[0,3],[0,2]⟩
def eo (s: (Unit×Int×Unit)×Unit×List Int×Unit):lu.R:=
 br (decide (s.1.2.1< (s.2.2.1.length:Int))) (dI (0<=s.1.2.1/\s.1.2.1< (s.2.2.1.length:Int)) ((s.2.2.1[s.1.2.1.toNat]?).bind fun x3=>dI (0<=(IntKind.wrap .i64 (s.1.2.1-1))/\(IntKind.wrap .i64 (s.1.2.1-1))< (s.2.2.1.length:Int)) ((s.2.2.1[(IntKind.wrap .i64 (s.1.2.1-1)).toNat]?).bind fun x4=>br (x3==x4) (dI (0<=s.1.2.1/\s.1.2.1<=(s.2.2.1.length:Int)/\(s.2.2.1.length:Int)<=((s.2.2.1.length:Nat):Int)) ((lr (((),s.1.2.1,((0+s.1.2.1.toNat),((s.2.2.1.length:Int).toNat-s.1.2.1.toNat)),1,()),(()),s.2.2)).bind fun e16=>dI (0<=e16.1.2.1/\e16.1.2.1<=(e16.2.2.1.length:Int)/\(e16.2.2.1.length:Int)<=((e16.2.2.1.length:Nat):Int)) (dI ((0+e16.1.2.1.toNat)+((e16.2.2.1.length:Int).toNat-e16.1.2.1.toNat)<=e16.2.2.1.length) (dI (0<=(0:Int)/\(0:Int)<=e16.1.2.1/\e16.1.2.1<=((e16.2.2.1.length:Nat):Int)) (some (.inr (.inl (((),((0+(0:Int).toNat),(e16.1.2.1.toNat-(0:Int).toNat)),()),(()),(e16.2.2.1.take (0+e16.1.2.1.toNat)++List.replicate ((e16.2.2.1.length:Int).toNat-e16.1.2.1.toNat) (0:Int)++e16.2.2.1.drop ((0+e16.1.2.1.toNat)+((e16.2.2.1.length:Int).toNat-e16.1.2.1.toNat))),())))) none) none) none) none) (some (.inl (((),(IntKind.wrap .i64 (s.1.2.1+1)),()),(()),s.2.2)))) none) none) (some (.inr (.inr (((),(),()),(()),s.2.2))))
def jq:=ia eo
def pu:=nf Tryz.f182 [0] lu eo [] [pt] (by kernel_rfl) fun s=>by simp only[eo,tm]; kernel_rfl
def fo (a0:List Int):Option ((List Int)×Unit):=
 br (decide ((a0.length:Int)<2)) (some (a0,())) ((jq (((),1,()),(()),a0,())).bind fun e17=>Sum.elim (fun e17_0=>dI (e17_0.1.2.1.1=0/\e17_0.1.2.1.2<=e17_0.2.2.1.length) (some ((e17_0.2.2.1.take e17_0.1.2.1.2),())) none) (fun e17_1=>some e17_1.2.2) e17)
def q7:=JO 182 Tryz.f182 (.i .i64) [] [.ls (.i .i64)] (fun l _=>fo l) [] [pu] (by kernel_rfl) fun l x=>by simp only[fo,tm,-eq_self]; kernel_rfl
def jb (a0:List Int):Option ((List Int)×Unit):=
 (lE a0).bind fun y1=>(gf y1.1).bind fun y2=>dI (y2.1.length=y1.1.length) ((fo y2.1).bind fun y3=>some (y3.1,())) none
def zQ:=fD 171 Tryz.f171 [.ty (.ls (.i .i64))] [.ls (.i .i64)] (fun x=>jb x.1) [xB,uI,q7] [] (by kernel_rfl) fun x=>by simp only[jb,tm,-eq_self]; kernel_rfl
def fq (a0:Int) (a1:List Int):Option (Bool×Unit):=
 (ii a1 a0).bind fun y1=>some (y1.1,())
def lw:=fD 172 Tryz.f172 [.ty (.i .i64), .pr (.ls (.i .i64))] [.b] (fun x=>fq x.1 x.2.1) [oV] [] (by kernel_rfl) fun x=>by simp only[fq,tm]; kernel_rfl
abbrev fK:LX:=⟨⟨[(0, .cl (.ro (.i .i64))),(1, .fn 172 [.pro (.ls (.i .i64))]),(7, .cl (.int .i64)),(8, .cl (.int .i64))],[],[],0,19⟩,[(.ret,⟨[(4, .cl (.int .i64))],[],[],0,19⟩),(.ext 0,⟨[(4, .cl (.dead))],[],[],0,19⟩)],[],[0,1,7,8],[4]⟩
def dU (s: (List Int×(List Int×Unit)×Int×Int×Unit)×Unit×Unit):fK.R:=
 br (decide (s.1.2.2.2.1<s.1.2.2.1)) (dI (0<=s.1.2.2.2.1) ((s.1.1[s.1.2.2.2.1.toNat]?).bind fun x5=>(fq x5 s.1.2.1.1).bind fun y6=>br y6.1 (some (.inr (.inl (s.1.2.2.2,(()),(()))))) (some (.inl ((s.1.1,s.1.2.1,s.1.2.2.1,(IntKind.wrap .i64 (s.1.2.2.2.1+1)),()),(()),(()))))) none) (some (.inr (.inr (((),()),(()),(())))))
def eX:=ia dU
def jj:=nf Tryz.f160 [0] fK dU [lw] [] (by kernel_rfl) fun s=>by simp only[dU,tm]; kernel_rfl
def eC (a0:List Int) (a1_0:List Int):Option (Int×Unit):=
 (eX ((a0,(a1_0,()),(a0.length:Int),0,()),(()),(()))).bind fun e7=>Sum.elim (fun e7_0=>some e7_0.1) (fun _=>some ((-1),())) e7
def jy:=fD 160 Tryz.f160 [.ty (.ls (.i .i64)), .fn 172 [.ls (.i .i64)]] [.i .i64] (fun x=>eC x.1 x.2.1.1) [] [jj] (by kernel_rfl) fun x=>by simp only[eC,tm]; kernel_rfl
abbrev ft:LX:=⟨⟨[(0, .cl (.own 0 (.i .i64))),(1, .fn 172 [.pro (.ls (.i .i64))]),(5, .cl (.int .i64)),(6, .cl (.int .i64))],[],[.i .i64],0,42⟩,[(.ext 0,⟨[(0, .cl (.own 0 (.i .i64))),(5, .cl (.int .i64))],[],[.i .i64],0,42⟩)],[],[0,1,5,6],[0,5]⟩
def dP (s: (Unit×(List Int×Unit)×Int×Int×Unit)×Unit×List Int×Unit):ft.R:=
 br (decide (s.1.2.2.2.1< (s.2.2.1.length:Int))) (dI (0<=s.1.2.2.2.1/\s.1.2.2.2.1< (s.2.2.1.length:Int)) ((s.2.2.1[s.1.2.2.2.1.toNat]?).bind fun x6=>(fq x6 s.1.2.1.1).bind fun y7=>br (!y7.1) (dI (0<=s.1.2.2.1/\s.1.2.2.1< (s.2.2.1.length:Int)) ((s.2.2.1[s.1.2.2.1.toNat]?).bind fun _=>some (.inl (((),s.1.2.1,(IntKind.wrap .i64 (s.1.2.2.1+1)),(IntKind.wrap .i64 (s.1.2.2.2.1+1)),()),(()),(s.2.2.1.set s.1.2.2.1.toNat x6),()))) none) (some (.inl (((),s.1.2.1,s.1.2.2.1,(IntKind.wrap .i64 (s.1.2.2.2.1+1)),()),(()),s.2.2)))) none) (some (.inr (((),s.1.2.2.1,()),(()),s.2.2)))
def fu:=ia dP
def iz:=nf Tryz.f170 [0] ft dP [lw] [] (by kernel_rfl) fun s=>by simp only[dP,tm]; kernel_rfl
def ef (a0:List Int) (a1_0:List Int):Option ((List Int)×Unit):=
 (eC a0 a1_0).bind fun y1=>br (y1.1==(-1)) (some (a0,())) ((fu (((),(a1_0,()),y1.1,(IntKind.wrap .i64 (y1.1+1)),()),(()),a0,())).bind fun e12=>dI (0<=e12.1.2.1/\e12.1.2.1<=(e12.2.2.1.length:Int)/\(e12.2.2.1.length:Int)<=((e12.2.2.1.length:Nat):Int)) (dI ((0+e12.1.2.1.toNat)+((e12.2.2.1.length:Int).toNat-e12.1.2.1.toNat)<=e12.2.2.1.length) (dI (0<=(0:Int)/\(0:Int)<=e12.1.2.1/\e12.1.2.1<=((e12.2.2.1.length:Nat):Int)) (dI ((0+(0:Int).toNat)=0/\(e12.1.2.1.toNat-(0:Int).toNat)<=(e12.2.2.1.take (0+e12.1.2.1.toNat)++List.replicate ((e12.2.2.1.length:Int).toNat-e12.1.2.1.toNat) (0:Int)++e12.2.2.1.drop ((0+e12.1.2.1.toNat)+((e12.2.2.1.length:Int).toNat-e12.1.2.1.toNat))).length) (some (((e12.2.2.1.take (0+e12.1.2.1.toNat)++List.replicate ((e12.2.2.1.length:Int).toNat-e12.1.2.1.toNat) (0:Int)++e12.2.2.1.drop ((0+e12.1.2.1.toNat)+((e12.2.2.1.length:Int).toNat-e12.1.2.1.toNat))).take (e12.1.2.1.toNat-(0:Int).toNat)),())) none) none) none) none)
def iQ:=JO 170 Tryz.f170 (.i .i64) [.fn 172 [.ls (.i .i64)]] [.ls (.i .i64)] (fun l x=>ef l x.1.1) [jy] [iz] (by kernel_rfl) fun l x=>by simp only[ef,tm,-eq_self]; kernel_rfl
def fX (a0:List Int) (a1:List Int):Option ((List Int)×Unit):=
 (jb a0).bind fun y1=>(ef y1.1 a1).bind fun y2=>some (y2.1,())
def rT:=fD 155 Tryz.f155 [.ty (.ls (.i .i64)), .ty (.ls (.i .i64))] [.ls (.i .i64)] (fun x=>fX x.1 x.2.1) [zQ,iQ] [] (by kernel_rfl) fun x=>by simp only[fX,tm]; kernel_rfl
def iA (a0:List Int) (a1:List Int):Option ((List Int)×Unit):=
 (fX a0 a1).bind fun y1=>(fX a0 y1.1).bind fun y2=>some (y2.1,())
def sS:=fD 127 Tryz.f127 [.ty (.ls (.i .i64)), .ty (.ls (.i .i64))] [.ls (.i .i64)] (fun x=>iA x.1 x.2.1) [rT] [] (by kernel_rfl) fun x=>by simp only[iA,tm]; kernel_rfl
def fL (a0:dM):Option (Bool×Unit):=
 (ew a0.epoch 1 20).bind fun y1=>br y1.1 ((im a0.replicas).bind fun y2=>br y2.1 ((im a0.witnesses).bind fun y3=>br y3.1 ((ii a0.replicas a0.primary).bind fun y4=>br y4.1 ((iA a0.replicas a0.witnesses).bind fun y5=>some (((y5.1.length:Int)==0),())) (some (false,()))) (some (false,()))) (some (false,()))) (some (false,()))
def lh:=fD 80 Tryz.f80 [.ty (.st .config)] [.b] (fun x=>fL x.1) [iy,xz,oV,sS] [] (by kernel_rfl) fun x=>by simp only[fL,tm]; kernel_rfl
abbrev og:LX:=⟨⟨[(1, .cl (.ptr 0 0)),(6, .cl (.ro (.st .config))),(7, .cl (.int .i64)),(8, .cl (.int .i64))],[[.ro (.st .config), .int .i64]],[],0,30⟩,[(.ret,⟨[(1, .cl (.ptr 0 0)),(2, .cl (.bl))],[[.ro (.st .config), .int .i64]],[],0,30⟩),(.ext 0,⟨[(1, .cl (.ptr 0 0)),(2, .cl (.dead))],[[.ro (.st .config), .int .i64]],[],0,30⟩)],[],[1,6,7,8],[1,2]⟩
def gt (s: (Unit×List dM×Int×Int×Unit)×((List dM×Int×Unit)×Unit)×Unit):og.R:=
 br (decide (s.1.2.2.2.1<s.1.2.2.1)) (dI (0<=s.1.2.2.2.1) ((s.1.2.1[s.1.2.2.2.1.toNat]?).bind fun x6=>(fL x6).bind fun y7=>br (!y7.1) (some (.inr (.inl (((),false,()),s.2.1,(()))))) (br (!(x6.epoch==(IntKind.wrap .i64 (s.1.2.2.2.1+1)))) (some (.inr (.inl (((),false,()),s.2.1,(()))))) (some (.inl (((),s.1.2.1,s.1.2.2.1,(IntKind.wrap .i64 (s.1.2.2.2.1+1)),()),s.2.1,(())))))) none) (some (.inr (.inr (((),(),()),s.2.1,(())))))
def li:=ia gt
def sT:=nf Tryz.f96 [0] og gt [lh] [] (by kernel_rfl) fun s=>by simp only[gt,tm]; kernel_rfl
def iI (a0:dZ):Option (Bool×Unit):=
 (li (((),a0.configs,(a0.configs.length:Int),0,()),((a0.configs,a0.activated,()),()),(()))).bind fun e8=>Sum.elim (fun e8_0=>some e8_0.1.2) (fun e8_1=>(ew e8_1.2.1.1.2.1 0 (e8_1.2.1.1.1.length:Int)).bind fun y9=>some (y9.1,())) e8
def pQ:=fD 96 Tryz.f96 [.ty (.st .masterLog)] [.b] (fun x=>iI x.1) [iy] [sT] (by kernel_rfl) fun x=>by simp only[iI,tm]; kernel_rfl
def nI (a0:l4):Option (Bool×Unit):=
 br ((a0.epoch==0)&&((a0.holder==0)&&((a0.ends==0)&&true))) (some (true,())) ((ew a0.epoch 1 20).bind fun y1=>br y1.1 ((ew a0.holder 0 4).bind fun y2=>br y2.1 ((ew a0.ends 1 1049).bind fun y3=>some (y3.1,())) (some (false,()))) (some (false,())))
def C6:=fD 97 Tryz.f97 [.ty (.st .lease)] [.b] (fun x=>nI x.1) [iy] [] (by kernel_rfl) fun x=>by simp only[nI,tm]; kernel_rfl
def j8 (a0:fR):Option (Bool×Unit):=
 (ew a0.rack 0 9).bind fun y1=>br (!y1.1) (some (true,())) ((ew a0.capacity 0 9).bind fun y2=>br (!y2.1) (some (true,())) ((ew a0.load 0 99).bind fun y3=>some ((!y3.1),())))
def uJ:=fD 138 Tryz.f138 [.ty (.st .place)] [.b] (fun x=>j8 x.1) [iy] [] (by kernel_rfl) fun x=>by simp only[j8,tm]; kernel_rfl
abbrev gg:LX:=⟨⟨[(0, .cl (.ro (.st .place))),(1, .cl (.fc 138)),(7, .cl (.int .i64)),(8, .cl (.int .i64))],[],[],0,19⟩,[(.ret,⟨[(4, .cl (.int .i64))],[],[],0,19⟩),(.ext 0,⟨[(4, .cl (.dead))],[],[],0,19⟩)],[],[0,1,7,8],[4]⟩
def ec (s: (List fR×Unit×Int×Int×Unit)×Unit×Unit):gg.R:=
 br (decide (s.1.2.2.2.1<s.1.2.2.1)) (dI (0<=s.1.2.2.2.1) ((s.1.1[s.1.2.2.2.1.toNat]?).bind fun x4=>(j8 x4).bind fun y5=>br y5.1 (some (.inr (.inl (s.1.2.2.2,(()),(()))))) (some (.inl ((s.1.1,(),s.1.2.2.1,(IntKind.wrap .i64 (s.1.2.2.2.1+1)),()),(()),(()))))) none) (some (.inr (.inr (((),()),(()),(())))))
def fh:=ia ec
def jI:=nf Tryz.f161 [0] gg ec [uJ] [] (by kernel_rfl) fun s=>by simp only[ec,tm]; kernel_rfl
def eP (a0:List fR):Option (Int×Unit):=
 (fh ((a0,(),(a0.length:Int),0,()),(()),(()))).bind fun e6=>Sum.elim (fun e6_0=>some e6_0.1) (fun _=>some ((-1),())) e6
def j9:=fD 161 Tryz.f161 [.ty (.ls (.st .place)), .fc 138] [.i .i64] (fun x=>eP x.1) [] [jI] (by kernel_rfl) fun x=>by simp only[eP,tm]; kernel_rfl
def eD (a0:List fR):Option (Bool×Unit):=
 (eP a0).bind fun y1=>some ((decide (y1.1≥0)),())
def jz:=fD 137 Tryz.f137 [.ty (.ls (.st .place)), .fc 138] [.b] (fun x=>eD x.1) [j9] [] (by kernel_rfl) fun x=>by simp only[eD,tm]; kernel_rfl
def kU (a0:List fR):Option (Bool×Unit):=
 br ((a0.length:Int)==5) ((eD a0).bind fun y1=>some ((!y1.1),())) (some (false,()))
def zR:=fD 98 Tryz.f98 [.ty (.ls (.st .place))] [.b] (fun x=>kU x.1) [jz] [] (by kernel_rfl) fun x=>by simp only[kU,tm]; kernel_rfl
def jO (a0:Op):Option (Bool×Unit):=
 (ew a0.client 0 2).bind fun y1=>br (!y1.1) (some (false,())) ((ew a0.seq 1 99).bind fun y2=>br (!y2.1) (some (false,())) ((ew a0.object 0 2).bind fun y3=>br (!y3.1) (some (false,())) ((ew a0.value 0 9).bind fun y4=>br (!y4.1) (some (false,())) (br (a0.kind==1) (br (a0.old==0) (some (true,())) (br (a0.kind==2) ((ew a0.old 0 9).bind fun y5=>some (y5.1,())) (some (false,())))) (br (a0.kind==2) ((ew a0.old 0 9).bind fun y6=>some (y6.1,())) (some (false,())))))))
def zS:=fD 147 Tryz.f147 [.ty (.st .op)] [.b] (fun x=>jO x.1) [iy] [] (by kernel_rfl) fun x=>by simp only[jO,tm]; kernel_rfl
abbrev wt:LX:=⟨⟨[(0, .cl (.ro (.st .entry))),(5, .cl (.ro (.st .entry))),(6, .cl (.int .i64)),(7, .cl (.int .i64))],[],[],0,41⟩,[(.ret,⟨[(0, .cl (.ro (.st .entry))),(2, .cl (.bl))],[],[],0,41⟩),(.ext 0,⟨[(0, .cl (.ro (.st .entry))),(2, .cl (.dead))],[],[],0,41⟩)],[],[0,5,6,7],[0,2]⟩
def lO (s: (List fG×List fG×Int×Int×Unit)×Unit×Unit):wt.R:=
 br (decide (s.1.2.2.2.1<s.1.2.2.1)) (dI (0<=s.1.2.2.2.1) ((s.1.2.1[s.1.2.2.2.1.toNat]?).bind fun x5=>(ew x5.epoch 1 20).bind fun y6=>br (!y6.1) (some (.inr (.inl ((s.1.1,false,()),(()),(()))))) (br (decide (s.1.2.2.2.1>0)) (dI (0<=(IntKind.wrap .i64 (s.1.2.2.2.1-1))) ((s.1.1[(IntKind.wrap .i64 (s.1.2.2.2.1-1)).toNat]?).bind fun x7=>br (decide (x5.epoch<x7.epoch)) (some (.inr (.inl ((s.1.1,false,()),(()),(()))))) ((jO x5.op).bind fun y8=>br (!y8.1) (some (.inr (.inl ((s.1.1,false,()),(()),(()))))) (some (.inl ((s.1.1,s.1.2.1,s.1.2.2.1,(IntKind.wrap .i64 (s.1.2.2.2.1+1)),()),(()),(())))))) none) ((jO x5.op).bind fun y9=>br (!y9.1) (some (.inr (.inl ((s.1.1,false,()),(()),(()))))) (some (.inl ((s.1.1,s.1.2.1,s.1.2.2.1,(IntKind.wrap .i64 (s.1.2.2.2.1+1)),()),(()),(()))))))) none) (some (.inr (.inr ((s.1.1,(),()),(()),(())))))
def rU:=ia lO
def C7:=nf Tryz.f110 [0] wt lO [iy,zS] [] (by kernel_rfl) fun s=>by simp only[lO,tm]; kernel_rfl
def mN (a0:List fG):Option (Bool×Unit):=
 (rU ((a0,a0,(a0.length:Int),0,()),(()),(()))).bind fun e10=>Sum.elim (fun e10_0=>some e10_0.1.2) (fun e10_1=>some ((decide ((e10_1.1.1.length:Int)<=16)),())) e10
def B9:=fD 110 Tryz.f110 [.ty (.ls (.st .entry))] [.b] (fun x=>mN x.1) [] [C7] (by kernel_rfl) fun x=>by simp only[mN,tm]; kernel_rfl
abbrev oX:LX:=⟨⟨[(0, .cl (.ro (.i .i64))),(1, .cl (.ro (.i .i64))),(12, .cl (.int .i64)),(13, .cl (.int .i64))],[],[],0,26⟩,[(.ret,⟨[(4, .cl (.bl))],[],[],0,26⟩),(.ext 0,⟨[(4, .cl (.dead))],[],[],0,26⟩)],[],[0,1,12,13],[4]⟩
def hO (s: (List Int×List Int×Int×Int×Unit)×Unit×Unit):oX.R:=
 br (decide (s.1.2.2.2.1<s.1.2.2.1)) (dI (0<=s.1.2.2.2.1) ((s.1.1[s.1.2.2.2.1.toNat]?).bind fun x5=>dI (0<=s.1.2.2.2.1) ((s.1.2.1[s.1.2.2.2.1.toNat]?).bind fun x6=>br (!(x5==x6)) (some (.inr (.inl ((false,()),(()),(()))))) (some (.inl ((s.1.1,s.1.2.1,s.1.2.2.1,(IntKind.wrap .i64 (s.1.2.2.2.1+1)),()),(()),(()))))) none) none) (some (.inr (.inr (((),()),(()),(())))))
def mn:=ia hO
def uK:=nf Tryz.f149 [0] oX hO [] [] (by kernel_rfl) fun s=>by simp only[hO,tm]; kernel_rfl
def lF (a0:List Int) (a1:List Int):Option (Bool×Unit):=
 br (!((a0.length:Int)==(a1.length:Int))) (some (false,())) ((mn ((a0,a1,(a0.length:Int),0,()),(()),(()))).bind fun e7=>Sum.elim (fun e7_0=>some e7_0.1) (fun _=>some (true,())) e7)
def xD:=fD 149 Tryz.f149 [.ty (.ls (.i .i64)), .ty (.ls (.i .i64))] [.b] (fun x=>lF x.1 x.2.1) [] [uK] (by kernel_rfl) fun x=>by simp only[lF,tm]; kernel_rfl
def hQ (a0:List Int) (a1:List Int):Option (Bool×Unit):=
 (lF a0 a1).bind fun y1=>some (y1.1,())
def uL:=fD 114 Tryz.f114 [.ty (.ls (.i .i64)), .ty (.ls (.i .i64))] [.b] (fun x=>hQ x.1 x.2.1) [xD] [] (by kernel_rfl) fun x=>by simp only[hQ,tm]; kernel_rfl
def gi (a0:dM) (a1:dM):Option (Bool×Unit):=
 br (a0.epoch==a1.epoch) (br (a0.primary==a1.primary) ((hQ a0.replicas a1.replicas).bind fun y1=>br y1.1 ((hQ a0.witnesses a1.witnesses).bind fun y2=>some (y2.1,())) (some (false,()))) (some (false,()))) (some (false,()))
def oY:=fD 60 Tryz.f60 [.ty (.st .config), .ty (.st .config)] [.b] (fun x=>gi x.1 x.2.1) [uL] [] (by kernel_rfl) fun x=>by simp only[gi,tm]; kernel_rfl
def jP (a0:List fG):Option (Int×Unit):=
 br ((a0.length:Int)==0) (some (0,())) (dI (0<=(IntKind.wrap .i64 ((a0.length:Int)-1))) ((a0[(IntKind.wrap .i64 ((a0.length:Int)-1)).toNat]?).bind fun x1=>some (x1.epoch,())) none)
def sD:=fD 100 Tryz.f100 [.ty (.ls (.st .entry))] [.i .i64] (fun x=>jP x.1) [] [] (by kernel_rfl) fun x=>by simp only[jP,tm]; kernel_rfl
def oZ (a0:dM) (a1:Int):Option (Int×Unit):=
 (fL a0).bind fun y1=>br (!y1.1) (some (0,())) (br (a1==a0.primary) (some (1,())) ((ii a0.replicas a1).bind fun y2=>br y2.1 (some (2,())) ((ii a0.witnesses a1).bind fun y3=>br y3.1 (some (3,())) (some (0,())))))
def Fd:=fD 38 Tryz.f38 [.ty (.st .config), .ty (.i .i64)] [.i .i64] (fun x=>oZ x.1 x.2.1) [lh,oV] [] (by kernel_rfl) fun x=>by simp only[oZ,tm]; kernel_rfl
def o0 (a0:Int) (a1:List fG):Option (Bool×Unit):=
 (mN a1).bind fun y1=>br y1.1 (br (decide ((a1.length:Int)<=3)) ((ew a0 0 (IntKind.wrap .i64 (16-(a1.length:Int)))).bind fun y2=>br y2.1 (br (a0==0) (some (true,())) (some (((a1.length:Int)==3),()))) (some (false,()))) (some (false,()))) (some (false,()))
def Fe:=fD 139 Tryz.f139 [.ty (.i .i64), .ty (.ls (.st .entry))] [.b] (fun x=>o0 x.1 x.2.1) [B9,iy] [] (by kernel_rfl) fun x=>by simp only[o0,tm]; kernel_rfl
def iB (a0:eK) (a1:Int):Option (Bool×Unit):=
 (ew a0.version 1 2).bind fun y1=>br (!y1.1) (some (false,())) ((ew a0.epoch 0 20).bind fun y2=>br (!y2.1) (some (false,())) ((mN a0.log).bind fun y3=>br (!y3.1) (some (false,())) ((mN a0.learned).bind fun y4=>br (!y4.1) (some (false,())) ((ew a0.first 0 16).bind fun y5=>br (!y5.1) (some (false,())) (br (decide ((IntKind.wrap .i64 (a0.first+(a0.log.length:Int)))>16)) (some (false,())) ((ew a0.commit 0 (IntKind.wrap .i64 (a0.first+(a0.log.length:Int)))).bind fun y6=>br (!y6.1) (some (false,())) ((gi a0.config (⟨0,0,([]:List Int),([]:List Int)⟩:dM)).bind fun y7=>br y7.1 (br (a0.first==0) (br (a0.commit==0) (some (((a0.log.length:Int)==0),())) (some (false,()))) (some (false,()))) (br (!a0.intact) (some (false,())) (br (decide (a0.epoch<a0.config.epoch)) (some (false,())) ((jP a0.log).bind fun y8=>br (decide (y8.1>a0.config.epoch)) (some (false,())) ((oZ a0.config a1).bind fun y9=>br (y9.1==1) (some ((a0.first==0),())) (br (y9.1==2) (some ((a0.first==0),())) (br (y9.1==3) ((o0 a0.first a0.log).bind fun y12=>some (y12.1,())) (some (false,())))))))))))))))
def sU:=fD 99 Tryz.f99 [.ty (.st .server), .ty (.i .i64)] [.b] (fun x=>iB x.1 x.2.1) [iy,B9,oY,sD,Fd,Fe] [] (by kernel_rfl) fun x=>by simp only[iB,tm]; kernel_rfl
def iq (a0:dM):Option (dM×Unit):=
 dI ((([]:List Int)++a0.replicas).length*8<=2 ^ 40) (dI ((([]:List Int)++a0.witnesses).length*8<=2 ^ 40) (some ((⟨a0.epoch,a0.primary,(([]:List Int)++a0.replicas),(([]:List Int)++a0.witnesses)⟩:dM),())) none) none
def xE:=fD 140 Tryz.f140 [.ty (.st .config)] [.st .config] (fun x=>iq x.1) [] [] (by kernel_rfl) fun x=>by simp only[iq,tm]; kernel_rfl
def jc (a0:dZ) (a1:Int):Option (dM×Bool×Unit):=
 (iI a0).bind fun y1=>br (!y1.1) (some ((⟨0,0,([]:List Int),([]:List Int)⟩:dM),false,())) ((ew a1 1 (a0.configs.length:Int)).bind fun y2=>br (!y2.1) (some ((⟨0,0,([]:List Int),([]:List Int)⟩:dM),false,())) (dI (0<=(IntKind.wrap .i64 (a1-1))) ((a0.configs[(IntKind.wrap .i64 (a1-1)).toNat]?).bind fun x3=>(iq x3).bind fun y4=>some (y4.1,true,())) none))
def uM:=fD 101 Tryz.f101 [.ty (.st .masterLog), .ty (.i .i64)] [.st .config, .b] (fun x=>jc x.1 x.2.1) [pQ,iy,xE] [] (by kernel_rfl) fun x=>by simp only[jc,tm]; kernel_rfl
abbrev mo:LX:=⟨⟨[(1, .cl (.ptr 0 0)),(57, .cl (.ro (.st .server))),(58, .cl (.int .i64)),(59, .cl (.int .i64))],[[.int .i64, .ro (.st .server), .ro (.i .i64), .ro (.st .config), .int .i64, .int .i64, .int .i64, .int .i64, .int .i64, .ro (.st .place)]],[],0,118⟩,[(.ret,⟨[(2, .cl (.bl))],[],[],0,118⟩),(.ext 0,⟨[(2, .cl (.dead))],[],[],0,118⟩)],[],[1,57,58,59],[2]⟩
def fC (s: (Unit×List eK×Int×Int×Unit)×((Int×List eK×List Int×List dM×Int×Int×Int×Int×Int×List fR×Unit)×Unit)×Unit):mo.R:=
 br (decide (s.1.2.2.2.1<s.1.2.2.1)) (dI (0<=s.1.2.2.2.1) ((s.1.2.1[s.1.2.2.2.1.toNat]?).bind fun x20=>(iB x20 s.1.2.2.2.1).bind fun y21=>br (!y21.1) (some (.inr (.inl ((false,()),(()),(()))))) (br (decide (x20.epoch>(s.2.1.1.2.2.2.1.length:Int))) (some (.inr (.inl ((false,()),(()),(()))))) ((jP x20.learned).bind fun y22=>br (decide (y22.1>s.2.1.1.2.2.2.2.1)) (some (.inr (.inl ((false,()),(()),(()))))) ((gi x20.config (⟨0,0,([]:List Int),([]:List Int)⟩:dM)).bind fun y23=>br y23.1 (some (.inl (((),s.1.2.1,s.1.2.2.1,(IntKind.wrap .i64 (s.1.2.2.2.1+1)),()),s.2.1,(())))) ((jc (⟨s.2.1.1.2.2.2.1,s.2.1.1.2.2.2.2.1⟩:dZ) x20.config.epoch).bind fun y24=>br (!y24.2.1) (some (.inr (.inl ((false,()),(()),(()))))) ((gi y24.1 x20.config).bind fun y25=>br (!y25.1) (some (.inr (.inl ((false,()),(()),(()))))) (br (decide (x20.config.epoch>s.2.1.1.2.2.2.2.1)) (some (.inr (.inl ((false,()),(()),(()))))) (some (.inl (((),s.1.2.1,s.1.2.2.1,(IntKind.wrap .i64 (s.1.2.2.2.1+1)),()),s.2.1,(()))))))))))) none) (some (.inr (.inr (((),()),(()),(())))))
def jJ:=ia fC
def qu:=nf Tryz.f48 [0] mo fC [sU,sD,oY,uM] [] (by kernel_rfl) fun s=>by simp only[fC,tm]; kernel_rfl
def hU (a0:ek):Option (Bool×Unit):=
 (ew a0.now 0 999).bind fun y1=>br (!y1.1) (some (false,())) (br (!((a0.servers.length:Int)==5)) (some (false,())) ((kv a0.sides).bind fun y2=>br (!y2.1) (some (false,())) ((iI a0.master).bind fun y3=>br (!y3.1) (some (false,())) ((nI a0.lease).bind fun y4=>br (!y4.1) (some (false,())) ((kU a0.places).bind fun y5=>br (!y5.1) (some (false,())) ((ew a0.masterUp 0 3).bind fun y6=>br (!y6.1) (some (false,())) (br (decide (a0.lease.epoch>a0.master.activated)) (some (false,())) ((jJ (((),a0.servers,(a0.servers.length:Int),0,()),((a0.now,a0.servers,a0.sides,a0.master.configs,a0.master.activated,a0.masterUp,a0.lease.epoch,a0.lease.holder,a0.lease.ends,a0.places,()),()),(()))).bind fun e26=>Sum.elim (fun e26_0=>some e26_0.1) (fun _=>some (true,())) e26))))))))
def rV:=fD 48 Tryz.f48 [.ty (.st .cluster)] [.b] (fun x=>hU x.1) [iy,Bf,pQ,C6,zR] [qu] (by kernel_rfl) fun x=>by simp only[hU,tm]; kernel_rfl
def fM (a0:dZ):Option (dM×Bool×Unit):=
 (jc a0 a0.activated).bind fun y1=>some (y1.1,y1.2.1,())
def sV:=fD 49 Tryz.f49 [.ty (.st .masterLog)] [.st .config, .b] (fun x=>fM x.1) [uM] [] (by kernel_rfl) fun x=>by simp only[fM,tm]; kernel_rfl
def hZ (a0:dM):Option (ByteArray×Unit):=
 (fL a0).bind fun y1=>br (!y1.1) (some (ByteArray.empty,())) (none)
def uN:=fD 50 Tryz.f50 [.ty (.st .config)] [.s] (fun x=>hZ x.1) [lh] [] (by kernel_rfl) fun x=>by simp only[hZ,tm]; kernel_rfl
def kV (a0:ek):Option (ByteArray×Unit):=
 (hU a0).bind fun y1=>br (!y1.1) (some (ByteArray.empty,())) ((fM a0.master).bind fun y2=>br (!y2.2.1) (some ((⟨⟨[110,111,110,101]⟩⟩:ByteArray),())) ((hZ y2.1).bind fun y3=>dI (y3.1.size+(⟨⟨[32,99,104,111,115,101,110,32]⟩⟩:ByteArray).size<=2 ^ 40) (none) none))
def zT:=fD 12 Tryz.f12 [.ty (.st .cluster)] [.s] (fun x=>kV x.1) [rV,sV,uN] [] (by kernel_rfl) fun x=>by simp only[kV,tm]; kernel_rfl
abbrev uO:LX:=⟨⟨[(0, .cl (.ro (.i .i64))),(1, .cl (.ro (.i .i64))),(5, .cl (.int .i64))],[],[],0,26⟩,[(.ret,⟨[(4, .cl (.bl))],[],[],0,26⟩),(.ext 0,⟨[(4, .cl (.dead))],[],[],0,26⟩)],[],[0,1,5],[4]⟩
def nZ (s: (List Int×List Int×Int×Unit)×Unit×Unit):uO.R:=
 br (decide (s.1.2.2.1< (s.1.1.length:Int))) (dI (0<=s.1.2.2.1) ((s.1.1[s.1.2.2.1.toNat]?).bind fun x4=>dI (0<=s.1.2.2.1) ((s.1.2.1[s.1.2.2.1.toNat]?).bind fun x5=>br (!(x4==x5)) (some (.inr (.inl ((false,()),(()),(()))))) (some (.inl ((s.1.1,s.1.2.1,(IntKind.wrap .i64 (s.1.2.2.1+1)),()),(()),(()))))) none) none) (some (.inr (.inr (((),()),(()),(())))))
def Bh:=ia nZ
def Bi:=nf Tryz.f40 [0] uO nZ [] [] (by kernel_rfl) fun s=>by simp only[nZ,tm]; kernel_rfl
def mp (a0:List Int) (a1:List Int):Option (Bool×Unit):=
 br (!((a0.length:Int)==(a1.length:Int))) (some (false,())) ((Bh ((a0,a1,0,()),(()),(()))).bind fun e6=>Sum.elim (fun e6_0=>some e6_0.1) (fun _=>some (true,())) e6)
def zU:=fD 40 Tryz.f40 [.ty (.ls (.i .i64)), .ty (.ls (.i .i64))] [.b] (fun x=>mp x.1 x.2.1) [] [Bi] (by kernel_rfl) fun x=>by simp only[mp,tm]; kernel_rfl
def jK (a0:dM) (a1:dM):Option (Bool×Unit):=
 br (!(a0.epoch==a1.epoch)) (some (false,())) (br (!(a0.primary==a1.primary)) (some (false,())) ((mp a0.replicas a1.replicas).bind fun y1=>br (!y1.1) (some (false,())) ((mp a0.witnesses a1.witnesses).bind fun y2=>br (!y2.1) (some (false,())) (some (true,())))))
def uP:=fD 129 Tryz.f129 [.ty (.st .config), .ty (.st .config)] [.b] (fun x=>jK x.1 x.2.1) [zU] [] (by kernel_rfl) fun x=>by simp only[jK,tm]; kernel_rfl
def uQ (a0:Op) (a1:Op):Option (Bool×Unit):=
 br (!(a0.client==a1.client)) (some (false,())) (br (!(a0.seq==a1.seq)) (some (false,())) (br (!(a0.kind==a1.kind)) (some (false,())) (br (!(a0.object==a1.object)) (some (false,())) (br (!(a0.old==a1.old)) (some (false,())) (br (!(a0.value==a1.value)) (some (false,())) (some (true,())))))))
def H1:=fD 173 Tryz.f173 [.ty (.st .op), .ty (.st .op)] [.b] (fun x=>uQ x.1 x.2.1) [] [] (by kernel_rfl) fun x=>by simp only[uQ,tm]; kernel_rfl
def lP (a0:fG) (a1:fG):Option (Bool×Unit):=
 br (!(a0.epoch==a1.epoch)) (some (false,())) ((uQ a0.op a1.op).bind fun y1=>br (!y1.1) (some (false,())) (some (true,())))
def C8:=fD 157 Tryz.f157 [.ty (.st .entry), .ty (.st .entry)] [.b] (fun x=>lP x.1 x.2.1) [H1] [] (by kernel_rfl) fun x=>by simp only[lP,tm]; kernel_rfl
abbrev q8:LX:=⟨⟨[(0, .cl (.ro (.st .entry))),(1, .cl (.ro (.st .entry))),(5, .cl (.int .i64))],[],[],0,27⟩,[(.ret,⟨[(4, .cl (.bl))],[],[],0,27⟩),(.ext 0,⟨[(4, .cl (.dead))],[],[],0,27⟩)],[],[0,1,5],[4]⟩
def lG (s: (List fG×List fG×Int×Unit)×Unit×Unit):q8.R:=
 br (decide (s.1.2.2.1< (s.1.1.length:Int))) (dI (0<=s.1.2.2.1) ((s.1.1[s.1.2.2.1.toNat]?).bind fun x4=>dI (0<=s.1.2.2.1) ((s.1.2.1[s.1.2.2.1.toNat]?).bind fun x5=>(lP x4 x5).bind fun y6=>br (!y6.1) (some (.inr (.inl ((false,()),(()),(()))))) (some (.inl ((s.1.1,s.1.2.1,(IntKind.wrap .i64 (s.1.2.2.1+1)),()),(()),(()))))) none) none) (some (.inr (.inr (((),()),(()),(())))))
def xF:=ia lG
def xG:=nf Tryz.f130 [0] q8 lG [C8] [] (by kernel_rfl) fun s=>by simp only[lG,tm]; kernel_rfl
def ky (a0:List fG) (a1:List fG):Option (Bool×Unit):=
 br (!((a0.length:Int)==(a1.length:Int))) (some (false,())) ((xF ((a0,a1,0,()),(()),(()))).bind fun e7=>Sum.elim (fun e7_0=>some e7_0.1) (fun _=>some (true,())) e7)
def Bk:=fD 130 Tryz.f130 [.ty (.ls (.st .entry)), .ty (.ls (.st .entry))] [.b] (fun x=>ky x.1 x.2.1) [] [xG] (by kernel_rfl) fun x=>by simp only[ky,tm]; kernel_rfl
def kz (a0:eK) (a1:eK):Option (Bool×Unit):=
 br (!(a0.up==a1.up)) (some (false,())) (br (!(a0.intact==a1.intact)) (some (false,())) (br (!(a0.version==a1.version)) (some (false,())) (br (!(a0.epoch==a1.epoch)) (some (false,())) ((jK a0.config a1.config).bind fun y1=>br (!y1.1) (some (false,())) (br (!(a0.first==a1.first)) (some (false,())) ((ky a0.log a1.log).bind fun y2=>br (!y2.1) (some (false,())) (br (!(a0.commit==a1.commit)) (some (false,())) ((ky a0.learned a1.learned).bind fun y3=>br (!y3.1) (some (false,())) (some (true,()))))))))))
def Bl:=fD 82 Tryz.f82 [.ty (.st .server), .ty (.st .server)] [.b] (fun x=>kz x.1 x.2.1) [uP,Bk] [] (by kernel_rfl) fun x=>by simp only[kz,tm]; kernel_rfl
abbrev pR:LX:=⟨⟨[(0, .cl (.ro (.st .server))),(1, .cl (.ro (.st .server))),(5, .cl (.int .i64))],[],[],0,27⟩,[(.ret,⟨[(4, .cl (.bl))],[],[],0,27⟩),(.ext 0,⟨[(4, .cl (.dead))],[],[],0,27⟩)],[],[0,1,5],[4]⟩
def kG (s: (List eK×List eK×Int×Unit)×Unit×Unit):pR.R:=
 br (decide (s.1.2.2.1< (s.1.1.length:Int))) (dI (0<=s.1.2.2.1) ((s.1.1[s.1.2.2.1.toNat]?).bind fun x4=>dI (0<=s.1.2.2.1) ((s.1.2.1[s.1.2.2.1.toNat]?).bind fun x5=>(kz x4 x5).bind fun y6=>br (!y6.1) (some (.inr (.inl ((false,()),(()),(()))))) (some (.inl ((s.1.1,s.1.2.1,(IntKind.wrap .i64 (s.1.2.2.1+1)),()),(()),(()))))) none) none) (some (.inr (.inr (((),()),(()),(())))))
def vI:=ia kG
def vJ:=nf Tryz.f39 [0] pR kG [Bl] [] (by kernel_rfl) fun s=>by simp only[kG,tm]; kernel_rfl
def kW (a0:List eK) (a1:List eK):Option (Bool×Unit):=
 br (!((a0.length:Int)==(a1.length:Int))) (some (false,())) ((vI ((a0,a1,0,()),(()),(()))).bind fun e7=>Sum.elim (fun e7_0=>some e7_0.1) (fun _=>some (true,())) e7)
def zV:=fD 39 Tryz.f39 [.ty (.ls (.st .server)), .ty (.ls (.st .server))] [.b] (fun x=>kW x.1 x.2.1) [] [vJ] (by kernel_rfl) fun x=>by simp only[kW,tm]; kernel_rfl
abbrev pS:LX:=⟨⟨[(0, .cl (.ro (.st .config))),(1, .cl (.ro (.st .config))),(5, .cl (.int .i64))],[],[],0,27⟩,[(.ret,⟨[(4, .cl (.bl))],[],[],0,27⟩),(.ext 0,⟨[(4, .cl (.dead))],[],[],0,27⟩)],[],[0,1,5],[4]⟩
def kH (s: (List dM×List dM×Int×Unit)×Unit×Unit):pS.R:=
 br (decide (s.1.2.2.1< (s.1.1.length:Int))) (dI (0<=s.1.2.2.1) ((s.1.1[s.1.2.2.1.toNat]?).bind fun x4=>dI (0<=s.1.2.2.1) ((s.1.2.1[s.1.2.2.1.toNat]?).bind fun x5=>(jK x4 x5).bind fun y6=>br (!y6.1) (some (.inr (.inl ((false,()),(()),(()))))) (some (.inl ((s.1.1,s.1.2.1,(IntKind.wrap .i64 (s.1.2.2.1+1)),()),(()),(()))))) none) none) (some (.inr (.inr (((),()),(()),(())))))
def vK:=ia kH
def vL:=nf Tryz.f83 [0] pS kH [uP] [] (by kernel_rfl) fun s=>by simp only[kH,tm]; kernel_rfl
def kX (a0:List dM) (a1:List dM):Option (Bool×Unit):=
 br (!((a0.length:Int)==(a1.length:Int))) (some (false,())) ((vK ((a0,a1,0,()),(()),(()))).bind fun e7=>Sum.elim (fun e7_0=>some e7_0.1) (fun _=>some (true,())) e7)
def zW:=fD 83 Tryz.f83 [.ty (.ls (.st .config)), .ty (.ls (.st .config))] [.b] (fun x=>kX x.1 x.2.1) [] [vL] (by kernel_rfl) fun x=>by simp only[kX,tm]; kernel_rfl
def jA (a0:dZ) (a1:dZ):Option (Bool×Unit):=
 (kX a0.configs a1.configs).bind fun y1=>br (!y1.1) (some (false,())) (br (!(a0.activated==a1.activated)) (some (false,())) (some (true,())))
def vM:=fD 41 Tryz.f41 [.ty (.st .masterLog), .ty (.st .masterLog)] [.b] (fun x=>jA x.1 x.2.1) [zW] [] (by kernel_rfl) fun x=>by simp only[jA,tm]; kernel_rfl
def nJ (a0:l4) (a1:l4):Option (Bool×Unit):=
 br (!(a0.epoch==a1.epoch)) (some (false,())) (br (!(a0.holder==a1.holder)) (some (false,())) (br (!(a0.ends==a1.ends)) (some (false,())) (some (true,()))))
def C9:=fD 42 Tryz.f42 [.ty (.st .lease), .ty (.st .lease)] [.b] (fun x=>nJ x.1 x.2.1) [] [] (by kernel_rfl) fun x=>by simp only[nJ,tm]; kernel_rfl
def lQ (a0:fR) (a1:fR):Option (Bool×Unit):=
 br (!(a0.rack==a1.rack)) (some (false,())) (br (!(a0.capacity==a1.capacity)) (some (false,())) (br (!(a0.load==a1.load)) (some (false,())) (some (true,()))))
def Da:=fD 84 Tryz.f84 [.ty (.st .place), .ty (.st .place)] [.b] (fun x=>lQ x.1 x.2.1) [] [] (by kernel_rfl) fun x=>by simp only[lQ,tm]; kernel_rfl
abbrev q9:LX:=⟨⟨[(0, .cl (.ro (.st .place))),(1, .cl (.ro (.st .place))),(5, .cl (.int .i64))],[],[],0,27⟩,[(.ret,⟨[(4, .cl (.bl))],[],[],0,27⟩),(.ext 0,⟨[(4, .cl (.dead))],[],[],0,27⟩)],[],[0,1,5],[4]⟩
def lH (s: (List fR×List fR×Int×Unit)×Unit×Unit):q9.R:=
 br (decide (s.1.2.2.1< (s.1.1.length:Int))) (dI (0<=s.1.2.2.1) ((s.1.1[s.1.2.2.1.toNat]?).bind fun x4=>dI (0<=s.1.2.2.1) ((s.1.2.1[s.1.2.2.1.toNat]?).bind fun x5=>(lQ x4 x5).bind fun y6=>br (!y6.1) (some (.inr (.inl ((false,()),(()),(()))))) (some (.inl ((s.1.1,s.1.2.1,(IntKind.wrap .i64 (s.1.2.2.1+1)),()),(()),(()))))) none) none) (some (.inr (.inr (((),()),(()),(())))))
def xH:=ia lH
def xI:=nf Tryz.f43 [0] q9 lH [Da] [] (by kernel_rfl) fun s=>by simp only[lH,tm]; kernel_rfl
def mq (a0:List fR) (a1:List fR):Option (Bool×Unit):=
 br (!((a0.length:Int)==(a1.length:Int))) (some (false,())) ((xH ((a0,a1,0,()),(()),(()))).bind fun e7=>Sum.elim (fun e7_0=>some e7_0.1) (fun _=>some (true,())) e7)
def Bm:=fD 43 Tryz.f43 [.ty (.ls (.st .place)), .ty (.ls (.st .place))] [.b] (fun x=>mq x.1 x.2.1) [] [xI] (by kernel_rfl) fun x=>by simp only[mq,tm]; kernel_rfl
def kY (a0:ek) (a1:ek):Option (Bool×Unit):=
 br (!(a0.now==a1.now)) (some (false,())) ((kW a0.servers a1.servers).bind fun y1=>br (!y1.1) (some (false,())) ((mp a0.sides a1.sides).bind fun y2=>br (!y2.1) (some (false,())) ((jA a0.master a1.master).bind fun y3=>br (!y3.1) (some (false,())) (br (!(a0.masterUp==a1.masterUp)) (some (false,())) ((nJ a0.lease a1.lease).bind fun y4=>br (!y4.1) (some (false,())) ((mq a0.places a1.places).bind fun y5=>br (!y5.1) (some (false,())) (some (true,()))))))))
def zX:=fD 10 Tryz.f10 [.ty (.st .cluster), .ty (.st .cluster)] [.b] (fun x=>kY x.1 x.2.1) [zV,zU,vM,C9,Bm] [] (by kernel_rfl) fun x=>by simp only[kY,tm]; kernel_rfl
def ir (a0:ek):Option (Bool×Unit):=
 (ic a0 1048576).bind fun y1=>br (decide (y1.1<0)) (some (true,())) ((i6 a0).bind fun y2=>(kS y2.1).bind fun y3=>(i6 a0).bind fun y4=>(kV y4.1).bind fun y5=>br (!(Jf y5.1 y3.1)) (some (false,())) ((i6 a0).bind fun y6=>(kY y4.1 y6.1).bind fun y7=>br (!y7.1) (some (false,())) (some (true,()))))
def qv:=fD 4 Tryz.f4 [.ty (.st .cluster)] [.b] (fun x=>ir x.1) [zF,zJ,zP,zT,zX] [] (by kernel_rfl) fun x=>by simp only[ir,tm]; kernel_rfl
end
end Go.Proofs.YtadpelkpdaohnaaGreatDoor.En
