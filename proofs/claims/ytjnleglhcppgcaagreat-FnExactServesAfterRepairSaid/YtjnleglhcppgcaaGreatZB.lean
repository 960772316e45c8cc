/- Printed by a program: the walk. -/
import Derived.Test.YtjnleglhcppgcaaGreatZTh
namespace Go.Proofs.YtjnleglhcppgcaaGreat.En
open Go
noncomputable section
def WL:ByteArray:=⟨⟨[0,1,2,2,3,3,3,3,4,4,4,4,4,4,4,4,5,5,5,5,5,5,5,5,5,5,5,5,5,5,5,5,6,6,6,6,6,6,6,6,6,6,6,6,6,6,6,6,6,6,6,6,6,6,6,6,6,6,6,6,6,6,6,6,7,7,7,7,7,7,7,7,7,7,7,7,7,7,7,7,7,7,7,7,7,7,7,7,7,7,7,7,7,7,7,7,7,7,7,7,7,7,7,7,7,7,7,7,7,7,7,7,7,7,7,7,7,7,7,7,7,7,7,7,7,7,7,7,8,8,8,8,8,8,8,8,8,8,8,8,8,8,8,8,8,8,8,8,8,8,8,8,8,8,8,8,8,8,8,8,8,8,8,8,8,8,8,8,8,8,8,8,8,8,8,8,8,8,8,8,8,8,8,8,8,8,8,8,8,8,8,8,8,8,8,8,8,8,8,8,8,8,8,8,8,8,8,8,8,8,8,8,8,8,8,8,8,8,8,8,8,8,8,8,8,8,8,8,8,8,8,8,8,8,8,8,8,8,8,8,8,8,8,8,8,8,8,8,8,8,8,8,8,8,8,8]⟩⟩
theorem tO:Tryz.prog.follows .mixedOrders=true:=by kernel_rfl
abbrev jP:= @WK _ _ OZ tO
abbrev eV:= @WG _ _ OZ tO
abbrev Wy:= @Wp _ _ OZ tO
abbrev Wz:= @Wq _ _ OZ tO
abbrev We:= @Ws _ _ OZ tO
def tP (a0:List Int) (a1:Int):Option (Int×Unit):=
 br (decide ((IntKind.wrap .i64 (a1-(a0.length:Int)))<0)) (some ((-1),())) (some ((IntKind.wrap .i64 (a1-(a0.length:Int))),()))
def KZ:=eV 16 Tryz.f16 [.ty (.ls (.i .i64)), .ty (.i .i64)] [.i .i64] (fun x=>tP x.1 x.2.1) [] [] (by kernel_rfl) fun x=>by simp only[tP,tm]; kernel_rfl
def lx (a0:ej) (a1:Int):Option (Int×Unit):=
 (tP a0.replicas a1).bind fun y1=>br (decide (y1.1<0)) (some ((-1),())) ((tP a0.witnesses y1.1).bind fun y2=>br (decide (y2.1<0)) (some ((-1),())) (some (y2.1,())))
def Fh:=eV 93 Tryz.f93 [.ty (.st .config), .ty (.i .i64)] [.i .i64] (fun x=>lx x.1 x.2.1) [KZ] [] (by kernel_rfl) fun x=>by simp only[lx,tm]; kernel_rfl
def qP (a0:List eu) (a1:Int):Option (Int×Unit):=
 br (decide ((IntKind.wrap .i64 (a1-(a0.length:Int)))<0)) (some ((-1),())) (some ((IntKind.wrap .i64 (a1-(a0.length:Int))),()))
def ME:=eV 94 Tryz.f94 [.ty (.ls (.st .entry)), .ty (.i .i64)] [.i .i64] (fun x=>qP x.1 x.2.1) [] [] (by kernel_rfl) fun x=>by simp only[qP,tm]; kernel_rfl
def mB (a0:eo) (a1:Int):Option (Int×Unit):=
 (lx a0.config a1).bind fun y1=>br (decide (y1.1<0)) (some ((-1),())) ((qP a0.log y1.1).bind fun y2=>br (decide (y2.1<0)) (some ((-1),())) ((qP a0.learned y2.1).bind fun y3=>br (decide (y3.1<0)) (some ((-1),())) (some (y3.1,()))))
def MF:=eV 43 Tryz.f43 [.ty (.st .server), .ty (.i .i64)] [.i .i64] (fun x=>mB x.1 x.2.1) [Fh,ME] [] (by kernel_rfl) fun x=>by simp only[mB,tm]; kernel_rfl
abbrev zG:LX:=⟨⟨[(0, .cl (.ro (.st .server))),(1, .cl (.int .i64)),(5, .cl (.int .i64))],[],[],0,27⟩,[(.ret,⟨[(1, .cl (.int .i64)),(4, .cl (.int .i64))],[],[],0,27⟩),(.ext 0,⟨[(1, .cl (.int .i64)),(4, .cl (.dead))],[],[],0,27⟩)],[],[0,1,5],[1,4]⟩
def oH (s: (List eo×Int×Int×Unit)×Unit×Unit):zG.R:=
 br (decide (s.1.2.2.1< (s.1.1.length:Int))) (eh (0<=s.1.2.2.1) ((s.1.1[s.1.2.2.1.toNat]?).bind fun x4=>(mB x4 s.1.2.1).bind fun y5=>br (decide (y5.1<0)) (some (.inr (.inl ((y5.1,(-1),()),(()),(()))))) (some (.inl ((s.1.1,y5.1,(IntKind.wrap .i64 (s.1.2.2.1+1)),()),(()),(()))))) none) (some (.inr (.inr ((s.1.2.1,(),()),(()),(())))))
def Gt:=gQ oH
def Gu:=jP Tryz.f15 [0] zG oH [MF] [] (by kernel_rfl) fun s=>by simp only[oH,tm]; kernel_rfl
def rF (a0:List eo) (a1:Int):Option (Int×Unit):=
 br (decide ((IntKind.wrap .i64 (a1-(a0.length:Int)))<0)) (some ((-1),())) ((Gt ((a0,(IntKind.wrap .i64 (a1-(a0.length:Int))),0,()),(()),(()))).bind fun e6=>Sum.elim (fun e6_0=>some e6_0.1.2) (fun e6_1=>some (e6_1.1.1,())) e6)
def K0:=eV 15 Tryz.f15 [.ty (.ls (.st .server)), .ty (.i .i64)] [.i .i64] (fun x=>rF x.1 x.2.1) [] [Gu] (by kernel_rfl) fun x=>by simp only[rF,tm]; kernel_rfl
abbrev zH:LX:=⟨⟨[(0, .cl (.ro (.st .config))),(1, .cl (.int .i64)),(5, .cl (.int .i64))],[],[],0,27⟩,[(.ret,⟨[(1, .cl (.int .i64)),(4, .cl (.int .i64))],[],[],0,27⟩),(.ext 0,⟨[(1, .cl (.int .i64)),(4, .cl (.dead))],[],[],0,27⟩)],[],[0,1,5],[1,4]⟩
def oI (s: (List ej×Int×Int×Unit)×Unit×Unit):zH.R:=
 br (decide (s.1.2.2.1< (s.1.1.length:Int))) (eh (0<=s.1.2.2.1) ((s.1.1[s.1.2.2.1.toNat]?).bind fun x4=>(lx x4 s.1.2.1).bind fun y5=>br (decide (y5.1<0)) (some (.inr (.inl ((y5.1,(-1),()),(()),(()))))) (some (.inl ((s.1.1,y5.1,(IntKind.wrap .i64 (s.1.2.2.1+1)),()),(()),(()))))) none) (some (.inr (.inr ((s.1.2.1,(),()),(()),(())))))
def Gv:=gQ oI
def Gw:=jP Tryz.f44 [0] zH oI [Fh] [] (by kernel_rfl) fun s=>by simp only[oI,tm]; kernel_rfl
def rG (a0:List ej) (a1:Int):Option (Int×Unit):=
 br (decide ((IntKind.wrap .i64 (a1-(a0.length:Int)))<0)) (some ((-1),())) ((Gv ((a0,(IntKind.wrap .i64 (a1-(a0.length:Int))),0,()),(()),(()))).bind fun e6=>Sum.elim (fun e6_0=>some e6_0.1.2) (fun e6_1=>some (e6_1.1.1,())) e6)
def K1:=eV 44 Tryz.f44 [.ty (.ls (.st .config)), .ty (.i .i64)] [.i .i64] (fun x=>rG x.1 x.2.1) [] [Gw] (by kernel_rfl) fun x=>by simp only[rG,tm]; kernel_rfl
def ly (a0:ev) (a1:Int):Option (Int×Unit):=
 (rG a0.configs a1).bind fun y1=>br (decide (y1.1<0)) (some ((-1),())) (some (y1.1,()))
def Gx:=eV 17 Tryz.f17 [.ty (.st .masterLog), .ty (.i .i64)] [.i .i64] (fun x=>ly x.1 x.2.1) [K1] [] (by kernel_rfl) fun x=>by simp only[ly,tm]; kernel_rfl
def tQ (a0:List eN) (a1:Int):Option (Int×Unit):=
 br (decide ((IntKind.wrap .i64 (a1-(a0.length:Int)))<0)) (some ((-1),())) (some ((IntKind.wrap .i64 (a1-(a0.length:Int))),()))
def MG:=eV 18 Tryz.f18 [.ty (.ls (.st .place)), .ty (.i .i64)] [.i .i64] (fun x=>tQ x.1 x.2.1) [] [] (by kernel_rfl) fun x=>by simp only[tQ,tm]; kernel_rfl
def mt (a0:eg) (a1:Int):Option (Int×Unit):=
 (rF a0.servers a1).bind fun y1=>br (decide (y1.1<0)) (some ((-1),())) ((tP a0.sides y1.1).bind fun y2=>br (decide (y2.1<0)) (some ((-1),())) ((ly a0.master y2.1).bind fun y3=>br (decide (y3.1<0)) (some ((-1),())) ((tQ a0.places y3.1).bind fun y4=>br (decide (y4.1<0)) (some ((-1),())) (some (y4.1,())))))
def K2:=eV 5 Tryz.f5 [.ty (.st .cluster), .ty (.i .i64)] [.i .i64] (fun x=>mt x.1 x.2.1) [K0,KZ,Gx,MG] [] (by kernel_rfl) fun x=>by simp only[mt,tm]; kernel_rfl
abbrev Fi:LX:=⟨⟨[(0, .cl (.ro (.i .i64))),(3, .cl (.own 0 (.i .i64))),(4, .cl (.int .i64))],[],[.i .i64],0,22⟩,[(.ext 0,⟨[(3, .cl (.own 0 (.i .i64)))],[],[.i .i64],0,22⟩)],[],[0,3,4],[3]⟩
def wy (s: (List Int×Unit×Int×Unit)×Unit×List Int×Unit):Fi.R:=
 br (decide (s.1.2.2.1< (s.1.1.length:Int))) (eh (0<=s.1.2.2.1) ((s.1.1[s.1.2.2.1.toNat]?).bind fun x4=>eh (0<=s.1.2.2.1/\s.1.2.2.1< (s.2.2.1.length:Int)) ((s.2.2.1[s.1.2.2.1.toNat]?).bind fun _=>some (.inl ((s.1.1,(),(IntKind.wrap .i64 (s.1.2.2.1+1)),()),(()),(s.2.2.1.set s.1.2.2.1.toNat x4),()))) none) none) (some (.inr (((),()),(()),s.2.2)))
def MH:=gQ wy
def MI:=jP Tryz.f21 [0] Fi wy [] [] (by kernel_rfl) fun s=>by simp only[wy,tm]; kernel_rfl
def tT (a0:List Int):Option ((List Int)×Unit):=
 eh (0<=(a0.length:Int)/\(a0.length:Int)=(a0.length:Int)/\(a0.length:Int)*((8:Nat):Int)<=2 ^ 40) ((MH ((a0,(),0,()),(()),(List.replicate (a0.length:Int).toNat (0:Int)),())).bind fun e7=>some e7.2.2) none
def K3:=eV 21 Tryz.f21 [.ty (.ls (.i .i64))] [.ls (.i .i64)] (fun x=>tT x.1) [] [MI] (by kernel_rfl) fun x=>by simp only[tT,tm,-eq_self]; kernel_rfl
def pf (a0:ej):Option (ej×Unit):=
 (tT a0.replicas).bind fun y1=>(tT a0.witnesses).bind fun y2=>some ((⟨a0.epoch,a0.primary,y1.1,y2.1⟩:ej),())
def Fj:=eV 121 Tryz.f121 [.ty (.st .config)] [.st .config] (fun x=>pf x.1) [K3] [] (by kernel_rfl) fun x=>by simp only[pf,tm]; kernel_rfl
def Cq (a0:Op):Option (Op×Unit):=
 some (a0,())
def Q9:=eV 13 Tryz.f13 [.ty (.st .op)] [.st .op] (fun x=>Cq x.1) [] [] (by kernel_rfl) fun x=>by simp only[Cq,tm]; kernel_rfl
def zd (a0:eu):Option (eu×Unit):=
 (Cq a0.op).bind fun y1=>some ((⟨a0.epoch,y1.1⟩:eu),())
def O0:=eV 201 Tryz.f201 [.ty (.st .entry)] [.st .entry] (fun x=>zd x.1) [Q9] [] (by kernel_rfl) fun x=>by simp only[zd,tm]; kernel_rfl
abbrev Bq:LX:=⟨⟨[(0, .cl (.ro (.st .entry))),(3, .cl (.own 0 (.st .entry))),(4, .cl (.int .i64))],[],[.st .entry],0,23⟩,[(.ext 0,⟨[(3, .cl (.own 0 (.st .entry)))],[],[.st .entry],0,23⟩)],[],[0,3,4],[3]⟩
def sW (s: (List eu×Unit×Int×Unit)×Unit×List eu×Unit):Bq.R:=
 br (decide (s.1.2.2.1< (s.1.1.length:Int))) (eh (0<=s.1.2.2.1) ((s.1.1[s.1.2.2.1.toNat]?).bind fun x4=>(zd x4).bind fun y5=>eh (0<=s.1.2.2.1/\s.1.2.2.1< (s.2.2.1.length:Int)) ((s.2.2.1[s.1.2.2.1.toNat]?).bind fun _=>some (.inl ((s.1.1,(),(IntKind.wrap .i64 (s.1.2.2.1+1)),()),(()),(s.2.2.1.set s.1.2.2.1.toNat y5.1),()))) none) none) (some (.inr (((),()),(()),s.2.2)))
def IU:=gQ sW
def IV:=jP Tryz.f122 [0] Bq sW [O0] [] (by kernel_rfl) fun s=>by simp only[sW,tm]; kernel_rfl
def qQ (a0:List eu):Option ((List eu)×Unit):=
 eh (0<=(a0.length:Int)/\(a0.length:Int)=(a0.length:Int)/\(a0.length:Int)*((56:Nat):Int)<=2 ^ 40) ((IU ((a0,(),0,()),(()),(List.replicate (a0.length:Int).toNat (⟨0,(⟨0,0,0,0,0,0⟩:Op)⟩:eu)),())).bind fun e8=>some e8.2.2) none
def MJ:=eV 122 Tryz.f122 [.ty (.ls (.st .entry))] [.ls (.st .entry)] (fun x=>qQ x.1) [] [IV] (by kernel_rfl) fun x=>by simp only[qQ,tm,-eq_self]; kernel_rfl
def qR (a0:eo):Option (eo×Unit):=
 (pf a0.config).bind fun y1=>(qQ a0.log).bind fun y2=>(qQ a0.learned).bind fun y3=>some ((⟨a0.up,a0.intact,a0.version,a0.epoch,y1.1,a0.first,y2.1,a0.commit,y3.1⟩:eo),())
def ML:=eV 55 Tryz.f55 [.ty (.st .server)] [.st .server] (fun x=>qR x.1) [Fj,MJ] [] (by kernel_rfl) fun x=>by simp only[qR,tm]; kernel_rfl
abbrev zI:LX:=⟨⟨[(0, .cl (.ro (.st .server))),(3, .cl (.own 0 (.st .server))),(4, .cl (.int .i64))],[],[.st .server],0,23⟩,[(.ext 0,⟨[(3, .cl (.own 0 (.st .server)))],[],[.st .server],0,23⟩)],[],[0,3,4],[3]⟩
def rt (s: (List eo×Unit×Int×Unit)×Unit×List eo×Unit):zI.R:=
 br (decide (s.1.2.2.1< (s.1.1.length:Int))) (eh (0<=s.1.2.2.1) ((s.1.1[s.1.2.2.1.toNat]?).bind fun x4=>(qR x4).bind fun y5=>eh (0<=s.1.2.2.1/\s.1.2.2.1< (s.2.2.1.length:Int)) ((s.2.2.1[s.1.2.2.1.toNat]?).bind fun _=>some (.inl ((s.1.1,(),(IntKind.wrap .i64 (s.1.2.2.1+1)),()),(()),(s.2.2.1.set s.1.2.2.1.toNat y5.1),()))) none) none) (some (.inr (((),()),(()),s.2.2)))
def Gy:=gQ rt
def Gz:=jP Tryz.f20 [0] zI rt [ML] [] (by kernel_rfl) fun s=>by simp only[rt,tm]; kernel_rfl
def rH (a0:List eo):Option ((List eo)×Unit):=
 eh (0<=(a0.length:Int)/\(a0.length:Int)=(a0.length:Int)/\(a0.length:Int)*((152:Nat):Int)<=2 ^ 40) ((Gy ((a0,(),0,()),(()),(List.replicate (a0.length:Int).toNat (⟨false,false,0,0,(⟨0,0,([]:List Int),([]:List Int)⟩:ej),0,([]:List eu),0,([]:List eu)⟩:eo)),())).bind fun e8=>some e8.2.2) none
def K4:=eV 20 Tryz.f20 [.ty (.ls (.st .server))] [.ls (.st .server)] (fun x=>rH x.1) [] [Gz] (by kernel_rfl) fun x=>by simp only[rH,tm,-eq_self]; kernel_rfl
abbrev zJ:LX:=⟨⟨[(0, .cl (.ro (.st .config))),(3, .cl (.own 0 (.st .config))),(4, .cl (.int .i64))],[],[.st .config],0,23⟩,[(.ext 0,⟨[(3, .cl (.own 0 (.st .config)))],[],[.st .config],0,23⟩)],[],[0,3,4],[3]⟩
def ru (s: (List ej×Unit×Int×Unit)×Unit×List ej×Unit):zJ.R:=
 br (decide (s.1.2.2.1< (s.1.1.length:Int))) (eh (0<=s.1.2.2.1) ((s.1.1[s.1.2.2.1.toNat]?).bind fun x4=>(pf x4).bind fun y5=>eh (0<=s.1.2.2.1/\s.1.2.2.1< (s.2.2.1.length:Int)) ((s.2.2.1[s.1.2.2.1.toNat]?).bind fun _=>some (.inl ((s.1.1,(),(IntKind.wrap .i64 (s.1.2.2.1+1)),()),(()),(s.2.2.1.set s.1.2.2.1.toNat y5.1),()))) none) none) (some (.inr (((),()),(()),s.2.2)))
def GA:=gQ ru
def GB:=jP Tryz.f56 [0] zJ ru [Fj] [] (by kernel_rfl) fun s=>by simp only[ru,tm]; kernel_rfl
def rI (a0:List ej):Option ((List ej)×Unit):=
 eh (0<=(a0.length:Int)/\(a0.length:Int)=(a0.length:Int)/\(a0.length:Int)*((64:Nat):Int)<=2 ^ 40) ((GA ((a0,(),0,()),(()),(List.replicate (a0.length:Int).toNat (⟨0,0,([]:List Int),([]:List Int)⟩:ej)),())).bind fun e8=>some e8.2.2) none
def K5:=eV 56 Tryz.f56 [.ty (.ls (.st .config))] [.ls (.st .config)] (fun x=>rI x.1) [] [GB] (by kernel_rfl) fun x=>by simp only[rI,tm,-eq_self]; kernel_rfl
def oJ (a0:ev):Option (ev×Unit):=
 (rI a0.configs).bind fun y1=>some ((⟨y1.1,a0.activated⟩:ev),())
def GC:=eV 22 Tryz.f22 [.ty (.st .masterLog)] [.st .masterLog] (fun x=>oJ x.1) [K5] [] (by kernel_rfl) fun x=>by simp only[oJ,tm]; kernel_rfl
def zf (a0:fW):Option (fW×Unit):=
 some (a0,())
def O1:=eV 23 Tryz.f23 [.ty (.st .lease)] [.st .lease] (fun x=>zf x.1) [] [] (by kernel_rfl) fun x=>by simp only[zf,tm]; kernel_rfl
def zg (a0:eN):Option (eN×Unit):=
 some (a0,())
def O2:=eV 57 Tryz.f57 [.ty (.st .place)] [.st .place] (fun x=>zg x.1) [] [] (by kernel_rfl) fun x=>by simp only[zg,tm]; kernel_rfl
abbrev Br:LX:=⟨⟨[(0, .cl (.ro (.st .place))),(3, .cl (.own 0 (.st .place))),(4, .cl (.int .i64))],[],[.st .place],0,23⟩,[(.ext 0,⟨[(3, .cl (.own 0 (.st .place)))],[],[.st .place],0,23⟩)],[],[0,3,4],[3]⟩
def sX (s: (List eN×Unit×Int×Unit)×Unit×List eN×Unit):Br.R:=
 br (decide (s.1.2.2.1< (s.1.1.length:Int))) (eh (0<=s.1.2.2.1) ((s.1.1[s.1.2.2.1.toNat]?).bind fun x4=>(zg x4).bind fun y5=>eh (0<=s.1.2.2.1/\s.1.2.2.1< (s.2.2.1.length:Int)) ((s.2.2.1[s.1.2.2.1.toNat]?).bind fun _=>some (.inl ((s.1.1,(),(IntKind.wrap .i64 (s.1.2.2.1+1)),()),(()),(s.2.2.1.set s.1.2.2.1.toNat y5.1),()))) none) none) (some (.inr (((),()),(()),s.2.2)))
def IW:=gQ sX
def IX:=jP Tryz.f24 [0] Br sX [O2] [] (by kernel_rfl) fun s=>by simp only[sX,tm]; kernel_rfl
def tU (a0:List eN):Option ((List eN)×Unit):=
 eh (0<=(a0.length:Int)/\(a0.length:Int)=(a0.length:Int)/\(a0.length:Int)*((24:Nat):Int)<=2 ^ 40) ((IW ((a0,(),0,()),(()),(List.replicate (a0.length:Int).toNat (⟨0,0,0⟩:eN)),())).bind fun e8=>some e8.2.2) none
def MM:=eV 24 Tryz.f24 [.ty (.ls (.st .place))] [.ls (.st .place)] (fun x=>tU x.1) [] [IX] (by kernel_rfl) fun x=>by simp only[tU,tm,-eq_self]; kernel_rfl
def nM (a0:eg):Option (eg×Unit):=
 (rH a0.servers).bind fun y1=>(tT a0.sides).bind fun y2=>(oJ a0.master).bind fun y3=>(zf a0.lease).bind fun y4=>(tU a0.places).bind fun y5=>some ((⟨a0.now,y1.1,y2.1,y3.1,a0.masterUp,y4.1,y5.1⟩:eg),())
def K6:=eV 7 Tryz.f7 [.ty (.st .cluster)] [.st .cluster] (fun x=>nM x.1) [K4,K3,GC,O1,MM] [] (by kernel_rfl) fun x=>by simp only[nM,tm]; kernel_rfl
def lS (a0:ej):Option (ej×Unit):=
 eh ((([]:List Int)++a0.replicas).length*8<=2 ^ 40) (eh ((([]:List Int)++a0.witnesses).length*8<=2 ^ 40) (some ((⟨a0.epoch,a0.primary,(([]:List Int)++a0.replicas),(([]:List Int)++a0.witnesses)⟩:ej),())) none) none
def xR:=eV 187 Tryz.f187 [.ty (.st .config)] [.st .config] (fun x=>lS x.1) [] [] (by kernel_rfl) fun x=>by simp only[lS,tm]; kernel_rfl
def ju (a0:List eu):Option ((List eu)×Unit):=
 eh ((([]:List eu)++a0).length*56<=2 ^ 40) (some ((([]:List eu)++a0),())) none
def rJ:=eV 188 Tryz.f188 [.ty (.ls (.st .entry))] [.ls (.st .entry)] (fun x=>ju x.1) [] [] (by kernel_rfl) fun x=>by simp only[ju,tm]; kernel_rfl
def kJ (a0:eo):Option (eo×Unit):=
 (lS a0.config).bind fun y1=>(ju a0.log).bind fun y2=>(ju a0.learned).bind fun y3=>some ((⟨a0.up,a0.intact,a0.version,a0.epoch,y1.1,a0.first,y2.1,a0.commit,y3.1⟩:eo),())
def Cr:=eV 95 Tryz.f95 [.ty (.st .server)] [.st .server] (fun x=>kJ x.1) [xR,rJ] [] (by kernel_rfl) fun x=>by simp only[kJ,tm]; kernel_rfl
abbrev Da:LX:=⟨⟨[(1, .cl (.ptr 0 0)),(2, .cl (.ptr 1 0)),(3, .cl (.ptr 2 0)),(4, .cl (.int .i64))],[[.ro (.st .config), .int .i64],[.em, .int .i64],[.own 0 (.st .config), .int .i64]],[.st .config],0,29⟩,[(.ext 0,⟨[(2, .cl (.ptr 0 0)),(3, .cl (.ptr 1 0))],[[.em, .int .i64],[.own 0 (.st .config), .int .i64]],[.st .config],0,29⟩)],[.b 2 0 (.st .config)],[1,2,3,4],[2,3]⟩
def pC (s: (Unit×Unit×Unit×Int×Unit)×((List ej×Int×Unit)×(Unit×Int×Unit)×(Unit×Int×Unit)×Unit)×List ej×Unit):Da.R:=
 br (decide (s.1.2.2.2.1< (s.2.1.1.1.length:Int))) (eh (0<=s.1.2.2.2.1) ((s.2.1.1.1[s.1.2.2.2.1.toNat]?).bind fun x14=>(lS x14).bind fun y15=>eh ((s.2.2.1++([y15.1]:List ej)).length*64<=2 ^ 40) (some (.inl (((),(),(),(IntKind.wrap .i64 (s.1.2.2.2.1+1)),()),s.2.1,(s.2.2.1++([y15.1]:List ej)),()))) none) none) (some (.inr (((),(),()),s.2.1.2,s.2.2)))
def Db:=gQ pC
def K7:=jP Tryz.f96 [0] Da pC [xR] [] (by kernel_rfl) fun s=>by simp only[pC,tm]; kernel_rfl
def qS (a0:ev):Option (ev×Unit):=
 (Db (((),(),(),0,()),((a0.configs,a0.activated,()),((),0,()),((),a0.activated,()),()),([]:List ej),())).bind fun e16=>some ((⟨e16.2.2.1,e16.2.1.2.1.2.1⟩:ev),())
def Ct:=eV 96 Tryz.f96 [.ty (.st .masterLog)] [.st .masterLog] (fun x=>qS x.1) [] [K7] (by kernel_rfl) fun x=>by simp only[qS,tm]; kernel_rfl
abbrev Dc:LX:=⟨⟨[(1, .cl (.ptr 0 0)),(2, .cl (.ptr 1 0)),(3, .cl (.ptr 2 0)),(4, .cl (.int .i64))],[[.int .i64, .ro (.st .server), .ro (.i .i64), .ro (.st .config), .int .i64, .int .i64, .int .i64, .int .i64, .int .i64, .ro (.st .place)],[.int .i64, .em, .em, .em, .int .i64, .int .i64, .int .i64, .int .i64, .int .i64, .em],[.int .i64, .own 0 (.st .server), .ro (.i .i64), .ro (.st .config), .int .i64, .int .i64, .int .i64, .int .i64, .int .i64, .ro (.st .place)]],[.st .server],0,42⟩,[(.ext 0,⟨[(1, .cl (.ptr 0 0)),(2, .cl (.ptr 1 0)),(3, .cl (.ptr 2 0))],[[.int .i64, .ro (.st .server), .ro (.i .i64), .ro (.st .config), .int .i64, .int .i64, .int .i64, .int .i64, .int .i64, .ro (.st .place)],[.int .i64, .em, .em, .em, .int .i64, .int .i64, .int .i64, .int .i64, .int .i64, .em],[.int .i64, .own 0 (.st .server), .ro (.i .i64), .ro (.st .config), .int .i64, .int .i64, .int .i64, .int .i64, .int .i64, .ro (.st .place)]],[.st .server],0,42⟩)],[.b 2 1 (.st .server)],[1,2,3,4],[1,2,3]⟩
def pD (s: (Unit×Unit×Unit×Int×Unit)×((Int×List eo×List Int×List ej×Int×Int×Int×Int×Int×List eN×Unit)×(Int×Unit×Unit×Unit×Int×Int×Int×Int×Int×Unit×Unit)×(Int×Unit×List Int×List ej×Int×Int×Int×Int×Int×List eN×Unit)×Unit)×List eo×Unit):Dc.R:=
 br (decide (s.1.2.2.2.1< (s.2.1.1.2.1.length:Int))) (eh (0<=s.1.2.2.2.1) ((s.2.1.1.2.1[s.1.2.2.2.1.toNat]?).bind fun x56=>(kJ x56).bind fun y57=>eh ((s.2.2.1++([y57.1]:List eo)).length*152<=2 ^ 40) (some (.inl (((),(),(),(IntKind.wrap .i64 (s.1.2.2.2.1+1)),()),s.2.1,(s.2.2.1++([y57.1]:List eo)),()))) none) none) (some (.inr (((),(),(),()),s.2)))
def Dd:=gQ pD
def K8:=jP Tryz.f45 [0] Dc pD [Cr] [] (by kernel_rfl) fun s=>by simp only[pD,tm]; kernel_rfl
def jZ (a0:eg):Option (eg×Unit):=
 (Dd (((),(),(),0,()),((a0.now,a0.servers,a0.sides,a0.master.configs,a0.master.activated,a0.masterUp,a0.lease.epoch,a0.lease.holder,a0.lease.ends,a0.places,()),(0,(),(),(),0,0,0,0,0,(),()),(a0.now,(),a0.sides,a0.master.configs,a0.master.activated,a0.masterUp,a0.lease.epoch,a0.lease.holder,a0.lease.ends,a0.places,()),()),([]:List eo),())).bind fun e58=>eh ((([]:List Int)++e58.2.1.1.2.2.1).length*8<=2 ^ 40) ((qS (⟨e58.2.1.1.2.2.2.1,e58.2.1.1.2.2.2.2.1⟩:ev)).bind fun y59=>eh ((([]:List eN)++e58.2.1.1.2.2.2.2.2.2.2.2.2.1).length*24<=2 ^ 40) (some ((⟨e58.2.1.2.2.1.1,e58.2.2.1,(([]:List Int)++e58.2.1.1.2.2.1),y59.1,e58.2.1.2.2.1.2.2.2.2.2.1,(⟨e58.2.1.2.2.1.2.2.2.2.2.2.1,e58.2.1.2.2.1.2.2.2.2.2.2.2.1,e58.2.1.2.2.1.2.2.2.2.2.2.2.2.1⟩:fW),(([]:List eN)++e58.2.1.1.2.2.2.2.2.2.2.2.2.1)⟩:eg),())) none) none
def nZ:=eV 45 Tryz.f45 [.ty (.st .cluster)] [.st .cluster] (fun x=>jZ x.1) [Ct] [K8] (by kernel_rfl) fun x=>by simp only[jZ,tm]; kernel_rfl
def eT (a0:Int) (a1:Int) (a2:Int):Option (Bool×Unit):=
 br (decide (a0≥a1)) (some ((decide (a0<=a2)),())) (some (false,()))
def ig:=eV 47 Tryz.f47 [.ty (.i .i64), .ty (.i .i64), .ty (.i .i64)] [.b] (fun x=>eT x.1 x.2.1 x.2.2.1) [] [] (by kernel_rfl) fun x=>by simp only[eT,tm]; kernel_rfl
abbrev Bs:LX:=⟨⟨[(0, .cl (.ro (.i .i64))),(3, .cl (.int .i64))],[],[],0,19⟩,[(.ret,⟨[(0, .cl (.ro (.i .i64))),(2, .cl (.bl))],[],[],0,19⟩),(.ext 0,⟨[(0, .cl (.ro (.i .i64))),(2, .cl (.dead))],[],[],0,19⟩)],[],[0,3],[0,2]⟩
def n6 (s: (List Int×Int×Unit)×Unit×Unit):Bs.R:=
 br (decide (s.1.2.1< (s.1.1.length:Int))) (eh (0<=s.1.2.1) ((s.1.1[s.1.2.1.toNat]?).bind fun x3=>(eT x3 0 3).bind fun y4=>br (!y4.1) (some (.inr (.inl ((s.1.1,false,()),(()),(()))))) (some (.inl ((s.1.1,(IntKind.wrap .i64 (s.1.2.1+1)),()),(()),(()))))) none) (some (.inr (.inr ((s.1.1,(),()),(()),(())))))
def wz:=gQ n6
def IY:=jP Tryz.f97 [0] Bs n6 [ig] [] (by kernel_rfl) fun s=>by simp only[n6,tm]; kernel_rfl
def lz (a0:List Int):Option (Bool×Unit):=
 (wz ((a0,0,()),(()),(()))).bind fun e5=>Sum.elim (fun e5_0=>some e5_0.1.2) (fun e5_1=>some (((e5_1.1.1.length:Int)==5),())) e5
def AH:=eV 97 Tryz.f97 [.ty (.ls (.i .i64))] [.b] (fun x=>lz x.1) [] [IY] (by kernel_rfl) fun x=>by simp only[lz,tm]; kernel_rfl
abbrev xS:LX:=⟨⟨[(0, .cl (.ro (.i .i64))),(3, .cl (.int .i64))],[],[],0,32⟩,[(.ret,⟨[(2, .cl (.bl))],[],[],0,32⟩),(.ext 0,⟨[(2, .cl (.dead))],[],[],0,32⟩)],[],[0,3],[2]⟩
def iL (s: (List Int×Int×Unit)×Unit×Unit):xS.R:=
 br (decide (s.1.2.1< (s.1.1.length:Int))) (eh (0<=s.1.2.1) ((s.1.1[s.1.2.1.toNat]?).bind fun x3=>(eT x3 0 4).bind fun y4=>br (!y4.1) (some (.inr (.inl ((false,()),(()),(()))))) (br (decide (s.1.2.1>0)) (eh (0<=(IntKind.wrap .i64 (s.1.2.1-1))) ((s.1.1[(IntKind.wrap .i64 (s.1.2.1-1)).toNat]?).bind fun x5=>eh (0<=s.1.2.1) ((s.1.1[s.1.2.1.toNat]?).bind fun x6=>br (decide (x5≥x6)) (some (.inr (.inl ((false,()),(()),(()))))) (some (.inl ((s.1.1,(IntKind.wrap .i64 (s.1.2.1+1)),()),(()),(()))))) none) none) (some (.inl ((s.1.1,(IntKind.wrap .i64 (s.1.2.1+1)),()),(()),(())))))) none) (some (.inr (.inr (((),()),(()),(())))))
def pU:=gQ iL
def Fk:=jP Tryz.f193 [0] xS iL [ig] [] (by kernel_rfl) fun s=>by simp only[iL,tm]; kernel_rfl
def gF (a0:List Int):Option (Bool×Unit):=
 (pU ((a0,0,()),(()),(()))).bind fun e7=>Sum.elim (fun e7_0=>some e7_0.1) (fun _=>some (true,())) e7
def sY:=eV 193 Tryz.f193 [.ty (.ls (.i .i64))] [.b] (fun x=>gF x.1) [] [Fk] (by kernel_rfl) fun x=>by simp only[gF,tm]; kernel_rfl
abbrev zK:LX:=⟨⟨[(0, .cl (.ro (.i .i64))),(1, .cl (.int .i64)),(5, .cl (.int .i64))],[],[],0,18⟩,[(.ret,⟨[(4, .cl (.bl))],[],[],0,18⟩),(.ext 0,⟨[(4, .cl (.dead))],[],[],0,18⟩)],[],[0,1,5],[4]⟩
def mU (s: (List Int×Int×Int×Unit)×Unit×Unit):zK.R:=
 br (decide (s.1.2.2.1< (s.1.1.length:Int))) (eh (0<=s.1.2.2.1) ((s.1.1[s.1.2.2.1.toNat]?).bind fun x4=>br (x4==s.1.2.1) (some (.inr (.inl ((true,()),(()),(()))))) (some (.inl ((s.1.1,s.1.2.1,(IntKind.wrap .i64 (s.1.2.2.1+1)),()),(()),(()))))) none) (some (.inr (.inr (((),()),(()),(())))))
def vk:=gQ mU
def GD:=jP Tryz.f107 [0] zK mU [] [] (by kernel_rfl) fun s=>by simp only[mU,tm]; kernel_rfl
def gr (a0:List Int) (a1:Int):Option (Bool×Unit):=
 (vk ((a0,a1,0,()),(()),(()))).bind fun e5=>Sum.elim (fun e5_0=>some e5_0.1) (fun _=>some (false,())) e5
def lg:=eV 107 Tryz.f107 [.ty (.ls (.i .i64)), .ty (.i .i64)] [.b] (fun x=>gr x.1 x.2.1) [] [GD] (by kernel_rfl) fun x=>by simp only[gr,tm]; kernel_rfl
abbrev HJ:LX:=⟨⟨[(0, .cl (.ro (.i .i64))),(1, .cl (.int .i64)),(5, .cl (.int .i64))],[],[],0,47⟩,[(.ext 0,⟨[(0, .cl (.ro (.i .i64))),(1, .cl (.int .i64)),(5, .cl (.int .i64))],[],[],0,47⟩)],[],[0,1,5],[0,1,5]⟩
def n7 (s: (List Int×Int×Int×Unit)×Unit×Unit):HJ.R:=
 br (decide (s.1.2.2.1< (s.1.1.length:Int))) (eh (0<=s.1.2.2.1) ((s.1.1[s.1.2.2.1.toNat]?).bind fun x4=>br (decide (x4<s.1.2.1)) (some (.inl ((s.1.1,s.1.2.1,(IntKind.wrap .i64 (s.1.2.2.1+1)),()),(()),(())))) (some (.inr (s.1,(()),(()))))) none) (some (.inr (s.1,(()),(()))))
def Cu:=gQ n7
def O3:=jP Tryz.f194 [0] HJ n7 [] [] (by kernel_rfl) fun s=>by simp only[n7,tm]; kernel_rfl
def n8 (a0:List Int) (a1:Int):Option ((List Int)×Unit):=
 (Cu ((a0,a1,0,()),(()),(()))).bind fun e5=>let j7:Option ((List Int)×Unit):=eh (0<=(0:Int)/\(0:Int)<=e5.1.2.2.1/\e5.1.2.2.1<=(e5.1.1.length:Int)) (eh ((([]:List Int)++((e5.1.1.drop (0:Int).toNat).take (e5.1.2.2.1.toNat-(0:Int).toNat))).length*8<=2 ^ 40) (eh (((([]:List Int)++((e5.1.1.drop (0:Int).toNat).take (e5.1.2.2.1.toNat-(0:Int).toNat)))++([e5.1.2.1]:List Int)).length*8<=2 ^ 40) (eh (0<=e5.1.2.2.1/\e5.1.2.2.1<=(e5.1.1.length:Int)/\(e5.1.1.length:Int)<=(e5.1.1.length:Int)) (eh ((((([]:List Int)++((e5.1.1.drop (0:Int).toNat).take (e5.1.2.2.1.toNat-(0:Int).toNat)))++([e5.1.2.1]:List Int))++((e5.1.1.drop e5.1.2.2.1.toNat).take ((e5.1.1.length:Int).toNat-e5.1.2.2.1.toNat))).length*8<=2 ^ 40) (some ((((([]:List Int)++((e5.1.1.drop (0:Int).toNat).take (e5.1.2.2.1.toNat-(0:Int).toNat)))++([e5.1.2.1]:List Int))++((e5.1.1.drop e5.1.2.2.1.toNat).take ((e5.1.1.length:Int).toNat-e5.1.2.2.1.toNat))),())) none) none) none) none) none; br (decide (e5.1.2.2.1< (e5.1.1.length:Int))) (eh (0<=e5.1.2.2.1) ((e5.1.1[e5.1.2.2.1.toNat]?).bind fun x6=>br (x6==e5.1.2.1) (eh ((([]:List Int)++e5.1.1).length*8<=2 ^ 40) (some ((([]:List Int)++e5.1.1),())) none) (j7)) none) (j7)
def zh:=eV 194 Tryz.f194 [.ty (.ls (.i .i64)), .ty (.i .i64)] [.ls (.i .i64)] (fun x=>n8 x.1 x.2.1) [] [O3] (by kernel_rfl) fun x=>by simp only[n8,tm]; kernel_rfl
abbrev uS:LX:=⟨⟨[(0, .cl (.ro (.i .i64))),(1, .cl (.ro (.i .i64))),(5, .cl (.own 0 (.i .i64))),(6, .cl (.int .i64))],[],[.i .i64],0,27⟩,[(.ext 0,⟨[(5, .cl (.own 0 (.i .i64)))],[],[.i .i64],0,27⟩)],[],[0,1,5,6],[5]⟩
def jz (s: (List Int×List Int×Unit×Int×Unit)×Unit×List Int×Unit):uS.R:=
 br (decide (s.1.2.2.2.1< (s.1.1.length:Int))) (eh (0<=s.1.2.2.2.1) ((s.1.1[s.1.2.2.2.1.toNat]?).bind fun x5=>(gr s.1.2.1 x5).bind fun y6=>br y6.1 (eh (0<=s.1.2.2.2.1) ((s.1.1[s.1.2.2.2.1.toNat]?).bind fun x7=>(n8 s.2.2.1 x7).bind fun y8=>some (.inl ((s.1.1,s.1.2.1,(),(IntKind.wrap .i64 (s.1.2.2.2.1+1)),()),(()),y8.1,()))) none) (some (.inl ((s.1.1,s.1.2.1,(),(IntKind.wrap .i64 (s.1.2.2.2.1+1)),()),(()),s.2.2)))) none) (some (.inr (((),()),(()),s.2.2)))
def uT:=gQ jz
def Bu:=jP Tryz.f190 [0] uS jz [lg,zh] [] (by kernel_rfl) fun s=>by simp only[jz,tm]; kernel_rfl
def jJ (a0:List Int) (a1:List Int):Option ((List Int)×Unit):=
 (uT ((a0,a1,(),0,()),(()),([]:List Int),())).bind fun e10=>some e10.2.2
def sx:=eV 190 Tryz.f190 [.ty (.ls (.i .i64)), .ty (.ls (.i .i64))] [.ls (.i .i64)] (fun x=>jJ x.1 x.2.1) [] [Bu] (by kernel_rfl) fun x=>by simp only[jJ,tm]; kernel_rfl
def eL (a0:ej):Option (Bool×Unit):=
 (eT a0.epoch 1 20).bind fun y1=>br y1.1 ((gF a0.replicas).bind fun y2=>br y2.1 ((gF a0.witnesses).bind fun y3=>br y3.1 ((gr a0.replicas a0.primary).bind fun y4=>br y4.1 ((jJ a0.replicas a0.witnesses).bind fun y5=>some (((y5.1.length:Int)==0),())) (some (false,()))) (some (false,()))) (some (false,()))) (some (false,()))
def o7:=eV 161 Tryz.f161 [.ty (.st .config)] [.b] (fun x=>eL x.1) [ig,sY,lg,sx] [] (by kernel_rfl) fun x=>by simp only[eL,tm]; kernel_rfl
abbrev wZ:LX:=⟨⟨[(1, .cl (.ptr 0 0)),(3, .cl (.int .i64))],[[.ro (.st .config), .int .i64]],[],0,35⟩,[(.ret,⟨[(1, .cl (.ptr 0 0)),(2, .cl (.bl))],[[.ro (.st .config), .int .i64]],[],0,35⟩),(.ext 0,⟨[(1, .cl (.ptr 0 0)),(2, .cl (.dead))],[[.ro (.st .config), .int .i64]],[],0,35⟩)],[],[1,3],[1,2]⟩
def gf (s: (Unit×Int×Unit)×((List ej×Int×Unit)×Unit)×Unit):wZ.R:=
 br (decide (s.1.2.1< (s.2.1.1.1.length:Int))) (eh (0<=s.1.2.1) ((s.2.1.1.1[s.1.2.1.toNat]?).bind fun x4=>(eL x4).bind fun y5=>br (!y5.1) (some (.inr (.inl (((),false,()),s.2.1,(()))))) (eh (0<=s.1.2.1) ((s.2.1.1.1[s.1.2.1.toNat]?).bind fun x6=>br (!(x6.epoch==(IntKind.wrap .i64 (s.1.2.1+1)))) (some (.inr (.inl (((),false,()),s.2.1,(()))))) (some (.inl (((),(IntKind.wrap .i64 (s.1.2.1+1)),()),s.2.1,(()))))) none)) none) (some (.inr (.inr (((),(),()),s.2.1,(())))))
def mH:=gQ gf
def Dy:=jP Tryz.f98 [0] wZ gf [o7] [] (by kernel_rfl) fun s=>by simp only[gf,tm]; kernel_rfl
def fL (a0:ev):Option (Bool×Unit):=
 (mH (((),0,()),((a0.configs,a0.activated,()),()),(()))).bind fun e7=>Sum.elim (fun e7_0=>some e7_0.1.2) (fun e7_1=>(eT e7_1.2.1.1.2.1 0 (e7_1.2.1.1.1.length:Int)).bind fun y8=>some (y8.1,())) e7
def rv:=eV 98 Tryz.f98 [.ty (.st .masterLog)] [.b] (fun x=>fL x.1) [ig] [Dy] (by kernel_rfl) fun x=>by simp only[fL,tm]; kernel_rfl
def mW (a0:fW):Option (Bool×Unit):=
 br ((a0.epoch==0)&&((a0.holder==0)&&((a0.ends==0)&&true))) (some (true,())) ((eT a0.epoch 1 20).bind fun y1=>br y1.1 ((eT a0.holder 0 4).bind fun y2=>br y2.1 ((eT a0.ends 1 1049).bind fun y3=>some (y3.1,())) (some (false,()))) (some (false,())))
def zi:=eV 99 Tryz.f99 [.ty (.st .lease)] [.b] (fun x=>mW x.1) [ig] [] (by kernel_rfl) fun x=>by simp only[mW,tm]; kernel_rfl
abbrev zL:LX:=⟨⟨[(0, .cl (.ro (.st .place))),(3, .cl (.int .i64))],[],[],0,38⟩,[(.ret,⟨[(0, .cl (.ro (.st .place))),(2, .cl (.bl))],[],[],0,38⟩),(.ext 0,⟨[(0, .cl (.ro (.st .place))),(2, .cl (.dead))],[],[],0,38⟩)],[],[0,3],[0,2]⟩
def mX (s: (List eN×Int×Unit)×Unit×Unit):zL.R:=
 br (decide (s.1.2.1< (s.1.1.length:Int))) (eh (0<=s.1.2.1) ((s.1.1[s.1.2.1.toNat]?).bind fun x3=>(eT x3.rack 0 9).bind fun y4=>br (!y4.1) (some (.inr (.inl ((s.1.1,false,()),(()),(()))))) (eh (0<=s.1.2.1) ((s.1.1[s.1.2.1.toNat]?).bind fun x5=>(eT x5.capacity 0 9).bind fun y6=>br (!y6.1) (some (.inr (.inl ((s.1.1,false,()),(()),(()))))) (eh (0<=s.1.2.1) ((s.1.1[s.1.2.1.toNat]?).bind fun x7=>(eT x7.load 0 99).bind fun y8=>br (!y8.1) (some (.inr (.inl ((s.1.1,false,()),(()),(()))))) (some (.inl ((s.1.1,(IntKind.wrap .i64 (s.1.2.1+1)),()),(()),(()))))) none)) none)) none) (some (.inr (.inr ((s.1.1,(),()),(()),(())))))
def vl:=gQ mX
def GF:=jP Tryz.f100 [0] zL mX [ig] [] (by kernel_rfl) fun s=>by simp only[mX,tm]; kernel_rfl
def ii (a0:List eN):Option (Bool×Unit):=
 (vl ((a0,0,()),(()),(()))).bind fun e9=>Sum.elim (fun e9_0=>some e9_0.1.2) (fun e9_1=>some (((e9_1.1.1.length:Int)==5),())) e9
def uU:=eV 100 Tryz.f100 [.ty (.ls (.st .place))] [.b] (fun x=>ii x.1) [] [GF] (by kernel_rfl) fun x=>by simp only[ii,tm]; kernel_rfl
def iC (a0:Op):Option (Bool×Unit):=
 (eT a0.client 0 2).bind fun y1=>br (!y1.1) (some (false,())) ((eT a0.seq 1 99).bind fun y2=>br (!y2.1) (some (false,())) ((eT a0.object 0 2).bind fun y3=>br (!y3.1) (some (false,())) ((eT a0.value 0 9).bind fun y4=>br (!y4.1) (some (false,())) (br (a0.kind==1) (br (a0.old==0) (some (true,())) (br (a0.kind==2) ((eT a0.old 0 9).bind fun y5=>some (y5.1,())) (some (false,())))) (br (a0.kind==2) ((eT a0.old 0 9).bind fun y6=>some (y6.1,())) (some (false,())))))))
def xT:=eV 164 Tryz.f164 [.ty (.st .op)] [.b] (fun x=>iC x.1) [ig] [] (by kernel_rfl) fun x=>by simp only[iC,tm]; kernel_rfl
abbrev HK:LX:=⟨⟨[(0, .cl (.ro (.st .entry))),(3, .cl (.int .i64))],[],[],0,47⟩,[(.ret,⟨[(0, .cl (.ro (.st .entry))),(2, .cl (.bl))],[],[],0,47⟩),(.ext 0,⟨[(0, .cl (.ro (.st .entry))),(2, .cl (.dead))],[],[],0,47⟩)],[],[0,3],[0,2]⟩
def n9 (s: (List eu×Int×Unit)×Unit×Unit):HK.R:=
 br (decide (s.1.2.1< (s.1.1.length:Int))) (eh (0<=s.1.2.1) ((s.1.1[s.1.2.1.toNat]?).bind fun x3=>(eT x3.epoch 1 20).bind fun y4=>br (!y4.1) (some (.inr (.inl ((s.1.1,false,()),(()),(()))))) (eh (0<=s.1.2.1) ((s.1.1[s.1.2.1.toNat]?).bind fun x5=>(iC x5.op).bind fun y6=>br (!y6.1) (some (.inr (.inl ((s.1.1,false,()),(()),(()))))) (br (decide (s.1.2.1>0)) (eh (0<=(IntKind.wrap .i64 (s.1.2.1-1))) ((s.1.1[(IntKind.wrap .i64 (s.1.2.1-1)).toNat]?).bind fun x7=>eh (0<=s.1.2.1) ((s.1.1[s.1.2.1.toNat]?).bind fun x8=>br (decide (x7.epoch>x8.epoch)) (some (.inr (.inl ((s.1.1,false,()),(()),(()))))) (some (.inl ((s.1.1,(IntKind.wrap .i64 (s.1.2.1+1)),()),(()),(()))))) none) none) (some (.inl ((s.1.1,(IntKind.wrap .i64 (s.1.2.1+1)),()),(()),(())))))) none)) none) (some (.inr (.inr ((s.1.1,(),()),(()),(())))))
def vN:=gQ n9
def O4:=jP Tryz.f171 [0] HK n9 [ig,xT] [] (by kernel_rfl) fun s=>by simp only[n9,tm]; kernel_rfl
def iM (a0:List eu):Option (Bool×Unit):=
 (vN ((a0,0,()),(()),(()))).bind fun e9=>Sum.elim (fun e9_0=>some e9_0.1.2) (fun e9_1=>some ((decide ((e9_1.1.1.length:Int)<=16)),())) e9
def wA:=eV 171 Tryz.f171 [.ty (.ls (.st .entry))] [.b] (fun x=>iM x.1) [] [O4] (by kernel_rfl) fun x=>by simp only[iM,tm]; kernel_rfl
abbrev vO:LX:=⟨⟨[(0, .cl (.ro (.i .i64))),(1, .cl (.ro (.i .i64))),(5, .cl (.int .i64))],[],[],0,26⟩,[(.ret,⟨[(4, .cl (.bl))],[],[],0,26⟩),(.ext 0,⟨[(4, .cl (.dead))],[],[],0,26⟩)],[],[0,1,5],[4]⟩
def j4 (s: (List Int×List Int×Int×Unit)×Unit×Unit):vO.R:=
 br (decide (s.1.2.2.1< (s.1.1.length:Int))) (eh (0<=s.1.2.2.1) ((s.1.1[s.1.2.2.1.toNat]?).bind fun x4=>eh (0<=s.1.2.2.1) ((s.1.2.1[s.1.2.2.1.toNat]?).bind fun x5=>br (!(x4==x5)) (some (.inr (.inl ((false,()),(()),(()))))) (some (.inl ((s.1.1,s.1.2.1,(IntKind.wrap .i64 (s.1.2.2.1+1)),()),(()),(()))))) none) none) (some (.inr (.inr (((),()),(()),(())))))
def qT:=gQ j4
def Cv:=jP Tryz.f189 [0] vO j4 [] [] (by kernel_rfl) fun s=>by simp only[j4,tm]; kernel_rfl
def lT (a0:List Int) (a1:List Int):Option (Bool×Unit):=
 br (!((a0.length:Int)==(a1.length:Int))) (some (false,())) ((qT ((a0,a1,0,()),(()),(()))).bind fun e6=>Sum.elim (fun e6_0=>some e6_0.1) (fun _=>some (true,())) e6)
def Fl:=eV 189 Tryz.f189 [.ty (.ls (.i .i64)), .ty (.ls (.i .i64))] [.b] (fun x=>lT x.1 x.2.1) [] [Cv] (by kernel_rfl) fun x=>by simp only[lT,tm]; kernel_rfl
def kp (a0:ej) (a1:ej):Option (Bool×Unit):=
 br (a0.epoch==a1.epoch) (br (a0.primary==a1.primary) ((lT a0.replicas a1.replicas).bind fun y1=>br y1.1 ((lT a0.witnesses a1.witnesses).bind fun y2=>some (y2.1,())) (some (false,()))) (some (false,()))) (some (false,()))
def tV:=eV 105 Tryz.f105 [.ty (.st .config), .ty (.st .config)] [.b] (fun x=>kp x.1 x.2.1) [Fl] [] (by kernel_rfl) fun x=>by simp only[kp,tm]; kernel_rfl
def qU (a0:ej):Option (Bool×Unit):=
 (kp a0 (⟨0,0,([]:List Int),([]:List Int)⟩:ej)).bind fun y1=>some (y1.1,())
def Cw:=eV 104 Tryz.f104 [.ty (.st .config)] [.b] (fun x=>qU x.1) [tV] [] (by kernel_rfl) fun x=>by simp only[qU,tm]; kernel_rfl
def pE (a0:List eu):Option (Int×Unit):=
 br ((a0.length:Int)==0) (some (0,())) (eh (0<=(IntKind.wrap .i64 ((a0.length:Int)-1))) ((a0[(IntKind.wrap .i64 ((a0.length:Int)-1)).toNat]?).bind fun x1=>some (x1.epoch,())) none)
def Cx:=eV 102 Tryz.f102 [.ty (.ls (.st .entry))] [.i .i64] (fun x=>pE x.1) [] [] (by kernel_rfl) fun x=>by simp only[pE,tm]; kernel_rfl
def jv (a0:ej) (a1:Int):Option (Int×Unit):=
 (eL a0).bind fun y1=>br (!y1.1) (some (0,())) (br (a1==a0.primary) (some (1,())) ((gr a0.replicas a1).bind fun y2=>br y2.1 (some (2,())) ((gr a0.witnesses a1).bind fun y3=>br y3.1 (some (3,())) (some (0,())))))
def xU:=eV 160 Tryz.f160 [.ty (.st .config), .ty (.i .i64)] [.i .i64] (fun x=>jv x.1 x.2.1) [o7,lg] [] (by kernel_rfl) fun x=>by simp only[jv,tm]; kernel_rfl
def eM (a0:eo) (a1:Int):Option (Bool×Unit):=
 (eT a0.version 1 2).bind fun y1=>br (!y1.1) (some (false,())) ((eT a0.epoch 0 20).bind fun y2=>br (!y2.1) (some (false,())) ((iM a0.log).bind fun y3=>br (!y3.1) (some (false,())) ((iM a0.learned).bind fun y4=>br (!y4.1) (some (false,())) ((eT a0.first 0 16).bind fun y5=>br (!y5.1) (some (false,())) ((eT (IntKind.wrap .i64 (a0.first+(a0.log.length:Int))) 0 16).bind fun y6=>br (!y6.1) (some (false,())) ((eT a0.commit 0 (IntKind.wrap .i64 (a0.first+(a0.log.length:Int)))).bind fun y7=>br (!y7.1) (some (false,())) ((qU a0.config).bind fun y8=>br y8.1 (br (a0.first==0) (br ((a0.log.length:Int)==0) (some ((a0.commit==0),())) (some (false,()))) (some (false,()))) (br (!a0.intact) (some (false,())) (br (decide (a0.epoch<a0.config.epoch)) (some (false,())) ((pE a0.log).bind fun y9=>br (decide (y9.1>a0.config.epoch)) (some (false,())) ((jv a0.config a1).bind fun y10=>br (y10.1==0) (some (false,())) (br (y10.1==3) (br (decide ((a0.log.length:Int)<=3)) (br ((a0.log.length:Int)==3) (some (true,())) (some ((a0.first==0),()))) (some (false,()))) (some ((a0.first==0),()))))))))))))))
def w5:=eV 101 Tryz.f101 [.ty (.st .server), .ty (.i .i64)] [.b] (fun x=>eM x.1 x.2.1) [ig,wA,Cw,Cx,xU] [] (by kernel_rfl) fun x=>by simp only[eM,tm]; kernel_rfl
def lA (a0:ev) (a1:Int):Option (ej×Bool×Unit):=
 (fL a0).bind fun y1=>br (!y1.1) (some ((⟨0,0,([]:List Int),([]:List Int)⟩:ej),false,())) ((eT a1 1 (a0.configs.length:Int)).bind fun y2=>br (!y2.1) (some ((⟨0,0,([]:List Int),([]:List Int)⟩:ej),false,())) (eh (0<=(IntKind.wrap .i64 (a1-1))) ((a0.configs[(IntKind.wrap .i64 (a1-1)).toNat]?).bind fun x3=>(lS x3).bind fun y4=>some (y4.1,true,())) none))
def AI:=eV 103 Tryz.f103 [.ty (.st .masterLog), .ty (.i .i64)] [.st .config, .b] (fun x=>lA x.1 x.2.1) [rv,ig,xR] [] (by kernel_rfl) fun x=>by simp only[lA,tm]; kernel_rfl
abbrev tW:LX:=⟨⟨[(1, .cl (.ptr 0 0)),(3, .cl (.int .i64))],[[.int .i64, .ro (.st .server), .ro (.i .i64), .ro (.st .config), .int .i64, .int .i64, .int .i64, .int .i64, .int .i64, .ro (.st .place)]],[],0,123⟩,[(.ret,⟨[(2, .cl (.bl))],[],[],0,123⟩),(.ext 0,⟨[(2, .cl (.dead))],[],[],0,123⟩)],[],[1,3],[2]⟩
def eG (s: (Unit×Int×Unit)×((Int×List eo×List Int×List ej×Int×Int×Int×Int×Int×List eN×Unit)×Unit)×Unit):tW.R:=
 br (decide (s.1.2.1< (s.2.1.1.2.1.length:Int))) (eh (0<=s.1.2.1) ((s.2.1.1.2.1[s.1.2.1.toNat]?).bind fun x18=>(eM x18 s.1.2.1).bind fun y19=>br (!y19.1) (some (.inr (.inl ((false,()),(()),(()))))) (br (decide (x18.epoch>(s.2.1.1.2.2.2.1.length:Int))) (some (.inr (.inl ((false,()),(()),(()))))) ((pE x18.learned).bind fun y20=>br (decide (y20.1>s.2.1.1.2.2.2.2.1)) (some (.inr (.inl ((false,()),(()),(()))))) ((lA (⟨s.2.1.1.2.2.2.1,s.2.1.1.2.2.2.2.1⟩:ev) x18.config.epoch).bind fun y21=>(qU x18.config).bind fun y22=>br (!y22.1) (br (!y21.2.1) (some (.inr (.inl ((false,()),(()),(()))))) ((kp y21.1 x18.config).bind fun y23=>br (!y23.1) (some (.inr (.inl ((false,()),(()),(()))))) (br (decide (x18.config.epoch>s.2.1.1.2.2.2.2.1)) (some (.inr (.inl ((false,()),(()),(()))))) (some (.inl (((),(IntKind.wrap .i64 (s.1.2.1+1)),()),s.2.1,(()))))))) (some (.inl (((),(IntKind.wrap .i64 (s.1.2.1+1)),()),s.2.1,(())))))))) none) (some (.inr (.inr (((),()),(()),(())))))
def jf:=gQ eG
def AJ:=jP Tryz.f46 [0] tW eG [w5,Cx,AI,Cw,tV] [] (by kernel_rfl) fun s=>by simp only[eG,tm]; kernel_rfl
def eA (a0:eg):Option (Bool×Unit):=
 (eT a0.now 0 999).bind fun y1=>br (!y1.1) (some (false,())) (br (!((a0.servers.length:Int)==5)) (some (false,())) ((lz a0.sides).bind fun y2=>br (!y2.1) (some (false,())) ((fL a0.master).bind fun y3=>br (!y3.1) (some (false,())) ((eT a0.masterUp 0 3).bind fun y4=>br (!y4.1) (some (false,())) ((mW a0.lease).bind fun y5=>br (!y5.1) (some (false,())) ((ii a0.places).bind fun y6=>br (!y6.1) (some (false,())) (br (decide (a0.lease.epoch>a0.master.activated)) (some (false,())) ((jf (((),0,()),((a0.now,a0.servers,a0.sides,a0.master.configs,a0.master.activated,a0.masterUp,a0.lease.epoch,a0.lease.holder,a0.lease.ends,a0.places,()),()),(()))).bind fun e24=>Sum.elim (fun e24_0=>some e24_0.1) (fun _=>some (true,())) e24))))))))
def fu:=eV 46 Tryz.f46 [.ty (.st .cluster)] [.b] (fun x=>eA x.1) [ig,AH,rv,zi,uU] [AJ] (by kernel_rfl) fun x=>by simp only[eA,tm]; kernel_rfl
def gg (a0:ev):Option (ej×Bool×Unit):=
 (lA a0 a0.activated).bind fun y1=>some (y1.1,y1.2.1,())
def mJ:=eV 75 Tryz.f75 [.ty (.st .masterLog)] [.st .config, .b] (fun x=>gg x.1) [AI] [] (by kernel_rfl) fun x=>by simp only[gg,tm]; kernel_rfl
def gT (a0:eo) (a1:Int):Option (Bool×Unit):=
 (eM a0 a1).bind fun y1=>br y1.1 (br a0.up ((jv a0.config a1).bind fun y2=>br (y2.1==1) (some ((a0.epoch==a0.config.epoch),())) (some (false,()))) (some (false,()))) (some (false,()))
def pV:=eV 76 Tryz.f76 [.ty (.st .server), .ty (.i .i64)] [.b] (fun x=>gT x.1 x.2.1) [w5,xU] [] (by kernel_rfl) fun x=>by simp only[gT,tm]; kernel_rfl
abbrev vP:LX:=⟨⟨[(0, .cl (.ro (.i .i64))),(1, .cl (.ro (.i .i64))),(5, .cl (.own 0 (.i .i64))),(6, .cl (.int .i64))],[],[.i .i64],0,34⟩,[(.ext 0,⟨[(1, .cl (.ro (.i .i64))),(5, .cl (.own 0 (.i .i64)))],[],[.i .i64],0,34⟩)],[],[0,1,5,6],[1,5]⟩
def j5 (s: (List Int×List Int×Unit×Int×Unit)×Unit×List Int×Unit):vP.R:=
 br (decide (s.1.2.2.2.1< (s.1.1.length:Int))) (eh (0<=s.1.2.2.2.1) ((s.1.1[s.1.2.2.2.1.toNat]?).bind fun x5=>(n8 s.2.2.1 x5).bind fun y6=>some (.inl ((s.1.1,s.1.2.1,(),(IntKind.wrap .i64 (s.1.2.2.2.1+1)),()),(()),y6.1,()))) none) (some (.inr ((s.1.2.1,(),()),(()),s.2.2)))
def vQ:=gQ j5
def Cy:=jP Tryz.f162 [0] vP j5 [zh] [] (by kernel_rfl) fun s=>by simp only[j5,tm]; kernel_rfl
abbrev vR:LX:=⟨⟨[(1, .cl (.ro (.i .i64))),(5, .cl (.own 0 (.i .i64))),(7, .cl (.int .i64))],[],[.i .i64],0,34⟩,[(.ext 2,⟨[(5, .cl (.own 0 (.i .i64)))],[],[.i .i64],0,34⟩)],[],[1,5,7],[5]⟩
def j6 (s: (List Int×Unit×Int×Unit)×Unit×List Int×Unit):vR.R:=
 br (decide (s.1.2.2.1< (s.1.1.length:Int))) (eh (0<=s.1.2.2.1) ((s.1.1[s.1.2.2.1.toNat]?).bind fun x11=>(n8 s.2.2.1 x11).bind fun y12=>some (.inl ((s.1.1,(),(IntKind.wrap .i64 (s.1.2.2.1+1)),()),(()),y12.1,()))) none) (some (.inr (((),()),(()),s.2.2)))
def vS:=gQ j6
def Cz:=jP Tryz.f162 [1] vR j6 [zh] [] (by kernel_rfl) fun s=>by simp only[j6,tm]; kernel_rfl
def lU (a0:List Int) (a1:List Int):Option ((List Int)×Unit):=
 (vQ ((a0,a1,(),0,()),(()),([]:List Int),())).bind fun e7=>(vS ((e7.1.1,(),0,()),(()),e7.2.2)).bind fun e13=>some e13.2.2
def Fm:=eV 162 Tryz.f162 [.ty (.ls (.i .i64)), .ty (.ls (.i .i64))] [.ls (.i .i64)] (fun x=>lU x.1 x.2.1) [] [Cy,Cz] (by kernel_rfl) fun x=>by simp only[lU,tm]; kernel_rfl
def jW (a0:ej):Option ((List Int)×Unit):=
 (eL a0).bind fun y1=>br (!y1.1) (some (([]:List Int),())) ((lU a0.replicas a0.witnesses).bind fun y2=>some (y2.1,()))
def pF:=eV 77 Tryz.f77 [.ty (.st .config)] [.ls (.i .i64)] (fun x=>jW x.1) [o7,Fm] [] (by kernel_rfl) fun x=>by simp only[jW,tm]; kernel_rfl
def mC (a0:List Int) (a1:Int) (a2:Int):Option (Bool×Unit):=
 (lz a0).bind fun y1=>br y1.1 ((eT a1 0 4).bind fun y2=>br y2.1 ((eT a2 0 4).bind fun y3=>br y3.1 (eh (0<=a1) ((a0[a1.toNat]?).bind fun x4=>eh (0<=a2) ((a0[a2.toNat]?).bind fun x5=>some ((x4==x5),())) none) none) (some (false,()))) (some (false,()))) (some (false,()))
def tX:=eV 163 Tryz.f163 [.ty (.ls (.i .i64)), .ty (.i .i64), .ty (.i .i64)] [.b] (fun x=>mC x.1 x.2.1 x.2.2.1) [AH,ig] [] (by kernel_rfl) fun x=>by simp only[mC,tm]; kernel_rfl
def qV (a0:eg) (a1:Int) (a2:Int):Option (Bool×Unit):=
 eh (0<=a2) ((a0.servers[a2.toNat]?).bind fun x1=>(mC a0.sides a1 a2).bind fun y2=>br y2.1 (br x1.up (eh (0<=a1) ((a0.servers[a1.toNat]?).bind fun x3=>br (x1.epoch==x3.epoch) (eh (0<=a1) ((a0.servers[a1.toNat]?).bind fun x4=>br (decide (x1.commit<=(x4.log.length:Int))) (eh (0<=a1) ((a0.servers[a1.toNat]?).bind fun x5=>(kp x1.config x5.config).bind fun y6=>some (y6.1,())) none) (some (false,()))) none) (some (false,()))) none) (some (false,()))) (some (false,()))) none
def Fn:=eV 78 Tryz.f78 [.ty (.st .cluster), .ty (.i .i64), .ty (.i .i64)] [.b] (fun x=>qV x.1 x.2.1 x.2.2.1) [tX,tV] [] (by kernel_rfl) fun x=>by simp only[qV,tm]; kernel_rfl
abbrev tY:LX:=⟨⟨[(1, .cl (.ptr 0 0)),(3, .cl (.ptr 1 0)),(5, .cl (.own 0 (.i .i64))),(6, .cl (.int .i64))],[[.int .i64, .ro (.st .server), .ro (.i .i64), .ro (.st .config), .int .i64, .int .i64, .int .i64, .int .i64, .int .i64, .ro (.st .place)],[.int .i64, .int .i64, .own 1 (.i .i64), .own 2 (.i .i64)]],[.i .i64, .i .i64, .i .i64],0,64⟩,[(.ret,⟨[(2, .cl (.int .i64)),(3, .cl (.ptr 0 0))],[[.int .i64, .int .i64, .own 0 (.i .i64), .own 1 (.i .i64)]],[.i .i64, .i .i64],0,64⟩),(.ext 0,⟨[(2, .cl (.dead)),(3, .cl (.ptr 0 0))],[[.int .i64, .int .i64, .own 0 (.i .i64), .own 1 (.i .i64)]],[.i .i64, .i .i64],0,64⟩)],[],[1,3,5,6],[2,3]⟩
def jg (s: (Unit×Unit×Unit×Int×Unit)×((Int×List eo×List Int×List ej×Int×Int×Int×Int×Int×List eN×Unit)×(Int×Int×Unit×Unit×Unit)×Unit)×List Int×List Int×List Int×Unit):tY.R:=
 br (decide (s.1.2.2.2.1< (s.2.2.1.length:Int))) (eh (0<=s.1.2.2.2.1/\s.1.2.2.2.1< (s.2.2.1.length:Int)) ((s.2.2.1[s.1.2.2.2.1.toNat]?).bind fun x23=>(qV (⟨s.2.1.1.1,s.2.1.1.2.1,s.2.1.1.2.2.1,(⟨s.2.1.1.2.2.2.1,s.2.1.1.2.2.2.2.1⟩:ev),s.2.1.1.2.2.2.2.2.1,(⟨s.2.1.1.2.2.2.2.2.2.1,s.2.1.1.2.2.2.2.2.2.2.1,s.2.1.1.2.2.2.2.2.2.2.2.1⟩:fW),s.2.1.1.2.2.2.2.2.2.2.2.2.1⟩:eg) s.2.1.2.1.2.1 x23).bind fun y24=>br (!y24.1) (some (.inr (.inl (((-1),(),()),s.2.1.2,s.2.2.2)))) (some (.inl (((),(),(),(IntKind.wrap .i64 (s.1.2.2.2.1+1)),()),s.2)))) none) (some (.inr (.inr (((),(),()),s.2.1.2,s.2.2.2))))
def pg:=gQ jg
def AK:=jP Tryz.f39 [0] tY jg [Fn] [] (by kernel_rfl) fun s=>by simp only[jg,tm]; kernel_rfl
def j8 (a0:eg):Option (Int×Unit):=
 (gg a0.master).bind fun y1=>(eA a0).bind fun y2=>br (!y2.1) (some ((-1),())) (br (!y1.2.1) (some ((-1),())) (eh (0<=y1.1.primary) ((a0.servers[y1.1.primary.toNat]?).bind fun x3=>(gT x3 y1.1.primary).bind fun y4=>br (!y4.1) (some ((-1),())) (eh (0<=y1.1.primary) ((a0.servers[y1.1.primary.toNat]?).bind fun x5=>br (!(x5.config.epoch==y1.1.epoch)) (some ((-1),())) ((jW y1.1).bind fun y6=>(pg (((),(),(),0,()),((a0.now,a0.servers,a0.sides,a0.master.configs,a0.master.activated,a0.masterUp,a0.lease.epoch,a0.lease.holder,a0.lease.ends,a0.places,()),(y1.1.epoch,y1.1.primary,(),(),()),()),y6.1,y1.1.replicas,y1.1.witnesses,())).bind fun e25=>Sum.elim (fun e25_0=>some (e25_0.1.1,())) (fun e25_1=>some (e25_1.2.1.1.2.1,())) e25)) none)) none))
def vT:=eV 39 Tryz.f39 [.ty (.st .cluster)] [.i .i64] (fun x=>j8 x.1) [mJ,fu,pV,pF] [AK] (by kernel_rfl) fun x=>by simp only[j8,tm]; kernel_rfl
def rK (a0:eg):Option (Bool×Unit):=
 (j8 a0).bind fun y1=>some ((decide (y1.1≥0)),())
def K9:=eV 48 Tryz.f48 [.ty (.st .cluster)] [.b] (fun x=>rK x.1) [vT] [] (by kernel_rfl) fun x=>by simp only[rK,tm]; kernel_rfl
abbrev zM:LX:=⟨⟨[(1, .cl (.ptr 0 0)),(3, .cl (.own 0 (.i .i64))),(4, .cl (.int .i64))],[[.int .i64, .ro (.st .server), .ro (.i .i64), .ro (.st .config), .int .i64, .int .i64, .int .i64, .int .i64, .int .i64, .ro (.st .place)]],[.i .i64],0,28⟩,[(.ext 0,⟨[(3, .cl (.own 0 (.i .i64)))],[],[.i .i64],0,28⟩)],[],[1,3,4],[3]⟩
def mY (s: (Unit×Unit×Int×Unit)×((Int×List eo×List Int×List ej×Int×Int×Int×Int×Int×List eN×Unit)×Unit)×List Int×Unit):zM.R:=
 br (decide (s.1.2.2.1< (s.2.1.1.2.1.length:Int))) ((eA (⟨s.2.1.1.1,s.2.1.1.2.1,s.2.1.1.2.2.1,(⟨s.2.1.1.2.2.2.1,s.2.1.1.2.2.2.2.1⟩:ev),s.2.1.1.2.2.2.2.2.1,(⟨s.2.1.1.2.2.2.2.2.2.1,s.2.1.1.2.2.2.2.2.2.2.1,s.2.1.1.2.2.2.2.2.2.2.2.1⟩:fW),s.2.1.1.2.2.2.2.2.2.2.2.2.1⟩:eg)).bind fun y13=>br y13.1 (eh (0<=s.1.2.2.1) ((s.2.1.1.2.1[s.1.2.2.1.toNat]?).bind fun x14=>br x14.up (eh ((s.2.2.1++([s.1.2.2.1]:List Int)).length*8<=2 ^ 40) (some (.inl (((),(),(IntKind.wrap .i64 (s.1.2.2.1+1)),()),s.2.1,(s.2.2.1++([s.1.2.2.1]:List Int)),()))) none) (some (.inl (((),(),(IntKind.wrap .i64 (s.1.2.2.1+1)),()),s.2)))) none) (some (.inr (((),()),(()),s.2.2)))) (some (.inr (((),()),(()),s.2.2)))
def zN:=gQ mY
def GG:=jP Tryz.f191 [0] zM mY [fu] [] (by kernel_rfl) fun s=>by simp only[mY,tm]; kernel_rfl
def rL (a0:eg):Option ((List Int)×Unit):=
 (zN (((),(),0,()),((a0.now,a0.servers,a0.sides,a0.master.configs,a0.master.activated,a0.masterUp,a0.lease.epoch,a0.lease.holder,a0.lease.ends,a0.places,()),()),([]:List Int),())).bind fun e16=>some e16.2.2
def La:=eV 191 Tryz.f191 [.ty (.st .cluster)] [.ls (.i .i64)] (fun x=>rL x.1) [] [GG] (by kernel_rfl) fun x=>by simp only[rL,tm]; kernel_rfl
abbrev xV:LX:=⟨⟨[(0, .cl (.ro (.i .i64))),(3, .cl (.own 0 (.i .i64))),(4, .cl (.int .i64))],[],[.i .i64],0,26⟩,[(.ext 0,⟨[(3, .cl (.own 0 (.i .i64)))],[],[.i .i64],0,26⟩)],[],[0,3,4],[3]⟩
def lV (s: (List Int×Unit×Int×Unit)×Unit×List Int×Unit):xV.R:=
 br (decide (s.1.2.2.1< (s.1.1.length:Int))) ((lz s.1.1).bind fun y4=>br y4.1 (eh (0<=s.1.2.2.1) ((s.1.1[s.1.2.2.1.toNat]?).bind fun x5=>br (x5==0) (eh ((s.2.2.1++([s.1.2.2.1]:List Int)).length*8<=2 ^ 40) (some (.inl ((s.1.1,(),(IntKind.wrap .i64 (s.1.2.2.1+1)),()),(()),(s.2.2.1++([s.1.2.2.1]:List Int)),()))) none) (some (.inl ((s.1.1,(),(IntKind.wrap .i64 (s.1.2.2.1+1)),()),(()),s.2.2)))) none) (some (.inr (((),()),(()),s.2.2)))) (some (.inr (((),()),(()),s.2.2)))
def xW:=gQ lV
def Fo:=jP Tryz.f192 [0] xV lV [AH] [] (by kernel_rfl) fun s=>by simp only[lV,tm]; kernel_rfl
def pW (a0:List Int):Option ((List Int)×Unit):=
 (xW ((a0,(),0,()),(()),([]:List Int),())).bind fun e7=>some e7.2.2
def IZ:=eV 192 Tryz.f192 [.ty (.ls (.i .i64))] [.ls (.i .i64)] (fun x=>pW x.1) [] [Fo] (by kernel_rfl) fun x=>by simp only[pW,tm]; kernel_rfl
def tZ (a0:eg):Option ((List Int)×Unit):=
 (rL a0).bind fun y1=>(pW a0.sides).bind fun y2=>(jJ y1.1 y2.1).bind fun y3=>some (y3.1,())
def MN:=eV 106 Tryz.f106 [.ty (.st .cluster)] [.ls (.i .i64)] (fun x=>tZ x.1) [La,IZ,sx] [] (by kernel_rfl) fun x=>by simp only[tZ,tm]; kernel_rfl
abbrev t5:LX:=⟨⟨[(0, .cl (.ro (.i .i64))),(1, .cl (.ro (.i .i64))),(5, .cl (.own 0 (.i .i64))),(6, .cl (.int .i64))],[],[.i .i64],0,28⟩,[(.ext 0,⟨[(5, .cl (.own 0 (.i .i64)))],[],[.i .i64],0,28⟩)],[],[0,1,5,6],[5]⟩
def jh (s: (List Int×List Int×Unit×Int×Unit)×Unit×List Int×Unit):t5.R:=
 br (decide (s.1.2.2.2.1< (s.1.1.length:Int))) (eh (0<=s.1.2.2.2.1) ((s.1.1[s.1.2.2.2.1.toNat]?).bind fun x5=>(gr s.1.2.1 x5).bind fun y6=>br (!y6.1) (eh (0<=s.1.2.2.2.1) ((s.1.1[s.1.2.2.2.1.toNat]?).bind fun x7=>(n8 s.2.2.1 x7).bind fun y8=>some (.inl ((s.1.1,s.1.2.1,(),(IntKind.wrap .i64 (s.1.2.2.2.1+1)),()),(()),y8.1,()))) none) (some (.inl ((s.1.1,s.1.2.1,(),(IntKind.wrap .i64 (s.1.2.2.2.1+1)),()),(()),s.2.2)))) none) (some (.inr (((),()),(()),s.2.2)))
def t6:=gQ jh
def AL:=jP Tryz.f110 [0] t5 jh [lg,zh] [] (by kernel_rfl) fun s=>by simp only[jh,tm]; kernel_rfl
def j9 (a0:List Int) (a1:List Int):Option ((List Int)×Unit):=
 (t6 ((a0,a1,(),0,()),(()),([]:List Int),())).bind fun e10=>some e10.2.2
def vU:=eV 110 Tryz.f110 [.ty (.ls (.i .i64)), .ty (.ls (.i .i64))] [.ls (.i .i64)] (fun x=>j9 x.1 x.2.1) [] [AL] (by kernel_rfl) fun x=>by simp only[j9,tm]; kernel_rfl
abbrev De:LX:=⟨⟨[(0, .cl (.ro (.st .place))),(1, .cl (.ro (.i .i64))),(5, .cl (.own 0 (.i .i64))),(6, .cl (.int .i64))],[],[.i .i64],0,33⟩,[(.ext 0,⟨[(5, .cl (.own 0 (.i .i64)))],[],[.i .i64],0,33⟩)],[],[0,1,5,6],[5]⟩
def pG (s: (List eN×List Int×Unit×Int×Unit)×Unit×List Int×Unit):De.R:=
 br (decide (s.1.2.2.2.1< (s.1.2.1.length:Int))) ((ii s.1.1).bind fun y5=>br y5.1 ((gF s.1.2.1).bind fun y6=>br y6.1 (eh (0<=s.1.2.2.2.1) ((s.1.2.1[s.1.2.2.2.1.toNat]?).bind fun x7=>eh (0<=x7) ((s.1.1[x7.toNat]?).bind fun x8=>(n8 s.2.2.1 x8.rack).bind fun y9=>some (.inl ((s.1.1,s.1.2.1,(),(IntKind.wrap .i64 (s.1.2.2.2.1+1)),()),(()),y9.1,()))) none) none) (some (.inr (((),()),(()),s.2.2)))) (some (.inr (((),()),(()),s.2.2)))) (some (.inr (((),()),(()),s.2.2)))
def Df:=gQ pG
def Lb:=jP Tryz.f195 [0] De pG [uU,sY,zh] [] (by kernel_rfl) fun s=>by simp only[pG,tm]; kernel_rfl
def vV (a0:List eN) (a1:List Int):Option ((List Int)×Unit):=
 (Df ((a0,a1,(),0,()),(()),([]:List Int),())).bind fun e10=>some e10.2.2
def O5:=eV 195 Tryz.f195 [.ty (.ls (.st .place)), .ty (.ls (.i .i64))] [.ls (.i .i64)] (fun x=>vV x.1 x.2.1) [] [Lb] (by kernel_rfl) fun x=>by simp only[vV,tm]; kernel_rfl
def vW (a0:List eN) (a1:Int):Option (Bool×Unit):=
 (ii a0).bind fun y1=>br y1.1 ((eT a1 0 4).bind fun y2=>br y2.1 (eh (0<=a1) ((a0[a1.toNat]?).bind fun x3=>eh (0<=a1) ((a0[a1.toNat]?).bind fun x4=>some ((decide (x3.load<x4.capacity)),())) none) none) (some (false,()))) (some (false,()))
def O6:=eV 196 Tryz.f196 [.ty (.ls (.st .place)), .ty (.i .i64)] [.b] (fun x=>vW x.1 x.2.1) [uU,ig] [] (by kernel_rfl) fun x=>by simp only[vW,tm]; kernel_rfl
def wB (a0:List eN) (a1:List Int) (a2:Int) (a3:Int):Option (Bool×Unit):=
 eh (0<=a2) ((a0[a2.toNat]?).bind fun x1=>(gr a1 x1.rack).bind fun y2=>eh (0<=a3) ((a0[a3.toNat]?).bind fun x3=>(gr a1 x3.rack).bind fun y4=>br (!(y2.1==y4.1)) (some (y4.1,())) (eh (0<=a2) ((a0[a2.toNat]?).bind fun x5=>eh (0<=a3) ((a0[a3.toNat]?).bind fun x6=>some ((decide (x5.load<x6.load)),())) none) none)) none) none
def MO:=eV 197 Tryz.f197 [.ty (.ls (.st .place)), .ty (.ls (.i .i64)), .ty (.i .i64), .ty (.i .i64)] [.b] (fun x=>wB x.1 x.2.1 x.2.2.1 x.2.2.2.1) [lg] [] (by kernel_rfl) fun x=>by simp only[wB,tm]; kernel_rfl
abbrev vm:LX:=⟨⟨[(0, .cl (.ro (.st .place))),(1, .cl (.ro (.i .i64))),(2, .cl (.ro (.i .i64))),(7, .cl (.int .i64)),(8, .cl (.own 0 (.i .i64))),(9, .cl (.int .i64))],[],[.i .i64],0,46⟩,[(.ext 0,⟨[(7, .cl (.int .i64))],[],[],0,46⟩)],[],[0,1,2,7,8,9],[7]⟩
def mZ (s: (List eN×List Int×List Int×Int×Unit×Int×Unit)×Unit×List Int×Unit):vm.R:=
 br (decide (s.1.2.2.2.2.2.1<5)) ((gF s.1.2.1).bind fun y8=>br y8.1 ((vW s.1.1 s.1.2.2.2.2.2.1).bind fun y9=>let j14 (p13:Int):vm.R:=some (.inl ((s.1.1,s.1.2.1,s.1.2.2.1,p13,(),(IntKind.wrap .i64 (s.1.2.2.2.2.2.1+1)),()),(()),s.2.2)); br (!y9.1) (j14 s.1.2.2.2.1) ((gr s.1.2.1 s.1.2.2.2.2.2.1).bind fun y10=>br y10.1 (j14 s.1.2.2.2.1) ((gr s.1.2.2.1 s.1.2.2.2.2.2.1).bind fun y11=>br y11.1 (j14 s.1.2.2.2.1) (br (decide (s.1.2.2.2.1<0)) (j14 s.1.2.2.2.2.2.1) ((wB s.1.1 s.2.2.1 s.1.2.2.2.2.2.1 s.1.2.2.2.1).bind fun y12=>br y12.1 (j14 s.1.2.2.2.2.2.1) (j14 s.1.2.2.2.1)))))) (some (.inr ((s.1.2.2.2.1,()),(()),(()))))) (some (.inr ((s.1.2.2.2.1,()),(()),(()))))
def zO:=gQ mZ
def GH:=jP Tryz.f109 [0] vm mZ [sY,O6,lg,MO] [] (by kernel_rfl) fun s=>by simp only[mZ,tm]; kernel_rfl
def pH (a0:List eN) (a1:List Int) (a2:List Int):Option (Int×Unit):=
 (vV a0 a1).bind fun y1=>(zO ((a0,a1,a2,(-1),(),0,()),(()),y1.1,())).bind fun e15=>some e15.1
def Dg:=eV 109 Tryz.f109 [.ty (.ls (.st .place)), .ty (.ls (.i .i64)), .ty (.ls (.i .i64))] [.i .i64] (fun x=>pH x.1 x.2.1 x.2.2.1) [O5] [GH] (by kernel_rfl) fun x=>by simp only[pH,tm]; kernel_rfl
abbrev w6:LX:=⟨⟨[(0, .cl (.ro (.st .place))),(3, .cl (.int .i64)),(9, .cl (.own 0 (.i .i64))),(10, .cl (.own 1 (.i .i64)))],[],[.i .i64, .i .i64],0,52⟩,[(.ret,⟨[(8, .cl (.own 0 (.i .i64))),(9, .cl (.own 0 (.i .i64)))],[],[.i .i64],0,52⟩),(.ext 0,⟨[(8, .cl (.dead)),(9, .cl (.own 0 (.i .i64)))],[],[.i .i64],0,52⟩)],[],[0,3,9,10],[8,9]⟩
def jK (s: (List eN×Int×Unit×Unit×Unit)×Unit×List Int×List Int×Unit):w6.R:=
 br (decide ((s.2.2.1.length:Int)<s.1.2.1)) ((pH s.1.1 s.2.2.1 s.2.2.2.1).bind fun y11=>br (decide (y11.1<0)) (some (.inr (.inl (((),(),()),(()),s.2.2.1,())))) ((n8 s.2.2.1 y11.1).bind fun y12=>some (.inl (s.1,(()),y12.1,s.2.2.2)))) (some (.inr (.inr (((),(),()),(()),s.2.2.1,()))))
def mL:=gQ jK
def Dz:=jP Tryz.f108 [0] w6 jK [Dg,zh] [] (by kernel_rfl) fun s=>by simp only[jK,tm]; kernel_rfl
def oK (a0:List eN) (a1:List Int) (a2:List Int) (a3:Int):Option ((List Int)×Unit):=
 (jJ a1 a2).bind fun y1=>(j9 ([0,1,2,3,4]:List Int) a2).bind fun y2=>(ii a0).bind fun y3=>br (!y3.1) (some (([]:List Int),())) ((gF a1).bind fun y4=>br (!y4.1) (some (([]:List Int),())) ((gF a2).bind fun y5=>br (!y5.1) (some (([]:List Int),())) ((eT a3 0 5).bind fun y6=>br (!y6.1) (some (([]:List Int),())) ((mL ((a0,a3,(),(),()),(()),y1.1,y2.1,())).bind fun e13=>Sum.elim (fun e13_0=>some e13_0.2.2) (fun e13_1=>some e13_1.2.2) e13))))
def GI:=eV 108 Tryz.f108 [.ty (.ls (.st .place)), .ty (.ls (.i .i64)), .ty (.ls (.i .i64)), .ty (.i .i64)] [.ls (.i .i64)] (fun x=>oK x.1 x.2.1 x.2.2.1 x.2.2.2.1) [sx,vU,uU,sY,ig] [Dz] (by kernel_rfl) fun x=>by simp only[oK,tm]; kernel_rfl
abbrev t7:LX:=⟨⟨[(1, .cl (.int .i64)),(2, .cl (.int .i64)),(3, .cl (.ptr 0 0)),(6, .cl (.ptr 1 0)),(8, .cl (.own 0 (.i .i64))),(9, .cl (.ptr 2 0)),(11, .cl (.own 1 (.i .i64))),(12, .cl (.int .i64))],[[.int .i64, .ro (.st .server), .ro (.i .i64), .ro (.st .config), .int .i64, .int .i64, .int .i64, .int .i64, .int .i64, .ro (.st .place)],[.int .i64, .int .i64, .em, .em],[.int .i64, .int .i64, .own 2 (.i .i64), .own 3 (.i .i64)]],[.i .i64, .i .i64, .i .i64, .i .i64],0,132⟩,[(.ext 0,⟨[(1, .cl (.int .i64)),(2, .cl (.int .i64)),(3, .cl (.ptr 0 0)),(6, .cl (.ptr 1 0)),(8, .cl (.own 0 (.i .i64))),(9, .cl (.ptr 2 0)),(11, .cl (.own 1 (.i .i64)))],[[.int .i64, .ro (.st .server), .ro (.i .i64), .ro (.st .config), .int .i64, .int .i64, .int .i64, .int .i64, .int .i64, .ro (.st .place)],[.int .i64, .int .i64, .em, .em],[.int .i64, .int .i64, .own 2 (.i .i64), .own 3 (.i .i64)]],[.i .i64, .i .i64, .i .i64, .i .i64],0,132⟩)],[],[1,2,3,6,8,9,11,12],[1,2,3,6,8,9,11]⟩
def lW (s: (Int×Int×Unit×Unit×Unit×Unit×Unit×Int×Unit)×((Int×List eo×List Int×List ej×Int×Int×Int×Int×Int×List eN×Unit)×(Int×Int×Unit×Unit×Unit)×(Int×Int×Unit×Unit×Unit)×Unit)×List Int×List Int×List Int×List Int×Unit):t7.R:=
 br (decide (s.1.2.2.2.2.2.2.2.1< (s.2.2.2.2.1.length:Int))) (eh (0<=s.1.2.2.2.2.2.2.2.1/\s.1.2.2.2.2.2.2.2.1< (s.2.2.2.2.1.length:Int)) ((s.2.2.2.2.1[s.1.2.2.2.2.2.2.2.1.toNat]?).bind fun x27=>(gr s.2.2.1 x27).bind fun y28=>let j33 (p32:List Int):t7.R:=some (.inl ((s.1.1,s.1.2.1,(),(),(),(),(),(IntKind.wrap .i64 (s.1.2.2.2.2.2.2.2.1+1)),()),s.2.1,s.2.2.1,p32,s.2.2.2.2)); br y28.1 (eh (0<=s.1.2.2.2.2.2.2.2.1/\s.1.2.2.2.2.2.2.2.1< (s.2.2.2.2.1.length:Int)) ((s.2.2.2.2.1[s.1.2.2.2.2.2.2.2.1.toNat]?).bind fun x29=>eh (0<=x29) ((s.2.1.1.2.1[x29.toNat]?).bind fun x30=>br (x30.config.epoch==s.2.1.2.2.1.1) (eh (0<=s.1.2.2.2.2.2.2.2.1/\s.1.2.2.2.2.2.2.2.1< (s.2.2.2.2.1.length:Int)) ((s.2.2.2.2.1[s.1.2.2.2.2.2.2.2.1.toNat]?).bind fun x31=>eh ((s.2.2.2.1++([x31]:List Int)).length*8<=2 ^ 40) (j33 (s.2.2.2.1++([x31]:List Int))) none) none) (j33 s.2.2.2.1)) none) none) (j33 s.2.2.2.1)) none) (some (.inr ((s.1.1,s.1.2.1,(),(),(),(),(),()),s.2)))
def xX:=gQ lW
def Fp:=jP Tryz.f49 [0] t7 lW [lg] [] (by kernel_rfl) fun s=>by simp only[lW,tm]; kernel_rfl
def pX (a0:eg) (a1:Int) (a2:Int):Option (ej×Bool×Unit):=
 (eA a0).bind fun y1=>br (!y1.1) (some ((⟨0,0,([]:List Int),([]:List Int)⟩:ej),false,())) ((eT a1 1 3).bind fun y2=>br (!y2.1) (some ((⟨0,0,([]:List Int),([]:List Int)⟩:ej),false,())) ((eT a2 0 1).bind fun y3=>br (!y3.1) (some ((⟨0,0,([]:List Int),([]:List Int)⟩:ej),false,())) (br ((a0.master.configs.length:Int)==20) (some ((⟨0,0,([]:List Int),([]:List Int)⟩:ej),false,())) ((tZ a0).bind fun y4=>(gg a0.master).bind fun y5=>(xX ((a1,a2,(),(),(),(),(),0,()),((a0.now,a0.servers,a0.sides,a0.master.configs,a0.master.activated,a0.masterUp,a0.lease.epoch,a0.lease.holder,a0.lease.ends,a0.places,()),(0,0,(),(),()),(y5.1.epoch,y5.1.primary,(),(),()),()),y4.1,([]:List Int),y5.1.replicas,y5.1.witnesses,())).bind fun e34=>(oK e34.2.1.1.2.2.2.2.2.2.2.2.2.1 e34.2.2.2.1 e34.2.2.1 e34.1.1).bind fun y35=>br ((y35.1.length:Int)==0) (some ((⟨0,0,([]:List Int),([]:List Int)⟩:ej),false,())) (eh (0<=(0:Int)/\(0:Int)< (y35.1.length:Int)) ((y35.1[(0:Int).toNat]?).bind fun x36=>(gr y35.1 e34.2.1.2.2.1.2.1).bind fun y37=>let j43 (p39:Int):Option (ej×Bool×Unit):=br (e34.1.2.1==1) ((j9 ([0,1,2,3,4]:List Int) e34.2.2.1).bind fun y40=>(pH e34.2.1.1.2.2.2.2.2.2.2.2.2.1 y35.1 y40.1).bind fun y41=>br (decide (y41.1≥0)) (some ((⟨(IntKind.wrap .i64 ((e34.2.1.1.2.2.2.1.length:Int)+1)),p39,y35.1,([y41.1]:List Int)⟩:ej),true,())) (some ((⟨(IntKind.wrap .i64 ((e34.2.1.1.2.2.2.1.length:Int)+1)),p39,y35.1,([]:List Int)⟩:ej),true,()))) (some ((⟨(IntKind.wrap .i64 ((e34.2.1.1.2.2.2.1.length:Int)+1)),p39,y35.1,([]:List Int)⟩:ej),true,())); br y37.1 ((qU (⟨e34.2.1.2.2.1.1,e34.2.1.2.2.1.2.1,e34.2.2.2.2.1,e34.2.2.2.2.2.1⟩:ej)).bind fun y38=>br (!y38.1) (j43 e34.2.1.2.2.1.2.1) (j43 x36)) (j43 x36)) none)))))
def I0:=eV 49 Tryz.f49 [.ty (.st .cluster), .ty (.i .i64), .ty (.i .i64)] [.st .config, .b] (fun x=>pX x.1 x.2.1 x.2.2.1) [fu,ig,MN,mJ,lg,GI,Cw,vU,Dg] [Fp] (by kernel_rfl) fun x=>by simp only[pX,tm]; kernel_rfl
def mM (a0:ev) (a1:ej):Option (ev×Bool×Unit):=
 (qS a0).bind fun y1=>(fL a0).bind fun y2=>br (!y2.1) (some (y1.1,false,())) ((eL a1).bind fun y3=>br (!y3.1) (some (y1.1,false,())) (br (!(a1.epoch==(IntKind.wrap .i64 ((a0.configs.length:Int)+1)))) (some (y1.1,false,())) ((lS a1).bind fun y4=>eh ((y1.1.configs++([y4.1]:List ej)).length*64<=2 ^ 40) (some ((⟨(y1.1.configs++([y4.1]:List ej)),y1.1.activated⟩:ev),true,())) none)))
def DA:=eV 111 Tryz.f111 [.ty (.st .masterLog), .ty (.st .config)] [.st .masterLog, .b] (fun x=>mM x.1 x.2.1) [Ct,rv,o7,xR] [] (by kernel_rfl) fun x=>by simp only[mM,tm]; kernel_rfl
def oM (a0:eg) (a1:ej):Option (eg×Int×Unit):=
 (jZ a0).bind fun y1=>(eA a0).bind fun y2=>br (!y2.1) (some (y1.1,1,())) (br (decide ((IntKind.wrap .i64 (a0.masterUp*2))<=3)) (some (y1.1,8,())) ((mM a0.master a1).bind fun y3=>br (!y3.2.1) (some (y1.1,1,())) (some ((⟨y1.1.now,y1.1.servers,y1.1.sides,y3.1,y1.1.masterUp,y1.1.lease,y1.1.places⟩:eg),0,()))))
def GJ:=eV 50 Tryz.f50 [.ty (.st .cluster), .ty (.st .config)] [.st .cluster, .i .i64] (fun x=>oM x.1 x.2.1) [nZ,fu,DA] [] (by kernel_rfl) fun x=>by simp only[oM,tm]; kernel_rfl
def qW (a0:fW):Option (Int×Unit):=
 (mW a0).bind fun y1=>br (!y1.1) (some (0,())) (br (a0.ends==0) (some (0,())) (some ((IntKind.wrap .i64 (a0.ends+3)),())))
def Fq:=eV 51 Tryz.f51 [.ty (.st .lease)] [.i .i64] (fun x=>qW x.1) [zi] [] (by kernel_rfl) fun x=>by simp only[qW,tm]; kernel_rfl
def t8 (a0:eg) (a1:Int):Option (eg×Int×Unit):=
 (jZ a0).bind fun y1=>(eA a0).bind fun y2=>br (!y2.1) (some (y1.1,1,())) ((eT a1 0 (IntKind.wrap .i64 (999-a0.now))).bind fun y3=>br (!y3.1) (some (y1.1,1,())) (some ((⟨(IntKind.wrap .i64 (a0.now+a1)),y1.1.servers,y1.1.sides,y1.1.master,y1.1.masterUp,y1.1.lease,y1.1.places⟩:eg),0,())))
def MP:=eV 52 Tryz.f52 [.ty (.st .cluster), .ty (.i .i64)] [.st .cluster, .i .i64] (fun x=>t8 x.1 x.2.1) [nZ,fu,ig] [] (by kernel_rfl) fun x=>by simp only[t8,tm]; kernel_rfl
def pY (a0:ev):Option (ej×Bool×Unit):=
 (lA a0 (a0.configs.length:Int)).bind fun y1=>some (y1.1,y1.2.1,())
def I1:=eV 112 Tryz.f112 [.ty (.st .masterLog)] [.st .config, .b] (fun x=>pY x.1) [AI] [] (by kernel_rfl) fun x=>by simp only[pY,tm]; kernel_rfl
def lB (a0:fW) (a1:Int):Option (Bool×Unit):=
 (mW a0).bind fun y1=>br y1.1 ((eT a1 0 999).bind fun y2=>br y2.1 ((qW a0).bind fun y3=>some ((decide (a1≥y3.1)),())) (some (false,()))) (some (false,()))
def zP:=eV 113 Tryz.f113 [.ty (.st .lease), .ty (.i .i64)] [.b] (fun x=>lB x.1 x.2.1) [zi,ig,Fq] [] (by kernel_rfl) fun x=>by simp only[lB,tm]; kernel_rfl
def pZ (a0:eo) (a1:Int):Option (eo×Bool×Unit):=
 (kJ a0).bind fun y1=>(eT a1 1 20).bind fun y2=>br (!y2.1) (some (y1.1,false,())) (br (decide (a1<=a0.epoch)) (some (y1.1,false,())) (br (decide (a0.epoch<0)) (some (y1.1,false,())) (some ((⟨y1.1.up,y1.1.intact,y1.1.version,a1,y1.1.config,y1.1.first,y1.1.log,y1.1.commit,y1.1.learned⟩:eo),true,()))))
def I2:=eV 198 Tryz.f198 [.ty (.st .server), .ty (.i .i64)] [.st .server, .b] (fun x=>pZ x.1 x.2.1) [Cr,ig] [] (by kernel_rfl) fun x=>by simp only[pZ,tm]; kernel_rfl
abbrev sy:LX:=⟨⟨[(1, .cl (.int .i64)),(2, .cl (.int .i64)),(3, .cl (.ptr 0 0)),(6, .cl (.ptr 1 0)),(7, .cl (.ptr 2 0)),(10, .cl (.own 0 (.i .i64))),(11, .cl (.int .i64))],[[.int .i64, .ro (.st .server), .ro (.i .i64), .ro (.st .config), .int .i64, .int .i64, .int .i64, .int .i64, .int .i64, .ro (.st .place)],[.int .i64, .em, .em, .em, .int .i64, .int .i64, .int .i64, .int .i64, .int .i64, .em],[.int .i64, .own 1 (.st .server), .own 2 (.i .i64), .own 3 (.st .config), .int .i64, .int .i64, .int .i64, .int .i64, .int .i64, .own 4 (.st .place)]],[.i .i64, .st .server, .i .i64, .st .config, .st .place],0,85⟩,[(.ext 0,⟨[(6, .cl (.ptr 0 0)),(7, .cl (.ptr 1 0))],[[.int .i64, .em, .em, .em, .int .i64, .int .i64, .int .i64, .int .i64, .int .i64, .em],[.int .i64, .own 0 (.st .server), .own 1 (.i .i64), .own 2 (.st .config), .int .i64, .int .i64, .int .i64, .int .i64, .int .i64, .own 3 (.st .place)]],[.st .server, .i .i64, .st .config, .st .place],0,85⟩)],[],[1,2,3,6,7,10,11],[6,7]⟩
def kK (s: (Int×Int×Unit×Unit×Unit×Unit×Int×Unit)×((Int×List eo×List Int×List ej×Int×Int×Int×Int×Int×List eN×Unit)×(Int×Unit×Unit×Unit×Int×Int×Int×Int×Int×Unit×Unit)×(Int×Unit×Unit×Unit×Int×Int×Int×Int×Int×Unit×Unit)×Unit)×List Int×List eo×List Int×List ej×List eN×Unit):sy.R:=
 br (decide (s.1.2.2.2.2.2.2.1< (s.2.2.1.length:Int))) (eh (0<=s.1.2.2.2.2.2.2.1/\s.1.2.2.2.2.2.2.1< (s.2.2.1.length:Int)) ((s.2.2.1[s.1.2.2.2.2.2.2.1.toNat]?).bind fun x36=>eh (0<=x36) ((s.2.1.1.2.1[x36.toNat]?).bind fun x37=>let j47 (p46:List eo):sy.R:=some (.inl ((s.1.1,s.1.2.1,(),(),(),(),(IntKind.wrap .i64 (s.1.2.2.2.2.2.2.1+1)),()),s.2.1,s.2.2.1,p46,s.2.2.2.2)); br x37.up (eh (0<=s.1.2.2.2.2.2.2.1/\s.1.2.2.2.2.2.2.1< (s.2.2.1.length:Int)) ((s.2.2.1[s.1.2.2.2.2.2.2.1.toNat]?).bind fun x38=>(mC s.2.1.1.2.2.1 s.1.1 x38).bind fun y39=>br y39.1 (eh (0<=s.1.2.2.2.2.2.2.1/\s.1.2.2.2.2.2.2.1< (s.2.2.1.length:Int)) ((s.2.2.1[s.1.2.2.2.2.2.2.1.toNat]?).bind fun x40=>eh (0<=s.1.2.2.2.2.2.2.1/\s.1.2.2.2.2.2.2.1< (s.2.2.1.length:Int)) ((s.2.2.1[s.1.2.2.2.2.2.2.1.toNat]?).bind fun x41=>eh (0<=x41) ((s.2.1.1.2.1[x41.toNat]?).bind fun x42=>(pZ x42 s.1.2.1).bind fun y43=>eh (0<=x40/\x40< (s.2.2.2.1.length:Int)) ((s.2.2.2.1[x40.toNat]?).bind fun _=>j47 (s.2.2.2.1.set x40.toNat y43.1)) none) none) none) none) (j47 s.2.2.2.1)) none) (j47 s.2.2.2.1)) none) none) (some (.inr (((),(),()),s.2.1.2,s.2.2.2)))
def w7:=gQ kK
def DB:=jP Tryz.f114 [0] sy kK [tX,I2] [] (by kernel_rfl) fun s=>by simp only[kK,tm]; kernel_rfl
def oO (a0:eg) (a1:Int) (a2:Int):Option (eg×Unit):=
 (jZ a0).bind fun y1=>(gg a0.master).bind fun y2=>(eA a0).bind fun y3=>br (!y3.1) (some (y1.1,())) (br (!y2.2.1) (some (y1.1,())) ((eT a2 1 (a0.master.configs.length:Int)).bind fun y4=>br (!y4.1) (some (y1.1,())) ((jW y2.1).bind fun y5=>(w7 ((a1,a2,(),(),(),(),0,()),((a0.now,a0.servers,a0.sides,a0.master.configs,a0.master.activated,a0.masterUp,a0.lease.epoch,a0.lease.holder,a0.lease.ends,a0.places,()),(0,(),(),(),0,0,0,0,0,(),()),(y1.1.now,(),(),(),y1.1.master.activated,y1.1.masterUp,y1.1.lease.epoch,y1.1.lease.holder,y1.1.lease.ends,(),()),()),y5.1,y1.1.servers,y1.1.sides,y1.1.master.configs,y1.1.places,())).bind fun e48=>some ((⟨e48.2.1.2.1.1,e48.2.2.1,e48.2.2.2.1,(⟨e48.2.2.2.2.1,e48.2.1.2.1.2.2.2.2.1⟩:ev),e48.2.1.2.1.2.2.2.2.2.1,(⟨e48.2.1.2.1.2.2.2.2.2.2.1,e48.2.1.2.1.2.2.2.2.2.2.2.1,e48.2.1.2.1.2.2.2.2.2.2.2.2.1⟩:fW),e48.2.2.2.2.2.1⟩:eg),()))))
def GK:=eV 114 Tryz.f114 [.ty (.st .cluster), .ty (.i .i64), .ty (.i .i64)] [.st .cluster] (fun x=>oO x.1 x.2.1 x.2.2.1) [nZ,mJ,fu,ig,pF] [DB] (by kernel_rfl) fun x=>by simp only[oO,tm]; kernel_rfl
abbrev t9:LX:=⟨⟨[(1, .cl (.int .i64)),(2, .cl (.ptr 0 0)),(5, .cl (.own 0 (.i .i64))),(6, .cl (.ptr 1 0)),(7, .cl (.bl)),(8, .cl (.int .i64))],[[.int .i64, .ro (.st .server), .ro (.i .i64), .ro (.st .config), .int .i64, .int .i64, .int .i64, .int .i64, .int .i64, .ro (.st .place)],[.int .i64, .int .i64, .own 1 (.i .i64), .own 2 (.i .i64)]],[.i .i64, .i .i64, .i .i64],0,74⟩,[(.ext 0,⟨[(5, .cl (.own 0 (.i .i64)))],[],[.i .i64],0,74⟩)],[],[1,2,5,6,7,8],[5]⟩
def kr (s: (Int×Unit×Unit×Unit×Bool×Int×Unit)×((Int×List eo×List Int×List ej×Int×Int×Int×Int×Int×List eN×Unit)×(Int×Int×Unit×Unit×Unit)×Unit)×List Int×List Int×List Int×Unit):t9.R:=
 br (decide (s.1.2.2.2.2.2.1< (s.2.2.2.1.length:Int))) (br s.1.2.2.2.2.1 ((eA (⟨s.2.1.1.1,s.2.1.1.2.1,s.2.1.1.2.2.1,(⟨s.2.1.1.2.2.2.1,s.2.1.1.2.2.2.2.1⟩:ev),s.2.1.1.2.2.2.2.2.1,(⟨s.2.1.1.2.2.2.2.2.2.1,s.2.1.1.2.2.2.2.2.2.2.1,s.2.1.1.2.2.2.2.2.2.2.2.1⟩:fW),s.2.1.1.2.2.2.2.2.2.2.2.2.1⟩:eg)).bind fun y20=>br y20.1 ((eT s.1.1 0 4).bind fun y21=>br y21.1 (eh (0<=s.1.2.2.2.2.2.1/\s.1.2.2.2.2.2.1< (s.2.2.2.1.length:Int)) ((s.2.2.2.1[s.1.2.2.2.2.2.1.toNat]?).bind fun x22=>eh (0<=x22) ((s.2.1.1.2.1[x22.toNat]?).bind fun x23=>let j28 (p27:List Int):t9.R:=some (.inl ((s.1.1,(),(),(),s.1.2.2.2.2.1,(IntKind.wrap .i64 (s.1.2.2.2.2.2.1+1)),()),s.2.1,p27,s.2.2.2)); br x23.up (br (x23.config.epoch==s.2.1.2.1.1) (eh (0<=s.1.2.2.2.2.2.1/\s.1.2.2.2.2.2.1< (s.2.2.2.1.length:Int)) ((s.2.2.2.1[s.1.2.2.2.2.2.1.toNat]?).bind fun x24=>(mC s.2.1.1.2.2.1 s.1.1 x24).bind fun y25=>br y25.1 (eh (0<=s.1.2.2.2.2.2.1/\s.1.2.2.2.2.2.1< (s.2.2.2.1.length:Int)) ((s.2.2.2.1[s.1.2.2.2.2.2.1.toNat]?).bind fun x26=>eh ((s.2.2.1++([x26]:List Int)).length*8<=2 ^ 40) (j28 (s.2.2.1++([x26]:List Int))) none) none) (j28 s.2.2.1)) none) (j28 s.2.2.1)) (j28 s.2.2.1)) none) none) (some (.inr (((),()),(()),s.2.2.1,())))) (some (.inr (((),()),(()),s.2.2.1,())))) (some (.inr (((),()),(()),s.2.2.1,())))) (some (.inr (((),()),(()),s.2.2.1,())))
def ua:=gQ kr
def Fr:=jP Tryz.f235 [0] t9 kr [fu,ig,tX] [] (by kernel_rfl) fun s=>by simp only[kr,tm]; kernel_rfl
def p6 (a0:eg) (a1:Int):Option ((List Int)×Unit):=
 (gg a0.master).bind fun y1=>(ua ((a1,(),(),(),y1.2.1,0,()),((a0.now,a0.servers,a0.sides,a0.master.configs,a0.master.activated,a0.masterUp,a0.lease.epoch,a0.lease.holder,a0.lease.ends,a0.places,()),(y1.1.epoch,y1.1.primary,(),(),()),()),([]:List Int),y1.1.replicas,y1.1.witnesses,())).bind fun e29=>some e29.2.2
def I3:=eV 235 Tryz.f235 [.ty (.st .cluster), .ty (.i .i64)] [.ls (.i .i64)] (fun x=>p6 x.1 x.2.1) [mJ] [Fr] (by kernel_rfl) fun x=>by simp only[p6,tm]; kernel_rfl
abbrev xY:LX:=⟨⟨[(2, .cl (.ptr 0 0)),(5, .cl (.int .i64)),(6, .cl (.own 0 (.i .i64))),(7, .cl (.int .i64))],[[.int .i64, .ro (.st .server), .ro (.i .i64), .ro (.st .config), .int .i64, .int .i64, .int .i64, .int .i64, .int .i64, .ro (.st .place)]],[.i .i64],0,44⟩,[(.ext 0,⟨[(5, .cl (.int .i64))],[],[],0,44⟩)],[],[2,5,6,7],[5]⟩
def lX (s: (Unit×Int×Unit×Int×Unit)×((Int×List eo×List Int×List ej×Int×Int×Int×Int×Int×List eN×Unit)×Unit)×List Int×Unit):xY.R:=
 br (decide (s.1.2.2.2.1< (s.2.2.1.length:Int))) (br (decide (s.1.2.1<0)) (eh (0<=s.1.2.2.2.1/\s.1.2.2.2.1< (s.2.2.1.length:Int)) ((s.2.2.1[s.1.2.2.2.1.toNat]?).bind fun x15=>some (.inl (((),x15,(),(IntKind.wrap .i64 (s.1.2.2.2.1+1)),()),s.2))) none) (eh (0<=s.1.2.2.2.1/\s.1.2.2.2.1< (s.2.2.1.length:Int)) ((s.2.2.1[s.1.2.2.2.1.toNat]?).bind fun x16=>eh (0<=x16) ((s.2.1.1.2.1[x16.toNat]?).bind fun x17=>eh (0<=s.1.2.1) ((s.2.1.1.2.1[s.1.2.1.toNat]?).bind fun x18=>br (decide ((x17.log.length:Int)>(x18.log.length:Int))) (eh (0<=s.1.2.2.2.1/\s.1.2.2.2.1< (s.2.2.1.length:Int)) ((s.2.2.1[s.1.2.2.2.1.toNat]?).bind fun x19=>some (.inl (((),x19,(),(IntKind.wrap .i64 (s.1.2.2.2.1+1)),()),s.2))) none) (some (.inl (((),s.1.2.1,(),(IntKind.wrap .i64 (s.1.2.2.2.1+1)),()),s.2)))) none) none) none)) (some (.inr ((s.1.2.1,()),(()),(()))))
def xZ:=gQ lX
def Fs:=jP Tryz.f199 [0] xY lX [] [] (by kernel_rfl) fun s=>by simp only[lX,tm]; kernel_rfl
def p7 (a0:eg) (a1:Int):Option (Int×Unit):=
 (p6 a0 a1).bind fun y1=>(xZ (((),(-1),(),0,()),((a0.now,a0.servers,a0.sides,a0.master.configs,a0.master.activated,a0.masterUp,a0.lease.epoch,a0.lease.holder,a0.lease.ends,a0.places,()),()),y1.1,())).bind fun e21=>some e21.1
def I4:=eV 199 Tryz.f199 [.ty (.st .cluster), .ty (.i .i64)] [.i .i64] (fun x=>p7 x.1 x.2.1) [I3] [Fs] (by kernel_rfl) fun x=>by simp only[p7,tm]; kernel_rfl
def kL (a0:eo):Option ((List eu)×Unit):=
 (eT a0.commit a0.first (IntKind.wrap .i64 (a0.first+(a0.log.length:Int)))).bind fun y1=>br (!y1.1) (some (([]:List eu),())) (br (decide (a0.first<0)) (some (([]:List eu),())) (eh (0<=(0:Int)/\(0:Int)<=(IntKind.wrap .i64 (a0.commit-a0.first))/\(IntKind.wrap .i64 (a0.commit-a0.first))<=(a0.log.length:Int)) ((ju ((a0.log.drop (0:Int).toNat).take ((IntKind.wrap .i64 (a0.commit-a0.first)).toNat-(0:Int).toNat))).bind fun y2=>some (y2.1,())) none))
def DC:=eV 256 Tryz.f256 [.ty (.st .server)] [.ls (.st .entry)] (fun x=>kL x.1) [ig,rJ] [] (by kernel_rfl) fun x=>by simp only[kL,tm]; kernel_rfl
def vX (a0:eo) (a1:Int):Option ((List eu)×Unit):=
 (jv a0.config a1).bind fun y1=>(ju a0.learned).bind fun y2=>br (y1.1==1) ((kL a0).bind fun y3=>br (decide ((y3.1.length:Int)>(y2.1.length:Int))) (some (y3.1,())) (some (y2.1,()))) (br (y1.1==2) ((kL a0).bind fun y4=>br (decide ((y4.1.length:Int)>(y2.1.length:Int))) (some (y4.1,())) (some (y2.1,()))) (some (y2.1,())))
def O7:=eV 237 Tryz.f237 [.ty (.st .server), .ty (.i .i64)] [.ls (.st .entry)] (fun x=>vX x.1 x.2.1) [xU,rJ,DC] [] (by kernel_rfl) fun x=>by simp only[vX,tm]; kernel_rfl
def zj (a0:Int) (a1:List eu):Option (Bool×Unit):=
 (iM a1).bind fun y1=>br y1.1 (br (decide ((a1.length:Int)<=3)) ((eT a0 0 (IntKind.wrap .i64 (16-(a1.length:Int)))).bind fun y2=>br y2.1 (br (a0==0) (some (true,())) (some (((a1.length:Int)==3),()))) (some (false,()))) (some (false,()))) (some (false,()))
def O8:=eV 254 Tryz.f254 [.ty (.i .i64), .ty (.ls (.st .entry))] [.b] (fun x=>zj x.1 x.2.1) [wA,ig] [] (by kernel_rfl) fun x=>by simp only[zj,tm]; kernel_rfl
abbrev vY:LX:=⟨⟨[(0, .cl (.ro (.st .entry))),(1, .cl (.ro (.st .entry))),(5, .cl (.int .i64))],[],[],0,30⟩,[(.ext 0,⟨[(5, .cl (.int .i64))],[],[],0,30⟩)],[],[0,1,5],[5]⟩
def ji (s: (List eu×List eu×Int×Unit)×Unit×Unit):vY.R:=
 br (decide (s.1.2.2.1< (s.1.1.length:Int))) (br (decide (s.1.2.2.1< (s.1.2.1.length:Int))) (eh (0<=s.1.2.2.1) ((s.1.1[s.1.2.2.1.toNat]?).bind fun x4=>eh (0<=s.1.2.2.1) ((s.1.2.1[s.1.2.2.1.toNat]?).bind fun x5=>br ((x4.epoch==x5.epoch)&&((x4.op.client==x5.op.client)&&((x4.op.seq==x5.op.seq)&&((x4.op.kind==x5.op.kind)&&((x4.op.object==x5.op.object)&&((x4.op.old==x5.op.old)&&((x4.op.value==x5.op.value)&&true))))))) (some (.inl ((s.1.1,s.1.2.1,(IntKind.wrap .i64 (s.1.2.2.1+1)),()),(()),(())))) (some (.inr (s.1.2.2,(()),(()))))) none) none) (some (.inr (s.1.2.2,(()),(()))))) (some (.inr (s.1.2.2,(()),(()))))
def qX:=gQ ji
def CA:=jP Tryz.f255 [0] vY ji [] [] (by kernel_rfl) fun s=>by simp only[ji,tm]; kernel_rfl
def kt (a0:List eu) (a1:List eu):Option (Int×Unit):=
 (qX ((a0,a1,0,()),(()),(()))).bind fun e6=>some e6.1
def Ft:=eV 255 Tryz.f255 [.ty (.ls (.st .entry)), .ty (.ls (.st .entry))] [.i .i64] (fun x=>kt x.1 x.2.1) [] [CA] (by kernel_rfl) fun x=>by simp only[kt,tm]; kernel_rfl
def ub (a0:List eu) (a1:Int) (a2:List eu):Option ((List eu)×Bool×Unit):=
 (iM a0).bind fun y1=>br (!y1.1) (some (([]:List eu),false,())) ((zj a1 a2).bind fun y2=>br (!y2.1) (some (([]:List eu),false,())) (br (decide (a1>(a0.length:Int))) (some (([]:List eu),false,())) (eh (0<=a1/\a1<=(a0.length:Int)/\(a0.length:Int)<=(a0.length:Int)) ((kt ((a0.drop a1.toNat).take ((a0.length:Int).toNat-a1.toNat)) a2).bind fun y3=>br (decide (y3.1< (if (a2.length:Int)< (IntKind.wrap .i64 ((a0.length:Int)-a1)) then (a2.length:Int) else (IntKind.wrap .i64 ((a0.length:Int)-a1))))) (some (([]:List eu),false,())) ((ju a0).bind fun y4=>eh (0<=y3.1/\y3.1<=(a2.length:Int)/\(a2.length:Int)<=(a2.length:Int)) (eh ((y4.1++((a2.drop y3.1.toNat).take ((a2.length:Int).toNat-y3.1.toNat))).length*56<=2 ^ 40) ((iM (y4.1++((a2.drop y3.1.toNat).take ((a2.length:Int).toNat-y3.1.toNat)))).bind fun y5=>br (!y5.1) (some (([]:List eu),false,())) (some ((y4.1++((a2.drop y3.1.toNat).take ((a2.length:Int).toNat-y3.1.toNat))),true,()))) none) none)) none)))
def MQ:=eV 236 Tryz.f236 [.ty (.ls (.st .entry)), .ty (.i .i64), .ty (.ls (.st .entry))] [.ls (.st .entry), .b] (fun x=>ub x.1 x.2.1 x.2.2.1) [wA,O8,Ft,rJ] [] (by kernel_rfl) fun x=>by simp only[ub,tm]; kernel_rfl
abbrev sA:LX:=⟨⟨[(1, .cl (.int .i64)),(2, .cl (.ptr 0 0)),(6, .cl (.own 0 (.st .entry))),(7, .cl (.bl)),(8, .cl (.ptr 1 0)),(9, .cl (.bl)),(10, .cl (.int .i64)),(11, .cl (.ptr 2 0)),(12, .cl (.int .i64))],[[.int .i64, .ro (.st .server), .ro (.i .i64), .ro (.st .config), .int .i64, .int .i64, .int .i64, .int .i64, .int .i64, .ro (.st .place)],[.int .i64, .int .i64, .own 1 (.i .i64), .own 2 (.i .i64)],[.bl, .bl, .int .i64, .int .i64, .int .i64, .int .i64, .ro (.i .i64), .ro (.i .i64), .int .i64, .ro (.st .entry), .int .i64, .ro (.st .entry)]],[.st .entry, .i .i64, .i .i64],0,121⟩,[(.ext 2,⟨[(1, .cl (.int .i64)),(2, .cl (.ptr 0 0)),(6, .cl (.own 0 (.st .entry))),(7, .cl (.bl)),(8, .cl (.ptr 1 0)),(9, .cl (.bl)),(10, .cl (.int .i64))],[[.int .i64, .ro (.st .server), .ro (.i .i64), .ro (.st .config), .int .i64, .int .i64, .int .i64, .int .i64, .int .i64, .ro (.st .place)],[.int .i64, .int .i64, .own 1 (.i .i64), .own 2 (.i .i64)]],[.st .entry, .i .i64, .i .i64],0,121⟩)],[],[1,2,6,7,8,9,10,11,12],[1,2,6,7,8,9,10]⟩
def kM (s: (Int×Unit×Unit×Bool×Unit×Bool×Int×Unit×Int×Unit)×((Int×List eo×List Int×List ej×Int×Int×Int×Int×Int×List eN×Unit)×(Int×Int×Unit×Unit×Unit)×(Bool×Bool×Int×Int×Int×Int×List Int×List Int×Int×List eu×Int×List eu×Unit)×Unit)×List eu×List Int×List Int×Unit):sA.R:=
 br (decide (s.1.2.2.2.2.2.2.2.2.1<5)) (eh (0<=s.1.2.2.2.2.2.2.2.2.1) ((s.2.1.1.2.1[s.1.2.2.2.2.2.2.2.2.1.toNat]?).bind fun x59=>let j66 (p64:List eu) (p65:Bool):sA.R:=some (.inl ((s.1.1,(),(),p65,(),s.1.2.2.2.2.2.1,s.1.2.2.2.2.2.2.1,(),(IntKind.wrap .i64 (s.1.2.2.2.2.2.2.2.2.1+1)),()),s.2.1,p64,s.2.2.2)); br (!x59.up) (j66 s.2.2.1 s.1.2.2.2.1) ((mC s.2.1.1.2.2.1 s.1.1 s.1.2.2.2.2.2.2.2.2.1).bind fun y60=>br (!y60.1) (j66 s.2.2.1 s.1.2.2.2.1) (eh (0<=s.1.2.2.2.2.2.2.2.2.1) ((s.2.1.1.2.1[s.1.2.2.2.2.2.2.2.2.1.toNat]?).bind fun x61=>(vX x61 s.1.2.2.2.2.2.2.2.2.1).bind fun y62=>(ub y62.1 s.2.1.2.2.1.2.2.2.2.2.2.2.2.1 s.2.1.2.2.1.2.2.2.2.2.2.2.2.2.1).bind fun y63=>br y63.2.1 (br (!s.1.2.2.2.1) (j66 y63.1 true) (br (decide ((y63.1.length:Int)>(s.2.2.1.length:Int))) (j66 y63.1 true) (j66 s.2.2.1 s.1.2.2.2.1))) (j66 s.2.2.1 s.1.2.2.2.1)) none))) none) (some (.inr ((s.1.1,(),(),s.1.2.2.2.1,(),s.1.2.2.2.2.2.1,s.1.2.2.2.2.2.2.1,()),(s.2.1.1,s.2.1.2.1,()),s.2.2)))
def w8:=gQ kM
def DD:=jP Tryz.f200 [0,0] sA kM [tX,O7,MQ] [] (by kernel_rfl) fun s=>by simp only[kM,tm]; kernel_rfl
abbrev x0:LX:=⟨⟨[(1, .cl (.int .i64)),(2, .cl (.ptr 0 0)),(6, .cl (.own 0 (.st .entry))),(7, .cl (.bl)),(8, .cl (.ptr 1 0)),(9, .cl (.bl)),(10, .cl (.int .i64))],[[.int .i64, .ro (.st .server), .ro (.i .i64), .ro (.st .config), .int .i64, .int .i64, .int .i64, .int .i64, .int .i64, .ro (.st .place)],[.int .i64, .int .i64, .own 1 (.i .i64), .own 2 (.i .i64)]],[.st .entry, .i .i64, .i .i64],0,121⟩,[(.ext 0,⟨[(6, .cl (.own 0 (.st .entry))),(7, .cl (.bl))],[],[.st .entry],0,121⟩)],[],[1,2,6,7,8,9,10],[6,7]⟩
def ku (s: (Int×Unit×Unit×Bool×Unit×Bool×Int×Unit)×((Int×List eo×List Int×List ej×Int×Int×Int×Int×Int×List eN×Unit)×(Int×Int×Unit×Unit×Unit)×Unit)×List eu×List Int×List Int×Unit):x0.R:=
 br (decide (s.1.2.2.2.2.2.2.1< (s.2.2.2.2.1.length:Int))) (br s.1.2.2.2.2.2.1 ((eA (⟨s.2.1.1.1,s.2.1.1.2.1,s.2.1.1.2.2.1,(⟨s.2.1.1.2.2.2.1,s.2.1.1.2.2.2.2.1⟩:ev),s.2.1.1.2.2.2.2.2.1,(⟨s.2.1.1.2.2.2.2.2.2.1,s.2.1.1.2.2.2.2.2.2.2.1,s.2.1.1.2.2.2.2.2.2.2.2.1⟩:fW),s.2.1.1.2.2.2.2.2.2.2.2.2.1⟩:eg)).bind fun y21=>br y21.1 ((eT s.1.1 0 4).bind fun y22=>br y22.1 (eh (0<=s.1.2.2.2.2.2.2.1/\s.1.2.2.2.2.2.2.1< (s.2.2.2.2.1.length:Int)) ((s.2.2.2.2.1[s.1.2.2.2.2.2.2.1.toNat]?).bind fun x23=>eh (0<=x23) ((s.2.1.1.2.1[x23.toNat]?).bind fun x24=>br (!x24.up) (some (.inl ((s.1.1,(),(),s.1.2.2.2.1,(),s.1.2.2.2.2.2.1,(IntKind.wrap .i64 (s.1.2.2.2.2.2.2.1+1)),()),s.2))) (br (!(x24.config.epoch==s.2.1.2.1.1)) (some (.inl ((s.1.1,(),(),s.1.2.2.2.1,(),s.1.2.2.2.2.2.1,(IntKind.wrap .i64 (s.1.2.2.2.2.2.2.1+1)),()),s.2))) (eh (0<=s.1.2.2.2.2.2.2.1/\s.1.2.2.2.2.2.2.1< (s.2.2.2.2.1.length:Int)) ((s.2.2.2.2.1[s.1.2.2.2.2.2.2.1.toNat]?).bind fun x25=>(mC s.2.1.1.2.2.1 s.1.1 x25).bind fun y26=>br (!y26.1) (some (.inl ((s.1.1,(),(),s.1.2.2.2.1,(),s.1.2.2.2.2.2.1,(IntKind.wrap .i64 (s.1.2.2.2.2.2.2.1+1)),()),s.2))) ((w8 ((s.1.1,(),(),s.1.2.2.2.1,(),s.1.2.2.2.2.2.1,s.1.2.2.2.2.2.2.1,(),0,()),(s.2.1.1,s.2.1.2.1,(x24.up,x24.intact,x24.version,x24.epoch,x24.config.epoch,x24.config.primary,x24.config.replicas,x24.config.witnesses,x24.first,x24.log,x24.commit,x24.learned,()),()),s.2.2)).bind fun e67=>some (.inl ((e67.1.1,(),(),e67.1.2.2.2.1,(),e67.1.2.2.2.2.2.1,(IntKind.wrap .i64 (e67.1.2.2.2.2.2.2.1+1)),()),e67.2)))) none))) none) none) (some (.inr (((),s.1.2.2.2.1,()),(()),s.2.2.1,())))) (some (.inr (((),s.1.2.2.2.1,()),(()),s.2.2.1,())))) (some (.inr (((),s.1.2.2.2.1,()),(()),s.2.2.1,())))) (some (.inr (((),s.1.2.2.2.1,()),(()),s.2.2.1,())))
def uc:=gQ ku
def Fu:=jP Tryz.f200 [0] x0 ku [fu,ig,tX] [DD] (by kernel_rfl) fun s=>by simp only[ku,tm]; kernel_rfl
def p8 (a0:eg) (a1:Int):Option ((List eu)×Bool×Unit):=
 (gg a0.master).bind fun y1=>(uc ((a1,(),(),false,(),y1.2.1,0,()),((a0.now,a0.servers,a0.sides,a0.master.configs,a0.master.activated,a0.masterUp,a0.lease.epoch,a0.lease.holder,a0.lease.ends,a0.places,()),(y1.1.epoch,y1.1.primary,(),(),()),()),([]:List eu),y1.1.replicas,y1.1.witnesses,())).bind fun e87=>some (e87.2.2.1,e87.1.2)
def I5:=eV 200 Tryz.f200 [.ty (.st .cluster), .ty (.i .i64)] [.ls (.st .entry), .b] (fun x=>p8 x.1 x.2.1) [mJ] [Fu] (by kernel_rfl) fun x=>by simp only[p8,tm]; kernel_rfl
def rM (a0:eg) (a1:Int):Option ((List eu)×Bool×Unit):=
 (eA a0).bind fun y1=>br (!y1.1) (some (([]:List eu),false,())) ((eT a1 0 4).bind fun y2=>br (!y2.1) (some (([]:List eu),false,())) (br (a0.master.activated==0) (some (([]:List eu),true,())) ((p7 a0 a1).bind fun y3=>br (decide (y3.1≥0)) (eh (0<=y3.1) ((a0.servers[y3.1.toNat]?).bind fun x4=>(ju x4.log).bind fun y5=>some (y5.1,true,())) none) ((p8 a0 a1).bind fun y6=>some (y6.1,y6.2.1,())))))
def Lc:=eV 115 Tryz.f115 [.ty (.st .cluster), .ty (.i .i64)] [.ls (.st .entry), .b] (fun x=>rM x.1 x.2.1) [fu,ig,I4,rJ,I5] [] (by kernel_rfl) fun x=>by simp only[rM,tm]; kernel_rfl
def m0 (a0:Op):Option (Bool×Unit):=
 some ((a0.kind==2),())
def zQ:=eV 167 Tryz.f167 [.ty (.st .op)] [.b] (fun x=>m0 x.1) [] [] (by kernel_rfl) fun x=>by simp only[m0,tm]; kernel_rfl
abbrev vZ:LX:=⟨⟨[(0, .cl (.ro (.st .entry))),(3, .cl (.int .i64))],[],[],0,16⟩,[(.ret,⟨[(2, .cl (.bl))],[],[],0,16⟩),(.ext 0,⟨[(2, .cl (.dead))],[],[],0,16⟩)],[],[0,3],[2]⟩
def ka (s: (List eu×Int×Unit)×Unit×Unit):vZ.R:=
 br (decide (s.1.2.1< (s.1.1.length:Int))) (eh (0<=s.1.2.1) ((s.1.1[s.1.2.1.toNat]?).bind fun x3=>(m0 x3.op).bind fun y4=>br y4.1 (some (.inr (.inl ((true,()),(()),(()))))) (some (.inl ((s.1.1,(IntKind.wrap .i64 (s.1.2.1+1)),()),(()),(()))))) none) (some (.inr (.inr (((),()),(()),(())))))
def qY:=gQ ka
def CB:=jP Tryz.f116 [0] vZ ka [zQ] [] (by kernel_rfl) fun s=>by simp only[ka,tm]; kernel_rfl
def kv (a0:List eu):Option (Bool×Unit):=
 (qY ((a0,0,()),(()),(()))).bind fun e5=>Sum.elim (fun e5_0=>some e5_0.1) (fun _=>some (false,())) e5
def ya:=eV 116 Tryz.f116 [.ty (.ls (.st .entry))] [.b] (fun x=>kv x.1) [] [CB] (by kernel_rfl) fun x=>by simp only[kv,tm]; kernel_rfl
def mN (a0:eo) (a1:ej) (a2:Int) (a3:List eu):Option (eo×Bool×Unit):=
 (jv a1 a2).bind fun y1=>br (y1.1==0) ((kJ a0).bind fun y2=>some (y2.1,false,())) ((iM a3).bind fun y3=>br (!y3.1) ((kJ a0).bind fun y4=>some (y4.1,false,())) ((eT a0.version 1 2).bind fun y5=>br (!y5.1) ((kJ a0).bind fun y6=>some (y6.1,false,())) ((eT a0.epoch 0 a1.epoch).bind fun y7=>br (!y7.1) ((kJ a0).bind fun y8=>some (y8.1,false,())) ((pE a3).bind fun y9=>br (decide (y9.1>a1.epoch)) ((kJ a0).bind fun y10=>some (y10.1,false,())) (let j18:Option (eo×Bool×Unit):=(lS a1).bind fun y13=>(ju a3).bind fun y14=>br (y1.1==3) (eh (0<=(if (IntKind.wrap .i64 ((a3.length:Int)-3))>0 then (IntKind.wrap .i64 ((a3.length:Int)-3)) else 0)/\(if (IntKind.wrap .i64 ((a3.length:Int)-3))>0 then (IntKind.wrap .i64 ((a3.length:Int)-3)) else 0)<=(a3.length:Int)/\(a3.length:Int)<=(a3.length:Int)) ((ju ((a3.drop (if (IntKind.wrap .i64 ((a3.length:Int)-3))>0 then (IntKind.wrap .i64 ((a3.length:Int)-3)) else 0).toNat).take ((a3.length:Int).toNat-(if (IntKind.wrap .i64 ((a3.length:Int)-3))>0 then (IntKind.wrap .i64 ((a3.length:Int)-3)) else 0).toNat))).bind fun y15=>some ((⟨a0.up,true,a0.version,a1.epoch,y13.1,(if (IntKind.wrap .i64 ((a3.length:Int)-3))>0 then (IntKind.wrap .i64 ((a3.length:Int)-3)) else 0),y15.1,(a3.length:Int),([]:List eu)⟩:eo),true,())) none) (some ((⟨a0.up,true,a0.version,a1.epoch,y13.1,0,y14.1,(a3.length:Int),([]:List eu)⟩:eo),true,())); br (a0.version==1) ((kv a3).bind fun y11=>br y11.1 ((kJ a0).bind fun y12=>some (y12.1,false,())) (j18)) (j18))))))
def DE:=eV 117 Tryz.f117 [.ty (.st .server), .ty (.st .config), .ty (.i .i64), .ty (.ls (.st .entry))] [.st .server, .b] (fun x=>mN x.1 x.2.1 x.2.2.1 x.2.2.2.1) [xU,Cr,wA,ig,Cx,ya,xR,rJ] [] (by kernel_rfl) fun x=>by simp only[mN,tm]; kernel_rfl
def lY (a0:ev) (a1:Int):Option (ev×Bool×Unit):=
 (qS a0).bind fun y1=>(fL a0).bind fun y2=>br (!y2.1) (some (y1.1,false,())) (br (!(a1==(a0.configs.length:Int))) (some (y1.1,false,())) (br (decide (a1<=a0.activated)) (some (y1.1,false,())) (some ((⟨y1.1.configs,a1⟩:ev),true,()))))
def CC:=eV 118 Tryz.f118 [.ty (.st .masterLog), .ty (.i .i64)] [.st .masterLog, .b] (fun x=>lY x.1 x.2.1) [Ct,rv] [] (by kernel_rfl) fun x=>by simp only[lY,tm]; kernel_rfl
abbrev zR:LX:=⟨⟨[(1, .cl (.ptr 0 0)),(2, .cl (.ptr 1 0)),(4, .cl (.ptr 2 0)),(5, .cl (.ptr 3 0)),(7, .cl (.own 0 (.st .entry))),(9, .cl (.own 1 (.i .i64))),(10, .cl (.int .i64))],[[.int .i64, .ro (.st .server), .ro (.i .i64), .ro (.st .config), .int .i64, .int .i64, .int .i64, .int .i64, .int .i64, .ro (.st .place)],[.int .i64, .em, .em, .em, .int .i64, .int .i64, .int .i64, .int .i64, .int .i64, .em],[.int .i64, .own 2 (.st .server), .own 3 (.i .i64), .own 4 (.st .config), .int .i64, .int .i64, .int .i64, .int .i64, .int .i64, .own 5 (.st .place)],[.int .i64, .int .i64, .own 6 (.i .i64), .own 7 (.i .i64)]],[.st .entry, .i .i64, .st .server, .i .i64, .st .config, .st .place, .i .i64, .i .i64],0,180⟩,[(.ret,⟨[(1, .cl (.ptr 0 0)),(2, .cl (.ptr 1 0)),(3, .cl (.int .i64)),(4, .cl (.ptr 2 0)),(5, .cl (.ptr 3 0)),(7, .cl (.own 0 (.st .entry))),(9, .cl (.own 1 (.i .i64)))],[[.int .i64, .ro (.st .server), .ro (.i .i64), .ro (.st .config), .int .i64, .int .i64, .int .i64, .int .i64, .int .i64, .ro (.st .place)],[.int .i64, .own 2 (.st .server), .own 3 (.i .i64), .own 4 (.st .config), .int .i64, .int .i64, .int .i64, .int .i64, .int .i64, .own 5 (.st .place)],[.int .i64, .own 2 (.st .server), .own 3 (.i .i64), .own 4 (.st .config), .int .i64, .int .i64, .int .i64, .int .i64, .int .i64, .own 5 (.st .place)],[.int .i64, .int .i64, .own 6 (.i .i64), .own 7 (.i .i64)]],[.st .entry, .i .i64, .st .server, .i .i64, .st .config, .st .place, .i .i64, .i .i64],0,180⟩),(.ext 1,⟨[(1, .cl (.ptr 0 0)),(2, .cl (.ptr 1 0)),(3, .cl (.dead)),(4, .cl (.ptr 2 0)),(5, .cl (.ptr 3 0)),(7, .cl (.own 0 (.st .entry))),(9, .cl (.own 1 (.i .i64)))],[[.int .i64, .ro (.st .server), .ro (.i .i64), .ro (.st .config), .int .i64, .int .i64, .int .i64, .int .i64, .int .i64, .ro (.st .place)],[.int .i64, .em, .em, .em, .int .i64, .int .i64, .int .i64, .int .i64, .int .i64, .em],[.int .i64, .own 2 (.st .server), .own 3 (.i .i64), .own 4 (.st .config), .int .i64, .int .i64, .int .i64, .int .i64, .int .i64, .own 5 (.st .place)],[.int .i64, .int .i64, .own 6 (.i .i64), .own 7 (.i .i64)]],[.st .entry, .i .i64, .st .server, .i .i64, .st .config, .st .place, .i .i64, .i .i64],0,180⟩)],[],[1,2,4,5,7,9,10],[1,2,3,4,5,7,9]⟩
def m8 (s: (Unit×Unit×Unit×Unit×Unit×Unit×Int×Unit)×((Int×List eo×List Int×List ej×Int×Int×Int×Int×Int×List eN×Unit)×(Int×Unit×Unit×Unit×Int×Int×Int×Int×Int×Unit×Unit)×(Int×Unit×Unit×Unit×Int×Int×Int×Int×Int×Unit×Unit)×(Int×Int×Unit×Unit×Unit)×Unit)×List eu×List Int×List eo×List Int×List ej×List eN×List Int×List Int×Unit):zR.R:=
 br (decide (s.1.2.2.2.2.2.2.1< (s.2.2.2.1.length:Int))) (eh (0<=s.1.2.2.2.2.2.2.1/\s.1.2.2.2.2.2.2.1< (s.2.2.2.1.length:Int)) ((s.2.2.2.1[s.1.2.2.2.2.2.2.1.toNat]?).bind fun x43=>eh (0<=x43) ((s.2.1.1.2.1[x43.toNat]?).bind fun x44=>br (!x44.up) (some (.inr (.inl (((),(),10,(),(),(),(),()),(s.2.1.1,s.2.1.2.2.1,s.2.1.2.2),s.2.2)))) (eh (0<=s.1.2.2.2.2.2.2.1/\s.1.2.2.2.2.2.2.1< (s.2.2.2.1.length:Int)) ((s.2.2.2.1[s.1.2.2.2.2.2.2.1.toNat]?).bind fun x45=>eh (0<=x45) ((s.2.1.1.2.2.1[x45.toNat]?).bind fun x46=>br (!(x46==0)) (some (.inr (.inl (((),(),10,(),(),(),(),()),(s.2.1.1,s.2.1.2.2.1,s.2.1.2.2),s.2.2)))) (some (.inl (((),(),(),(),(),(),(IntKind.wrap .i64 (s.1.2.2.2.2.2.2.1+1)),()),s.2)))) none) none)) none) none) (some (.inr (.inr (((),(),(),(),(),(),(),()),s.2))))
def vn:=gQ m8
def GL:=jP Tryz.f53 [0] zR m8 [] [] (by kernel_rfl) fun s=>by simp only[m8,tm]; kernel_rfl
abbrev vo:LX:=⟨⟨[(1, .cl (.ptr 0 0)),(2, .cl (.ptr 1 0)),(4, .cl (.ptr 2 0)),(5, .cl (.ptr 3 0)),(7, .cl (.own 0 (.st .entry))),(9, .cl (.own 1 (.i .i64))),(11, .cl (.int .i64))],[[.int .i64, .ro (.st .server), .ro (.i .i64), .ro (.st .config), .int .i64, .int .i64, .int .i64, .int .i64, .int .i64, .ro (.st .place)],[.int .i64, .em, .em, .em, .int .i64, .int .i64, .int .i64, .int .i64, .int .i64, .em],[.int .i64, .own 2 (.st .server), .own 3 (.i .i64), .own 4 (.st .config), .int .i64, .int .i64, .int .i64, .int .i64, .int .i64, .own 5 (.st .place)],[.int .i64, .int .i64, .own 6 (.i .i64), .own 7 (.i .i64)]],[.st .entry, .i .i64, .st .server, .i .i64, .st .config, .st .place, .i .i64, .i .i64],0,180⟩,[(.ret,⟨[(1, .cl (.ptr 0 0)),(2, .cl (.ptr 1 0)),(3, .cl (.int .i64)),(4, .cl (.ptr 2 0)),(5, .cl (.ptr 3 0)),(7, .cl (.own 0 (.st .entry))),(9, .cl (.own 1 (.i .i64)))],[[.int .i64, .ro (.st .server), .ro (.i .i64), .ro (.st .config), .int .i64, .int .i64, .int .i64, .int .i64, .int .i64, .ro (.st .place)],[.int .i64, .own 2 (.st .server), .own 3 (.i .i64), .own 4 (.st .config), .int .i64, .int .i64, .int .i64, .int .i64, .int .i64, .own 5 (.st .place)],[.int .i64, .own 2 (.st .server), .own 3 (.i .i64), .own 4 (.st .config), .int .i64, .int .i64, .int .i64, .int .i64, .int .i64, .own 5 (.st .place)],[.int .i64, .int .i64, .own 6 (.i .i64), .own 7 (.i .i64)]],[.st .entry, .i .i64, .st .server, .i .i64, .st .config, .st .place, .i .i64, .i .i64],0,180⟩),(.ext 3,⟨[(1, .cl (.ptr 0 0)),(2, .cl (.ptr 1 0)),(3, .cl (.dead)),(4, .cl (.ptr 2 0)),(5, .cl (.ptr 3 0)),(7, .cl (.own 0 (.st .entry))),(9, .cl (.own 1 (.i .i64)))],[[.int .i64, .ro (.st .server), .ro (.i .i64), .ro (.st .config), .int .i64, .int .i64, .int .i64, .int .i64, .int .i64, .ro (.st .place)],[.int .i64, .em, .em, .em, .int .i64, .int .i64, .int .i64, .int .i64, .int .i64, .em],[.int .i64, .own 2 (.st .server), .own 3 (.i .i64), .own 4 (.st .config), .int .i64, .int .i64, .int .i64, .int .i64, .int .i64, .own 5 (.st .place)],[.int .i64, .int .i64, .own 6 (.i .i64), .own 7 (.i .i64)]],[.st .entry, .i .i64, .st .server, .i .i64, .st .config, .st .place, .i .i64, .i .i64],0,180⟩)],[],[1,2,4,5,7,9,11],[1,2,3,4,5,7,9]⟩
def jr (s: (Unit×Unit×Unit×Unit×Unit×Unit×Int×Unit)×((Int×List eo×List Int×List ej×Int×Int×Int×Int×Int×List eN×Unit)×(Int×Unit×Unit×Unit×Int×Int×Int×Int×Int×Unit×Unit)×(Int×Unit×Unit×Unit×Int×Int×Int×Int×Int×Unit×Unit)×(Int×Int×Unit×Unit×Unit)×Unit)×List eu×List Int×List eo×List Int×List ej×List eN×List Int×List Int×Unit):vo.R:=
 br (decide (s.1.2.2.2.2.2.2.1< (s.2.2.2.1.length:Int))) (eh (0<=s.1.2.2.2.2.2.2.1/\s.1.2.2.2.2.2.2.1< (s.2.2.2.1.length:Int)) ((s.2.2.2.1[s.1.2.2.2.2.2.2.1.toNat]?).bind fun x81=>eh (0<=x81) ((s.2.1.1.2.1[x81.toNat]?).bind fun x82=>let j84:vo.R:=some (.inl (((),(),(),(),(),(),(IntKind.wrap .i64 (s.1.2.2.2.2.2.2.1+1)),()),s.2)); br (x82.version==1) ((kv s.2.2.1).bind fun y83=>br y83.1 (some (.inr (.inl (((),(),6,(),(),(),(),()),(s.2.1.1,s.2.1.2.2.1,s.2.1.2.2),s.2.2)))) (j84)) (j84)) none) none) (some (.inr (.inr (((),(),(),(),(),(),(),()),s.2))))
def vp:=gQ jr
def GM:=jP Tryz.f53 [1] vo jr [ya] [] (by kernel_rfl) fun s=>by simp only[jr,tm]; kernel_rfl
abbrev zU:LX:=⟨⟨[(1, .cl (.ptr 0 0)),(2, .cl (.ptr 1 0)),(4, .cl (.ptr 2 0)),(5, .cl (.ptr 3 0)),(7, .cl (.own 0 (.st .entry))),(9, .cl (.own 1 (.i .i64))),(12, .cl (.int .i64))],[[.int .i64, .ro (.st .server), .ro (.i .i64), .ro (.st .config), .int .i64, .int .i64, .int .i64, .int .i64, .int .i64, .ro (.st .place)],[.int .i64, .em, .em, .em, .int .i64, .int .i64, .int .i64, .int .i64, .int .i64, .em],[.int .i64, .own 2 (.st .server), .own 3 (.i .i64), .own 4 (.st .config), .int .i64, .int .i64, .int .i64, .int .i64, .int .i64, .own 5 (.st .place)],[.int .i64, .int .i64, .own 6 (.i .i64), .own 7 (.i .i64)]],[.st .entry, .i .i64, .st .server, .i .i64, .st .config, .st .place, .i .i64, .i .i64],0,180⟩,[(.ext 5,⟨[(1, .cl (.ptr 0 0)),(2, .cl (.ptr 1 0)),(4, .cl (.ptr 2 0)),(5, .cl (.ptr 3 0))],[[.int .i64, .ro (.st .server), .ro (.i .i64), .ro (.st .config), .int .i64, .int .i64, .int .i64, .int .i64, .int .i64, .ro (.st .place)],[.int .i64, .em, .em, .em, .int .i64, .int .i64, .int .i64, .int .i64, .int .i64, .em],[.int .i64, .own 0 (.st .server), .own 1 (.i .i64), .own 2 (.st .config), .int .i64, .int .i64, .int .i64, .int .i64, .int .i64, .own 3 (.st .place)],[.int .i64, .int .i64, .own 4 (.i .i64), .own 5 (.i .i64)]],[.st .server, .i .i64, .st .config, .st .place, .i .i64, .i .i64],0,180⟩)],[],[1,2,4,5,7,9,12],[1,2,4,5]⟩
def m9 (s: (Unit×Unit×Unit×Unit×Unit×Unit×Int×Unit)×((Int×List eo×List Int×List ej×Int×Int×Int×Int×Int×List eN×Unit)×(Int×Unit×Unit×Unit×Int×Int×Int×Int×Int×Unit×Unit)×(Int×Unit×Unit×Unit×Int×Int×Int×Int×Int×Unit×Unit)×(Int×Int×Unit×Unit×Unit)×Unit)×List eu×List Int×List eo×List Int×List ej×List eN×List Int×List Int×Unit):zU.R:=
 br (decide (s.1.2.2.2.2.2.2.1< (s.2.2.2.1.length:Int))) (eh (0<=s.1.2.2.2.2.2.2.1/\s.1.2.2.2.2.2.2.1< (s.2.2.2.1.length:Int)) ((s.2.2.2.1[s.1.2.2.2.2.2.2.1.toNat]?).bind fun x119=>eh (0<=s.1.2.2.2.2.2.2.1/\s.1.2.2.2.2.2.2.1< (s.2.2.2.1.length:Int)) ((s.2.2.2.1[s.1.2.2.2.2.2.2.1.toNat]?).bind fun x120=>eh (0<=x120/\x120< (s.2.2.2.2.1.length:Int)) ((s.2.2.2.2.1[x120.toNat]?).bind fun x121=>eh (0<=s.1.2.2.2.2.2.2.1/\s.1.2.2.2.2.2.2.1< (s.2.2.2.1.length:Int)) ((s.2.2.2.1[s.1.2.2.2.2.2.2.1.toNat]?).bind fun x122=>(s.2.2.2.2.1[x120.toNat]?).bind fun x123=>eh (0+x121.config.replicas.length<=x123.config.replicas.length) ((s.2.2.2.2.1[x120.toNat]?).bind fun x124=>eh (0+x121.config.witnesses.length<=x124.config.witnesses.length) ((s.2.2.2.2.1[x120.toNat]?).bind fun x125=>eh (0+x121.log.length<=x125.log.length) ((s.2.2.2.2.1[x120.toNat]?).bind fun x126=>eh (0+x121.learned.length<=x126.learned.length) ((mN (⟨x121.up,x121.intact,x121.version,x121.epoch,(⟨x121.config.epoch,x121.config.primary,((x123.config.replicas.drop 0).take x121.config.replicas.length),((x124.config.witnesses.drop 0).take x121.config.witnesses.length)⟩:ej),x121.first,((x125.log.drop 0).take x121.log.length),x121.commit,((x126.learned.drop 0).take x121.learned.length)⟩:eo) (⟨s.2.1.2.2.2.1.1,s.2.1.2.2.2.1.2.1,s.2.2.2.2.2.2.2.2.1,s.2.2.2.2.2.2.2.2.2.1⟩:ej) x122 s.2.2.1).bind fun y127=>eh (0<=x119/\x119< (s.2.2.2.2.1.length:Int)) ((s.2.2.2.2.1[x119.toNat]?).bind fun _=>some (.inl (((),(),(),(),(),(),(IntKind.wrap .i64 (s.1.2.2.2.2.2.2.1+1)),()),s.2.1,s.2.2.1,s.2.2.2.1,(s.2.2.2.2.1.set x119.toNat y127.1),s.2.2.2.2.2))) none) none) none) none) none) none) none) none) none) (some (.inr (((),(),(),(),()),s.2.1,s.2.2.2.2)))
def zV:=gQ m9
def GN:=jP Tryz.f53 [2] zU m9 [DE] [] (by kernel_rfl) fun s=>by simp only[m9,tm]; kernel_rfl
def ud (a0:eg):Option (eg×Int×Unit):=
 (jZ a0).bind fun y1=>(pY a0.master).bind fun y2=>(eA a0).bind fun y3=>br (!y3.1) (some (y1.1,1,())) (br (!y2.2.1) (some (y1.1,1,())) (br (y2.1.epoch==a0.master.activated) (some (y1.1,1,())) (br (decide ((IntKind.wrap .i64 (a0.masterUp*2))<=3)) (some (y1.1,8,())) (eh (0<=y2.1.primary) ((a0.servers[y2.1.primary.toNat]?).bind fun x4=>br (!x4.up) (some (y1.1,2,())) (eh (0<=y2.1.primary) ((a0.sides[y2.1.primary.toNat]?).bind fun x5=>br (!(x5==0)) (some (y1.1,10,())) ((lB a0.lease a0.now).bind fun y6=>br (!y6.1) (some (y1.1,7,())) ((oO a0 y2.1.primary y2.1.epoch).bind fun y7=>(rM a0 y2.1.primary).bind fun y8=>br (!y8.2.1) (some (y7.1,9,())) ((jW y2.1).bind fun y9=>(vn (((),(),(),(),(),(),0,()),((a0.now,a0.servers,a0.sides,a0.master.configs,a0.master.activated,a0.masterUp,a0.lease.epoch,a0.lease.holder,a0.lease.ends,a0.places,()),(0,(),(),(),0,0,0,0,0,(),()),(y7.1.now,(),(),(),y7.1.master.activated,y7.1.masterUp,y7.1.lease.epoch,y7.1.lease.holder,y7.1.lease.ends,(),()),(y2.1.epoch,y2.1.primary,(),(),()),()),y8.1,y9.1,y7.1.servers,y7.1.sides,y7.1.master.configs,y7.1.places,y2.1.replicas,y2.1.witnesses,())).bind fun e47=>Sum.elim (fun e47_0=>some ((⟨e47_0.2.1.2.1.1,e47_0.2.2.2.2.1,e47_0.2.2.2.2.2.1,(⟨e47_0.2.2.2.2.2.2.1,e47_0.2.1.2.1.2.2.2.2.1⟩:ev),e47_0.2.1.2.1.2.2.2.2.2.1,(⟨e47_0.2.1.2.1.2.2.2.2.2.2.1,e47_0.2.1.2.1.2.2.2.2.2.2.2.1,e47_0.2.1.2.1.2.2.2.2.2.2.2.2.1⟩:fW),e47_0.2.2.2.2.2.2.2.1⟩:eg),e47_0.1.2.2.1,())) (fun e47_1=>(vp (((),(),(),(),(),(),0,()),e47_1.2)).bind fun e85=>Sum.elim (fun e85_0=>some ((⟨e85_0.2.1.2.1.1,e85_0.2.2.2.2.1,e85_0.2.2.2.2.2.1,(⟨e85_0.2.2.2.2.2.2.1,e85_0.2.1.2.1.2.2.2.2.1⟩:ev),e85_0.2.1.2.1.2.2.2.2.2.1,(⟨e85_0.2.1.2.1.2.2.2.2.2.2.1,e85_0.2.1.2.1.2.2.2.2.2.2.2.1,e85_0.2.1.2.1.2.2.2.2.2.2.2.2.1⟩:fW),e85_0.2.2.2.2.2.2.2.1⟩:eg),e85_0.1.2.2.1,())) (fun e85_1=>(zV (((),(),(),(),(),(),0,()),e85_1.2)).bind fun e130=>(lY (⟨e130.2.1.1.2.2.2.1,e130.2.1.1.2.2.2.2.1⟩:ev) e130.2.1.2.2.2.1.1).bind fun y131=>some ((⟨e130.2.1.2.2.1.1,e130.2.2.1,e130.2.2.2.1,y131.1,e130.2.1.2.2.1.2.2.2.2.2.1,(⟨0,0,0⟩:fW),e130.2.2.2.2.2.1⟩:eg),0,())) e85) e47)))) none)) none))))
def MR:=eV 53 Tryz.f53 [.ty (.st .cluster)] [.st .cluster, .i .i64] (fun x=>ud x.1) [nZ,I1,fu,zP,GK,Lc,pF,CC] [GL,GM,GN] (by kernel_rfl) fun x=>by simp only[ud,tm]; kernel_rfl
def uV (a0:eg) (a1:Int):Option (Int×Unit):=
 (eA a0).bind fun y1=>br (!y1.1) (some (1,())) ((eT a1 0 4).bind fun y2=>br (!y2.1) (some (1,())) (eh (0<=a1) ((a0.servers[a1.toNat]?).bind fun x3=>br (!x3.up) (some (2,())) (some (0,()))) none))
def Ld:=eV 119 Tryz.f119 [.ty (.st .cluster), .ty (.i .i64)] [.i .i64] (fun x=>uV x.1 x.2.1) [fu,ig] [] (by kernel_rfl) fun x=>by simp only[uV,tm]; kernel_rfl
def p9 (a0:fW) (a1:Int) (a2:Int) (a3:Int) (a4:Int):Option (fW×Bool×Unit):=
 br (a0.epoch==a1) ((mW a0).bind fun y1=>br (!y1.1) (some (a0,false,())) ((eT a1 1 20).bind fun y2=>br (!y2.1) (some (a0,false,())) ((eT a2 0 4).bind fun y3=>br (!y3.1) (some (a0,false,())) ((eT a3 0 999).bind fun y4=>br (!y4.1) (some (a0,false,())) ((eT a4 1 50).bind fun y5=>br (!y5.1) (some (a0,false,())) ((lB a0 a3).bind fun y6=>br (!y6.1) (br (!(a0.holder==a2)) (some (a0,false,())) (br (a0.holder==a2) (some ((⟨a1,a2,(if a0.ends>(IntKind.wrap .i64 (a3+a4)) then a0.ends else (IntKind.wrap .i64 (a3+a4)))⟩:fW),true,())) (some ((⟨a1,a2,(IntKind.wrap .i64 (a3+a4))⟩:fW),true,())))) (br (a0.holder==a2) (some ((⟨a1,a2,(if a0.ends>(IntKind.wrap .i64 (a3+a4)) then a0.ends else (IntKind.wrap .i64 (a3+a4)))⟩:fW),true,())) (some ((⟨a1,a2,(IntKind.wrap .i64 (a3+a4))⟩:fW),true,()))))))))) ((mW a0).bind fun y10=>br (!y10.1) (some (a0,false,())) ((eT a1 1 20).bind fun y11=>br (!y11.1) (some (a0,false,())) ((eT a2 0 4).bind fun y12=>br (!y12.1) (some (a0,false,())) ((eT a3 0 999).bind fun y13=>br (!y13.1) (some (a0,false,())) ((eT a4 1 50).bind fun y14=>br (!y14.1) (some (a0,false,())) ((lB a0 a3).bind fun y15=>br (!y15.1) (br (!false) (some (a0,false,())) (some ((⟨a1,a2,(IntKind.wrap .i64 (a3+a4))⟩:fW),true,()))) (some ((⟨a1,a2,(IntKind.wrap .i64 (a3+a4))⟩:fW),true,()))))))))
def I6:=eV 120 Tryz.f120 [.ty (.st .lease), .ty (.i .i64), .ty (.i .i64), .ty (.i .i64), .ty (.i .i64)] [.st .lease, .b] (fun x=>p9 x.1 x.2.1 x.2.2.1 x.2.2.2.1 x.2.2.2.2.1) [zi,ig,zP] [] (by kernel_rfl) fun x=>by simp only[p9,tm]; kernel_rfl
def qb (a0:eg) (a1:Int) (a2:Int):Option (eg×Int×Unit):=
 (jZ a0).bind fun y1=>(uV a0 a1).bind fun y2=>br (!(y2.1==0)) (some (y1.1,y2.1,())) (eh (0<=a1) ((a0.servers[a1.toNat]?).bind fun x3=>(gT x3 a1).bind fun y4=>br (!y4.1) (some (y1.1,3,())) (br (decide ((IntKind.wrap .i64 (a0.masterUp*2))<=3)) (some (y1.1,8,())) (eh (0<=a1) ((a0.sides[a1.toNat]?).bind fun x5=>br (!(x5==0)) (some (y1.1,8,())) (br (!(x3.config.epoch==(a0.master.configs.length:Int))) (some (y1.1,11,())) ((p9 a0.lease x3.config.epoch a1 a0.now a2).bind fun y6=>br (!y6.2.1) (some (y1.1,7,())) (some ((⟨y1.1.now,y1.1.servers,y1.1.sides,y1.1.master,y1.1.masterUp,y6.1,y1.1.places⟩:eg),0,()))))) none))) none)
def I7:=eV 54 Tryz.f54 [.ty (.st .cluster), .ty (.i .i64), .ty (.i .i64)] [.st .cluster, .i .i64] (fun x=>qb x.1 x.2.1 x.2.2.1) [nZ,Ld,pV,I6] [] (by kernel_rfl) fun x=>by simp only[qb,tm]; kernel_rfl
def na (a0:eg) (a1:Int) (a2:Int):Option (eg×Int×Unit):=
 (jZ a0).bind fun y1=>(eA a0).bind fun y2=>br (!y2.1) (some (y1.1,1,())) ((eT a2 1 50).bind fun y3=>br (!y3.1) (some (y1.1,1,())) ((rK a0).bind fun y4=>br y4.1 (some (y1.1,0,())) ((pX a0 a1 0).bind fun y5=>br (!y5.2.1) (some (y1.1,10,())) ((oM a0 y5.1).bind fun y6=>br (!(y6.2.1==0)) (some (y1.1,y6.2.1,())) ((qW a0.lease).bind fun y7=>(t8 y6.1 (if (IntKind.wrap .i64 (y7.1-a0.now))>0 then (IntKind.wrap .i64 (y7.1-a0.now)) else 0)).bind fun y8=>br (!(y8.2.1==0)) (some (y1.1,y8.2.1,())) ((ud y8.1).bind fun y9=>br (!(y9.2.1==0)) (some (y9.1,y9.2.1,())) ((qb y9.1 y5.1.primary a2).bind fun y10=>some (y10.1,y10.2.1,()))))))))
def GO:=eV 19 Tryz.f19 [.ty (.st .cluster), .ty (.i .i64), .ty (.i .i64)] [.st .cluster, .i .i64] (fun x=>na x.1 x.2.1 x.2.2.1) [nZ,fu,ig,K9,I0,GJ,Fq,MP,MR,I7] [] (by kernel_rfl) fun x=>by simp only[na,tm]; kernel_rfl
def rN (a0:eg) (a1:Int):Option (eg×Int×Unit):=
 (na a0 a1 50).bind fun y1=>br (y1.2.1==6) ((na y1.1 1 50).bind fun y2=>some (y2.1,y2.2.1,())) (some (y1.1,y1.2.1,()))
def Le:=eV 6 Tryz.f6 [.ty (.st .cluster), .ty (.i .i64)] [.st .cluster, .i .i64] (fun x=>rN x.1 x.2.1) [GO] [] (by kernel_rfl) fun x=>by simp only[rN,tm]; kernel_rfl
abbrev Fv:LX:=⟨⟨[(0, .cl (.ro (.st .entry))),(1, .cl (.int .i64)),(2, .cl (.int .i64)),(7, .cl (.int .i64))],[],[],0,33⟩,[(.ret,⟨[(6, .cl (.int .i64))],[],[],0,33⟩),(.ext 0,⟨[(6, .cl (.dead))],[],[],0,33⟩)],[],[0,1,2,7],[6]⟩
def qZ (s: (List eu×Int×Int×Int×Unit)×Unit×Unit):Fv.R:=
 br (decide (s.1.2.2.2.1< (s.1.1.length:Int))) (eh (0<=s.1.2.2.2.1) ((s.1.1[s.1.2.2.2.1.toNat]?).bind fun x5=>br (x5.op.client==s.1.2.1) (eh (0<=s.1.2.2.2.1) ((s.1.1[s.1.2.2.2.1.toNat]?).bind fun x6=>br (x6.op.seq==s.1.2.2.1) (some (.inr (.inl (s.1.2.2.2,(()),(()))))) (some (.inl ((s.1.1,s.1.2.1,s.1.2.2.1,(IntKind.wrap .i64 (s.1.2.2.2.1+1)),()),(()),(()))))) none) (some (.inl ((s.1.1,s.1.2.1,s.1.2.2.1,(IntKind.wrap .i64 (s.1.2.2.2.1+1)),()),(()),(()))))) none) (some (.inr (.inr (((),()),(()),(())))))
def AM:=gQ qZ
def MS:=jP Tryz.f80 [0] Fv qZ [] [] (by kernel_rfl) fun s=>by simp only[qZ,tm]; kernel_rfl
def v4 (a0:List eu) (a1:Int) (a2:Int):Option (Int×Unit):=
 (AM ((a0,a1,a2,0,()),(()),(()))).bind fun e7=>Sum.elim (fun e7_0=>some e7_0.1) (fun _=>some ((-1),())) e7
def Lf:=eV 80 Tryz.f80 [.ty (.ls (.st .entry)), .ty (.i .i64), .ty (.i .i64)] [.i .i64] (fun x=>v4 x.1 x.2.1 x.2.2.1) [] [MS] (by kernel_rfl) fun x=>by simp only[v4,tm]; kernel_rfl
def sZ:Option (eJ×Unit):=
 some ((⟨([0,0,0]:List Int),([]:List ew)⟩:eJ),())
def I8:=eV 224 Tryz.f224 [] [.st .machine] (fun _=>sZ) [] [] (by kernel_rfl) fun x=>by simp only[sZ,tm]; kernel_rfl
def yb (a0:eJ):Option (eJ×Unit):=
 eh ((([]:List Int)++a0.objects).length*8<=2 ^ 40) (eh ((([]:List ew)++a0.sessions).length*32<=2 ^ 40) (some ((⟨(([]:List Int)++a0.objects),(([]:List ew)++a0.sessions)⟩:eJ),())) none) none
def Ra:=eV 225 Tryz.f225 [.ty (.st .machine)] [.st .machine] (fun x=>yb x.1) [] [] (by kernel_rfl) fun x=>by simp only[yb,tm]; kernel_rfl
abbrev ue:LX:=⟨⟨[(1, .cl (.ptr 0 0)),(3, .cl (.int .i64))],[[.ro (.i .i64), .ro (.st .session)]],[],0,69⟩,[(.ret,⟨[(1, .cl (.ptr 0 0)),(2, .cl (.bl))],[[.ro (.i .i64), .ro (.st .session)]],[],0,69⟩),(.ext 0,⟨[(1, .cl (.ptr 0 0)),(2, .cl (.dead))],[[.ro (.i .i64), .ro (.st .session)]],[],0,69⟩)],[],[1,3],[1,2]⟩
def jj (s: (Unit×Int×Unit)×((List Int×List ew×Unit)×Unit)×Unit):ue.R:=
 br (decide (s.1.2.1< (s.2.1.1.1.length:Int))) (eh (0<=s.1.2.1) ((s.2.1.1.1[s.1.2.1.toNat]?).bind fun x4=>(eT x4 0 9).bind fun y5=>br (!y5.1) (some (.inr (.inl (((),false,()),s.2.1,(()))))) (some (.inl (((),(IntKind.wrap .i64 (s.1.2.1+1)),()),s.2.1,(()))))) none) (some (.inr (.inr (((),(),()),s.2.1,(())))))
def ph:=gQ jj
def AN:=jP Tryz.f226 [0] ue jj [ig] [] (by kernel_rfl) fun s=>by simp only[jj,tm]; kernel_rfl
abbrev uf:LX:=⟨⟨[(1, .cl (.ptr 0 0)),(4, .cl (.int .i64))],[[.ro (.i .i64), .ro (.st .session)]],[],0,69⟩,[(.ret,⟨[(1, .cl (.ptr 0 0)),(2, .cl (.bl))],[[.ro (.i .i64), .ro (.st .session)]],[],0,69⟩),(.ext 2,⟨[(1, .cl (.ptr 0 0)),(2, .cl (.dead))],[[.ro (.i .i64), .ro (.st .session)]],[],0,69⟩)],[],[1,4],[1,2]⟩
def jk (s: (Unit×Int×Unit)×((List Int×List ew×Unit)×Unit)×Unit):uf.R:=
 br (decide (s.1.2.1< (s.2.1.1.2.1.length:Int))) (eh (0<=s.1.2.1) ((s.2.1.1.2.1[s.1.2.1.toNat]?).bind fun x10=>(eT x10.client 0 2).bind fun y11=>br (!y11.1) (some (.inr (.inl (((),false,()),s.2.1,(()))))) ((eT x10.seq 1 99).bind fun y12=>br (!y12.1) (some (.inr (.inl (((),false,()),s.2.1,(()))))) ((eT x10.result.value 0 9).bind fun y13=>br (!y13.1) (some (.inr (.inl (((),false,()),s.2.1,(()))))) (br (decide (s.1.2.1>0)) (eh (0<=(IntKind.wrap .i64 (s.1.2.1-1))) ((s.2.1.1.2.1[(IntKind.wrap .i64 (s.1.2.1-1)).toNat]?).bind fun x14=>br (decide (x14.client≥x10.client)) (some (.inr (.inl (((),false,()),s.2.1,(()))))) (some (.inl (((),(IntKind.wrap .i64 (s.1.2.1+1)),()),s.2.1,(()))))) none) (some (.inl (((),(IntKind.wrap .i64 (s.1.2.1+1)),()),s.2.1,(())))))))) none) (some (.inr (.inr (((),(),()),s.2.1,(())))))
def pi:=gQ jk
def AO:=jP Tryz.f226 [1] uf jk [ig] [] (by kernel_rfl) fun s=>by simp only[jk,tm]; kernel_rfl
def lZ (a0:eJ):Option (Bool×Unit):=
 (ph (((),0,()),((a0.objects,a0.sessions,()),()),(()))).bind fun e6=>Sum.elim (fun e6_0=>some e6_0.1.2) (fun e6_1=>(pi (((),0,()),e6_1.2.1,(()))).bind fun e15=>Sum.elim (fun e15_0=>some e15_0.1.2) (fun e15_1=>some (((e15_1.2.1.1.1.length:Int)==3),())) e15) e6
def CD:=eV 226 Tryz.f226 [.ty (.st .machine)] [.b] (fun x=>lZ x.1) [] [AN,AO] (by kernel_rfl) fun x=>by simp only[lZ,tm]; kernel_rfl
abbrev zW:LX:=⟨⟨[(1, .cl (.int .i64)),(2, .cl (.ptr 0 0)),(4, .cl (.ptr 1 0)),(6, .cl (.int .i64))],[[.ro (.i .i64), .ro (.st .session)],[.int .i64, .int .i64, .bl, .int .i64]],[],0,28⟩,[(.ret,⟨[(4, .cl (.ptr 0 0)),(5, .cl (.bl))],[[.int .i64, .int .i64, .bl, .int .i64]],[],0,28⟩),(.ext 0,⟨[(4, .cl (.ptr 0 0)),(5, .cl (.dead))],[[.int .i64, .int .i64, .bl, .int .i64]],[],0,28⟩)],[],[1,2,4,6],[4,5]⟩
def js (s: (Int×Unit×Unit×Int×Unit)×((List Int×List ew×Unit)×(Int×Int×Bool×Int×Unit)×Unit)×Unit):zW.R:=
 br (decide (s.1.2.2.2.1< (s.2.1.1.2.1.length:Int))) (eh (0<=s.1.2.2.2.1) ((s.2.1.1.2.1[s.1.2.2.2.1.toNat]?).bind fun x9=>br (x9.client==s.1.1) (eh (0<=s.1.2.2.2.1) ((s.2.1.1.2.1[s.1.2.2.2.1.toNat]?).bind fun x10=>some (.inr (.inl (((),true,()),((x10.client,x10.seq,x10.result.done,x10.result.value,()),()),(()))))) none) (some (.inl ((s.1.1,(),(),(IntKind.wrap .i64 (s.1.2.2.2.1+1)),()),s.2.1,(()))))) none) (some (.inr (.inr (((),(),()),s.2.1.2,(())))))
def rx:=gQ js
def GP:=jP Tryz.f227 [0] zW js [] [] (by kernel_rfl) fun s=>by simp only[js,tm]; kernel_rfl
def mu (a0:eJ) (a1:Int):Option (ew×Bool×Unit):=
 (rx ((a1,(),(),0,()),((a0.objects,a0.sessions,()),(0,0,false,0,()),()),(()))).bind fun e11=>Sum.elim (fun e11_0=>some ((⟨e11_0.2.1.1.1,e11_0.2.1.1.2.1,(⟨e11_0.2.1.1.2.2.1,e11_0.2.1.1.2.2.2.1⟩:Result)⟩:ew),e11_0.1.2)) (fun _=>some ((⟨0,0,(⟨false,0⟩:Result)⟩:ew),false,())) e11
def Lg:=eV 227 Tryz.f227 [.ty (.st .machine), .ty (.i .i64)] [.st .session, .b] (fun x=>mu x.1 x.2.1) [] [GP] (by kernel_rfl) fun x=>by simp only[mu,tm]; kernel_rfl
abbrev Bv:LX:=⟨⟨[(3, .cl (.ptr 0 0)),(4, .cl (.ptr 1 0)),(5, .cl (.ptr 2 0)),(7, .cl (.ptr 3 0)),(9, .cl (.bl)),(11, .cl (.ptr 4 0)),(12, .cl (.int .i64))],[[.int .i64, .int .i64, .int .i64, .int .i64, .int .i64, .int .i64],[.em, .em],[.bl, .int .i64],[.own 0 (.i .i64), .own 1 (.st .session)],[.bl, .int .i64]],[.i .i64, .st .session],0,127⟩,[(.ext 0,⟨[(3, .cl (.ptr 0 0)),(4, .cl (.ptr 1 0)),(5, .cl (.ptr 2 0)),(7, .cl (.ptr 3 0)),(9, .cl (.bl)),(11, .cl (.ptr 4 0)),(12, .cl (.int .i64))],[[.int .i64, .int .i64, .int .i64, .int .i64, .int .i64, .int .i64],[.em, .em],[.bl, .int .i64],[.own 0 (.i .i64), .own 1 (.st .session)],[.bl, .int .i64]],[.i .i64, .st .session],0,127⟩)],[],[3,4,5,7,9,11,12],[3,4,5,7,9,11,12]⟩
def oa (s: (Unit×Unit×Unit×Unit×Bool×Unit×Int×Unit)×((Int×Int×Int×Int×Int×Int×Unit)×(Unit×Unit×Unit)×(Bool×Int×Unit)×(Unit×Unit×Unit)×(Bool×Int×Unit)×Unit)×List Int×List ew×Unit):Bv.R:=
 br (decide (s.1.2.2.2.2.2.2.1< (s.2.2.2.1.length:Int))) (eh (0<=s.1.2.2.2.2.2.2.1/\s.1.2.2.2.2.2.2.1< (s.2.2.2.1.length:Int)) ((s.2.2.2.1[s.1.2.2.2.2.2.2.1.toNat]?).bind fun x22=>br (decide (x22.client<s.2.1.1.1)) (some (.inl (((),(),(),(),s.1.2.2.2.2.1,(),(IntKind.wrap .i64 (s.1.2.2.2.2.2.2.1+1)),()),s.2))) (some (.inr s))) none) (some (.inr s))
def wC:=gQ oa
def I9:=jP Tryz.f166 [0] Bv oa [] [] (by kernel_rfl) fun s=>by simp only[oa,tm]; kernel_rfl
def q8 (a0:eJ) (a1:Op):Option (eJ×Result×Bool×Unit):=
 (yb a0).bind fun y1=>(lZ a0).bind fun y2=>br (!y2.1) (some (y1.1,(⟨false,0⟩:Result),false,())) ((iC a1).bind fun y3=>br (!y3.1) (some (y1.1,(⟨false,0⟩:Result),false,())) ((mu a0 a1.client).bind fun y4=>let j45:Option (eJ×Result×Bool×Unit):=let j44:Option (eJ×Result×Bool×Unit):=eh (0<=a1.object) ((a0.objects[a1.object.toNat]?).bind fun x5=>br (a1.kind==1) (eh (0<=a1.object/\a1.object< (y1.1.objects.length:Int)) ((y1.1.objects[a1.object.toNat]?).bind fun _=>(wC (((),(),(),(),y4.2.1,(),0,()),((a1.client,a1.seq,a1.kind,a1.object,a1.old,a1.value,()),((),(),()),(false,0,()),((),(),()),(true,x5,()),()),(y1.1.objects.set a1.object.toNat a1.value),y1.1.sessions,())).bind fun e23=>eh (0<=e23.1.2.2.2.2.2.2.1/\e23.1.2.2.2.2.2.2.1<=(e23.2.2.2.1.length:Int)/\(e23.2.2.2.1.length:Int)<=((e23.2.2.2.1.length:Nat):Int)) (br e23.1.2.2.2.2.1 (eh (0<=(IntKind.wrap .i64 (e23.1.2.2.2.2.2.2.1+1))/\(IntKind.wrap .i64 (e23.1.2.2.2.2.2.2.1+1))<=(e23.2.2.2.1.length:Int)/\(e23.2.2.2.1.length:Int)<=((e23.2.2.2.1.length:Nat):Int)) (eh (0<=(0:Int)/\(0:Int)<=e23.1.2.2.2.2.2.2.1/\e23.1.2.2.2.2.2.2.1<=((e23.2.2.2.1.length:Nat):Int)) (eh ((0+(0:Int).toNat)+(e23.1.2.2.2.2.2.2.1.toNat-(0:Int).toNat)<=e23.2.2.2.1.length) (eh ((([]:List ew)++((e23.2.2.2.1.drop (0+(0:Int).toNat)).take (e23.1.2.2.2.2.2.2.1.toNat-(0:Int).toNat))).length*32<=2 ^ 40) (eh (((([]:List ew)++((e23.2.2.2.1.drop (0+(0:Int).toNat)).take (e23.1.2.2.2.2.2.2.1.toNat-(0:Int).toNat)))++([(⟨e23.2.1.1.1,e23.2.1.1.2.1,(⟨e23.2.1.2.2.2.2.1.1,e23.2.1.2.2.2.2.1.2.1⟩:Result)⟩:ew)]:List ew)).length*32<=2 ^ 40) (eh ((0+(IntKind.wrap .i64 (e23.1.2.2.2.2.2.2.1+1)).toNat)+((e23.2.2.2.1.length:Int).toNat-(IntKind.wrap .i64 (e23.1.2.2.2.2.2.2.1+1)).toNat)<=e23.2.2.2.1.length) (eh ((((([]:List ew)++((e23.2.2.2.1.drop (0+(0:Int).toNat)).take (e23.1.2.2.2.2.2.2.1.toNat-(0:Int).toNat)))++([(⟨e23.2.1.1.1,e23.2.1.1.2.1,(⟨e23.2.1.2.2.2.2.1.1,e23.2.1.2.2.2.2.1.2.1⟩:Result)⟩:ew)]:List ew))++((e23.2.2.2.1.drop (0+(IntKind.wrap .i64 (e23.1.2.2.2.2.2.2.1+1)).toNat)).take ((e23.2.2.2.1.length:Int).toNat-(IntKind.wrap .i64 (e23.1.2.2.2.2.2.2.1+1)).toNat))).length*32<=2 ^ 40) (some ((⟨e23.2.2.1,(((([]:List ew)++((e23.2.2.2.1.drop (0+(0:Int).toNat)).take (e23.1.2.2.2.2.2.2.1.toNat-(0:Int).toNat)))++([(⟨e23.2.1.1.1,e23.2.1.1.2.1,(⟨e23.2.1.2.2.2.2.1.1,e23.2.1.2.2.2.2.1.2.1⟩:Result)⟩:ew)]:List ew))++((e23.2.2.2.1.drop (0+(IntKind.wrap .i64 (e23.1.2.2.2.2.2.2.1+1)).toNat)).take ((e23.2.2.2.1.length:Int).toNat-(IntKind.wrap .i64 (e23.1.2.2.2.2.2.2.1+1)).toNat)))⟩:eJ),(⟨e23.2.1.2.2.2.2.1.1,e23.2.1.2.2.2.2.1.2.1⟩:Result),true,())) none) none) none) none) none) none) none) (eh (0<=(0:Int)/\(0:Int)<=e23.1.2.2.2.2.2.2.1/\e23.1.2.2.2.2.2.2.1<=((e23.2.2.2.1.length:Nat):Int)) (eh ((0+(0:Int).toNat)+(e23.1.2.2.2.2.2.2.1.toNat-(0:Int).toNat)<=e23.2.2.2.1.length) (eh ((([]:List ew)++((e23.2.2.2.1.drop (0+(0:Int).toNat)).take (e23.1.2.2.2.2.2.2.1.toNat-(0:Int).toNat))).length*32<=2 ^ 40) (eh (((([]:List ew)++((e23.2.2.2.1.drop (0+(0:Int).toNat)).take (e23.1.2.2.2.2.2.2.1.toNat-(0:Int).toNat)))++([(⟨e23.2.1.1.1,e23.2.1.1.2.1,(⟨e23.2.1.2.2.2.2.1.1,e23.2.1.2.2.2.2.1.2.1⟩:Result)⟩:ew)]:List ew)).length*32<=2 ^ 40) (eh ((0+e23.1.2.2.2.2.2.2.1.toNat)+((e23.2.2.2.1.length:Int).toNat-e23.1.2.2.2.2.2.2.1.toNat)<=e23.2.2.2.1.length) (eh ((((([]:List ew)++((e23.2.2.2.1.drop (0+(0:Int).toNat)).take (e23.1.2.2.2.2.2.2.1.toNat-(0:Int).toNat)))++([(⟨e23.2.1.1.1,e23.2.1.1.2.1,(⟨e23.2.1.2.2.2.2.1.1,e23.2.1.2.2.2.2.1.2.1⟩:Result)⟩:ew)]:List ew))++((e23.2.2.2.1.drop (0+e23.1.2.2.2.2.2.2.1.toNat)).take ((e23.2.2.2.1.length:Int).toNat-e23.1.2.2.2.2.2.2.1.toNat))).length*32<=2 ^ 40) (some ((⟨e23.2.2.1,(((([]:List ew)++((e23.2.2.2.1.drop (0+(0:Int).toNat)).take (e23.1.2.2.2.2.2.2.1.toNat-(0:Int).toNat)))++([(⟨e23.2.1.1.1,e23.2.1.1.2.1,(⟨e23.2.1.2.2.2.2.1.1,e23.2.1.2.2.2.2.1.2.1⟩:Result)⟩:ew)]:List ew))++((e23.2.2.2.1.drop (0+e23.1.2.2.2.2.2.2.1.toNat)).take ((e23.2.2.2.1.length:Int).toNat-e23.1.2.2.2.2.2.2.1.toNat)))⟩:eJ),(⟨e23.2.1.2.2.2.2.1.1,e23.2.1.2.2.2.2.1.2.1⟩:Result),true,())) none) none) none) none) none) none)) none) none) (let j43 (p26:List Int):Option (eJ×Result×Bool×Unit):=(wC (((),(),(),(),y4.2.1,(),0,()),((a1.client,a1.seq,a1.kind,a1.object,a1.old,a1.value,()),((),(),()),(false,0,()),((),(),()),((x5==a1.old),x5,()),()),p26,y1.1.sessions,())).bind fun e42=>eh (0<=e42.1.2.2.2.2.2.2.1/\e42.1.2.2.2.2.2.2.1<=(e42.2.2.2.1.length:Int)/\(e42.2.2.2.1.length:Int)<=((e42.2.2.2.1.length:Nat):Int)) (br e42.1.2.2.2.2.1 (eh (0<=(IntKind.wrap .i64 (e42.1.2.2.2.2.2.2.1+1))/\(IntKind.wrap .i64 (e42.1.2.2.2.2.2.2.1+1))<=(e42.2.2.2.1.length:Int)/\(e42.2.2.2.1.length:Int)<=((e42.2.2.2.1.length:Nat):Int)) (eh (0<=(0:Int)/\(0:Int)<=e42.1.2.2.2.2.2.2.1/\e42.1.2.2.2.2.2.2.1<=((e42.2.2.2.1.length:Nat):Int)) (eh ((0+(0:Int).toNat)+(e42.1.2.2.2.2.2.2.1.toNat-(0:Int).toNat)<=e42.2.2.2.1.length) (eh ((([]:List ew)++((e42.2.2.2.1.drop (0+(0:Int).toNat)).take (e42.1.2.2.2.2.2.2.1.toNat-(0:Int).toNat))).length*32<=2 ^ 40) (eh (((([]:List ew)++((e42.2.2.2.1.drop (0+(0:Int).toNat)).take (e42.1.2.2.2.2.2.2.1.toNat-(0:Int).toNat)))++([(⟨e42.2.1.1.1,e42.2.1.1.2.1,(⟨e42.2.1.2.2.2.2.1.1,e42.2.1.2.2.2.2.1.2.1⟩:Result)⟩:ew)]:List ew)).length*32<=2 ^ 40) (eh ((0+(IntKind.wrap .i64 (e42.1.2.2.2.2.2.2.1+1)).toNat)+((e42.2.2.2.1.length:Int).toNat-(IntKind.wrap .i64 (e42.1.2.2.2.2.2.2.1+1)).toNat)<=e42.2.2.2.1.length) (eh ((((([]:List ew)++((e42.2.2.2.1.drop (0+(0:Int).toNat)).take (e42.1.2.2.2.2.2.2.1.toNat-(0:Int).toNat)))++([(⟨e42.2.1.1.1,e42.2.1.1.2.1,(⟨e42.2.1.2.2.2.2.1.1,e42.2.1.2.2.2.2.1.2.1⟩:Result)⟩:ew)]:List ew))++((e42.2.2.2.1.drop (0+(IntKind.wrap .i64 (e42.1.2.2.2.2.2.2.1+1)).toNat)).take ((e42.2.2.2.1.length:Int).toNat-(IntKind.wrap .i64 (e42.1.2.2.2.2.2.2.1+1)).toNat))).length*32<=2 ^ 40) (some ((⟨e42.2.2.1,(((([]:List ew)++((e42.2.2.2.1.drop (0+(0:Int).toNat)).take (e42.1.2.2.2.2.2.2.1.toNat-(0:Int).toNat)))++([(⟨e42.2.1.1.1,e42.2.1.1.2.1,(⟨e42.2.1.2.2.2.2.1.1,e42.2.1.2.2.2.2.1.2.1⟩:Result)⟩:ew)]:List ew))++((e42.2.2.2.1.drop (0+(IntKind.wrap .i64 (e42.1.2.2.2.2.2.2.1+1)).toNat)).take ((e42.2.2.2.1.length:Int).toNat-(IntKind.wrap .i64 (e42.1.2.2.2.2.2.2.1+1)).toNat)))⟩:eJ),(⟨e42.2.1.2.2.2.2.1.1,e42.2.1.2.2.2.2.1.2.1⟩:Result),true,())) none) none) none) none) none) none) none) (eh (0<=(0:Int)/\(0:Int)<=e42.1.2.2.2.2.2.2.1/\e42.1.2.2.2.2.2.2.1<=((e42.2.2.2.1.length:Nat):Int)) (eh ((0+(0:Int).toNat)+(e42.1.2.2.2.2.2.2.1.toNat-(0:Int).toNat)<=e42.2.2.2.1.length) (eh ((([]:List ew)++((e42.2.2.2.1.drop (0+(0:Int).toNat)).take (e42.1.2.2.2.2.2.2.1.toNat-(0:Int).toNat))).length*32<=2 ^ 40) (eh (((([]:List ew)++((e42.2.2.2.1.drop (0+(0:Int).toNat)).take (e42.1.2.2.2.2.2.2.1.toNat-(0:Int).toNat)))++([(⟨e42.2.1.1.1,e42.2.1.1.2.1,(⟨e42.2.1.2.2.2.2.1.1,e42.2.1.2.2.2.2.1.2.1⟩:Result)⟩:ew)]:List ew)).length*32<=2 ^ 40) (eh ((0+e42.1.2.2.2.2.2.2.1.toNat)+((e42.2.2.2.1.length:Int).toNat-e42.1.2.2.2.2.2.2.1.toNat)<=e42.2.2.2.1.length) (eh ((((([]:List ew)++((e42.2.2.2.1.drop (0+(0:Int).toNat)).take (e42.1.2.2.2.2.2.2.1.toNat-(0:Int).toNat)))++([(⟨e42.2.1.1.1,e42.2.1.1.2.1,(⟨e42.2.1.2.2.2.2.1.1,e42.2.1.2.2.2.2.1.2.1⟩:Result)⟩:ew)]:List ew))++((e42.2.2.2.1.drop (0+e42.1.2.2.2.2.2.2.1.toNat)).take ((e42.2.2.2.1.length:Int).toNat-e42.1.2.2.2.2.2.2.1.toNat))).length*32<=2 ^ 40) (some ((⟨e42.2.2.1,(((([]:List ew)++((e42.2.2.2.1.drop (0+(0:Int).toNat)).take (e42.1.2.2.2.2.2.2.1.toNat-(0:Int).toNat)))++([(⟨e42.2.1.1.1,e42.2.1.1.2.1,(⟨e42.2.1.2.2.2.2.1.1,e42.2.1.2.2.2.2.1.2.1⟩:Result)⟩:ew)]:List ew))++((e42.2.2.2.1.drop (0+e42.1.2.2.2.2.2.2.1.toNat)).take ((e42.2.2.2.1.length:Int).toNat-e42.1.2.2.2.2.2.2.1.toNat)))⟩:eJ),(⟨e42.2.1.2.2.2.2.1.1,e42.2.1.2.2.2.2.1.2.1⟩:Result),true,())) none) none) none) none) none) none)) none; br (x5==a1.old) (eh (0<=a1.object/\a1.object< (y1.1.objects.length:Int)) ((y1.1.objects[a1.object.toNat]?).bind fun _=>j43 (y1.1.objects.set a1.object.toNat a1.value)) none) (j43 y1.1.objects))) none; br y4.2.1 (br (decide (y4.1.seq>a1.seq)) (some (y1.1,(⟨false,0⟩:Result),false,())) (j44)) (j44); br y4.2.1 (br (y4.1.seq==a1.seq) (some (y1.1,y4.1.result,true,())) (j45)) (j45)))
def CE:=eV 166 Tryz.f166 [.ty (.st .machine), .ty (.st .op)] [.st .machine, .st .result, .b] (fun x=>q8 x.1 x.2.1) [Ra,CD,xT,Lg] [I9] (by kernel_rfl) fun x=>by simp only[q8,tm]; kernel_rfl
abbrev zX:LX:=⟨⟨[(0, .cl (.ro (.st .entry))),(2, .cl (.ptr 0 0)),(4, .cl (.ptr 1 0)),(5, .cl (.int .i64))],[[.em, .em],[.own 0 (.i .i64), .own 1 (.st .session)]],[.i .i64, .st .session],0,29⟩,[(.ext 0,⟨[(2, .cl (.ptr 0 0)),(4, .cl (.ptr 1 0))],[[.em, .em],[.own 0 (.i .i64), .own 1 (.st .session)]],[.i .i64, .st .session],0,29⟩)],[],[0,2,4,5],[2,4]⟩
def nc (s: (List eu×Unit×Unit×Int×Unit)×((Unit×Unit×Unit)×(Unit×Unit×Unit)×Unit)×List Int×List ew×Unit):zX.R:=
 br (decide (s.1.2.2.2.1< (s.1.1.length:Int))) (eh (0<=s.1.2.2.2.1) ((s.1.1[s.1.2.2.2.1.toNat]?).bind fun x7=>(q8 (⟨s.2.2.1,s.2.2.2.1⟩:eJ) x7.op).bind fun y8=>some (.inl ((s.1.1,(),(),(IntKind.wrap .i64 (s.1.2.2.2.1+1)),()),(((),(),()),((),(),()),()),y8.1.objects,y8.1.sessions,()))) none) (some (.inr (((),(),()),s.2)))
def zY:=gQ nc
def GQ:=jP Tryz.f165 [0] zX nc [CE] [] (by kernel_rfl) fun s=>by simp only[nc,tm]; kernel_rfl
def pI (a0:List eu):Option (eJ×Bool×Unit):=
 (sZ).bind fun y1=>(iM a0).bind fun y2=>br (!y2.1) (some ((⟨([]:List Int),([]:List ew)⟩:eJ),false,())) ((zY ((a0,(),(),0,()),(((),(),()),((),(),()),()),y1.1.objects,y1.1.sessions,())).bind fun e9=>some ((⟨e9.2.2.1,e9.2.2.2.1⟩:eJ),true,()))
def Dh:=eV 165 Tryz.f165 [.ty (.ls (.st .entry))] [.st .machine, .b] (fun x=>pI x.1) [I8,wA] [GQ] (by kernel_rfl) fun x=>by simp only[pI,tm]; kernel_rfl
def jT (a0:eg) (a1:Int):Option (Bool×Unit):=
 (eA a0).bind fun y1=>br y1.1 ((eT a1 0 4).bind fun y2=>br y2.1 (eh (0<=a1) ((a0.servers[a1.toNat]?).bind fun x3=>(gT x3 a1).bind fun y4=>some (y4.1,())) none) (some (false,()))) (some (false,()))
def wD:=eV 169 Tryz.f169 [.ty (.st .cluster), .ty (.i .i64)] [.b] (fun x=>jT x.1 x.2.1) [fu,ig,pV] [] (by kernel_rfl) fun x=>by simp only[jT,tm]; kernel_rfl
abbrev w9:LX:=⟨⟨[(2, .cl (.ptr 0 0)),(5, .cl (.int .i64)),(6, .cl (.own 0 (.i .i64))),(7, .cl (.int .i64))],[[.int .i64, .ro (.st .server), .ro (.i .i64), .ro (.st .config), .int .i64, .int .i64, .int .i64, .int .i64, .int .i64, .ro (.st .place)]],[.i .i64],0,37⟩,[(.ext 0,⟨[(5, .cl (.int .i64))],[],[],0,37⟩)],[],[2,5,6,7],[5]⟩
def kN (s: (Unit×Int×Unit×Int×Unit)×((Int×List eo×List Int×List ej×Int×Int×Int×Int×Int×List eN×Unit)×Unit)×List Int×Unit):w9.R:=
 br (decide (s.1.2.2.2.1< (s.2.2.1.length:Int))) (eh (0<=s.1.2.2.2.1/\s.1.2.2.2.1< (s.2.2.1.length:Int)) ((s.2.2.1[s.1.2.2.2.1.toNat]?).bind fun x17=>eh (0<=x17) ((s.2.1.1.2.1[x17.toNat]?).bind fun x18=>some (.inl (((),(if x18.version<s.1.2.1 then x18.version else s.1.2.1),(),(IntKind.wrap .i64 (s.1.2.2.2.1+1)),()),s.2))) none) none) (some (.inr ((s.1.2.1,()),(()),(()))))
def xb:=gQ kN
def DF:=jP Tryz.f168 [0] w9 kN [] [] (by kernel_rfl) fun s=>by simp only[kN,tm]; kernel_rfl
def ne (a0:eg) (a1:Int):Option (Int×Unit):=
 (jT a0 a1).bind fun y1=>br (!y1.1) (some (0,())) (eh (0<=a1) ((a0.servers[a1.toNat]?).bind fun x2=>(jW x2.config).bind fun y3=>(xb (((),2,(),0,()),((a0.now,a0.servers,a0.sides,a0.master.configs,a0.master.activated,a0.masterUp,a0.lease.epoch,a0.lease.holder,a0.lease.ends,a0.places,()),()),y3.1,())).bind fun e19=>some e19.1) none)
def GR:=eV 168 Tryz.f168 [.ty (.st .cluster), .ty (.i .i64)] [.i .i64] (fun x=>ne x.1 x.2.1) [wD,pF] [DF] (by kernel_rfl) fun x=>by simp only[ne,tm]; kernel_rfl
def lh (a0:eg) (a1:Int) (a2:Op):Option (eg×Int×Unit):=
 (jZ a0).bind fun y1=>(eA a0).bind fun y2=>br (!y2.1) (some (y1.1,1,())) ((eT a1 0 4).bind fun y3=>br (!y3.1) (some (y1.1,1,())) ((iC a2).bind fun y4=>br (!y4.1) (some (y1.1,1,())) (eh (0<=a1) ((a0.servers[a1.toNat]?).bind fun x5=>br (!x5.up) (some (y1.1,2,())) ((gT x5 a1).bind fun y6=>br (!y6.1) (some (y1.1,3,())) ((v4 x5.log a2.client a2.seq).bind fun y7=>let j18:Option (eg×Int×Unit):=(pI x5.log).bind fun y9=>(q8 y9.1 a2).bind fun y10=>br (!y10.2.2.1) (some (y1.1,11,())) ((m0 a2).bind fun y11=>let j17:Option (eg×Int×Unit):=eh (0<=a1/\a1< (y1.1.servers.length:Int)) ((y1.1.servers[a1.toNat]?).bind fun x13=>(y1.1.servers[a1.toNat]?).bind fun x14=>eh ((0:Nat)=0) (eh (x14.log.length<x13.log.length) none (eh ((x14.log.take x13.log.length++([(⟨x5.epoch,a2⟩:eu)]:List eu)).length*56<=2 ^ 40) (eh (0<=a1/\a1< (y1.1.servers.length:Int)) ((y1.1.servers[a1.toNat]?).bind fun x15=>eh (a1.toNat=a1.toNat) (some ((⟨y1.1.now,(y1.1.servers.set a1.toNat (⟨x15.up,x15.intact,x15.version,x15.epoch,x15.config,x15.first,(x14.log.take x13.log.length++([(⟨x5.epoch,a2⟩:eu)]:List eu)),x15.commit,x15.learned⟩:eo)),y1.1.sides,y1.1.master,y1.1.masterUp,y1.1.lease,y1.1.places⟩:eg),0,())) none) none) none)) none) none; br y11.1 ((ne a0 a1).bind fun y12=>br (decide (y12.1<2)) (some (y1.1,6,())) (br ((x5.log.length:Int)==16) (some (y1.1,5,())) (j17))) (br ((x5.log.length:Int)==16) (some (y1.1,5,())) (j17))); br (decide (y7.1≥0)) (eh (0<=y7.1) ((x5.log[y7.1.toNat]?).bind fun x8=>br (!((x8.op.client==a2.client)&&((x8.op.seq==a2.seq)&&((x8.op.kind==a2.kind)&&((x8.op.object==a2.object)&&((x8.op.old==a2.old)&&((x8.op.value==a2.value)&&true))))))) (some (y1.1,11,())) (br (decide (y7.1≥0)) (some (y1.1,0,())) (j18))) none) (br (decide (y7.1≥0)) (some (y1.1,0,())) (j18))))) none)))
def Bw:=eV 79 Tryz.f79 [.ty (.st .cluster), .ty (.i .i64), .ty (.st .op)] [.st .cluster, .i .i64] (fun x=>lh x.1 x.2.1 x.2.2.1) [nZ,fu,ig,xT,pV,Lf,Dh,CE,zQ,GR] [] (by kernel_rfl) fun x=>by simp only[lh,tm,-eq_self]; kernel_rfl
def zk (a0:List eu):Option (Int×(List eu)×Unit):=
 (iM a0).bind fun y1=>br (!y1.1) (some (0,([]:List eu),())) (eh (0<=(if (IntKind.wrap .i64 ((a0.length:Int)-3))>0 then (IntKind.wrap .i64 ((a0.length:Int)-3)) else 0)/\(if (IntKind.wrap .i64 ((a0.length:Int)-3))>0 then (IntKind.wrap .i64 ((a0.length:Int)-3)) else 0)<=(a0.length:Int)/\(a0.length:Int)<=(a0.length:Int)) ((ju ((a0.drop (if (IntKind.wrap .i64 ((a0.length:Int)-3))>0 then (IntKind.wrap .i64 ((a0.length:Int)-3)) else 0).toNat).take ((a0.length:Int).toNat-(if (IntKind.wrap .i64 ((a0.length:Int)-3))>0 then (IntKind.wrap .i64 ((a0.length:Int)-3)) else 0).toNat))).bind fun y2=>some ((if (IntKind.wrap .i64 ((a0.length:Int)-3))>0 then (IntKind.wrap .i64 ((a0.length:Int)-3)) else 0),y2.1,())) none)
def O9:=eV 248 Tryz.f248 [.ty (.ls (.st .entry))] [.i .i64, .ls (.st .entry)] (fun x=>zk x.1) [wA,rJ] [] (by kernel_rfl) fun x=>by simp only[zk,tm]; kernel_rfl
def yc (a0:List eu):Option (Int×(List eu)×Unit):=
 (zk a0).bind fun y1=>some (y1.1,y1.2.1,())
def Rb:=eV 228 Tryz.f228 [.ty (.ls (.st .entry))] [.i .i64, .ls (.st .entry)] (fun x=>yc x.1) [O9] [] (by kernel_rfl) fun x=>by simp only[yc,tm]; kernel_rfl
def ir (a0:eg) (a1:Int) (a2:Int):Option (eg×Bool×Unit):=
 (jZ a0).bind fun y1=>(jT a0 a1).bind fun y2=>br (!y2.1) (some (y1.1,false,())) (eh (0<=a1) ((a0.servers[a1.toNat]?).bind fun x3=>(jW x3.config).bind fun y4=>(gr y4.1 a2).bind fun y5=>br (!y5.1) (some (y1.1,false,())) ((qV a0 a1 a2).bind fun y6=>br (!y6.1) (some (y1.1,false,())) (eh (0<=a1) ((a0.servers[a1.toNat]?).bind fun x7=>eh (0<=a1) ((a0.servers[a1.toNat]?).bind fun x8=>(jv x8.config a2).bind fun y9=>br (y9.1==3) ((yc x7.log).bind fun y10=>eh (0<=a2/\a2< (y1.1.servers.length:Int)) (eh (0<=a2/\a2< (y1.1.servers.length:Int)) ((y1.1.servers[a2.toNat]?).bind fun x11=>let z12:=y1.1.servers.set a2.toNat (⟨x11.up,x11.intact,x11.version,x11.epoch,x11.config,y10.1,x11.log,x11.commit,x11.learned⟩:eo); (z12[a2.toNat]?).bind fun x13=>some ((⟨y1.1.now,(z12.set a2.toNat (⟨x13.up,x13.intact,x13.version,x13.epoch,x13.config,x13.first,y10.2.1,x13.commit,x13.learned⟩:eo)),y1.1.sides,y1.1.master,y1.1.masterUp,y1.1.lease,y1.1.places⟩:eg),true,())) none) none) ((ju x7.log).bind fun y15=>eh (0<=a2/\a2< (y1.1.servers.length:Int)) ((y1.1.servers[a2.toNat]?).bind fun x16=>some ((⟨y1.1.now,(y1.1.servers.set a2.toNat (⟨x16.up,x16.intact,x16.version,x16.epoch,x16.config,x16.first,y15.1,x16.commit,x16.learned⟩:eo)),y1.1.sides,y1.1.master,y1.1.masterUp,y1.1.lease,y1.1.places⟩:eg),true,())) none)) none) none))) none)
def Fw:=eV 170 Tryz.f170 [.ty (.st .cluster), .ty (.i .i64), .ty (.i .i64)] [.st .cluster, .b] (fun x=>ir x.1 x.2.1 x.2.2.1) [nZ,wD,pF,lg,Fn,xU,Rb,rJ] [] (by kernel_rfl) fun x=>by simp only[ir,tm]; kernel_rfl
abbrev qc:LX:=⟨⟨[(1, .cl (.int .i64)),(4, .cl (.ptr 0 0)),(6, .cl (.ptr 1 0)),(7, .cl (.own 0 (.i .i64))),(8, .cl (.bl)),(9, .cl (.int .i64))],[[.int .i64, .em, .em, .em, .int .i64, .int .i64, .int .i64, .int .i64, .int .i64, .em],[.int .i64, .own 1 (.st .server), .own 2 (.i .i64), .own 3 (.st .config), .int .i64, .int .i64, .int .i64, .int .i64, .int .i64, .own 4 (.st .place)]],[.i .i64, .st .server, .i .i64, .st .config, .st .place],0,74⟩,[(.ext 0,⟨[(1, .cl (.int .i64)),(4, .cl (.ptr 0 0)),(6, .cl (.ptr 1 0)),(7, .cl (.own 0 (.i .i64))),(8, .cl (.bl))],[[.int .i64, .em, .em, .em, .int .i64, .int .i64, .int .i64, .int .i64, .int .i64, .em],[.int .i64, .own 1 (.st .server), .own 2 (.i .i64), .own 3 (.st .config), .int .i64, .int .i64, .int .i64, .int .i64, .int .i64, .own 4 (.st .place)]],[.i .i64, .st .server, .i .i64, .st .config, .st .place],0,74⟩)],[],[1,4,6,7,8,9],[1,4,6,7,8]⟩
def jA (s: (Int×Unit×Unit×Unit×Bool×Int×Unit)×((Int×Unit×Unit×Unit×Int×Int×Int×Int×Int×Unit×Unit)×(Int×Unit×Unit×Unit×Int×Int×Int×Int×Int×Unit×Unit)×Unit)×List Int×List eo×List Int×List ej×List eN×Unit):qc.R:=
 br (decide (s.1.2.2.2.2.2.1< (s.2.2.1.length:Int))) (eh (0<=s.1.2.2.2.2.2.1/\s.1.2.2.2.2.2.1< (s.2.2.1.length:Int)) ((s.2.2.1[s.1.2.2.2.2.2.1.toNat]?).bind fun x25=>(ir (⟨s.2.1.2.1.1,s.2.2.2.1,s.2.2.2.2.1,(⟨s.2.2.2.2.2.1,s.2.1.2.1.2.2.2.2.1⟩:ev),s.2.1.2.1.2.2.2.2.2.1,(⟨s.2.1.2.1.2.2.2.2.2.2.1,s.2.1.2.1.2.2.2.2.2.2.2.1,s.2.1.2.1.2.2.2.2.2.2.2.2.1⟩:fW),s.2.2.2.2.2.2.1⟩:eg) s.1.1 x25).bind fun y26=>let j28 (p27:Bool):qc.R:=some (.inl ((s.1.1,(),(),(),p27,(IntKind.wrap .i64 (s.1.2.2.2.2.2.1+1)),()),(s.2.1.1,(y26.1.now,(),(),(),y26.1.master.activated,y26.1.masterUp,y26.1.lease.epoch,y26.1.lease.holder,y26.1.lease.ends,(),()),()),s.2.2.1,y26.1.servers,y26.1.sides,y26.1.master.configs,y26.1.places,())); br s.1.2.2.2.2.1 (j28 y26.2.1) (j28 false)) none) (some (.inr ((s.1.1,(),(),(),s.1.2.2.2.2.1,()),s.2)))
def uW:=gQ jA
def Bx:=jP Tryz.f81 [0] qc jA [Fw] [] (by kernel_rfl) fun s=>by simp only[jA,tm]; kernel_rfl
abbrev ug:LX:=⟨⟨[(1, .cl (.int .i64)),(4, .cl (.ptr 0 0)),(6, .cl (.ptr 1 0)),(7, .cl (.own 0 (.i .i64))),(8, .cl (.bl)),(12, .cl (.int .i64))],[[.int .i64, .em, .em, .em, .int .i64, .int .i64, .int .i64, .int .i64, .int .i64, .em],[.int .i64, .own 1 (.st .server), .own 2 (.i .i64), .own 3 (.st .config), .int .i64, .int .i64, .int .i64, .int .i64, .int .i64, .own 4 (.st .place)]],[.i .i64, .st .server, .i .i64, .st .config, .st .place],0,74⟩,[(.ext 2,⟨[(4, .cl (.ptr 0 0)),(6, .cl (.ptr 1 0)),(8, .cl (.bl))],[[.int .i64, .em, .em, .em, .int .i64, .int .i64, .int .i64, .int .i64, .int .i64, .em],[.int .i64, .own 0 (.st .server), .own 1 (.i .i64), .own 2 (.st .config), .int .i64, .int .i64, .int .i64, .int .i64, .int .i64, .own 3 (.st .place)]],[.st .server, .i .i64, .st .config, .st .place],0,74⟩)],[],[1,4,6,7,8,12],[4,6,8]⟩
def iy (s: (Int×Unit×Unit×Unit×Bool×Int×Unit)×((Int×Unit×Unit×Unit×Int×Int×Int×Int×Int×Unit×Unit)×(Int×Unit×Unit×Unit×Int×Int×Int×Int×Int×Unit×Unit)×Unit)×List Int×List eo×List Int×List ej×List eN×Unit):ug.R:=
 br (decide (s.1.2.2.2.2.2.1< (s.2.2.1.length:Int))) (br s.1.2.2.2.2.1 (eh (0<=s.1.2.2.2.2.2.1/\s.1.2.2.2.2.2.1< (s.2.2.1.length:Int)) ((s.2.2.1[s.1.2.2.2.2.2.1.toNat]?).bind fun x50=>eh (0<=s.1.1/\s.1.1< (s.2.2.2.1.length:Int)) ((s.2.2.2.1[s.1.1.toNat]?).bind fun x51=>eh (0<=x50/\x50< (s.2.2.2.1.length:Int)) ((s.2.2.2.1[x50.toNat]?).bind fun x52=>some (.inl ((s.1.1,(),(),(),s.1.2.2.2.2.1,(IntKind.wrap .i64 (s.1.2.2.2.2.2.1+1)),()),s.2.1,s.2.2.1,(s.2.2.2.1.set x50.toNat (⟨x52.up,x52.intact,x52.version,x52.epoch,x52.config,x52.first,x52.log,((x51.log.length:Nat):Int),x52.learned⟩:eo)),s.2.2.2.2))) none) none) none) (some (.inr (((),(),s.1.2.2.2.2.1,()),s.2.1,s.2.2.2)))) (some (.inr (((),(),s.1.2.2.2.2.1,()),s.2.1,s.2.2.2)))
def pj:=gQ iy
def AP:=jP Tryz.f81 [1] ug iy [] [] (by kernel_rfl) fun s=>by simp only[iy,tm]; kernel_rfl
def jL (a0:eg) (a1:Int):Option (eg×Bool×Unit):=
 (jZ a0).bind fun y1=>(jT a0 a1).bind fun y2=>br (!y2.1) (some (y1.1,false,())) (eh (0<=a1) ((a0.servers[a1.toNat]?).bind fun x3=>(jW x3.config).bind fun y4=>(uW ((a1,(),(),(),true,0,()),((0,(),(),(),0,0,0,0,0,(),()),(y1.1.now,(),(),(),y1.1.master.activated,y1.1.masterUp,y1.1.lease.epoch,y1.1.lease.holder,y1.1.lease.ends,(),()),()),y4.1,y1.1.servers,y1.1.sides,y1.1.master.configs,y1.1.places,())).bind fun e29=>(pj ((e29.1.1,(),(),(),e29.1.2.2.2.2.1,0,()),e29.2)).bind fun e54=>some ((⟨e54.2.1.2.1.1,e54.2.2.1,e54.2.2.2.1,(⟨e54.2.2.2.2.1,e54.2.1.2.1.2.2.2.2.1⟩:ev),e54.2.1.2.1.2.2.2.2.2.1,(⟨e54.2.1.2.1.2.2.2.2.2.2.1,e54.2.1.2.1.2.2.2.2.2.2.2.1,e54.2.1.2.1.2.2.2.2.2.2.2.2.1⟩:fW),e54.2.2.2.2.2.1⟩:eg),e54.1.2.2)) none)
def DG:=eV 81 Tryz.f81 [.ty (.st .cluster), .ty (.i .i64)] [.st .cluster, .b] (fun x=>jL x.1 x.2.1) [nZ,wD,pF] [Bx,AP] (by kernel_rfl) fun x=>by simp only[jL,tm]; kernel_rfl
def pk (a0:List eu) (a1:Int):Option (Result×Bool×Unit):=
 (iM a0).bind fun y1=>br (!y1.1) (some ((⟨false,0⟩:Result),false,())) ((eT a1 0 (IntKind.wrap .i64 ((a0.length:Int)-1))).bind fun y2=>br (!y2.1) (some ((⟨false,0⟩:Result),false,())) (eh (0<=(0:Int)/\(0:Int)<=a1/\a1<=(a0.length:Int)) ((pI ((a0.drop (0:Int).toNat).take (a1.toNat-(0:Int).toNat))).bind fun y3=>eh (0<=a1) ((a0[a1.toNat]?).bind fun x4=>(q8 y3.1 x4.op).bind fun y5=>some (y5.2.1,y5.2.2.1,())) none) none))
def MT:=eV 82 Tryz.f82 [.ty (.ls (.st .entry)), .ty (.i .i64)] [.st .result, .b] (fun x=>pk x.1 x.2.1) [wA,ig,Dh,CE] [] (by kernel_rfl) fun x=>by simp only[pk,tm]; kernel_rfl
def uh (a0:eg) (a1:Int) (a2:Op):Option (eg×tM×Unit):=
 (lh a0 a1 a2).bind fun y1=>br (!(y1.2.1==0)) (some (y1.1,(⟨y1.2.1,(⟨false,0⟩:Result),0⟩:tM),())) (eh (0<=a1/\a1< (y1.1.servers.length:Int)) ((y1.1.servers[a1.toNat]?).bind fun x2=>(y1.1.servers[a1.toNat]?).bind fun x3=>eh (0+x2.log.length<=x3.log.length) ((v4 ((x3.log.drop 0).take x2.log.length) a2.client a2.seq).bind fun y4=>eh (0<=a1/\a1< (y1.1.servers.length:Int)) ((y1.1.servers[a1.toNat]?).bind fun x5=>br (decide (y4.1≥x5.commit)) ((jL y1.1 a1).bind fun y6=>br (!y6.2.1) (some (y6.1,(⟨4,(⟨false,0⟩:Result),0⟩:tM),())) (eh (0<=a1/\a1< (y6.1.servers.length:Int)) ((y6.1.servers[a1.toNat]?).bind fun x20=>(y6.1.servers[a1.toNat]?).bind fun x21=>eh (0+x20.log.length<=x21.log.length) ((pk ((x21.log.drop 0).take x20.log.length) y4.1).bind fun y22=>some (y6.1,(⟨0,y22.1,y4.1⟩:tM),())) none) none)) (eh (0<=a1/\a1< (y1.1.servers.length:Int)) ((y1.1.servers[a1.toNat]?).bind fun x23=>(y1.1.servers[a1.toNat]?).bind fun x24=>eh (0+x23.log.length<=x24.log.length) ((pk ((x24.log.drop 0).take x23.log.length) y4.1).bind fun y25=>some (y1.1,(⟨0,y25.1,y4.1⟩:tM),())) none) none)) none) none) none)
def MU:=eV 40 Tryz.f40 [.ty (.st .cluster), .ty (.i .i64), .ty (.st .op)] [.st .cluster, .st .reply] (fun x=>uh x.1 x.2.1 x.2.2.1) [Bw,Lf,DG,MT] [] (by kernel_rfl) fun x=>by simp only[uh,tm]; kernel_rfl
def jQ (a0:eg) (a1:Int) (a2:Op):Option (Bool×Unit):=
 (rN a0 a1).bind fun y1=>(j8 y1.1).bind fun y2=>br (decide (y2.1<0)) (some (false,())) ((uh y1.1 y2.1 a2).bind fun y3=>some ((y3.2.1.code==0),()))
def zq:=eV 12 Tryz.f12 [.ty (.st .cluster), .ty (.i .i64), .ty (.st .op)] [.b] (fun x=>jQ x.1 x.2.1 x.2.2.1) [Le,vT,MU] [] (by kernel_rfl) fun x=>by simp only[jQ,tm]; kernel_rfl
def eF (a0:Int) (a1:Int) (a2:Int):Option (Bool×Unit):=
 br (decide (a1<=a0)) (some ((decide (a0<=a2)),())) (some (false,()))
def gb:=eV 59 Tryz.f59 [.ty (.i .i64), .ty (.i .i64), .ty (.i .i64)] [.b] (fun x=>eF x.1 x.2.1 x.2.2.1) [] [] (by kernel_rfl) fun x=>by simp only[eF,tm]; kernel_rfl
def ry (a0:Int):Option (Bool×Unit):=
 (eF a0 0 3).bind fun y1=>some ((!y1.1),())
def GS:=eV 202 Tryz.f202 [.ty (.i .i64)] [.b] (fun x=>ry x.1) [gb] [] (by kernel_rfl) fun x=>by simp only[ry,tm]; kernel_rfl
abbrev lD:LX:=⟨⟨[(0, .cl (.ro (.i .i64))),(1, .cl (.fc 202)),(7, .cl (.int .i64)),(8, .cl (.int .i64))],[],[],0,19⟩,[(.ret,⟨[(4, .cl (.int .i64))],[],[],0,19⟩),(.ext 0,⟨[(4, .cl (.dead))],[],[],0,19⟩)],[],[0,1,7,8],[4]⟩
def fC (s: (List Int×Unit×Int×Int×Unit)×Unit×Unit):lD.R:=
 br (decide (s.1.2.2.2.1<s.1.2.2.1)) (eh (0<=s.1.2.2.2.1) ((s.1.1[s.1.2.2.2.1.toNat]?).bind fun x4=>(ry x4).bind fun y5=>br y5.1 (some (.inr (.inl (s.1.2.2.2,(()),(()))))) (some (.inl ((s.1.1,(),s.1.2.2.1,(IntKind.wrap .i64 (s.1.2.2.2.1+1)),()),(()),(()))))) none) (some (.inr (.inr (((),()),(()),(())))))
def i6:=gQ fC
def qA:=jP Tryz.f174 [0] lD fC [GS] [] (by kernel_rfl) fun s=>by simp only[fC,tm]; kernel_rfl
def ij (a0:List Int):Option (Int×Unit):=
 (i6 ((a0,(),(a0.length:Int),0,()),(()),(()))).bind fun e6=>Sum.elim (fun e6_0=>some e6_0.1) (fun _=>some ((-1),())) e6
def rO:=eV 174 Tryz.f174 [.ty (.ls (.i .i64)), .fc 202] [.i .i64] (fun x=>ij x.1) [] [qA] (by kernel_rfl) fun x=>by simp only[ij,tm]; kernel_rfl
def gG (a0:List Int):Option (Bool×Unit):=
 (ij a0).bind fun y1=>some ((decide (y1.1≥0)),())
def qd:=eV 85 Tryz.f85 [.ty (.ls (.i .i64)), .fc 202] [.b] (fun x=>gG x.1) [rO] [] (by kernel_rfl) fun x=>by simp only[gG,tm]; kernel_rfl
def pm (a0:List Int):Option (Bool×Unit):=
 br ((a0.length:Int)==5) ((gG a0).bind fun y1=>some ((!y1.1),())) (some (false,()))
def Fx:=eV 123 Tryz.f123 [.ty (.ls (.i .i64))] [.b] (fun x=>pm x.1) [qd] [] (by kernel_rfl) fun x=>by simp only[pm,tm]; kernel_rfl
abbrev yd:LX:=⟨⟨[(0, .cl (.ro (.i .i64))),(5, .cl (.ro (.i .i64))),(6, .cl (.int .i64)),(7, .cl (.int .i64))],[],[],0,29⟩,[(.ret,⟨[(2, .cl (.bl))],[],[],0,29⟩),(.ext 0,⟨[(2, .cl (.dead))],[],[],0,29⟩)],[],[0,5,6,7],[2]⟩
def iO (s: (List Int×List Int×Int×Int×Unit)×Unit×Unit):yd.R:=
 br (decide (s.1.2.2.2.1<s.1.2.2.1)) (eh (0<=s.1.2.2.2.1) ((s.1.2.1[s.1.2.2.2.1.toNat]?).bind fun x5=>(eF x5 0 4).bind fun y6=>br (!y6.1) (some (.inr (.inl ((false,()),(()),(()))))) (br (decide (s.1.2.2.2.1>0)) (eh (0<=(IntKind.wrap .i64 (s.1.2.2.2.1-1))) ((s.1.1[(IntKind.wrap .i64 (s.1.2.2.2.1-1)).toNat]?).bind fun x7=>br (decide (x5<=x7)) (some (.inr (.inl ((false,()),(()),(()))))) (some (.inl ((s.1.1,s.1.2.1,s.1.2.2.1,(IntKind.wrap .i64 (s.1.2.2.2.1+1)),()),(()),(()))))) none) (some (.inl ((s.1.1,s.1.2.1,s.1.2.2.1,(IntKind.wrap .i64 (s.1.2.2.2.1+1)),()),(()),(())))))) none) (some (.inr (.inr (((),()),(()),(())))))
def qe:=gQ iO
def Fy:=jP Tryz.f210 [0] yd iO [gb] [] (by kernel_rfl) fun s=>by simp only[iO,tm]; kernel_rfl
def gH (a0:List Int):Option (Bool×Unit):=
 (qe ((a0,a0,(a0.length:Int),0,()),(()),(()))).bind fun e8=>Sum.elim (fun e8_0=>some e8_0.1) (fun _=>some (true,())) e8
def s8:=eV 210 Tryz.f210 [.ty (.ls (.i .i64))] [.b] (fun x=>gH x.1) [] [Fy] (by kernel_rfl) fun x=>by simp only[gH,tm]; kernel_rfl
abbrev ye:LX:=⟨⟨[(0, .cl (.ro (.i .i64))),(1, .cl (.int .i64)),(7, .cl (.int .i64)),(8, .cl (.int .i64))],[],[],0,19⟩,[(.ret,⟨[(4, .cl (.int .i64))],[],[],0,19⟩),(.ext 0,⟨[(4, .cl (.dead))],[],[],0,19⟩)],[],[0,1,7,8],[4]⟩
def l5 (s: (List Int×Int×Int×Int×Unit)×Unit×Unit):ye.R:=
 br (decide (s.1.2.2.2.1<s.1.2.2.1)) (eh (0<=s.1.2.2.2.1) ((s.1.1[s.1.2.2.2.1.toNat]?).bind fun x5=>br (s.1.2.1==x5) (some (.inr (.inl (s.1.2.2.2,(()),(()))))) (some (.inl ((s.1.1,s.1.2.1,s.1.2.2.1,(IntKind.wrap .i64 (s.1.2.2.2.1+1)),()),(()),(()))))) none) (some (.inr (.inr (((),()),(()),(())))))
def uj:=gQ l5
def Fz:=jP Tryz.f240 [0] ye l5 [] [] (by kernel_rfl) fun s=>by simp only[l5,tm]; kernel_rfl
def s9 (a0:List Int) (a1:Int):Option (Int×Unit):=
 (uj ((a0,a1,(a0.length:Int),0,()),(()),(()))).bind fun e6=>Sum.elim (fun e6_0=>some e6_0.1) (fun _=>some ((-1),())) e6
def Ja:=eV 240 Tryz.f240 [.ty (.ls (.i .i64)), .ty (.i .i64)] [.i .i64] (fun x=>s9 x.1 x.2.1) [] [Fz] (by kernel_rfl) fun x=>by simp only[s9,tm]; kernel_rfl
def o8 (a0:List Int) (a1:Int):Option (Bool×Unit):=
 (s9 a0 a1).bind fun y1=>some ((decide (y1.1≥0)),())
def DH:=eV 212 Tryz.f212 [.ty (.ls (.i .i64)), .ty (.i .i64)] [.b] (fun x=>o8 x.1 x.2.1) [Ja] [] (by kernel_rfl) fun x=>by simp only[o8,tm]; kernel_rfl
def ik (a0:List Int) (a1:Int):Option (Bool×Unit):=
 (o8 a0 a1).bind fun y1=>some (y1.1,())
def pJ:=eV 141 Tryz.f141 [.ty (.ls (.i .i64)), .ty (.i .i64)] [.b] (fun x=>ik x.1 x.2.1) [DH] [] (by kernel_rfl) fun x=>by simp only[ik,tm]; kernel_rfl
def iP (a0:List Int):Option ((List Int)×Unit):=eh (a0.length*8<=2 ^ 40) (some (a0,())) none
def tc:=We 132 Tryz.f132 (.i .i64) 8 iP (by kernel_rfl) (fun _=>rfl) fun _=>by kernel_rfl
def AQ (a0:Int):Option (Int×Unit):=
 br (decide (a0≥4294967296)) (none) (br (decide (a0≥65536)) (none) (br (decide (a0≥256)) (none) (eh (0<=(IntKind.wrap .u8 a0)) ((WL[(IntKind.wrap .u8 a0).toNat]?).bind fun x1=>some ((IntKind.wrap .i64 (0+(IntKind.wrap .i64 (x1.toNat:Int)))),())) none)))
def MV:=eV 274 Tryz.f274 [.ty (.i .u64)] [.i .i64] (fun x=>AQ x.1) [] [] (by kernel_rfl) fun x=>by simp only[AQ,tm]; kernel_rfl
def yf (a0:Int):Option (Int×Unit):=
 (AQ a0).bind fun y1=>some (y1.1,())
def Rc:=eV 258 Tryz.f258 [.ty (.i .u64)] [.i .i64] (fun x=>yf x.1) [MV] [] (by kernel_rfl) fun x=>by simp only[yf,tm]; kernel_rfl
def nh (a0:Int):Option (Bool×Unit):=
 some ((!(a0==a0)),())
def GU:=eV 282 Tryz.f282 [.ty (.i .i64)] [.b] (fun x=>nh x.1) [] [] (by kernel_rfl) fun x=>by simp only[nh,tm]; kernel_rfl
def mD (a0:Int) (a1:Int):Option (Bool×Unit):=
 (nh a0).bind fun y1=>br y1.1 ((nh a1).bind fun y2=>br (!y2.1) (some (true,())) (some ((decide (a0<a1)),()))) (some ((decide (a0<a1)),()))
def Jb:=eV 270 Tryz.f270 [.ty (.i .i64), .ty (.i .i64)] [.b] (fun x=>mD x.1 x.2.1) [GU] [] (by kernel_rfl) fun x=>by simp only[mD,tm]; kernel_rfl
abbrev li:LX:=⟨⟨[(0, .cl (.own 0 (.i .i64))),(1, .cl (.int .i64)),(2, .cl (.int .i64)),(6, .cl (.int .i64)),(7, .cl (.int .i64))],[],[.i .i64],1,49⟩,[(.ext 2,⟨[(0, .cl (.own 0 (.i .i64))),(1, .cl (.int .i64)),(2, .cl (.int .i64)),(6, .cl (.int .i64))],[],[.i .i64],1,49⟩)],[],[0,1,2,6,7],[0,1,2,6]⟩
def fe (s: (Unit×Int×Int×Int×Int×Unit)×Unit×List Int×Unit):li.R:=
 br (decide (s.1.2.2.2.2.1>s.1.2.1)) (eh (0<=s.1.2.2.2.2.1/\s.1.2.2.2.2.1< (s.2.2.1.length:Int)) ((s.2.2.1[s.1.2.2.2.2.1.toNat]?).bind fun x10=>eh (0<=(IntKind.wrap .i64 (s.1.2.2.2.2.1-1))/\(IntKind.wrap .i64 (s.1.2.2.2.2.1-1))< (s.2.2.1.length:Int)) ((s.2.2.1[(IntKind.wrap .i64 (s.1.2.2.2.2.1-1)).toNat]?).bind fun x11=>(mD x10 x11).bind fun y12=>br y12.1 (eh (0<=(IntKind.wrap .i64 (s.1.2.2.2.2.1-1))/\(IntKind.wrap .i64 (s.1.2.2.2.2.1-1))< (s.2.2.1.length:Int)) ((s.2.2.1[(IntKind.wrap .i64 (s.1.2.2.2.2.1-1)).toNat]?).bind fun x13=>eh (0<=s.1.2.2.2.2.1/\s.1.2.2.2.2.1< (s.2.2.1.length:Int)) ((s.2.2.1[s.1.2.2.2.2.1.toNat]?).bind fun x14=>eh (0<=s.1.2.2.2.2.1/\s.1.2.2.2.2.1< (s.2.2.1.length:Int)) (eh (0<=(IntKind.wrap .i64 (s.1.2.2.2.2.1-1))/\(IntKind.wrap .i64 (s.1.2.2.2.2.1-1))< (s.2.2.1.length:Int)) ((s.2.2.1[s.1.2.2.2.2.1.toNat]?).bind fun _=>let z16:=s.2.2.1.set s.1.2.2.2.2.1.toNat x13; (z16[(IntKind.wrap .i64 (s.1.2.2.2.2.1-1)).toNat]?).bind fun _=>some (.inl (((),s.1.2.1,s.1.2.2.1,s.1.2.2.2.1,(IntKind.wrap .i64 (s.1.2.2.2.2.1-1)),()),(()),(z16.set ((IntKind.wrap .i64 (s.1.2.2.2.2.1-1)).toNat) x14),()))) none) none) none) none) (some (.inr (((),s.1.2.1,s.1.2.2.1,s.1.2.2.2.1,()),(()),s.2.2)))) none) none) (some (.inr (((),s.1.2.1,s.1.2.2.1,s.1.2.2.2.1,()),(()),s.2.2)))
def gJ:=gQ fe
def qf:=jP Tryz.f264 [0,0] li fe [Jb] [] (by kernel_rfl) fun s=>by simp only[fe,tm]; kernel_rfl
abbrev lj:LX:=⟨⟨[(0, .cl (.own 0 (.i .i64))),(1, .cl (.int .i64)),(2, .cl (.int .i64)),(6, .cl (.int .i64))],[],[.i .i64],1,49⟩,[(.ext 0,⟨[],[],[.i .i64],1,49⟩)],[],[0,1,2,6],[]⟩
def eH (s: (Unit×Int×Int×Int×Unit)×Unit×List Int×Unit):lj.R:=
 br (decide (s.1.2.2.2.1<s.1.2.2.1)) ((gJ (((),s.1.2.1,s.1.2.2.1,s.1.2.2.2.1,s.1.2.2.2),(()),s.2.2)).bind fun e19=>some (.inl (((),e19.1.2.1,e19.1.2.2.1,(IntKind.wrap .i64 (e19.1.2.2.2.1+1)),()),(()),e19.2.2))) (some (.inr ((()),(()),s.2.2)))
def gK:=gQ eH
def qg:=jP Tryz.f264 [0] lj eH [] [qf] (by kernel_rfl) fun s=>by simp only[eH,tm]; kernel_rfl
def fk (a0:List Int) (a1:Int) (a2:Int):Option ((List Int)×Unit):=
 (gK (((),a1,a2,(IntKind.wrap .i64 (a1+1)),()),(()),a0,())).bind fun e20=>some e20.2.2
def q9:=Wz 264 Tryz.f264 (.i .i64) [.ty (.i .i64), .ty (.i .i64)] [] (fun l x=>fk l x.1 x.2.1) [] [qg] (by kernel_rfl) fun l x=>by simp only[fk,tm]; kernel_rfl
abbrev nN:LX:=⟨⟨[(0, .cl (.own 0 (.i .i64))),(1, .cl (.int .i64)),(2, .cl (.int .i64)),(3, .cl (.int .i64)),(8, .cl (.bl)),(9, .cl (.bl))],[],[.i .i64],1,134⟩,[(.ret,⟨[],[],[.i .i64],1,134⟩)],[],[0,1,2,3,8,9],[]⟩
def gU (s: (Unit×Int×Int×Int×Bool×Bool×Unit)×Unit×List Int×Unit):nN.R:=
 br (decide ((IntKind.wrap .i64 (s.1.2.2.1-s.1.2.1))<=12)) ((fk s.2.2.1 s.1.2.1 s.1.2.2.1).bind fun y7=>eh (y7.1.length=s.2.2.1.length) (some (.inr ((()),(()),y7.1,()))) none) (br (s.1.2.2.2.1==0) (none) (br (!s.1.2.2.2.2.1) (none) (none)))
def kw:=gQ gU
def uk:=jP Tryz.f257 [0] nN gU [q9] [] (by kernel_rfl) fun s=>by simp only[gU,tm,-eq_self]; kernel_rfl
def fX (a0:List Int) (a1:Int) (a2:Int) (a3:Int):Option ((List Int)×Unit):=
 (kw (((),a1,a2,a3,true,true,()),(()),a0,())).bind fun e8=>some e8.2.2
def vq:=Wz 257 Tryz.f257 (.i .i64) [.ty (.i .i64), .ty (.i .i64), .ty (.i .i64)] [] (fun l x=>fX l x.1 x.2.1 x.2.2.1) [] [uk] (by kernel_rfl) fun l x=>by simp only[fX,tm]; kernel_rfl
def ky (a0:List Int):Option ((List Int)×Unit):=
 (yf (IntKind.wrap .u64 (a0.length:Int))).bind fun y1=>(fX a0 0 (a0.length:Int) y1.1).bind fun y2=>eh (y2.1.length=a0.length) (some (y2.1,())) none
def FA:=Wz 241 Tryz.f241 (.i .i64) [] [] (fun l _=>ky l) [Rc,vq] [] (by kernel_rfl) fun l x=>by simp only[ky,tm,-eq_self]; kernel_rfl
abbrev sL:LX:=⟨⟨[(0, .cl (.own 0 (.i .i64))),(3, .cl (.int .i64)),(4, .cl (.sub 0 (.i .i64))),(5, .cl (.int .i64))],[],[.i .i64],0,61⟩,[(.ext 2,⟨[(0, .cl (.own 0 (.i .i64))),(3, .cl (.int .i64))],[],[.i .i64],0,61⟩)],[],[0,3,4,5],[0,3]⟩
def iT (s: (Unit×Int×(Nat×Nat)×Int×Unit)×Unit×List Int×Unit):sL.R:=
 br (decide (s.1.2.2.2.1< ((s.1.2.2.1.2:Nat):Int))) (eh (0<=s.1.2.2.2.1/\s.1.2.2.2.1< ((s.1.2.2.1.2:Nat):Int)) ((s.2.2.1[(s.1.2.2.1.1+s.1.2.2.2.1.toNat)]?).bind fun x9=>eh (0<=(IntKind.wrap .i64 (s.1.2.2.2.1-1))/\(IntKind.wrap .i64 (s.1.2.2.2.1-1))< ((s.1.2.2.1.2:Nat):Int)) ((s.2.2.1[(s.1.2.2.1.1+(IntKind.wrap .i64 (s.1.2.2.2.1-1)).toNat)]?).bind fun x10=>br (!(x9==x10)) (eh (0<=s.1.2.2.2.1/\s.1.2.2.2.1< ((s.1.2.2.1.2:Nat):Int)) ((s.2.2.1[(s.1.2.2.1.1+s.1.2.2.2.1.toNat)]?).bind fun x11=>eh (0<=s.1.2.1/\s.1.2.1< (s.2.2.1.length:Int)) ((s.2.2.1[s.1.2.1.toNat]?).bind fun _=>some (.inl (((),(IntKind.wrap .i64 (s.1.2.1+1)),s.1.2.2.1,(IntKind.wrap .i64 (s.1.2.2.2.1+1)),()),(()),(s.2.2.1.set s.1.2.1.toNat x11),()))) none) none) (some (.inl (((),s.1.2.1,s.1.2.2.1,(IntKind.wrap .i64 (s.1.2.2.2.1+1)),()),(()),s.2.2)))) none) none) (some (.inr (((),s.1.2.1,()),(()),s.2.2)))
def sM:=gQ iT
def zt:=jP Tryz.f242 [0,0] sL iT [] [] (by kernel_rfl) fun s=>by simp only[iT,tm]; kernel_rfl
abbrev sN:LX:=⟨⟨[(0, .cl (.own 0 (.i .i64))),(3, .cl (.int .i64))],[],[.i .i64],0,61⟩,[(.ret,⟨[(0, .cl (.own 0 (.i .i64))),(2, .cl (.sub 0 (.i .i64)))],[],[.i .i64],0,61⟩),(.ext 0,⟨[(0, .cl (.own 0 (.i .i64))),(2, .cl (.dead))],[],[.i .i64],0,61⟩)],[],[0,3],[0,2]⟩
def fM (s: (Unit×Int×Unit)×Unit×List Int×Unit):sN.R:=
 br (decide (s.1.2.1< (s.2.2.1.length:Int))) (eh (0<=s.1.2.1/\s.1.2.1< (s.2.2.1.length:Int)) ((s.2.2.1[s.1.2.1.toNat]?).bind fun x3=>eh (0<=(IntKind.wrap .i64 (s.1.2.1-1))/\(IntKind.wrap .i64 (s.1.2.1-1))< (s.2.2.1.length:Int)) ((s.2.2.1[(IntKind.wrap .i64 (s.1.2.1-1)).toNat]?).bind fun x4=>br (x3==x4) (eh (0<=s.1.2.1/\s.1.2.1<=(s.2.2.1.length:Int)/\(s.2.2.1.length:Int)<=((s.2.2.1.length:Nat):Int)) ((sM (((),s.1.2.1,((0+s.1.2.1.toNat),((s.2.2.1.length:Int).toNat-s.1.2.1.toNat)),1,()),(()),s.2.2)).bind fun e16=>eh (0<=e16.1.2.1/\e16.1.2.1<=(e16.2.2.1.length:Int)/\(e16.2.2.1.length:Int)<=((e16.2.2.1.length:Nat):Int)) (eh ((0+e16.1.2.1.toNat)+((e16.2.2.1.length:Int).toNat-e16.1.2.1.toNat)<=e16.2.2.1.length) (eh (0<=(0:Int)/\(0:Int)<=e16.1.2.1/\e16.1.2.1<=((e16.2.2.1.length:Nat):Int)) (some (.inr (.inl (((),((0+(0:Int).toNat),(e16.1.2.1.toNat-(0:Int).toNat)),()),(()),(e16.2.2.1.take (0+e16.1.2.1.toNat)++List.replicate ((e16.2.2.1.length:Int).toNat-e16.1.2.1.toNat) (0:Int)++e16.2.2.1.drop ((0+e16.1.2.1.toNat)+((e16.2.2.1.length:Int).toNat-e16.1.2.1.toNat))),())))) none) none) none) none) (some (.inl (((),(IntKind.wrap .i64 (s.1.2.1+1)),()),(()),s.2.2)))) none) none) (some (.inr (.inr (((),(),()),(()),s.2.2))))
def oB:=gQ fM
def zu:=jP Tryz.f242 [0] sN fM [] [zt] (by kernel_rfl) fun s=>by simp only[fM,tm]; kernel_rfl
def iQ (a0:List Int):Option ((List Int)×Unit):=
 br (decide ((a0.length:Int)<2)) (some (a0,())) ((oB (((),1,()),(()),a0,())).bind fun e17=>Sum.elim (fun e17_0=>eh (e17_0.1.2.1.1=0/\e17_0.1.2.1.2<=e17_0.2.2.1.length) (some ((e17_0.2.2.1.take e17_0.1.2.1.2),())) none) (fun e17_1=>some e17_1.2.2) e17)
def Bz:=Wy 242 Tryz.f242 (.i .i64) [] [.ls (.i .i64)] (fun l _=>iQ l) [] [zu] (by kernel_rfl) fun l x=>by simp only[iQ,tm,-eq_self]; kernel_rfl
def ll (a0:List Int):Option ((List Int)×Unit):=
 (iP a0).bind fun y1=>(ky y1.1).bind fun y2=>eh (y2.1.length=y1.1.length) ((iQ y2.1).bind fun y3=>some (y3.1,())) none
def yg:=eV 215 Tryz.f215 [.ty (.ls (.i .i64))] [.ls (.i .i64)] (fun x=>ll x.1) [tc,FA,Bz] [] (by kernel_rfl) fun x=>by simp only[ll,tm,-eq_self]; kernel_rfl
def iU (a0:Int) (a1:List Int):Option (Bool×Unit):=
 (ik a1 a0).bind fun y1=>some (y1.1,())
def sO:=eV 216 Tryz.f216 [.ty (.i .i64), .pr (.ls (.i .i64))] [.b] (fun x=>iU x.1 x.2.1) [pJ] [] (by kernel_rfl) fun x=>by simp only[iU,tm]; kernel_rfl
abbrev jB:LX:=⟨⟨[(0, .cl (.ro (.i .i64))),(1, .fn 216 [.pro (.ls (.i .i64))]),(7, .cl (.int .i64)),(8, .cl (.int .i64))],[],[],0,19⟩,[(.ret,⟨[(4, .cl (.int .i64))],[],[],0,19⟩),(.ext 0,⟨[(4, .cl (.dead))],[],[],0,19⟩)],[],[0,1,7,8],[4]⟩
def eW (s: (List Int×(List Int×Unit)×Int×Int×Unit)×Unit×Unit):jB.R:=
 br (decide (s.1.2.2.2.1<s.1.2.2.1)) (eh (0<=s.1.2.2.2.1) ((s.1.1[s.1.2.2.2.1.toNat]?).bind fun x5=>(iU x5 s.1.2.1.1).bind fun y6=>br y6.1 (some (.inr (.inl (s.1.2.2.2,(()),(()))))) (some (.inl ((s.1.1,s.1.2.1,s.1.2.2.1,(IntKind.wrap .i64 (s.1.2.2.2.1+1)),()),(()),(()))))) none) (some (.inr (.inr (((),()),(()),(())))))
def gZ:=gQ eW
def oc:=jP Tryz.f174 [0] jB eW [sO] [] (by kernel_rfl) fun s=>by simp only[eW,tm]; kernel_rfl
def gk (a0:List Int) (a1_0:List Int):Option (Int×Unit):=
 (gZ ((a0,(a1_0,()),(a0.length:Int),0,()),(()),(()))).bind fun e7=>Sum.elim (fun e7_0=>some e7_0.1) (fun _=>some ((-1),())) e7
def oP:=eV 174 Tryz.f174 [.ty (.ls (.i .i64)), .fn 216 [.ls (.i .i64)]] [.i .i64] (fun x=>gk x.1 x.2.1.1) [] [oc] (by kernel_rfl) fun x=>by simp only[gk,tm]; kernel_rfl
abbrev iW:LX:=⟨⟨[(0, .cl (.own 0 (.i .i64))),(1, .fn 216 [.pro (.ls (.i .i64))]),(5, .cl (.int .i64)),(6, .cl (.int .i64))],[],[.i .i64],0,42⟩,[(.ext 0,⟨[(0, .cl (.own 0 (.i .i64))),(5, .cl (.int .i64))],[],[.i .i64],0,42⟩)],[],[0,1,5,6],[0,5]⟩
def eP (s: (Unit×(List Int×Unit)×Int×Int×Unit)×Unit×List Int×Unit):iW.R:=
 br (decide (s.1.2.2.2.1< (s.2.2.1.length:Int))) (eh (0<=s.1.2.2.2.1/\s.1.2.2.2.1< (s.2.2.1.length:Int)) ((s.2.2.1[s.1.2.2.2.1.toNat]?).bind fun x6=>(iU x6 s.1.2.1.1).bind fun y7=>br (!y7.1) (eh (0<=s.1.2.2.1/\s.1.2.2.1< (s.2.2.1.length:Int)) ((s.2.2.1[s.1.2.2.1.toNat]?).bind fun _=>some (.inl (((),s.1.2.1,(IntKind.wrap .i64 (s.1.2.2.1+1)),(IntKind.wrap .i64 (s.1.2.2.2.1+1)),()),(()),(s.2.2.1.set s.1.2.2.1.toNat x6),()))) none) (some (.inl (((),s.1.2.1,s.1.2.2.1,(IntKind.wrap .i64 (s.1.2.2.2.1+1)),()),(()),s.2.2)))) none) (some (.inr (((),s.1.2.2.1,()),(()),s.2.2)))
def iX:=gQ eP
def mO:=jP Tryz.f138 [0] iW eP [sO] [] (by kernel_rfl) fun s=>by simp only[eP,tm]; kernel_rfl
def fp (a0:List Int) (a1_0:List Int):Option ((List Int)×Unit):=
 (gk a0 a1_0).bind fun y1=>br (y1.1==(-1)) (some (a0,())) ((iX (((),(a1_0,()),y1.1,(IntKind.wrap .i64 (y1.1+1)),()),(()),a0,())).bind fun e12=>eh (0<=e12.1.2.1/\e12.1.2.1<=(e12.2.2.1.length:Int)/\(e12.2.2.1.length:Int)<=((e12.2.2.1.length:Nat):Int)) (eh ((0+e12.1.2.1.toNat)+((e12.2.2.1.length:Int).toNat-e12.1.2.1.toNat)<=e12.2.2.1.length) (eh (0<=(0:Int)/\(0:Int)<=e12.1.2.1/\e12.1.2.1<=((e12.2.2.1.length:Nat):Int)) (eh ((0+(0:Int).toNat)=0/\(e12.1.2.1.toNat-(0:Int).toNat)<=(e12.2.2.1.take (0+e12.1.2.1.toNat)++List.replicate ((e12.2.2.1.length:Int).toNat-e12.1.2.1.toNat) (0:Int)++e12.2.2.1.drop ((0+e12.1.2.1.toNat)+((e12.2.2.1.length:Int).toNat-e12.1.2.1.toNat))).length) (some (((e12.2.2.1.take (0+e12.1.2.1.toNat)++List.replicate ((e12.2.2.1.length:Int).toNat-e12.1.2.1.toNat) (0:Int)++e12.2.2.1.drop ((0+e12.1.2.1.toNat)+((e12.2.2.1.length:Int).toNat-e12.1.2.1.toNat))).take (e12.1.2.1.toNat-(0:Int).toNat)),())) none) none) none) none)
def nC:=Wy 138 Tryz.f138 (.i .i64) [.fn 216 [.ls (.i .i64)]] [.ls (.i .i64)] (fun l x=>fp l x.1.1) [oP] [mO] (by kernel_rfl) fun l x=>by simp only[fp,tm,-eq_self]; kernel_rfl
def iE (a0:List Int) (a1:List Int):Option ((List Int)×Unit):=
 (ll a0).bind fun y1=>(fp y1.1 a1).bind fun y2=>some (y2.1,())
def rc:=eV 143 Tryz.f143 [.ty (.ls (.i .i64)), .ty (.ls (.i .i64))] [.ls (.i .i64)] (fun x=>iE x.1 x.2.1) [yg,nC] [] (by kernel_rfl) fun x=>by simp only[iE,tm]; kernel_rfl
def kO (a0:List Int) (a1:List Int):Option ((List Int)×Unit):=
 (iE a0 a1).bind fun y1=>(iE a0 y1.1).bind fun y2=>some (y2.1,())
def xd:=eV 211 Tryz.f211 [.ty (.ls (.i .i64)), .ty (.ls (.i .i64))] [.ls (.i .i64)] (fun x=>kO x.1 x.2.1) [rc] [] (by kernel_rfl) fun x=>by simp only[kO,tm]; kernel_rfl
def iY (a0:ej):Option (Bool×Unit):=
 (eF a0.epoch 1 20).bind fun y1=>br y1.1 ((gH a0.replicas).bind fun y2=>br y2.1 ((gH a0.witnesses).bind fun y3=>br y3.1 ((ik a0.replicas a0.primary).bind fun y4=>br y4.1 ((kO a0.replicas a0.witnesses).bind fun y5=>some (((y5.1.length:Int)==0),())) (some (false,()))) (some (false,()))) (some (false,()))) (some (false,()))
def o9:=eV 175 Tryz.f175 [.ty (.st .config)] [.b] (fun x=>iY x.1) [gb,s8,pJ,xd] [] (by kernel_rfl) fun x=>by simp only[iY,tm]; kernel_rfl
abbrev xe:LX:=⟨⟨[(1, .cl (.ptr 0 0)),(6, .cl (.ro (.st .config))),(7, .cl (.int .i64)),(8, .cl (.int .i64))],[[.ro (.st .config), .int .i64]],[],0,30⟩,[(.ret,⟨[(1, .cl (.ptr 0 0)),(2, .cl (.bl))],[[.ro (.st .config), .int .i64]],[],0,30⟩),(.ext 0,⟨[(1, .cl (.ptr 0 0)),(2, .cl (.dead))],[[.ro (.st .config), .int .i64]],[],0,30⟩)],[],[1,6,7,8],[1,2]⟩
def kP (s: (Unit×List ej×Int×Int×Unit)×((List ej×Int×Unit)×Unit)×Unit):xe.R:=
 br (decide (s.1.2.2.2.1<s.1.2.2.1)) (eh (0<=s.1.2.2.2.1) ((s.1.2.1[s.1.2.2.2.1.toNat]?).bind fun x6=>(iY x6).bind fun y7=>br (!y7.1) (some (.inr (.inl (((),false,()),s.2.1,(()))))) (br (!(x6.epoch==(IntKind.wrap .i64 (s.1.2.2.2.1+1)))) (some (.inr (.inl (((),false,()),s.2.1,(()))))) (some (.inl (((),s.1.2.1,s.1.2.2.1,(IntKind.wrap .i64 (s.1.2.2.2.1+1)),()),s.2.1,(())))))) none) (some (.inr (.inr (((),(),()),s.2.1,(())))))
def sB:=gQ kP
def DI:=jP Tryz.f124 [0] xe kP [o9] [] (by kernel_rfl) fun s=>by simp only[kP,tm]; kernel_rfl
def jX (a0:ev):Option (Bool×Unit):=
 (sB (((),a0.configs,(a0.configs.length:Int),0,()),((a0.configs,a0.activated,()),()),(()))).bind fun e8=>Sum.elim (fun e8_0=>some e8_0.1.2) (fun e8_1=>(eF e8_1.2.1.1.2.1 0 (e8_1.2.1.1.1.length:Int)).bind fun y9=>some (y9.1,())) e8
def rz:=eV 124 Tryz.f124 [.ty (.st .masterLog)] [.b] (fun x=>jX x.1) [gb] [DI] (by kernel_rfl) fun x=>by simp only[jX,tm]; kernel_rfl
def ni (a0:fW):Option (Bool×Unit):=
 br ((a0.epoch==0)&&((a0.holder==0)&&((a0.ends==0)&&true))) (some (true,())) ((eF a0.epoch 1 20).bind fun y1=>br y1.1 ((eF a0.holder 0 4).bind fun y2=>br y2.1 ((eF a0.ends 1 1049).bind fun y3=>some (y3.1,())) (some (false,()))) (some (false,())))
def zm:=eV 125 Tryz.f125 [.ty (.st .lease)] [.b] (fun x=>ni x.1) [gb] [] (by kernel_rfl) fun x=>by simp only[ni,tm]; kernel_rfl
def qh (a0:eN):Option (Bool×Unit):=
 (eF a0.rack 0 9).bind fun y1=>br (!y1.1) (some (true,())) ((eF a0.capacity 0 9).bind fun y2=>br (!y2.1) (some (true,())) ((eF a0.load 0 99).bind fun y3=>some ((!y3.1),())))
def FB:=eV 204 Tryz.f204 [.ty (.st .place)] [.b] (fun x=>qh x.1) [gb] [] (by kernel_rfl) fun x=>by simp only[qh,tm]; kernel_rfl
abbrev kz:LX:=⟨⟨[(0, .cl (.ro (.st .place))),(1, .cl (.fc 204)),(7, .cl (.int .i64)),(8, .cl (.int .i64))],[],[],0,19⟩,[(.ret,⟨[(4, .cl (.int .i64))],[],[],0,19⟩),(.ext 0,⟨[(4, .cl (.dead))],[],[],0,19⟩)],[],[0,1,7,8],[4]⟩
def fm (s: (List eN×Unit×Int×Int×Unit)×Unit×Unit):kz.R:=
 br (decide (s.1.2.2.2.1<s.1.2.2.1)) (eh (0<=s.1.2.2.2.1) ((s.1.1[s.1.2.2.2.1.toNat]?).bind fun x4=>(qh x4).bind fun y5=>br y5.1 (some (.inr (.inl (s.1.2.2.2,(()),(()))))) (some (.inl ((s.1.1,(),s.1.2.2.1,(IntKind.wrap .i64 (s.1.2.2.2.1+1)),()),(()),(()))))) none) (some (.inr (.inr (((),()),(()),(())))))
def iz:=gQ fm
def pn:=jP Tryz.f238 [0] kz fm [FB] [] (by kernel_rfl) fun s=>by simp only[fm,tm]; kernel_rfl
def gM (a0:List eN):Option (Int×Unit):=
 (iz ((a0,(),(a0.length:Int),0,()),(()),(()))).bind fun e6=>Sum.elim (fun e6_0=>some e6_0.1) (fun _=>some ((-1),())) e6
def qi:=eV 238 Tryz.f238 [.ty (.ls (.st .place)), .fc 204] [.i .i64] (fun x=>gM x.1) [] [pn] (by kernel_rfl) fun x=>by simp only[gM,tm]; kernel_rfl
def gl (a0:List eN):Option (Bool×Unit):=
 (gM a0).bind fun y1=>some ((decide (y1.1≥0)),())
def oQ:=eV 203 Tryz.f203 [.ty (.ls (.st .place)), .fc 204] [.b] (fun x=>gl x.1) [qi] [] (by kernel_rfl) fun x=>by simp only[gl,tm]; kernel_rfl
def jw (a0:List eN):Option (Bool×Unit):=
 br ((a0.length:Int)==5) ((gl a0).bind fun y1=>some ((!y1.1),())) (some (false,()))
def uX:=eV 126 Tryz.f126 [.ty (.ls (.st .place))] [.b] (fun x=>jw x.1) [oQ] [] (by kernel_rfl) fun x=>by simp only[jw,tm]; kernel_rfl
def mw (a0:Op):Option (Bool×Unit):=
 (eF a0.client 0 2).bind fun y1=>br (!y1.1) (some (false,())) ((eF a0.seq 1 99).bind fun y2=>br (!y2.1) (some (false,())) ((eF a0.object 0 2).bind fun y3=>br (!y3.1) (some (false,())) ((eF a0.value 0 9).bind fun y4=>br (!y4.1) (some (false,())) (br (a0.kind==1) (br (a0.old==0) (some (true,())) (br (a0.kind==2) ((eF a0.old 0 9).bind fun y5=>some (y5.1,())) (some (false,())))) (br (a0.kind==2) ((eF a0.old 0 9).bind fun y6=>some (y6.1,())) (some (false,())))))))
def yh:=eV 178 Tryz.f178 [.ty (.st .op)] [.b] (fun x=>mw x.1) [gb] [] (by kernel_rfl) fun x=>by simp only[mw,tm]; kernel_rfl
abbrev HL:LX:=⟨⟨[(0, .cl (.ro (.st .entry))),(5, .cl (.ro (.st .entry))),(6, .cl (.int .i64)),(7, .cl (.int .i64))],[],[],0,41⟩,[(.ret,⟨[(0, .cl (.ro (.st .entry))),(2, .cl (.bl))],[],[],0,41⟩),(.ext 0,⟨[(0, .cl (.ro (.st .entry))),(2, .cl (.dead))],[],[],0,41⟩)],[],[0,5,6,7],[0,2]⟩
def tu (s: (List eu×List eu×Int×Int×Unit)×Unit×Unit):HL.R:=
 br (decide (s.1.2.2.2.1<s.1.2.2.1)) (eh (0<=s.1.2.2.2.1) ((s.1.2.1[s.1.2.2.2.1.toNat]?).bind fun x5=>(eF x5.epoch 1 20).bind fun y6=>br (!y6.1) (some (.inr (.inl ((s.1.1,false,()),(()),(()))))) (br (decide (s.1.2.2.2.1>0)) (eh (0<=(IntKind.wrap .i64 (s.1.2.2.2.1-1))) ((s.1.1[(IntKind.wrap .i64 (s.1.2.2.2.1-1)).toNat]?).bind fun x7=>br (decide (x5.epoch<x7.epoch)) (some (.inr (.inl ((s.1.1,false,()),(()),(()))))) ((mw x5.op).bind fun y8=>br (!y8.1) (some (.inr (.inl ((s.1.1,false,()),(()),(()))))) (some (.inl ((s.1.1,s.1.2.1,s.1.2.2.1,(IntKind.wrap .i64 (s.1.2.2.2.1+1)),()),(()),(())))))) none) ((mw x5.op).bind fun y9=>br (!y9.1) (some (.inr (.inl ((s.1.1,false,()),(()),(()))))) (some (.inl ((s.1.1,s.1.2.1,s.1.2.2.1,(IntKind.wrap .i64 (s.1.2.2.2.1+1)),()),(()),(()))))))) none) (some (.inr (.inr ((s.1.1,(),()),(()),(())))))
def CF:=gQ tu
def Pa:=jP Tryz.f186 [0] HL tu [gb,yh] [] (by kernel_rfl) fun s=>by simp only[tu,tm]; kernel_rfl
def ln (a0:List eu):Option (Bool×Unit):=
 (CF ((a0,a0,(a0.length:Int),0,()),(()),(()))).bind fun e10=>Sum.elim (fun e10_0=>some e10_0.1.2) (fun e10_1=>some ((decide ((e10_1.1.1.length:Int)<=16)),())) e10
def wE:=eV 186 Tryz.f186 [.ty (.ls (.st .entry))] [.b] (fun x=>ln x.1) [] [Pa] (by kernel_rfl) fun x=>by simp only[ln,tm]; kernel_rfl
abbrev yi:LX:=⟨⟨[(0, .cl (.ro (.i .i64))),(1, .cl (.ro (.i .i64))),(12, .cl (.int .i64)),(13, .cl (.int .i64))],[],[],0,26⟩,[(.ret,⟨[(4, .cl (.bl))],[],[],0,26⟩),(.ext 0,⟨[(4, .cl (.dead))],[],[],0,26⟩)],[],[0,1,12,13],[4]⟩
def l7 (s: (List Int×List Int×Int×Int×Unit)×Unit×Unit):yi.R:=
 br (decide (s.1.2.2.2.1<s.1.2.2.1)) (eh (0<=s.1.2.2.2.1) ((s.1.1[s.1.2.2.2.1.toNat]?).bind fun x5=>eh (0<=s.1.2.2.2.1) ((s.1.2.1[s.1.2.2.2.1.toNat]?).bind fun x6=>br (!(x5==x6)) (some (.inr (.inl ((false,()),(()),(()))))) (some (.inl ((s.1.1,s.1.2.1,s.1.2.2.1,(IntKind.wrap .i64 (s.1.2.2.2.1+1)),()),(()),(()))))) none) none) (some (.inr (.inr (((),()),(()),(())))))
def ul:=gQ l7
def FC:=jP Tryz.f239 [0] yi l7 [] [] (by kernel_rfl) fun s=>by simp only[l7,tm]; kernel_rfl
def td (a0:List Int) (a1:List Int):Option (Bool×Unit):=
 br (!((a0.length:Int)==(a1.length:Int))) (some (false,())) ((ul ((a0,a1,(a0.length:Int),0,()),(()),(()))).bind fun e7=>Sum.elim (fun e7_0=>some e7_0.1) (fun _=>some (true,())) e7)
def Jc:=eV 239 Tryz.f239 [.ty (.ls (.i .i64)), .ty (.ls (.i .i64))] [.b] (fun x=>td x.1 x.2.1) [] [FC] (by kernel_rfl) fun x=>by simp only[td,tm]; kernel_rfl
def l8 (a0:List Int) (a1:List Int):Option (Bool×Unit):=
 (td a0 a1).bind fun y1=>some (y1.1,())
def FD:=eV 207 Tryz.f207 [.ty (.ls (.i .i64)), .ty (.ls (.i .i64))] [.b] (fun x=>l8 x.1 x.2.1) [Jc] [] (by kernel_rfl) fun x=>by simp only[l8,tm]; kernel_rfl
def jx (a0:ej) (a1:ej):Option (Bool×Unit):=
 br (a0.epoch==a1.epoch) (br (a0.primary==a1.primary) ((l8 a0.replicas a1.replicas).bind fun y1=>br y1.1 ((l8 a0.witnesses a1.witnesses).bind fun y2=>some (y2.1,())) (some (false,()))) (some (false,()))) (some (false,()))
def um:=eV 129 Tryz.f129 [.ty (.st .config), .ty (.st .config)] [.b] (fun x=>jx x.1 x.2.1) [FD] [] (by kernel_rfl) fun x=>by simp only[jx,tm]; kernel_rfl
def nP (a0:List eu):Option (Int×Unit):=
 br ((a0.length:Int)==0) (some (0,())) (eh (0<=(IntKind.wrap .i64 ((a0.length:Int)-1))) ((a0[(IntKind.wrap .i64 ((a0.length:Int)-1)).toNat]?).bind fun x1=>some (x1.epoch,())) none)
def yj:=eV 128 Tryz.f128 [.ty (.ls (.st .entry))] [.i .i64] (fun x=>nP x.1) [] [] (by kernel_rfl) fun x=>by simp only[nP,tm]; kernel_rfl
def nQ (a0:ej) (a1:Int):Option (Int×Unit):=
 (iY a0).bind fun y1=>br (!y1.1) (some (0,())) (br (a1==a0.primary) (some (1,())) ((ik a0.replicas a1).bind fun y2=>br y2.1 (some (2,())) ((ik a0.witnesses a1).bind fun y3=>br y3.1 (some (3,())) (some (0,())))))
def BA:=eV 205 Tryz.f205 [.ty (.st .config), .ty (.i .i64)] [.i .i64] (fun x=>nQ x.1 x.2.1) [o9,pJ] [] (by kernel_rfl) fun x=>by simp only[nQ,tm]; kernel_rfl
def uo (a0:Int) (a1:List eu):Option (Bool×Unit):=
 (ln a1).bind fun y1=>br y1.1 (br (decide ((a1.length:Int)<=3)) ((eF a0 0 (IntKind.wrap .i64 (16-(a1.length:Int)))).bind fun y2=>br y2.1 (br (a0==0) (some (true,())) (some (((a1.length:Int)==3),()))) (some (false,()))) (some (false,()))) (some (false,()))
def Lh:=eV 206 Tryz.f206 [.ty (.i .i64), .ty (.ls (.st .entry))] [.b] (fun x=>uo x.1 x.2.1) [wE,gb] [] (by kernel_rfl) fun x=>by simp only[uo,tm]; kernel_rfl
def kQ (a0:eo) (a1:Int):Option (Bool×Unit):=
 (eF a0.version 1 2).bind fun y1=>br (!y1.1) (some (false,())) ((eF a0.epoch 0 20).bind fun y2=>br (!y2.1) (some (false,())) ((ln a0.log).bind fun y3=>br (!y3.1) (some (false,())) ((ln a0.learned).bind fun y4=>br (!y4.1) (some (false,())) ((eF a0.first 0 16).bind fun y5=>br (!y5.1) (some (false,())) (br (decide ((IntKind.wrap .i64 (a0.first+(a0.log.length:Int)))>16)) (some (false,())) ((eF a0.commit 0 (IntKind.wrap .i64 (a0.first+(a0.log.length:Int)))).bind fun y6=>br (!y6.1) (some (false,())) ((jx a0.config (⟨0,0,([]:List Int),([]:List Int)⟩:ej)).bind fun y7=>br y7.1 (br (a0.first==0) (br (a0.commit==0) (some (((a0.log.length:Int)==0),())) (some (false,()))) (some (false,()))) (br (!a0.intact) (some (false,())) (br (decide (a0.epoch<a0.config.epoch)) (some (false,())) ((nP a0.log).bind fun y8=>br (decide (y8.1>a0.config.epoch)) (some (false,())) ((nQ a0.config a1).bind fun y9=>br (y9.1==1) (some ((a0.first==0),())) (br (y9.1==2) (some ((a0.first==0),())) (br (y9.1==3) ((uo a0.first a0.log).bind fun y12=>some (y12.1,())) (some (false,())))))))))))))))
def xf:=eV 127 Tryz.f127 [.ty (.st .server), .ty (.i .i64)] [.b] (fun x=>kQ x.1 x.2.1) [gb,wE,um,yj,BA,Lh] [] (by kernel_rfl) fun x=>by simp only[kQ,tm]; kernel_rfl
def hO (a0:ej):Option (ej×Unit):=
 eh ((([]:List Int)++a0.replicas).length*8<=2 ^ 40) (eh ((([]:List Int)++a0.witnesses).length*8<=2 ^ 40) (some ((⟨a0.epoch,a0.primary,(([]:List Int)++a0.replicas),(([]:List Int)++a0.witnesses)⟩:ej),())) none) none
def qj:=eV 208 Tryz.f208 [.ty (.st .config)] [.st .config] (fun x=>hO x.1) [] [] (by kernel_rfl) fun x=>by simp only[hO,tm]; kernel_rfl
def mE (a0:ev) (a1:Int):Option (ej×Bool×Unit):=
 (jX a0).bind fun y1=>br (!y1.1) (some ((⟨0,0,([]:List Int),([]:List Int)⟩:ej),false,())) ((eF a1 1 (a0.configs.length:Int)).bind fun y2=>br (!y2.1) (some ((⟨0,0,([]:List Int),([]:List Int)⟩:ej),false,())) (eh (0<=(IntKind.wrap .i64 (a1-1))) ((a0.configs[(IntKind.wrap .i64 (a1-1)).toNat]?).bind fun x3=>(hO x3).bind fun y4=>some (y4.1,true,())) none))
def AR:=eV 130 Tryz.f130 [.ty (.st .masterLog), .ty (.i .i64)] [.st .config, .b] (fun x=>mE x.1 x.2.1) [rz,gb,qj] [] (by kernel_rfl) fun x=>by simp only[mE,tm]; kernel_rfl
abbrev uq:LX:=⟨⟨[(1, .cl (.ptr 0 0)),(57, .cl (.ro (.st .server))),(58, .cl (.int .i64)),(59, .cl (.int .i64))],[[.int .i64, .ro (.st .server), .ro (.i .i64), .ro (.st .config), .int .i64, .int .i64, .int .i64, .int .i64, .int .i64, .ro (.st .place)]],[],0,118⟩,[(.ret,⟨[(2, .cl (.bl))],[],[],0,118⟩),(.ext 0,⟨[(2, .cl (.dead))],[],[],0,118⟩)],[],[1,57,58,59],[2]⟩
def jl (s: (Unit×List eo×Int×Int×Unit)×((Int×List eo×List Int×List ej×Int×Int×Int×Int×Int×List eN×Unit)×Unit)×Unit):uq.R:=
 br (decide (s.1.2.2.2.1<s.1.2.2.1)) (eh (0<=s.1.2.2.2.1) ((s.1.2.1[s.1.2.2.2.1.toNat]?).bind fun x20=>(kQ x20 s.1.2.2.2.1).bind fun y21=>br (!y21.1) (some (.inr (.inl ((false,()),(()),(()))))) (br (decide (x20.epoch>(s.2.1.1.2.2.2.1.length:Int))) (some (.inr (.inl ((false,()),(()),(()))))) ((nP x20.learned).bind fun y22=>br (decide (y22.1>s.2.1.1.2.2.2.2.1)) (some (.inr (.inl ((false,()),(()),(()))))) ((jx x20.config (⟨0,0,([]:List Int),([]:List Int)⟩:ej)).bind fun y23=>br y23.1 (some (.inl (((),s.1.2.1,s.1.2.2.1,(IntKind.wrap .i64 (s.1.2.2.2.1+1)),()),s.2.1,(())))) ((mE (⟨s.2.1.1.2.2.2.1,s.2.1.1.2.2.2.2.1⟩:ev) x20.config.epoch).bind fun y24=>br (!y24.2.1) (some (.inr (.inl ((false,()),(()),(()))))) ((jx y24.1 x20.config).bind fun y25=>br (!y25.1) (some (.inr (.inl ((false,()),(()),(()))))) (br (decide (x20.config.epoch>s.2.1.1.2.2.2.2.1)) (some (.inr (.inl ((false,()),(()),(()))))) (some (.inl (((),s.1.2.1,s.1.2.2.1,(IntKind.wrap .i64 (s.1.2.2.2.1+1)),()),s.2.1,(()))))))))))) none) (some (.inr (.inr (((),()),(()),(())))))
def po:=gQ jl
def AU:=jP Tryz.f58 [0] uq jl [xf,yj,um,AR] [] (by kernel_rfl) fun s=>by simp only[jl,tm]; kernel_rfl
def fS (a0:eg):Option (Bool×Unit):=
 (eF a0.now 0 999).bind fun y1=>br (!y1.1) (some (false,())) (br (!((a0.servers.length:Int)==5)) (some (false,())) ((pm a0.sides).bind fun y2=>br (!y2.1) (some (false,())) ((jX a0.master).bind fun y3=>br (!y3.1) (some (false,())) ((ni a0.lease).bind fun y4=>br (!y4.1) (some (false,())) ((jw a0.places).bind fun y5=>br (!y5.1) (some (false,())) ((eF a0.masterUp 0 3).bind fun y6=>br (!y6.1) (some (false,())) (br (decide (a0.lease.epoch>a0.master.activated)) (some (false,())) ((po (((),a0.servers,(a0.servers.length:Int),0,()),((a0.now,a0.servers,a0.sides,a0.master.configs,a0.master.activated,a0.masterUp,a0.lease.epoch,a0.lease.holder,a0.lease.ends,a0.places,()),()),(()))).bind fun e26=>Sum.elim (fun e26_0=>some e26_0.1) (fun _=>some (true,())) e26))))))))
def iG:=eV 58 Tryz.f58 [.ty (.st .cluster)] [.b] (fun x=>fS x.1) [gb,Fx,rz,zm,uX] [AU] (by kernel_rfl) fun x=>by simp only[fS,tm]; kernel_rfl
def gi (a0:List eu):Option ((List eu)×Unit):=eh (a0.length*56<=2 ^ 40) (some (a0,())) none
def l9:=We 209 Tryz.f209 (.st .entry) 56 gi (by kernel_rfl) (fun _=>rfl) fun _=>by kernel_rfl
def hQ (a0:eo):Option (eo×Unit):=
 (hO a0.config).bind fun y1=>(gi a0.log).bind fun y2=>(gi a0.learned).bind fun y3=>some ((⟨a0.up,a0.intact,a0.version,a0.epoch,y1.1,a0.first,y2.1,a0.commit,y3.1⟩:eo),())
def te:=eV 131 Tryz.f131 [.ty (.st .server)] [.st .server] (fun x=>hQ x.1) [qj,l9] [] (by kernel_rfl) fun x=>by simp only[hQ,tm]; kernel_rfl
abbrev yk:LX:=⟨⟨[(2, .cl (.ptr 0 0)),(3, .cl (.ptr 1 0)),(10, .cl (.ro (.st .config))),(11, .cl (.int .i64)),(12, .cl (.int .i64))],[[.em, .int .i64],[.own 0 (.st .config), .int .i64]],[.st .config],0,25⟩,[(.ext 0,⟨[(2, .cl (.ptr 0 0)),(3, .cl (.ptr 1 0))],[[.em, .int .i64],[.own 0 (.st .config), .int .i64]],[.st .config],0,25⟩)],[.b 2 0 (.st .config)],[2,3,10,11,12],[2,3]⟩
def ma (s: (Unit×Unit×List ej×Int×Int×Unit)×((Unit×Int×Unit)×(Unit×Int×Unit)×Unit)×List ej×Unit):yk.R:=
 br (decide (s.1.2.2.2.2.1<s.1.2.2.2.1)) (eh (0<=s.1.2.2.2.2.1) ((s.1.2.2.1[s.1.2.2.2.2.1.toNat]?).bind fun x14=>(hO x14).bind fun y15=>eh ((s.2.2.1++([y15.1]:List ej)).length*64<=2 ^ 40) (some (.inl (((),(),s.1.2.2.1,s.1.2.2.2.1,(IntKind.wrap .i64 (s.1.2.2.2.2.1+1)),()),s.2.1,(s.2.2.1++([y15.1]:List ej)),()))) none) none) (some (.inr (((),(),()),s.2)))
def yl:=gQ ma
def FE:=jP Tryz.f133 [0] yk ma [qj] [] (by kernel_rfl) fun s=>by simp only[ma,tm]; kernel_rfl
def mF (a0:ev):Option (ev×Unit):=
 (yl (((),(),a0.configs,(a0.configs.length:Int),0,()),(((),0,()),((),a0.activated,()),()),([]:List ej),())).bind fun e16=>some ((⟨e16.2.2.1,e16.2.1.2.1.2.1⟩:ev),())
def wF:=eV 133 Tryz.f133 [.ty (.st .masterLog)] [.st .masterLog] (fun x=>mF x.1) [] [FE] (by kernel_rfl) fun x=>by simp only[mF,tm]; kernel_rfl
def qk (a0:List eN):Option ((List eN)×Unit):=eh (a0.length*24<=2 ^ 40) (some (a0,())) none
def FF:=We 134 Tryz.f134 (.st .place) 24 qk (by kernel_rfl) (fun _=>rfl) fun _=>by kernel_rfl
abbrev xg:LX:=⟨⟨[(1, .cl (.ptr 0 0)),(2, .cl (.ptr 1 0)),(3, .cl (.ptr 2 0)),(9, .cl (.ro (.st .server))),(10, .cl (.int .i64)),(11, .cl (.int .i64))],[[.int .i64, .ro (.st .server), .ro (.i .i64), .ro (.st .config), .int .i64, .int .i64, .int .i64, .int .i64, .int .i64, .ro (.st .place)],[.int .i64, .em, .em, .em, .int .i64, .int .i64, .int .i64, .int .i64, .int .i64, .em],[.int .i64, .own 0 (.st .server), .ro (.i .i64), .ro (.st .config), .int .i64, .int .i64, .int .i64, .int .i64, .int .i64, .ro (.st .place)]],[.st .server],0,36⟩,[(.ext 0,⟨[(1, .cl (.ptr 0 0)),(2, .cl (.ptr 1 0)),(3, .cl (.ptr 2 0))],[[.int .i64, .ro (.st .server), .ro (.i .i64), .ro (.st .config), .int .i64, .int .i64, .int .i64, .int .i64, .int .i64, .ro (.st .place)],[.int .i64, .em, .em, .em, .int .i64, .int .i64, .int .i64, .int .i64, .int .i64, .em],[.int .i64, .own 0 (.st .server), .ro (.i .i64), .ro (.st .config), .int .i64, .int .i64, .int .i64, .int .i64, .int .i64, .ro (.st .place)]],[.st .server],0,36⟩)],[.b 2 1 (.st .server)],[1,2,3,9,10,11],[1,2,3]⟩
def kR (s: (Unit×Unit×Unit×List eo×Int×Int×Unit)×((Int×List eo×List Int×List ej×Int×Int×Int×Int×Int×List eN×Unit)×(Int×Unit×Unit×Unit×Int×Int×Int×Int×Int×Unit×Unit)×(Int×Unit×List Int×List ej×Int×Int×Int×Int×Int×List eN×Unit)×Unit)×List eo×Unit):xg.R:=
 br (decide (s.1.2.2.2.2.2.1<s.1.2.2.2.2.1)) (eh (0<=s.1.2.2.2.2.2.1) ((s.1.2.2.2.1[s.1.2.2.2.2.2.1.toNat]?).bind fun x60=>(hQ x60).bind fun y61=>eh ((s.2.2.1++([y61.1]:List eo)).length*152<=2 ^ 40) (some (.inl (((),(),(),s.1.2.2.2.1,s.1.2.2.2.2.1,(IntKind.wrap .i64 (s.1.2.2.2.2.2.1+1)),()),s.2.1,(s.2.2.1++([y61.1]:List eo)),()))) none) none) (some (.inr (((),(),(),()),s.2)))
def xh:=gQ kR
def DJ:=jP Tryz.f60 [0] xg kR [te] [] (by kernel_rfl) fun s=>by simp only[kR,tm]; kernel_rfl
def eO (a0:eg):Option (eg×Unit):=
 (xh (((),(),(),a0.servers,(a0.servers.length:Int),0,()),((a0.now,a0.servers,a0.sides,a0.master.configs,a0.master.activated,a0.masterUp,a0.lease.epoch,a0.lease.holder,a0.lease.ends,a0.places,()),(0,(),(),(),0,0,0,0,0,(),()),(a0.now,(),a0.sides,a0.master.configs,a0.master.activated,a0.masterUp,a0.lease.epoch,a0.lease.holder,a0.lease.ends,a0.places,()),()),([]:List eo),())).bind fun e62=>(iP e62.2.1.1.2.2.1).bind fun y63=>(mF (⟨e62.2.1.1.2.2.2.1,e62.2.1.1.2.2.2.2.1⟩:ev)).bind fun y64=>(qk e62.2.1.1.2.2.2.2.2.2.2.2.2.1).bind fun y65=>some ((⟨e62.2.1.2.2.1.1,e62.2.2.1,y63.1,y64.1,e62.2.1.2.2.1.2.2.2.2.2.1,(⟨e62.2.1.2.2.1.2.2.2.2.2.2.1,e62.2.1.2.2.1.2.2.2.2.2.2.2.1,e62.2.1.2.2.1.2.2.2.2.2.2.2.2.1⟩:fW),y65.1⟩:eg),())
def jt:=eV 60 Tryz.f60 [.ty (.st .cluster)] [.st .cluster] (fun x=>eO x.1) [tc,wF,FF] [DJ] (by kernel_rfl) fun x=>by simp only[eO,tm]; kernel_rfl
def fI (a0:ev):Option (ej×Bool×Unit):=
 (mE a0 a0.activated).bind fun y1=>some (y1.1,y1.2.1,())
def mP:=eV 83 Tryz.f83 [.ty (.st .masterLog)] [.st .config, .b] (fun x=>fI x.1) [AR] [] (by kernel_rfl) fun x=>by simp only[fI,tm]; kernel_rfl
def fq (a0:eg) (a1:Int):Option (Bool×Unit):=
 (fS a0).bind fun y1=>br y1.1 ((eF a1 0 4).bind fun y2=>some (y2.1,())) (some (false,()))
def nj:=eV 172 Tryz.f172 [.ty (.st .cluster), .ty (.i .i64)] [.b] (fun x=>fq x.1 x.2.1) [iG,gb] [] (by kernel_rfl) fun x=>by simp only[fq,tm]; kernel_rfl
def nR (a0:eo) (a1:Int):Option (Bool×Unit):=
 (kQ a0 a1).bind fun y1=>br y1.1 (br a0.up ((nQ a0.config a1).bind fun y2=>br (y2.1==1) (some ((a0.epoch==a0.config.epoch),())) (some (false,()))) (some (false,()))) (some (false,()))
def FG:=eV 173 Tryz.f173 [.ty (.st .server), .ty (.i .i64)] [.b] (fun x=>nR x.1 x.2.1) [xf,BA] [] (by kernel_rfl) fun x=>by simp only[nR,tm]; kernel_rfl
def fA (a0:eg) (a1:Int):Option (Bool×Unit):=
 (fq a0 a1).bind fun y1=>br y1.1 (eh (0<=a1) ((a0.servers[a1.toNat]?).bind fun x2=>(nR x2 a1).bind fun y3=>some (y3.1,())) none) (some (false,()))
def nk:=eV 84 Tryz.f84 [.ty (.st .cluster), .ty (.i .i64)] [.b] (fun x=>fA x.1 x.2.1) [nj,FG] [] (by kernel_rfl) fun x=>by simp only[fA,tm]; kernel_rfl
def nS (a1:Int):Option ((List Int)×Unit):=
 br (decide (a1<0)) (none) (br (decide ((IntKind.wrap .i64 (a1-(IntKind.wrap .i64 (0-0))))>0)) (eh ((0:Int)=0/\(0:Int)=0) (eh (0< (IntKind.wrap .i64 (a1-(IntKind.wrap .i64 (0-0))))/\(IntKind.wrap .i64 (a1-(IntKind.wrap .i64 (0-0))))*((8:Nat):Int)<=2 ^ 40) (eh (0<=(0:Int)/\(0:Int)<=(0:Int)/\(0:Int)<=(((IntKind.wrap .i64 (a1-(IntKind.wrap .i64 (0-0)))).toNat:Nat):Int)) (eh ((0+(0:Int).toNat)=0/\((0:Int).toNat-(0:Int).toNat)<=(List.replicate (IntKind.wrap .i64 (a1-(IntKind.wrap .i64 (0-0)))).toNat (0:Int)).length) (some (((List.replicate (IntKind.wrap .i64 (a1-(IntKind.wrap .i64 (0-0)))).toNat (0:Int)).take ((0:Int).toNat-(0:Int).toNat)),())) none) none) none) none) (some (([]:List Int),())))
def FH:=eV 249 Tryz.f249 [.nl, .ty (.i .i64)] [.ls (.i .i64)] (fun x=>nS x.2.1) [] [] (by kernel_rfl) fun x=>by simp only[nS,tm,-eq_self]; kernel_rfl
abbrev xi:LX:=⟨⟨[(0, .cl (.ro (.ls (.i .i64)))),(3, .cl (.int .i64)),(9, .cl (.ro (.ls (.i .i64)))),(10, .cl (.int .i64)),(11, .cl (.int .i64))],[],[],0,36⟩,[(.ext 0,⟨[(0, .cl (.ro (.ls (.i .i64)))),(3, .cl (.int .i64))],[],[],0,36⟩)],[],[0,3,9,10,11],[0,3]⟩
def kT (s: (List (List Int)×Int×List (List Int)×Int×Int×Unit)×Unit×Unit):xi.R:=
 br (decide (s.1.2.2.2.2.1<s.1.2.2.2.1)) (eh (0<=s.1.2.2.2.2.1) ((s.1.2.2.1[s.1.2.2.2.2.1.toNat]?).bind fun x6=>br (decide ((IntKind.wrap .i64 (s.1.2.1+(x6.length:Int)))<0)) (none) (some (.inl ((s.1.1,(IntKind.wrap .i64 (s.1.2.1+(x6.length:Int))),s.1.2.2.1,s.1.2.2.2.1,(IntKind.wrap .i64 (s.1.2.2.2.2.1+1)),()),(()),(()))))) none) (some (.inr ((s.1.1,s.1.2.1,()),(()),(()))))
def xj:=gQ kT
def DK:=jP Tryz.f229 [0] xi kT [] [] (by kernel_rfl) fun s=>by simp only[kT,tm]; kernel_rfl
abbrev v5:LX:=⟨⟨[(6, .cl (.own 0 (.i .i64))),(25, .cl (.ro (.ls (.i .i64)))),(26, .cl (.int .i64)),(27, .cl (.int .i64))],[],[.i .i64],0,36⟩,[(.ext 2,⟨[(6, .cl (.own 0 (.i .i64)))],[],[.i .i64],0,36⟩)],[],[6,25,26,27],[6]⟩
def kb (s: (Unit×List (List Int)×Int×Int×Unit)×Unit×List Int×Unit):v5.R:=
 br (decide (s.1.2.2.2.1<s.1.2.2.1)) (eh (0<=s.1.2.2.2.1) ((s.1.2.1[s.1.2.2.2.1.toNat]?).bind fun x13=>eh ((s.2.2.1++x13).length*8<=2 ^ 40) (some (.inl (((),s.1.2.1,s.1.2.2.1,(IntKind.wrap .i64 (s.1.2.2.2.1+1)),()),(()),(s.2.2.1++x13),()))) none) none) (some (.inr (((),()),(()),s.2.2)))
def v6:=gQ kb
def CG:=jP Tryz.f229 [1] v5 kb [] [] (by kernel_rfl) fun s=>by simp only[kb,tm]; kernel_rfl
def oS (a0:List (List Int)):Option ((List Int)×Unit):=
 (xj ((a0,0,a0,(a0.length:Int),0,()),(()),(()))).bind fun e7=>(nS e7.1.2.1).bind fun y8=>(v6 (((),e7.1.1,(e7.1.1.length:Int),0,()),(()),y8.1,())).bind fun e14=>some e14.2.2
def GV:=eV 229 Tryz.f229 [.ty (.ls (.ls (.i .i64)))] [.ls (.i .i64)] (fun x=>oS x.1) [FH] [DK,CG] (by kernel_rfl) fun x=>by simp only[oS,tm]; kernel_rfl
def mc (a0:List Int) (a1:List Int):Option ((List Int)×Unit):=
 (oS ([a0,a1]:List (List Int))).bind fun y1=>(ll y1.1).bind fun y2=>some (y2.1,())
def ym:=eV 176 Tryz.f176 [.ty (.ls (.i .i64)), .ty (.ls (.i .i64))] [.ls (.i .i64)] (fun x=>mc x.1 x.2.1) [GV,yg] [] (by kernel_rfl) fun x=>by simp only[mc,tm]; kernel_rfl
def lp (a0:ej):Option ((List Int)×Unit):=
 (iY a0).bind fun y1=>br (!y1.1) (some (([]:List Int),())) ((mc a0.replicas a0.witnesses).bind fun y2=>some (y2.1,()))
def rP:=eV 86 Tryz.f86 [.ty (.st .config)] [.ls (.i .i64)] (fun x=>lp x.1) [o9,ym] [] (by kernel_rfl) fun x=>by simp only[lp,tm]; kernel_rfl
def nT (a0:List Int) (a1:Int) (a2:Int):Option (Bool×Unit):=
 (pm a0).bind fun y1=>br y1.1 ((eF a1 0 4).bind fun y2=>br y2.1 ((eF a2 0 4).bind fun y3=>br y3.1 (eh (0<=a1) ((a0[a1.toNat]?).bind fun x4=>eh (0<=a2) ((a0[a2.toNat]?).bind fun x5=>some ((x4==x5),())) none) none) (some (false,()))) (some (false,()))) (some (false,()))
def wG:=eV 177 Tryz.f177 [.ty (.ls (.i .i64)), .ty (.i .i64), .ty (.i .i64)] [.b] (fun x=>nT x.1 x.2.1 x.2.2.1) [Fx,gb] [] (by kernel_rfl) fun x=>by simp only[nT,tm]; kernel_rfl
def zn (a0:eg) (a1:Int) (a2:Int):Option (Bool×Unit):=
 eh (0<=a1) ((a0.servers[a1.toNat]?).bind fun x1=>eh (0<=a2) ((a0.servers[a2.toNat]?).bind fun x2=>(nT a0.sides a1 a2).bind fun y3=>br y3.1 (br x2.up (br (x2.epoch==x1.epoch) ((jx x2.config x1.config).bind fun y4=>br y4.1 (some ((decide (x2.commit<=(x1.log.length:Int))),())) (some (false,()))) (some (false,()))) (some (false,()))) (some (false,()))) none) none
def N6:=eV 88 Tryz.f88 [.ty (.st .cluster), .ty (.i .i64), .ty (.i .i64)] [.b] (fun x=>zn x.1 x.2.1 x.2.2.1) [wG,um] [] (by kernel_rfl) fun x=>by simp only[zn,tm]; kernel_rfl
def lL (a0:Int) (a1:eg) (a2:ej):Option (Bool×Unit):=
 (zn a1 a2.primary a0).bind fun y1=>some ((!y1.1),())
def zw:=eV 87 Tryz.f87 [.ty (.i .i64), .pr (.st .cluster), .pr (.st .config)] [.b] (fun x=>lL x.1 x.2.1 x.2.2.1) [N6] [] (by kernel_rfl) fun x=>by simp only[lL,tm]; kernel_rfl
abbrev jC:LX:=⟨⟨[(0, .cl (.ro (.i .i64))),(1, .fn 87 [.pro (.st .cluster), .pro (.st .config)]),(7, .cl (.int .i64)),(8, .cl (.int .i64))],[],[],0,19⟩,[(.ret,⟨[(4, .cl (.int .i64))],[],[],0,19⟩),(.ext 0,⟨[(4, .cl (.dead))],[],[],0,19⟩)],[],[0,1,7,8],[4]⟩
def eX (s: (List Int×(eg×ej×Unit)×Int×Int×Unit)×Unit×Unit):jC.R:=
 br (decide (s.1.2.2.2.1<s.1.2.2.1)) (eh (0<=s.1.2.2.2.1) ((s.1.1[s.1.2.2.2.1.toNat]?).bind fun x6=>(lL x6 s.1.2.1.1 s.1.2.1.2.1).bind fun y7=>br y7.1 (some (.inr (.inl (s.1.2.2.2,(()),(()))))) (some (.inl ((s.1.1,s.1.2.1,s.1.2.2.1,(IntKind.wrap .i64 (s.1.2.2.2.1+1)),()),(()),(()))))) none) (some (.inr (.inr (((),()),(()),(())))))
def hU:=gQ eX
def od:=jP Tryz.f174 [0] jC eX [zw] [] (by kernel_rfl) fun s=>by simp only[eX,tm]; kernel_rfl
def gm (a0:List Int) (a1_0:eg) (a1_1:ej):Option (Int×Unit):=
 (hU ((a0,(a1_0,a1_1,()),(a0.length:Int),0,()),(()),(()))).bind fun e8=>Sum.elim (fun e8_0=>some e8_0.1) (fun _=>some ((-1),())) e8
def oT:=eV 174 Tryz.f174 [.ty (.ls (.i .i64)), .fn 87 [.st .cluster, .st .config]] [.i .i64] (fun x=>gm x.1 x.2.1.1 x.2.1.2.1) [] [od] (by kernel_rfl) fun x=>by simp only[gm,tm]; kernel_rfl
def fT (a0:List Int) (a1_0:eg) (a1_1:ej):Option (Bool×Unit):=
 (gm a0 a1_0 a1_1).bind fun y1=>some ((decide (y1.1≥0)),())
def nU:=eV 85 Tryz.f85 [.ty (.ls (.i .i64)), .fn 87 [.st .cluster, .st .config]] [.b] (fun x=>fT x.1 x.2.1.1 x.2.1.2.1) [oT] [] (by kernel_rfl) fun x=>by simp only[fT,tm]; kernel_rfl
def ke (a0:eg):Option (Int×Unit):=
 (fI a0.master).bind fun y1=>br (!y1.2.1) (some ((-1),())) ((fA a0 y1.1.primary).bind fun y2=>br (!y2.1) (some ((-1),())) (eh (0<=y1.1.primary) ((a0.servers[y1.1.primary.toNat]?).bind fun x3=>br (!(x3.config.epoch==y1.1.epoch)) (some ((-1),())) ((lp y1.1).bind fun y4=>(fT y4.1 a0 y1.1).bind fun y5=>br y5.1 (some ((-1),())) (some (y1.1.primary,())))) none))
def v7:=eV 41 Tryz.f41 [.ty (.st .cluster)] [.i .i64] (fun x=>ke x.1) [mP,nk,rP,nU] [] (by kernel_rfl) fun x=>by simp only[ke,tm]; kernel_rfl
def rQ (a0:eg):Option (Bool×Unit):=
 (ke a0).bind fun y1=>some ((!(y1.1==(-1))),())
def Li:=eV 61 Tryz.f61 [.ty (.st .cluster)] [.b] (fun x=>rQ x.1) [v7] [] (by kernel_rfl) fun x=>by simp only[rQ,tm]; kernel_rfl
def nV (a0:eg) (a1:Int):Option (Bool×Unit):=
 eh (0<=a1) ((a0.servers[a1.toNat]?).bind fun x1=>br x1.up (eh (0<=a1) ((a0.sides[a1.toNat]?).bind fun x2=>some ((x2==0),())) none) (some (false,()))) none
def AW:=eV 137 Tryz.f137 [.ty (.st .cluster), .ty (.i .i64)] [.b] (fun x=>nV x.1 x.2.1) [] [] (by kernel_rfl) fun x=>by simp only[nV,tm]; kernel_rfl
def pa (a0:Int) (_a1:eo) (a2:eg):Option (Bool×Unit):=
 (nV a2 a0).bind fun y1=>some (y1.1,())
def DL:=eV 136 Tryz.f136 [.ty (.i .i64), .ty (.st .server), .pr (.st .cluster)] [.b] (fun x=>pa x.1 x.2.1 x.2.2.1) [AW] [] (by kernel_rfl) fun x=>by simp only[pa,tm]; kernel_rfl
abbrev lE:LX:=⟨⟨[(1, .fn 136 [.pro (.st .cluster)]),(5, .cl (.own 0 (.i .i64))),(14, .cl (.ro (.st .server))),(15, .cl (.int .i64)),(16, .cl (.int .i64))],[],[.i .i64],0,31⟩,[(.ext 0,⟨[(5, .cl (.own 0 (.i .i64)))],[],[.i .i64],0,31⟩)],[],[1,5,14,15,16],[5]⟩
def fD (s: ((eg×Unit)×Unit×List eo×Int×Int×Unit)×Unit×List Int×Unit):lE.R:=
 br (decide (s.1.2.2.2.2.1<s.1.2.2.2.1)) (eh (0<=s.1.2.2.2.2.1) ((s.1.2.2.1[s.1.2.2.2.2.1.toNat]?).bind fun x7=>(pa s.1.2.2.2.2.1 x7 s.1.1.1).bind fun y8=>br y8.1 (eh ((s.2.2.1++([s.1.2.2.2.2.1]:List Int)).length*8<=2 ^ 40) (some (.inl ((s.1.1,(),s.1.2.2.1,s.1.2.2.2.1,(IntKind.wrap .i64 (s.1.2.2.2.2.1+1)),()),(()),(s.2.2.1++([s.1.2.2.2.2.1]:List Int)),()))) none) (some (.inl ((s.1.1,(),s.1.2.2.1,s.1.2.2.2.1,(IntKind.wrap .i64 (s.1.2.2.2.2.1+1)),()),(()),s.2.2)))) none) (some (.inr (((),()),(()),s.2.2)))
def lF:=gQ fD
def qB:=jP Tryz.f135 [0] lE fD [DL] [] (by kernel_rfl) fun s=>by simp only[fD,tm]; kernel_rfl
def gt (a0:eg) (a1_0:eg):Option ((List Int)×Unit):=
 (fS a0).bind fun y1=>br (!y1.1) (some (([]:List Int),())) ((lF (((a1_0,()),(),a0.servers,(a0.servers.length:Int),0,()),(()),([]:List Int),())).bind fun e10=>some e10.2.2)
def rR:=eV 135 Tryz.f135 [.ty (.st .cluster), .fn 136 [.st .cluster]] [.ls (.i .i64)] (fun x=>gt x.1 x.2.1.1) [iG] [qB] (by kernel_rfl) fun x=>by simp only[gt,tm]; kernel_rfl
def kU (a0:Int) (a1:eg) (a2:ej):Option (Bool×Unit):=
 (nV a1 a0).bind fun y1=>br (!y1.1) (some (true,())) (eh (0<=a0) ((a1.servers[a0.toNat]?).bind fun x2=>some ((!(x2.config.epoch==a2.epoch)),())) none)
def xk:=eV 139 Tryz.f139 [.ty (.i .i64), .pr (.st .cluster), .pr (.st .config)] [.b] (fun x=>kU x.1 x.2.1 x.2.2.1) [AW] [] (by kernel_rfl) fun x=>by simp only[kU,tm]; kernel_rfl
abbrev kD:LX:=⟨⟨[(0, .cl (.ro (.i .i64))),(1, .fn 139 [.pro (.st .cluster), .pro (.st .config)]),(7, .cl (.int .i64)),(8, .cl (.int .i64))],[],[],0,19⟩,[(.ret,⟨[(4, .cl (.int .i64))],[],[],0,19⟩),(.ext 0,⟨[(4, .cl (.dead))],[],[],0,19⟩)],[],[0,1,7,8],[4]⟩
def gD (s: (List Int×(eg×ej×Unit)×Int×Int×Unit)×Unit×Unit):kD.R:=
 br (decide (s.1.2.2.2.1<s.1.2.2.1)) (eh (0<=s.1.2.2.2.1) ((s.1.1[s.1.2.2.2.1.toNat]?).bind fun x6=>(kU x6 s.1.2.1.1 s.1.2.1.2.1).bind fun y7=>br y7.1 (some (.inr (.inl (s.1.2.2.2,(()),(()))))) (some (.inl ((s.1.1,s.1.2.1,s.1.2.2.1,(IntKind.wrap .i64 (s.1.2.2.2.1+1)),()),(()),(()))))) none) (some (.inr (.inr (((),()),(()),(())))))
def pN:=gQ gD
def pO:=jP Tryz.f174 [0] kD gD [xk] [] (by kernel_rfl) fun s=>by simp only[gD,tm]; kernel_rfl
def i7 (a0:List Int) (a1_0:eg) (a1_1:ej):Option (Int×Unit):=
 (pN ((a0,(a1_0,a1_1,()),(a0.length:Int),0,()),(()),(()))).bind fun e8=>Sum.elim (fun e8_0=>some e8_0.1) (fun _=>some ((-1),())) e8
def qC:=eV 174 Tryz.f174 [.ty (.ls (.i .i64)), .fn 139 [.st .cluster, .st .config]] [.i .i64] (fun x=>i7 x.1 x.2.1.1 x.2.1.2.1) [] [pO] (by kernel_rfl) fun x=>by simp only[i7,tm]; kernel_rfl
abbrev jD:LX:=⟨⟨[(0, .cl (.own 0 (.i .i64))),(1, .fn 139 [.pro (.st .cluster), .pro (.st .config)]),(5, .cl (.int .i64)),(6, .cl (.int .i64))],[],[.i .i64],0,42⟩,[(.ext 0,⟨[(0, .cl (.own 0 (.i .i64))),(5, .cl (.int .i64))],[],[.i .i64],0,42⟩)],[],[0,1,5,6],[0,5]⟩
def fZ (s: (Unit×(eg×ej×Unit)×Int×Int×Unit)×Unit×List Int×Unit):jD.R:=
 br (decide (s.1.2.2.2.1< (s.2.2.1.length:Int))) (eh (0<=s.1.2.2.2.1/\s.1.2.2.2.1< (s.2.2.1.length:Int)) ((s.2.2.1[s.1.2.2.2.1.toNat]?).bind fun x7=>(kU x7 s.1.2.1.1 s.1.2.1.2.1).bind fun y8=>br (!y8.1) (eh (0<=s.1.2.2.1/\s.1.2.2.1< (s.2.2.1.length:Int)) ((s.2.2.1[s.1.2.2.1.toNat]?).bind fun _=>some (.inl (((),s.1.2.1,(IntKind.wrap .i64 (s.1.2.2.1+1)),(IntKind.wrap .i64 (s.1.2.2.2.1+1)),()),(()),(s.2.2.1.set s.1.2.2.1.toNat x7),()))) none) (some (.inl (((),s.1.2.1,s.1.2.2.1,(IntKind.wrap .i64 (s.1.2.2.2.1+1)),()),(()),s.2.2)))) none) (some (.inr (((),s.1.2.2.1,()),(()),s.2.2)))
def oe:=gQ fZ
def of:=jP Tryz.f138 [0] jD fZ [xk] [] (by kernel_rfl) fun s=>by simp only[fZ,tm]; kernel_rfl
def fG (a0:List Int) (a1_0:eg) (a1_1:ej):Option ((List Int)×Unit):=
 (i7 a0 a1_0 a1_1).bind fun y1=>br (y1.1==(-1)) (some (a0,())) ((oe (((),(a1_0,a1_1,()),y1.1,(IntKind.wrap .i64 (y1.1+1)),()),(()),a0,())).bind fun e13=>eh (0<=e13.1.2.1/\e13.1.2.1<=(e13.2.2.1.length:Int)/\(e13.2.2.1.length:Int)<=((e13.2.2.1.length:Nat):Int)) (eh ((0+e13.1.2.1.toNat)+((e13.2.2.1.length:Int).toNat-e13.1.2.1.toNat)<=e13.2.2.1.length) (eh (0<=(0:Int)/\(0:Int)<=e13.1.2.1/\e13.1.2.1<=((e13.2.2.1.length:Nat):Int)) (eh ((0+(0:Int).toNat)=0/\(e13.1.2.1.toNat-(0:Int).toNat)<=(e13.2.2.1.take (0+e13.1.2.1.toNat)++List.replicate ((e13.2.2.1.length:Int).toNat-e13.1.2.1.toNat) (0:Int)++e13.2.2.1.drop ((0+e13.1.2.1.toNat)+((e13.2.2.1.length:Int).toNat-e13.1.2.1.toNat))).length) (some (((e13.2.2.1.take (0+e13.1.2.1.toNat)++List.replicate ((e13.2.2.1.length:Int).toNat-e13.1.2.1.toNat) (0:Int)++e13.2.2.1.drop ((0+e13.1.2.1.toNat)+((e13.2.2.1.length:Int).toNat-e13.1.2.1.toNat))).take (e13.1.2.1.toNat-(0:Int).toNat)),())) none) none) none) none)
def oU:=Wy 138 Tryz.f138 (.i .i64) [.fn 139 [.st .cluster, .st .config]] [.ls (.i .i64)] (fun l x=>fG l x.1.1 x.1.2.1) [qC] [of] (by kernel_rfl) fun l x=>by simp only[fG,tm,-eq_self]; kernel_rfl
abbrev yn:LX:=⟨⟨[(1, .cl (.own 0 (.i .i64))),(4, .cl (.int .i64))],[],[.i .i64],0,13⟩,[(.ext 0,⟨[(1, .cl (.own 0 (.i .i64)))],[],[.i .i64],0,13⟩)],[],[1,4],[1]⟩
def ur (s: (Unit×Int×Unit)×Unit×List Int×Unit):yn.R:=
 br (decide (s.1.2.1<5)) (eh ((s.2.2.1++([s.1.2.1]:List Int)).length*8<=2 ^ 40) (some (.inl (((),(IntKind.wrap .i64 (s.1.2.1+1)),()),(()),(s.2.2.1++([s.1.2.1]:List Int)),()))) none) (some (.inr (((),()),(()),s.2.2)))
def yp:=gQ ur
def FI:=jP Tryz.f144 [0] yn ur [] [] (by kernel_rfl) fun s=>by simp only[ur,tm]; kernel_rfl
def og:Option ((List Int)×Unit):=
 (yp (((),0,()),(()),([]:List Int),())).bind fun e3=>some e3.2.2
def BB:=eV 144 Tryz.f144 [] [.ls (.i .i64)] (fun _=>og) [] [FI] (by kernel_rfl) fun x=>by simp only[og,tm]; kernel_rfl
abbrev Di:LX:=⟨⟨[(0, .cl (.ro (.st .place))),(5, .cl (.own 0 (.i .i64))),(18, .cl (.ro (.i .i64))),(19, .cl (.int .i64)),(20, .cl (.int .i64))],[],[.i .i64],0,35⟩,[(.ext 0,⟨[(5, .cl (.own 0 (.i .i64)))],[],[.i .i64],0,35⟩)],[],[0,5,18,19,20],[5]⟩
def pK (s: (List eN×Unit×List Int×Int×Int×Unit)×Unit×List Int×Unit):Di.R:=
 br (decide (s.1.2.2.2.2.1<s.1.2.2.2.1)) (eh (0<=s.1.2.2.2.2.1) ((s.1.2.2.1[s.1.2.2.2.2.1.toNat]?).bind fun x8=>eh (0<=x8) ((s.1.1[x8.toNat]?).bind fun x9=>eh ((s.2.2.1++([x9.rack]:List Int)).length*8<=2 ^ 40) (some (.inl ((s.1.1,(),s.1.2.2.1,s.1.2.2.2.1,(IntKind.wrap .i64 (s.1.2.2.2.2.1+1)),()),(()),(s.2.2.1++([x9.rack]:List Int)),()))) none) none) none) (some (.inr (((),()),(()),s.2.2)))
def Dj:=gQ pK
def Lj:=jP Tryz.f213 [0] Di pK [] [] (by kernel_rfl) fun s=>by simp only[pK,tm]; kernel_rfl
def v8 (a0:List eN) (a1:List Int):Option ((List Int)×Unit):=
 (jw a0).bind fun y1=>br (!y1.1) (some (([]:List Int),())) ((gH a1).bind fun y2=>br (!y2.1) (some (([]:List Int),())) ((Dj ((a0,(),a1,(a1.length:Int),0,()),(()),([]:List Int),())).bind fun e10=>(ll e10.2.2.1).bind fun y11=>some (y11.1,())))
def Pb:=eV 213 Tryz.f213 [.ty (.ls (.st .place)), .ty (.ls (.i .i64))] [.ls (.i .i64)] (fun x=>v8 x.1 x.2.1) [uX,s8,yg] [Lj] (by kernel_rfl) fun x=>by simp only[v8,tm]; kernel_rfl
def v9 (a0:List eN) (a1:Int):Option (Bool×Unit):=
 (jw a0).bind fun y1=>br y1.1 ((eF a1 0 4).bind fun y2=>br y2.1 (eh (0<=a1) ((a0[a1.toNat]?).bind fun x3=>eh (0<=a1) ((a0[a1.toNat]?).bind fun x4=>some ((decide (x3.load<x4.capacity)),())) none) none) (some (false,()))) (some (false,()))
def Pc:=eV 214 Tryz.f214 [.ty (.ls (.st .place)), .ty (.i .i64)] [.b] (fun x=>v9 x.1 x.2.1) [uX,gb] [] (by kernel_rfl) fun x=>by simp only[v9,tm]; kernel_rfl
abbrev vr:LX:=⟨⟨[(0, .cl (.ro (.st .place))),(1, .cl (.ro (.i .i64))),(2, .cl (.ro (.i .i64))),(7, .cl (.int .i64)),(8, .cl (.own 0 (.i .i64))),(19, .cl (.int .i64))],[],[.i .i64],0,79⟩,[(.ext 0,⟨[(7, .cl (.int .i64))],[],[],0,79⟩)],[],[0,1,2,7,8,19],[7]⟩
def nm (s: (List eN×List Int×List Int×Int×Unit×Int×Unit)×Unit×List Int×Unit):vr.R:=
 br (decide (s.1.2.2.2.2.2.1<5)) ((v9 s.1.1 s.1.2.2.2.2.2.1).bind fun y9=>let j21 (p20:Int):vr.R:=some (.inl ((s.1.1,s.1.2.1,s.1.2.2.1,p20,(),(IntKind.wrap .i64 (s.1.2.2.2.2.2.1+1)),()),(()),s.2.2)); br (!y9.1) (j21 s.1.2.2.2.1) ((ik s.1.2.1 s.1.2.2.2.2.2.1).bind fun y10=>br y10.1 (j21 s.1.2.2.2.1) ((ik s.1.2.2.1 s.1.2.2.2.2.2.1).bind fun y11=>br y11.1 (j21 s.1.2.2.2.1) (br (decide (s.1.2.2.2.1<0)) (j21 s.1.2.2.2.2.2.1) (eh (0<=s.1.2.2.2.1) ((s.1.1[s.1.2.2.2.1.toNat]?).bind fun x12=>(ik s.2.2.1 x12.rack).bind fun y13=>eh (0<=s.1.2.2.2.2.2.1) ((s.1.1[s.1.2.2.2.2.2.1.toNat]?).bind fun x14=>(ik s.2.2.1 x14.rack).bind fun y15=>br y13.1 (br (!y15.1) (j21 s.1.2.2.2.2.2.1) (br (y13.1==y15.1) (eh (0<=s.1.2.2.2.2.2.1) ((s.1.1[s.1.2.2.2.2.2.1.toNat]?).bind fun x16=>eh (0<=s.1.2.2.2.1) ((s.1.1[s.1.2.2.2.1.toNat]?).bind fun x17=>br (decide (x16.load<x17.load)) (j21 s.1.2.2.2.2.2.1) (j21 s.1.2.2.2.1)) none) none) (j21 s.1.2.2.2.1))) (br (y13.1==y15.1) (eh (0<=s.1.2.2.2.2.2.1) ((s.1.1[s.1.2.2.2.2.2.1.toNat]?).bind fun x18=>eh (0<=s.1.2.2.2.1) ((s.1.1[s.1.2.2.2.1.toNat]?).bind fun x19=>br (decide (x18.load<x19.load)) (j21 s.1.2.2.2.2.2.1) (j21 s.1.2.2.2.1)) none) none) (j21 s.1.2.2.2.1))) none) none))))) (some (.inr ((s.1.2.2.2.1,()),(()),(()))))
def zZ:=gQ nm
def GW:=jP Tryz.f142 [0] vr nm [Pc,pJ] [] (by kernel_rfl) fun s=>by simp only[nm,tm]; kernel_rfl
def pL (a0:List eN) (a1:List Int) (a2:List Int):Option (Int×Unit):=
 (gH a1).bind fun y1=>br (!y1.1) (some ((-1),())) ((v8 a0 a1).bind fun y2=>(zZ ((a0,a1,a2,(-1),(),0,()),(()),y2.1,())).bind fun e22=>some e22.1)
def Dk:=eV 142 Tryz.f142 [.ty (.ls (.st .place)), .ty (.ls (.i .i64)), .ty (.ls (.i .i64))] [.i .i64] (fun x=>pL x.1 x.2.1 x.2.2.1) [s8,Pb] [GW] (by kernel_rfl) fun x=>by simp only[pL,tm]; kernel_rfl
abbrev xm:LX:=⟨⟨[(0, .cl (.ro (.st .place))),(3, .cl (.int .i64)),(9, .cl (.own 0 (.i .i64))),(10, .cl (.own 1 (.i .i64)))],[],[.i .i64, .i .i64],0,52⟩,[(.ext 0,⟨[(9, .cl (.own 0 (.i .i64)))],[],[.i .i64],0,52⟩)],[],[0,3,9,10],[9]⟩
def jM (s: (List eN×Int×Unit×Unit×Unit)×Unit×List Int×List Int×Unit):xm.R:=
 br (decide ((s.2.2.1.length:Int)<s.1.2.1)) ((pL s.1.1 s.2.2.1 s.2.2.2.1).bind fun y12=>br (decide (y12.1<0)) (some (.inr (((),()),(()),s.2.2.1,()))) ((mc s.2.2.1 ([y12.1]:List Int)).bind fun y13=>some (.inl (s.1,(()),y13.1,s.2.2.2)))) (some (.inr (((),()),(()),s.2.2.1,())))
def pb:=gQ jM
def DM:=jP Tryz.f140 [0] xm jM [Dk,ym] [] (by kernel_rfl) fun s=>by simp only[jM,tm]; kernel_rfl
def oV (a0:List eN) (a1:List Int) (a2:List Int) (a3:Int):Option ((List Int)×Unit):=
 (jw a0).bind fun y1=>br (!y1.1) (some (([]:List Int),())) ((gH a1).bind fun y2=>br (!y2.1) (some (([]:List Int),())) ((gH a2).bind fun y3=>br (!y3.1) (some (([]:List Int),())) ((eF a3 0 5).bind fun y4=>br (!y4.1) (some (([]:List Int),())) ((kO a1 a2).bind fun y5=>(og).bind fun y6=>(iE y6.1 a2).bind fun y7=>(pb ((a0,a3,(),(),()),(()),y5.1,y7.1,())).bind fun e14=>some e14.2.2))))
def GX:=eV 140 Tryz.f140 [.ty (.ls (.st .place)), .ty (.ls (.i .i64)), .ty (.ls (.i .i64)), .ty (.i .i64)] [.ls (.i .i64)] (fun x=>oV x.1 x.2.1 x.2.2.1 x.2.2.2.1) [uX,s8,gb,xd,BB,rc] [DM] (by kernel_rfl) fun x=>by simp only[oV,tm]; kernel_rfl
def qm (a0:eg) (a1:Int) (a2:Int):Option (ej×Bool×Unit):=
 (fS a0).bind fun y1=>br (!y1.1) (some ((⟨0,0,([]:List Int),([]:List Int)⟩:ej),false,())) ((eF a1 1 3).bind fun y2=>br (!y2.1) (some ((⟨0,0,([]:List Int),([]:List Int)⟩:ej),false,())) ((eF a2 0 1).bind fun y3=>br (!y3.1) (some ((⟨0,0,([]:List Int),([]:List Int)⟩:ej),false,())) (br (decide ((a0.master.configs.length:Int)≥20)) (some ((⟨0,0,([]:List Int),([]:List Int)⟩:ej),false,())) ((gt a0 a0).bind fun y4=>(fI a0.master).bind fun y5=>(iP y5.1.replicas).bind fun y6=>(fG y6.1 a0 y5.1).bind fun y7=>(oV a0.places y7.1 y4.1 a1).bind fun y8=>br ((y8.1.length:Int)==0) (some ((⟨0,0,([]:List Int),([]:List Int)⟩:ej),false,())) (eh (0<=(0:Int)/\(0:Int)< (y8.1.length:Int)) ((y8.1[(0:Int).toNat]?).bind fun x9=>let j15 (p11:Int):Option (ej×Bool×Unit):=(og).bind fun y12=>(iE y12.1 y4.1).bind fun y13=>(pL a0.places y8.1 y13.1).bind fun y14=>br (a2==1) (br (decide (y14.1≥0)) (some ((⟨(IntKind.wrap .i64 ((a0.master.configs.length:Int)+1)),p11,y8.1,([y14.1]:List Int)⟩:ej),true,())) (some ((⟨(IntKind.wrap .i64 ((a0.master.configs.length:Int)+1)),p11,y8.1,([]:List Int)⟩:ej),true,()))) (some ((⟨(IntKind.wrap .i64 ((a0.master.configs.length:Int)+1)),p11,y8.1,([]:List Int)⟩:ej),true,())); br (decide (y5.1.epoch>0)) ((ik y8.1 y5.1.primary).bind fun y10=>br y10.1 (j15 y5.1.primary) (j15 x9)) (j15 x9)) none)))))
def Jd:=eV 62 Tryz.f62 [.ty (.st .cluster), .ty (.i .i64), .ty (.i .i64)] [.st .config, .b] (fun x=>qm x.1 x.2.1 x.2.2.1) [iG,gb,rR,mP,tc,oU,GX,pJ,BB,rc,Dk] [] (by kernel_rfl) fun x=>by simp only[qm,tm]; kernel_rfl
def jY (a0:eg):Option (Bool×Unit):=
 some ((decide ((IntKind.wrap .i64 (2*a0.masterUp))>3)),())
def vt:=eV 145 Tryz.f145 [.ty (.st .cluster)] [.b] (fun x=>jY x.1) [] [] (by kernel_rfl) fun x=>by simp only[jY,tm]; kernel_rfl
def mQ (a0:ev) (a1:ej):Option (ev×Bool×Unit):=
 (mF a0).bind fun y1=>(jX a0).bind fun y2=>br (!y2.1) (some (y1.1,false,())) ((iY a1).bind fun y3=>br (!y3.1) (some (y1.1,false,())) (br (!(a1.epoch==(IntKind.wrap .i64 ((a0.configs.length:Int)+1)))) (some (y1.1,false,())) ((hO a1).bind fun y4=>eh ((y1.1.configs++([y4.1]:List ej)).length*64<=2 ^ 40) (some ((⟨(y1.1.configs++([y4.1]:List ej)),y1.1.activated⟩:ev),true,())) none)))
def DN:=eV 146 Tryz.f146 [.ty (.st .masterLog), .ty (.st .config)] [.st .masterLog, .b] (fun x=>mQ x.1 x.2.1) [wF,rz,o9,qj] [] (by kernel_rfl) fun x=>by simp only[mQ,tm]; kernel_rfl
def oW (a0:eg) (a1:ej):Option (eg×Int×Unit):=
 (eO a0).bind fun y1=>(fS a0).bind fun y2=>br (!y2.1) (some (y1.1,1,())) ((jY a0).bind fun y3=>br (!y3.1) (some (y1.1,8,())) ((mQ a0.master a1).bind fun y4=>br (!y4.2.1) (some (y1.1,1,())) (some ((⟨y1.1.now,y1.1.servers,y1.1.sides,y4.1,y1.1.masterUp,y1.1.lease,y1.1.places⟩:eg),0,()))))
def GY:=eV 63 Tryz.f63 [.ty (.st .cluster), .ty (.st .config)] [.st .cluster, .i .i64] (fun x=>oW x.1 x.2.1) [jt,iG,vt,DN] [] (by kernel_rfl) fun x=>by simp only[oW,tm]; kernel_rfl
def rd (a0:fW):Option (Int×Unit):=
 br ((a0.epoch==0)&&((a0.holder==0)&&((a0.ends==0)&&true))) (some (0,())) ((ni a0).bind fun y1=>br (!y1.1) (some (0,())) (some ((IntKind.wrap .i64 (a0.ends+3)),())))
def FJ:=eV 65 Tryz.f65 [.ty (.st .lease)] [.i .i64] (fun x=>rd x.1) [zm] [] (by kernel_rfl) fun x=>by simp only[rd,tm]; kernel_rfl
def ut (a0:eg) (a1:Int):Option (eg×Int×Unit):=
 (eO a0).bind fun y1=>(fS a0).bind fun y2=>br (!y2.1) (some (y1.1,1,())) ((eF a1 0 (IntKind.wrap .i64 (999-a0.now))).bind fun y3=>br (!y3.1) (some (y1.1,1,())) (some ((⟨(IntKind.wrap .i64 (y1.1.now+a1)),y1.1.servers,y1.1.sides,y1.1.master,y1.1.masterUp,y1.1.lease,y1.1.places⟩:eg),0,())))
def MW:=eV 64 Tryz.f64 [.ty (.st .cluster), .ty (.i .i64)] [.st .cluster, .i .i64] (fun x=>ut x.1 x.2.1) [jt,iG,gb] [] (by kernel_rfl) fun x=>by simp only[ut,tm]; kernel_rfl
def qn (a0:ev):Option (ej×Bool×Unit):=
 (mE a0 (a0.configs.length:Int)).bind fun y1=>some (y1.1,y1.2.1,())
def Je:=eV 147 Tryz.f147 [.ty (.st .masterLog)] [.st .config, .b] (fun x=>qn x.1) [AR] [] (by kernel_rfl) fun x=>by simp only[qn,tm]; kernel_rfl
def lC (a0:fW) (a1:Int):Option (Bool×Unit):=
 (ni a0).bind fun y1=>br y1.1 ((eF a1 0 999).bind fun y2=>br y2.1 ((rd a0).bind fun y3=>some ((decide (a1≥y3.1)),())) (some (false,()))) (some (false,()))
def z5:=eV 148 Tryz.f148 [.ty (.st .lease), .ty (.i .i64)] [.b] (fun x=>lC x.1 x.2.1) [zm,gb,FJ] [] (by kernel_rfl) fun x=>by simp only[lC,tm]; kernel_rfl
def qo (a0:eo) (a1:Int):Option (eo×Bool×Unit):=
 (hQ a0).bind fun y1=>(eF a1 1 20).bind fun y2=>br (!y2.1) (some (y1.1,false,())) (br (decide (a0.epoch<0)) (some (y1.1,false,())) (br (decide (a1<=a0.epoch)) (some (y1.1,false,())) (some ((⟨y1.1.up,y1.1.intact,y1.1.version,a1,y1.1.config,y1.1.first,y1.1.log,y1.1.commit,y1.1.learned⟩:eo),true,()))))
def Jf:=eV 217 Tryz.f217 [.ty (.st .server), .ty (.i .i64)] [.st .server, .b] (fun x=>qo x.1 x.2.1) [te,gb] [] (by kernel_rfl) fun x=>by simp only[qo,tm]; kernel_rfl
abbrev sC:LX:=⟨⟨[(1, .cl (.int .i64)),(2, .cl (.int .i64)),(3, .cl (.ptr 0 0)),(6, .cl (.ptr 1 0)),(7, .cl (.ptr 2 0)),(38, .cl (.own 0 (.i .i64))),(39, .cl (.int .i64)),(40, .cl (.int .i64))],[[.int .i64, .ro (.st .server), .ro (.i .i64), .ro (.st .config), .int .i64, .int .i64, .int .i64, .int .i64, .int .i64, .ro (.st .place)],[.int .i64, .em, .em, .em, .int .i64, .int .i64, .int .i64, .int .i64, .int .i64, .em],[.int .i64, .own 1 (.st .server), .own 2 (.i .i64), .own 3 (.st .config), .int .i64, .int .i64, .int .i64, .int .i64, .int .i64, .own 4 (.st .place)]],[.i .i64, .st .server, .i .i64, .st .config, .st .place],0,73⟩,[(.ext 0,⟨[(6, .cl (.ptr 0 0)),(7, .cl (.ptr 1 0))],[[.int .i64, .em, .em, .em, .int .i64, .int .i64, .int .i64, .int .i64, .int .i64, .em],[.int .i64, .own 0 (.st .server), .own 1 (.i .i64), .own 2 (.st .config), .int .i64, .int .i64, .int .i64, .int .i64, .int .i64, .own 3 (.st .place)]],[.st .server, .i .i64, .st .config, .st .place],0,73⟩)],[],[1,2,3,6,7,38,39,40],[6,7]⟩
def kV (s: (Int×Int×Unit×Unit×Unit×Unit×Int×Int×Unit)×((Int×List eo×List Int×List ej×Int×Int×Int×Int×Int×List eN×Unit)×(Int×Unit×Unit×Unit×Int×Int×Int×Int×Int×Unit×Unit)×(Int×Unit×Unit×Unit×Int×Int×Int×Int×Int×Unit×Unit)×Unit)×List Int×List eo×List Int×List ej×List eN×Unit):sC.R:=
 br (decide (s.1.2.2.2.2.2.2.2.1<s.1.2.2.2.2.2.2.1)) (eh (0<=s.1.2.2.2.2.2.2.2.1/\s.1.2.2.2.2.2.2.2.1< (s.2.2.1.length:Int)) ((s.2.2.1[s.1.2.2.2.2.2.2.2.1.toNat]?).bind fun x37=>eh (0<=x37/\x37< (s.2.2.2.1.length:Int)) ((s.2.2.2.1[x37.toNat]?).bind fun x38=>let j49 (p48:List eo):sC.R:=some (.inl ((s.1.1,s.1.2.1,(),(),(),(),s.1.2.2.2.2.2.2.1,(IntKind.wrap .i64 (s.1.2.2.2.2.2.2.2.1+1)),()),s.2.1,s.2.2.1,p48,s.2.2.2.2)); br x38.up ((nT s.2.1.1.2.2.1 s.1.1 x37).bind fun y39=>br y39.1 (eh (0<=x37/\x37< (s.2.2.2.1.length:Int)) ((s.2.2.2.1[x37.toNat]?).bind fun x40=>(s.2.2.2.1[x37.toNat]?).bind fun x41=>eh (0+x40.config.replicas.length<=x41.config.replicas.length) ((s.2.2.2.1[x37.toNat]?).bind fun x42=>eh (0+x40.config.witnesses.length<=x42.config.witnesses.length) ((s.2.2.2.1[x37.toNat]?).bind fun x43=>eh (0+x40.log.length<=x43.log.length) ((s.2.2.2.1[x37.toNat]?).bind fun x44=>eh (0+x40.learned.length<=x44.learned.length) ((qo (⟨x40.up,x40.intact,x40.version,x40.epoch,(⟨x40.config.epoch,x40.config.primary,((x41.config.replicas.drop 0).take x40.config.replicas.length),((x42.config.witnesses.drop 0).take x40.config.witnesses.length)⟩:ej),x40.first,((x43.log.drop 0).take x40.log.length),x40.commit,((x44.learned.drop 0).take x40.learned.length)⟩:eo) s.1.2.1).bind fun y45=>eh (0<=x37/\x37< (s.2.2.2.1.length:Int)) ((s.2.2.2.1[x37.toNat]?).bind fun _=>j49 (s.2.2.2.1.set x37.toNat y45.1)) none) none) none) none) none) none) (j49 s.2.2.2.1)) (j49 s.2.2.2.1)) none) none) (some (.inr (((),(),()),s.2.1.2,s.2.2.2)))
def xn:=gQ kV
def DP:=jP Tryz.f149 [0] sC kV [wG,Jf] [] (by kernel_rfl) fun s=>by simp only[kV,tm]; kernel_rfl
def oX (a0:eg) (a1:Int) (a2:Int):Option (eg×Unit):=
 (eO a0).bind fun y1=>(fI a0.master).bind fun y2=>(fS a0).bind fun y3=>br (!y3.1) (some (y1.1,())) (br (!y2.2.1) (some (y1.1,())) ((eF a2 1 (a0.master.configs.length:Int)).bind fun y4=>br (!y4.1) (some (y1.1,())) ((lp y2.1).bind fun y5=>(xn ((a1,a2,(),(),(),(),(y5.1.length:Int),0,()),((a0.now,a0.servers,a0.sides,a0.master.configs,a0.master.activated,a0.masterUp,a0.lease.epoch,a0.lease.holder,a0.lease.ends,a0.places,()),(0,(),(),(),0,0,0,0,0,(),()),(y1.1.now,(),(),(),y1.1.master.activated,y1.1.masterUp,y1.1.lease.epoch,y1.1.lease.holder,y1.1.lease.ends,(),()),()),y5.1,y1.1.servers,y1.1.sides,y1.1.master.configs,y1.1.places,())).bind fun e50=>some ((⟨e50.2.1.2.1.1,e50.2.2.1,e50.2.2.2.1,(⟨e50.2.2.2.2.1,e50.2.1.2.1.2.2.2.2.1⟩:ev),e50.2.1.2.1.2.2.2.2.2.1,(⟨e50.2.1.2.1.2.2.2.2.2.2.1,e50.2.1.2.1.2.2.2.2.2.2.2.1,e50.2.1.2.1.2.2.2.2.2.2.2.2.1⟩:fW),e50.2.2.2.2.2.1⟩:eg),()))))
def GZ:=eV 149 Tryz.f149 [.ty (.st .cluster), .ty (.i .i64), .ty (.i .i64)] [.st .cluster] (fun x=>oX x.1 x.2.1 x.2.2.1) [jt,mP,iG,gb,rP] [DP] (by kernel_rfl) fun x=>by simp only[oX,tm]; kernel_rfl
def rf (a0:eg) (a1:Int) (a2:Int) (a3:Int):Option (Bool×Unit):=
 eh (0<=a2) ((a0.servers[a2.toNat]?).bind fun x1=>br x1.up ((nT a0.sides a1 a2).bind fun y2=>br y2.1 (some ((x1.config.epoch==a3),())) (some (false,()))) (some (false,()))) none
def FK:=eV 244 Tryz.f244 [.ty (.st .cluster), .ty (.i .i64), .ty (.i .i64), .ty (.i .i64)] [.b] (fun x=>rf x.1 x.2.1 x.2.2.1 x.2.2.2.1) [wG] [] (by kernel_rfl) fun x=>by simp only[rf,tm]; kernel_rfl
abbrev yq:LX:=⟨⟨[(1, .cl (.int .i64)),(2, .cl (.ptr 0 0)),(5, .cl (.own 0 (.i .i64))),(6, .cl (.ptr 1 0)),(27, .cl (.own 1 (.i .i64))),(28, .cl (.int .i64)),(29, .cl (.int .i64))],[[.int .i64, .ro (.st .server), .ro (.i .i64), .ro (.st .config), .int .i64, .int .i64, .int .i64, .int .i64, .int .i64, .ro (.st .place)],[.int .i64, .int .i64, .own 1 (.i .i64), .own 2 (.i .i64)]],[.i .i64, .i .i64, .i .i64],0,45⟩,[(.ext 0,⟨[(5, .cl (.own 0 (.i .i64)))],[],[.i .i64],0,45⟩)],[],[1,2,5,6,27,28,29],[5]⟩
def md (s: (Int×Unit×Unit×Unit×Unit×Int×Int×Unit)×((Int×List eo×List Int×List ej×Int×Int×Int×Int×Int×List eN×Unit)×(Int×Int×Unit×Unit×Unit)×Unit)×List Int×List Int×List Int×Unit):yq.R:=
 br (decide (s.1.2.2.2.2.2.2.1<s.1.2.2.2.2.2.1)) (eh (0<=s.1.2.2.2.2.2.2.1/\s.1.2.2.2.2.2.2.1< (s.2.2.2.1.length:Int)) ((s.2.2.2.1[s.1.2.2.2.2.2.2.1.toNat]?).bind fun x21=>(rf (⟨s.2.1.1.1,s.2.1.1.2.1,s.2.1.1.2.2.1,(⟨s.2.1.1.2.2.2.1,s.2.1.1.2.2.2.2.1⟩:ev),s.2.1.1.2.2.2.2.2.1,(⟨s.2.1.1.2.2.2.2.2.2.1,s.2.1.1.2.2.2.2.2.2.2.1,s.2.1.1.2.2.2.2.2.2.2.2.1⟩:fW),s.2.1.1.2.2.2.2.2.2.2.2.2.1⟩:eg) s.1.1 x21 s.2.1.2.1.1).bind fun y22=>br y22.1 (eh ((s.2.2.1++([x21]:List Int)).length*8<=2 ^ 40) (some (.inl ((s.1.1,(),(),(),(),s.1.2.2.2.2.2.1,(IntKind.wrap .i64 (s.1.2.2.2.2.2.2.1+1)),()),s.2.1,(s.2.2.1++([x21]:List Int)),s.2.2.2))) none) (some (.inl ((s.1.1,(),(),(),(),s.1.2.2.2.2.2.1,(IntKind.wrap .i64 (s.1.2.2.2.2.2.2.1+1)),()),s.2)))) none) (some (.inr (((),()),(()),s.2.2.1,())))
def yr:=gQ md
def FL:=jP Tryz.f243 [0] yq md [FK] [] (by kernel_rfl) fun s=>by simp only[md,tm]; kernel_rfl
def qp (a0:eg) (a1:Int):Option ((List Int)×Unit):=
 (fI a0.master).bind fun y1=>br (!y1.2.1) (some (([]:List Int),())) ((fq a0 a1).bind fun y2=>br (!y2.1) (some (([]:List Int),())) ((yr ((a1,(),(),(),(),(y1.1.replicas.length:Int),0,()),((a0.now,a0.servers,a0.sides,a0.master.configs,a0.master.activated,a0.masterUp,a0.lease.epoch,a0.lease.holder,a0.lease.ends,a0.places,()),(y1.1.epoch,y1.1.primary,(),(),()),()),([]:List Int),y1.1.replicas,y1.1.witnesses,())).bind fun e24=>some e24.2.2))
def Jg:=eV 243 Tryz.f243 [.ty (.st .cluster), .ty (.i .i64)] [.ls (.i .i64)] (fun x=>qp x.1 x.2.1) [mP,nj] [FL] (by kernel_rfl) fun x=>by simp only[qp,tm]; kernel_rfl
abbrev yt:LX:=⟨⟨[(2, .cl (.ptr 0 0)),(5, .cl (.int .i64)),(10, .cl (.own 0 (.i .i64))),(11, .cl (.int .i64)),(12, .cl (.int .i64))],[[.int .i64, .ro (.st .server), .ro (.i .i64), .ro (.st .config), .int .i64, .int .i64, .int .i64, .int .i64, .int .i64, .ro (.st .place)]],[.i .i64],0,38⟩,[(.ext 0,⟨[(5, .cl (.int .i64))],[],[],0,38⟩)],[],[2,5,10,11,12],[5]⟩
def me (s: (Unit×Int×Unit×Int×Int×Unit)×((Int×List eo×List Int×List ej×Int×Int×Int×Int×Int×List eN×Unit)×Unit)×List Int×Unit):yt.R:=
 br (decide (s.1.2.2.2.2.1<s.1.2.2.2.1)) (eh (0<=s.1.2.2.2.2.1/\s.1.2.2.2.2.1< (s.2.2.1.length:Int)) ((s.2.2.1[s.1.2.2.2.2.1.toNat]?).bind fun x16=>br (decide (s.1.2.1<0)) (some (.inl (((),x16,(),s.1.2.2.2.1,(IntKind.wrap .i64 (s.1.2.2.2.2.1+1)),()),s.2))) (eh (0<=x16) ((s.2.1.1.2.1[x16.toNat]?).bind fun x17=>eh (0<=s.1.2.1) ((s.2.1.1.2.1[s.1.2.1.toNat]?).bind fun x18=>br (decide ((x17.log.length:Int)>(x18.log.length:Int))) (some (.inl (((),x16,(),s.1.2.2.2.1,(IntKind.wrap .i64 (s.1.2.2.2.2.1+1)),()),s.2))) (some (.inl (((),s.1.2.1,(),s.1.2.2.2.1,(IntKind.wrap .i64 (s.1.2.2.2.2.1+1)),()),s.2)))) none) none)) none) (some (.inr ((s.1.2.1,()),(()),(()))))
def yu:=gQ me
def FM:=jP Tryz.f218 [0] yt me [] [] (by kernel_rfl) fun s=>by simp only[me,tm]; kernel_rfl
def qq (a0:eg) (a1:Int):Option (Int×Unit):=
 (qp a0 a1).bind fun y1=>(yu (((),(-1),(),(y1.1.length:Int),0,()),((a0.now,a0.servers,a0.sides,a0.master.configs,a0.master.activated,a0.masterUp,a0.lease.epoch,a0.lease.holder,a0.lease.ends,a0.places,()),()),y1.1,())).bind fun e20=>some e20.1
def Jh:=eV 218 Tryz.f218 [.ty (.st .cluster), .ty (.i .i64)] [.i .i64] (fun x=>qq x.1 x.2.1) [Jg] [FM] (by kernel_rfl) fun x=>by simp only[qq,tm]; kernel_rfl
def mR (a0:eo):Option ((List eu)×Unit):=
 br (decide (a0.first<0)) (some (([]:List eu),())) ((eF a0.commit a0.first (IntKind.wrap .i64 (a0.first+(a0.log.length:Int)))).bind fun y1=>br (!y1.1) (some (([]:List eu),())) (eh (0<=(0:Int)/\(0:Int)<=(IntKind.wrap .i64 (a0.commit-a0.first))/\(IntKind.wrap .i64 (a0.commit-a0.first))<=(a0.log.length:Int)) ((gi ((a0.log.drop (0:Int).toNat).take ((IntKind.wrap .i64 (a0.commit-a0.first)).toNat-(0:Int).toNat))).bind fun y2=>some (y2.1,())) none))
def DQ:=eV 261 Tryz.f261 [.ty (.st .server)] [.ls (.st .entry)] (fun x=>mR x.1) [gb,l9] [] (by kernel_rfl) fun x=>by simp only[mR,tm]; kernel_rfl
def rS (a0:eo) (a1:Int):Option (Bool×Unit):=
 (ik a0.config.replicas a1).bind fun y1=>some (y1.1,())
def Lk:=eV 262 Tryz.f262 [.ty (.st .server), .ty (.i .i64)] [.b] (fun x=>rS x.1 x.2.1) [pJ] [] (by kernel_rfl) fun x=>by simp only[rS,tm]; kernel_rfl
def kW (a0:eo) (a1:Int):Option ((List eu)×Unit):=
 (mR a0).bind fun y1=>(rS a0 a1).bind fun y2=>br y2.1 (br (decide ((y1.1.length:Int)>(a0.learned.length:Int))) (some (y1.1,())) ((gi a0.learned).bind fun y4=>some (y4.1,()))) ((gi a0.learned).bind fun y5=>some (y5.1,()))
def DR:=eV 246 Tryz.f246 [.ty (.st .server), .ty (.i .i64)] [.ls (.st .entry)] (fun x=>kW x.1 x.2.1) [DQ,Lk,l9] [] (by kernel_rfl) fun x=>by simp only[kW,tm]; kernel_rfl
def mf (a1:Int):Option ((List eu)×Unit):=
 br (decide (a1<0)) (none) (br (decide ((IntKind.wrap .i64 (a1-(IntKind.wrap .i64 (0-0))))>0)) (eh ((0:Int)=0/\(0:Int)=0) (eh (0< (IntKind.wrap .i64 (a1-(IntKind.wrap .i64 (0-0))))/\(IntKind.wrap .i64 (a1-(IntKind.wrap .i64 (0-0))))*((56:Nat):Int)<=2 ^ 40) (eh (0<=(0:Int)/\(0:Int)<=(0:Int)/\(0:Int)<=(((IntKind.wrap .i64 (a1-(IntKind.wrap .i64 (0-0)))).toNat:Nat):Int)) (eh ((0+(0:Int).toNat)=0/\((0:Int).toNat-(0:Int).toNat)<=(List.replicate (IntKind.wrap .i64 (a1-(IntKind.wrap .i64 (0-0)))).toNat (⟨0,(⟨0,0,0,0,0,0⟩:Op)⟩:eu)).length) (some (((List.replicate (IntKind.wrap .i64 (a1-(IntKind.wrap .i64 (0-0)))).toNat (⟨0,(⟨0,0,0,0,0,0⟩:Op)⟩:eu)).take ((0:Int).toNat-(0:Int).toNat)),())) none) none) none) none) (some (([]:List eu),())))
def CH:=eV 275 Tryz.f275 [.nl, .ty (.i .i64)] [.ls (.st .entry)] (fun x=>mf x.2.1) [] [] (by kernel_rfl) fun x=>by simp only[mf,tm,-eq_self]; kernel_rfl
abbrev uY:LX:=⟨⟨[(0, .cl (.ro (.ls (.st .entry)))),(3, .cl (.int .i64)),(9, .cl (.ro (.ls (.st .entry)))),(10, .cl (.int .i64)),(11, .cl (.int .i64))],[],[],0,36⟩,[(.ext 0,⟨[(0, .cl (.ro (.ls (.st .entry)))),(3, .cl (.int .i64))],[],[],0,36⟩)],[],[0,3,9,10,11],[0,3]⟩
def jE (s: (List (List eu)×Int×List (List eu)×Int×Int×Unit)×Unit×Unit):uY.R:=
 br (decide (s.1.2.2.2.2.1<s.1.2.2.2.1)) (eh (0<=s.1.2.2.2.2.1) ((s.1.2.2.1[s.1.2.2.2.2.1.toNat]?).bind fun x6=>br (decide ((IntKind.wrap .i64 (s.1.2.1+(x6.length:Int)))<0)) (none) (some (.inl ((s.1.1,(IntKind.wrap .i64 (s.1.2.1+(x6.length:Int))),s.1.2.2.1,s.1.2.2.2.1,(IntKind.wrap .i64 (s.1.2.2.2.2.1+1)),()),(()),(()))))) none) (some (.inr ((s.1.1,s.1.2.1,()),(()),(()))))
def uZ:=gQ jE
def BC:=jP Tryz.f259 [0] uY jE [] [] (by kernel_rfl) fun s=>by simp only[jE,tm]; kernel_rfl
abbrev uu:LX:=⟨⟨[(6, .cl (.own 0 (.st .entry))),(25, .cl (.ro (.ls (.st .entry)))),(26, .cl (.int .i64)),(27, .cl (.int .i64))],[],[.st .entry],0,36⟩,[(.ext 2,⟨[(6, .cl (.own 0 (.st .entry)))],[],[.st .entry],0,36⟩)],[],[6,25,26,27],[6]⟩
def jm (s: (Unit×List (List eu)×Int×Int×Unit)×Unit×List eu×Unit):uu.R:=
 br (decide (s.1.2.2.2.1<s.1.2.2.1)) (eh (0<=s.1.2.2.2.1) ((s.1.2.1[s.1.2.2.2.1.toNat]?).bind fun x13=>eh ((s.2.2.1++x13).length*56<=2 ^ 40) (some (.inl (((),s.1.2.1,s.1.2.2.1,(IntKind.wrap .i64 (s.1.2.2.2.1+1)),()),(()),(s.2.2.1++x13),()))) none) none) (some (.inr (((),()),(()),s.2.2)))
def uv:=gQ jm
def AX:=jP Tryz.f259 [1] uu jm [] [] (by kernel_rfl) fun s=>by simp only[jm,tm]; kernel_rfl
def kX (a0:List (List eu)):Option ((List eu)×Unit):=
 (uZ ((a0,0,a0,(a0.length:Int),0,()),(()),(()))).bind fun e7=>(mf e7.1.2.1).bind fun y8=>(uv (((),e7.1.1,(e7.1.1.length:Int),0,()),(()),y8.1,())).bind fun e14=>some e14.2.2
def DS:=eV 259 Tryz.f259 [.ty (.ls (.ls (.st .entry)))] [.ls (.st .entry)] (fun x=>kX x.1) [CH] [BC,AX] (by kernel_rfl) fun x=>by simp only[kX,tm]; kernel_rfl
abbrev wc:LX:=⟨⟨[(0, .cl (.ro (.st .entry))),(1, .cl (.ro (.st .entry))),(12, .cl (.int .i64)),(13, .cl (.int .i64))],[],[],0,26⟩,[(.ret,⟨[(4, .cl (.bl))],[],[],0,26⟩),(.ext 0,⟨[(4, .cl (.dead))],[],[],0,26⟩)],[],[0,1,12,13],[4]⟩
def kf (s: (List eu×List eu×Int×Int×Unit)×Unit×Unit):wc.R:=
 br (decide (s.1.2.2.2.1<s.1.2.2.1)) (eh (0<=s.1.2.2.2.1) ((s.1.1[s.1.2.2.2.1.toNat]?).bind fun x5=>eh (0<=s.1.2.2.2.1) ((s.1.2.1[s.1.2.2.2.1.toNat]?).bind fun x6=>br (!((x5.epoch==x6.epoch)&&((x5.op.client==x6.op.client)&&((x5.op.seq==x6.op.seq)&&((x5.op.kind==x6.op.kind)&&((x5.op.object==x6.op.object)&&((x5.op.old==x6.op.old)&&((x5.op.value==x6.op.value)&&true)))))))) (some (.inr (.inl ((false,()),(()),(()))))) (some (.inl ((s.1.1,s.1.2.1,s.1.2.2.1,(IntKind.wrap .i64 (s.1.2.2.2.1+1)),()),(()),(()))))) none) none) (some (.inr (.inr (((),()),(()),(())))))
def rg:=gQ kf
def CI:=jP Tryz.f260 [0] wc kf [] [] (by kernel_rfl) fun s=>by simp only[kf,tm]; kernel_rfl
def mg (a0:List eu) (a1:List eu):Option (Bool×Unit):=
 br (!((a0.length:Int)==(a1.length:Int))) (some (false,())) ((rg ((a0,a1,(a0.length:Int),0,()),(()),(()))).bind fun e7=>Sum.elim (fun e7_0=>some e7_0.1) (fun _=>some (true,())) e7)
def FN:=eV 260 Tryz.f260 [.ty (.ls (.st .entry)), .ty (.ls (.st .entry))] [.b] (fun x=>mg x.1 x.2.1) [] [CI] (by kernel_rfl) fun x=>by simp only[mg,tm]; kernel_rfl
def uw (a0:List eu) (a1:Int) (a2:List eu):Option ((List eu)×Bool×Unit):=
 (ln a0).bind fun y1=>br (!y1.1) (some (([]:List eu),false,())) ((uo a1 a2).bind fun y2=>br (!y2.1) (some (([]:List eu),false,())) (br (decide (a1>(a0.length:Int))) (some (([]:List eu),false,())) (eh (0<=(if (IntKind.wrap .i64 ((a0.length:Int)-a1))< (a2.length:Int) then (IntKind.wrap .i64 ((a0.length:Int)-a1)) else (a2.length:Int))/\(if (IntKind.wrap .i64 ((a0.length:Int)-a1))< (a2.length:Int) then (IntKind.wrap .i64 ((a0.length:Int)-a1)) else (a2.length:Int))<=(a2.length:Int)/\(a2.length:Int)<=(a2.length:Int)) ((kX ([a0,((a2.drop (if (IntKind.wrap .i64 ((a0.length:Int)-a1))< (a2.length:Int) then (IntKind.wrap .i64 ((a0.length:Int)-a1)) else (a2.length:Int)).toNat).take ((a2.length:Int).toNat-(if (IntKind.wrap .i64 ((a0.length:Int)-a1))< (a2.length:Int) then (IntKind.wrap .i64 ((a0.length:Int)-a1)) else (a2.length:Int)).toNat))]:List (List eu))).bind fun y3=>eh (0<=a1/\a1<=(IntKind.wrap .i64 (a1+(if (IntKind.wrap .i64 ((a0.length:Int)-a1))< (a2.length:Int) then (IntKind.wrap .i64 ((a0.length:Int)-a1)) else (a2.length:Int))))/\(IntKind.wrap .i64 (a1+(if (IntKind.wrap .i64 ((a0.length:Int)-a1))< (a2.length:Int) then (IntKind.wrap .i64 ((a0.length:Int)-a1)) else (a2.length:Int))))<=(a0.length:Int)) (eh (0<=(0:Int)/\(0:Int)<=(if (IntKind.wrap .i64 ((a0.length:Int)-a1))< (a2.length:Int) then (IntKind.wrap .i64 ((a0.length:Int)-a1)) else (a2.length:Int))/\(if (IntKind.wrap .i64 ((a0.length:Int)-a1))< (a2.length:Int) then (IntKind.wrap .i64 ((a0.length:Int)-a1)) else (a2.length:Int))<=(a2.length:Int)) ((mg ((a0.drop a1.toNat).take ((IntKind.wrap .i64 (a1+(if (IntKind.wrap .i64 ((a0.length:Int)-a1))< (a2.length:Int) then (IntKind.wrap .i64 ((a0.length:Int)-a1)) else (a2.length:Int)))).toNat-a1.toNat)) ((a2.drop (0:Int).toNat).take ((if (IntKind.wrap .i64 ((a0.length:Int)-a1))< (a2.length:Int) then (IntKind.wrap .i64 ((a0.length:Int)-a1)) else (a2.length:Int)).toNat-(0:Int).toNat))).bind fun y4=>br (!y4.1) (some (([]:List eu),false,())) ((ln y3.1).bind fun y5=>br (!y5.1) (some (([]:List eu),false,())) (some (y3.1,true,())))) none) none) none)))
def MX:=eV 245 Tryz.f245 [.ty (.ls (.st .entry)), .ty (.i .i64), .ty (.ls (.st .entry))] [.ls (.st .entry), .b] (fun x=>uw x.1 x.2.1 x.2.2.1) [wE,Lh,DS,FN] [] (by kernel_rfl) fun x=>by simp only[uw,tm]; kernel_rfl
abbrev sD:LX:=⟨⟨[(1, .cl (.int .i64)),(2, .cl (.ptr 0 0)),(6, .cl (.ptr 1 0)),(8, .cl (.own 0 (.st .entry))),(9, .cl (.bl)),(12, .cl (.ptr 2 0)),(33, .cl (.own 1 (.i .i64))),(34, .cl (.int .i64)),(35, .cl (.int .i64)),(52, .cl (.ro (.st .server))),(53, .cl (.int .i64)),(54, .cl (.int .i64))],[[.int .i64, .ro (.st .server), .ro (.i .i64), .ro (.st .config), .int .i64, .int .i64, .int .i64, .int .i64, .int .i64, .ro (.st .place)],[.int .i64, .int .i64, .own 2 (.i .i64), .own 1 (.i .i64)],[.bl, .bl, .int .i64, .int .i64, .int .i64, .int .i64, .ro (.i .i64), .ro (.i .i64), .int .i64, .ro (.st .entry), .int .i64, .ro (.st .entry)]],[.st .entry, .i .i64, .i .i64],0,99⟩,[(.ext 2,⟨[(1, .cl (.int .i64)),(2, .cl (.ptr 0 0)),(6, .cl (.ptr 1 0)),(8, .cl (.own 0 (.st .entry))),(9, .cl (.bl)),(33, .cl (.own 1 (.i .i64))),(34, .cl (.int .i64)),(35, .cl (.int .i64))],[[.int .i64, .ro (.st .server), .ro (.i .i64), .ro (.st .config), .int .i64, .int .i64, .int .i64, .int .i64, .int .i64, .ro (.st .place)],[.int .i64, .int .i64, .own 2 (.i .i64), .own 1 (.i .i64)]],[.st .entry, .i .i64, .i .i64],0,99⟩)],[],[1,2,6,8,9,12,33,34,35,52,53,54],[1,2,6,8,9,33,34,35]⟩
def kY (s: (Int×Unit×Unit×Unit×Bool×Unit×Unit×Int×Int×List eo×Int×Int×Unit)×((Int×List eo×List Int×List ej×Int×Int×Int×Int×Int×List eN×Unit)×(Int×Int×Unit×Unit×Unit)×(Bool×Bool×Int×Int×Int×Int×List Int×List Int×Int×List eu×Int×List eu×Unit)×Unit)×List eu×List Int×List Int×Unit):sD.R:=
 br (decide (s.1.2.2.2.2.2.2.2.2.2.2.2.1<s.1.2.2.2.2.2.2.2.2.2.2.1)) (eh (0<=s.1.2.2.2.2.2.2.2.2.2.2.2.1) ((s.1.2.2.2.2.2.2.2.2.2.1[s.1.2.2.2.2.2.2.2.2.2.2.2.1.toNat]?).bind fun x59=>let j65 (p63:List eu) (p64:Bool):sD.R:=some (.inl ((s.1.1,(),(),(),p64,(),(),s.1.2.2.2.2.2.2.2.1,s.1.2.2.2.2.2.2.2.2.1,s.1.2.2.2.2.2.2.2.2.2.1,s.1.2.2.2.2.2.2.2.2.2.2.1,(IntKind.wrap .i64 (s.1.2.2.2.2.2.2.2.2.2.2.2.1+1)),()),s.2.1,p63,s.2.2.2)); br (!x59.up) (j65 s.2.2.1 s.1.2.2.2.2.1) ((nT s.2.1.1.2.2.1 s.1.1 s.1.2.2.2.2.2.2.2.2.2.2.2.1).bind fun y60=>br (!y60.1) (j65 s.2.2.1 s.1.2.2.2.2.1) ((kW x59 s.1.2.2.2.2.2.2.2.2.2.2.2.1).bind fun y61=>(uw y61.1 s.2.1.2.2.1.2.2.2.2.2.2.2.2.1 s.2.1.2.2.1.2.2.2.2.2.2.2.2.2.1).bind fun y62=>br y62.2.1 (br (!s.1.2.2.2.2.1) (j65 y62.1 true) (br (decide ((y62.1.length:Int)>(s.2.2.1.length:Int))) (j65 y62.1 true) (j65 s.2.2.1 s.1.2.2.2.2.1))) (j65 s.2.2.1 s.1.2.2.2.2.1)))) none) (some (.inr ((s.1.1,(),(),(),s.1.2.2.2.2.1,(),s.1.2.2.2.2.2.2.2.1,s.1.2.2.2.2.2.2.2.2.1,()),(s.2.1.1,s.2.1.2.1,()),s.2.2)))
def xp:=gQ kY
def DT:=jP Tryz.f219 [0,0] sD kY [wG,DR,MX] [] (by kernel_rfl) fun s=>by simp only[kY,tm]; kernel_rfl
abbrev yw:LX:=⟨⟨[(1, .cl (.int .i64)),(2, .cl (.ptr 0 0)),(6, .cl (.ptr 1 0)),(8, .cl (.own 0 (.st .entry))),(9, .cl (.bl)),(33, .cl (.own 1 (.i .i64))),(34, .cl (.int .i64)),(35, .cl (.int .i64))],[[.int .i64, .ro (.st .server), .ro (.i .i64), .ro (.st .config), .int .i64, .int .i64, .int .i64, .int .i64, .int .i64, .ro (.st .place)],[.int .i64, .int .i64, .own 2 (.i .i64), .own 1 (.i .i64)]],[.st .entry, .i .i64, .i .i64],0,99⟩,[(.ext 0,⟨[(8, .cl (.own 0 (.st .entry))),(9, .cl (.bl))],[],[.st .entry],0,99⟩)],[],[1,2,6,8,9,33,34,35],[8,9]⟩
def mh (s: (Int×Unit×Unit×Unit×Bool×Unit×Int×Int×Unit)×((Int×List eo×List Int×List ej×Int×Int×Int×Int×Int×List eN×Unit)×(Int×Int×Unit×Unit×Unit)×Unit)×List eu×List Int×List Int×Unit):yw.R:=
 br (decide (s.1.2.2.2.2.2.2.2.1<s.1.2.2.2.2.2.2.1)) (eh (0<=s.1.2.2.2.2.2.2.2.1/\s.1.2.2.2.2.2.2.2.1< (s.2.2.2.1.length:Int)) ((s.2.2.2.1[s.1.2.2.2.2.2.2.2.1.toNat]?).bind fun x22=>(rf (⟨s.2.1.1.1,s.2.1.1.2.1,s.2.1.1.2.2.1,(⟨s.2.1.1.2.2.2.1,s.2.1.1.2.2.2.2.1⟩:ev),s.2.1.1.2.2.2.2.2.1,(⟨s.2.1.1.2.2.2.2.2.2.1,s.2.1.1.2.2.2.2.2.2.2.1,s.2.1.1.2.2.2.2.2.2.2.2.1⟩:fW),s.2.1.1.2.2.2.2.2.2.2.2.2.1⟩:eg) s.1.1 x22 s.2.1.2.1.1).bind fun y23=>br (!y23.1) (some (.inl ((s.1.1,(),(),(),s.1.2.2.2.2.1,(),s.1.2.2.2.2.2.2.1,(IntKind.wrap .i64 (s.1.2.2.2.2.2.2.2.1+1)),()),s.2))) (eh (0<=x22) ((s.2.1.1.2.1[x22.toNat]?).bind fun x24=>(xp ((s.1.1,(),(),(),s.1.2.2.2.2.1,(),(),s.1.2.2.2.2.2.2.1,s.1.2.2.2.2.2.2.2.1,s.2.1.1.2.1,(s.2.1.1.2.1.length:Int),0,()),(s.2.1.1,s.2.1.2.1,(x24.up,x24.intact,x24.version,x24.epoch,x24.config.epoch,x24.config.primary,x24.config.replicas,x24.config.witnesses,x24.first,x24.log,x24.commit,x24.learned,()),()),s.2.2)).bind fun e66=>some (.inl ((e66.1.1,(),(),(),e66.1.2.2.2.2.1,(),e66.1.2.2.2.2.2.2.1,(IntKind.wrap .i64 (e66.1.2.2.2.2.2.2.2.1+1)),()),e66.2))) none)) none) (some (.inr (((),s.1.2.2.2.2.1,()),(()),s.2.2.1,())))
def yx:=gQ mh
def FO:=jP Tryz.f219 [0] yw mh [FK] [DT] (by kernel_rfl) fun s=>by simp only[mh,tm]; kernel_rfl
def qs (a0:eg) (a1:Int):Option ((List eu)×Bool×Unit):=
 (fI a0.master).bind fun y1=>br (!y1.2.1) (some (([]:List eu),false,())) ((fq a0 a1).bind fun y2=>br (!y2.1) (some (([]:List eu),false,())) ((yx ((a1,(),(),(),false,(),(y1.1.witnesses.length:Int),0,()),((a0.now,a0.servers,a0.sides,a0.master.configs,a0.master.activated,a0.masterUp,a0.lease.epoch,a0.lease.holder,a0.lease.ends,a0.places,()),(y1.1.epoch,y1.1.primary,(),(),()),()),([]:List eu),y1.1.witnesses,y1.1.replicas,())).bind fun e86=>br (!e86.1.2.1) (some (([]:List eu),false,())) (some (e86.2.2.1,true,()))))
def Ji:=eV 219 Tryz.f219 [.ty (.st .cluster), .ty (.i .i64)] [.ls (.st .entry), .b] (fun x=>qs x.1 x.2.1) [mP,nj] [FO] (by kernel_rfl) fun x=>by simp only[qs,tm]; kernel_rfl
def rT (a0:eg) (a1:Int):Option ((List eu)×Bool×Unit):=
 (fq a0 a1).bind fun y1=>br (!y1.1) (some (([]:List eu),false,())) (br (a0.master.activated==0) (some (([]:List eu),true,())) ((qq a0 a1).bind fun y2=>br (decide (y2.1≥0)) (eh (0<=y2.1) ((a0.servers[y2.1.toNat]?).bind fun x3=>(gi x3.log).bind fun y4=>some (y4.1,true,())) none) ((qs a0 a1).bind fun y5=>some (y5.1,y5.2.1,()))))
def Ll:=eV 150 Tryz.f150 [.ty (.st .cluster), .ty (.i .i64)] [.ls (.st .entry), .b] (fun x=>rT x.1 x.2.1) [nj,Jh,l9,Ji] [] (by kernel_rfl) fun x=>by simp only[rT,tm]; kernel_rfl
def oY (a0:Int) (a1:eg):Option (Bool×Unit):=
 (nV a1 a0).bind fun y1=>some ((!y1.1),())
def G0:=eV 151 Tryz.f151 [.ty (.i .i64), .pr (.st .cluster)] [.b] (fun x=>oY x.1 x.2.1) [AW] [] (by kernel_rfl) fun x=>by simp only[oY,tm]; kernel_rfl
abbrev lG:LX:=⟨⟨[(0, .cl (.ro (.i .i64))),(1, .fn 151 [.pro (.st .cluster)]),(7, .cl (.int .i64)),(8, .cl (.int .i64))],[],[],0,19⟩,[(.ret,⟨[(4, .cl (.int .i64))],[],[],0,19⟩),(.ext 0,⟨[(4, .cl (.dead))],[],[],0,19⟩)],[],[0,1,7,8],[4]⟩
def fE (s: (List Int×(eg×Unit)×Int×Int×Unit)×Unit×Unit):lG.R:=
 br (decide (s.1.2.2.2.1<s.1.2.2.1)) (eh (0<=s.1.2.2.2.1) ((s.1.1[s.1.2.2.2.1.toNat]?).bind fun x5=>(oY x5 s.1.2.1.1).bind fun y6=>br y6.1 (some (.inr (.inl (s.1.2.2.2,(()),(()))))) (some (.inl ((s.1.1,s.1.2.1,s.1.2.2.1,(IntKind.wrap .i64 (s.1.2.2.2.1+1)),()),(()),(()))))) none) (some (.inr (.inr (((),()),(()),(())))))
def i8:=gQ fE
def qD:=jP Tryz.f174 [0] lG fE [G0] [] (by kernel_rfl) fun s=>by simp only[fE,tm]; kernel_rfl
def il (a0:List Int) (a1_0:eg):Option (Int×Unit):=
 (i8 ((a0,(a1_0,()),(a0.length:Int),0,()),(()),(()))).bind fun e7=>Sum.elim (fun e7_0=>some e7_0.1) (fun _=>some ((-1),())) e7
def rU:=eV 174 Tryz.f174 [.ty (.ls (.i .i64)), .fn 151 [.st .cluster]] [.i .i64] (fun x=>il x.1 x.2.1.1) [] [qD] (by kernel_rfl) fun x=>by simp only[il,tm]; kernel_rfl
def fv (a0:List Int) (a1_0:eg):Option (Bool×Unit):=
 (il a0 a1_0).bind fun y1=>some ((decide (y1.1≥0)),())
def qt:=eV 85 Tryz.f85 [.ty (.ls (.i .i64)), .fn 151 [.st .cluster]] [.b] (fun x=>fv x.1 x.2.1.1) [rU] [] (by kernel_rfl) fun x=>by simp only[fv,tm]; kernel_rfl
def nn (a0:Op):Option (Bool×Unit):=
 some ((a0.kind==2),())
def z6:=eV 181 Tryz.f181 [.ty (.st .op)] [.b] (fun x=>nn x.1) [] [] (by kernel_rfl) fun x=>by simp only[nn,tm]; kernel_rfl
def nA (a0:eu):Option (Bool×Unit):=
 (nn a0.op).bind fun y1=>some (y1.1,())
def BD:=eV 221 Tryz.f221 [.ty (.st .entry)] [.b] (fun x=>nA x.1) [z6] [] (by kernel_rfl) fun x=>by simp only[nA,tm]; kernel_rfl
abbrev jF:LX:=⟨⟨[(0, .cl (.ro (.st .entry))),(1, .cl (.fc 221)),(7, .cl (.int .i64)),(8, .cl (.int .i64))],[],[],0,19⟩,[(.ret,⟨[(4, .cl (.int .i64))],[],[],0,19⟩),(.ext 0,⟨[(4, .cl (.dead))],[],[],0,19⟩)],[],[0,1,7,8],[4]⟩
def eY (s: (List eu×Unit×Int×Int×Unit)×Unit×Unit):jF.R:=
 br (decide (s.1.2.2.2.1<s.1.2.2.1)) (eh (0<=s.1.2.2.2.1) ((s.1.1[s.1.2.2.2.1.toNat]?).bind fun x4=>(nA x4).bind fun y5=>br y5.1 (some (.inr (.inl (s.1.2.2.2,(()),(()))))) (some (.inl ((s.1.1,(),s.1.2.2.1,(IntKind.wrap .i64 (s.1.2.2.2.1+1)),()),(()),(()))))) none) (some (.inr (.inr (((),()),(()),(())))))
def ia:=gQ eY
def oh:=jP Tryz.f183 [0] jF eY [BD] [] (by kernel_rfl) fun s=>by simp only[eY,tm]; kernel_rfl
def gn (a0:List eu):Option (Int×Unit):=
 (ia ((a0,(),(a0.length:Int),0,()),(()),(()))).bind fun e6=>Sum.elim (fun e6_0=>some e6_0.1) (fun _=>some ((-1),())) e6
def oZ:=eV 183 Tryz.f183 [.ty (.ls (.st .entry)), .fc 221] [.i .i64] (fun x=>gn x.1) [] [oh] (by kernel_rfl) fun x=>by simp only[gn,tm]; kernel_rfl
def fU (a0:List eu):Option (Bool×Unit):=
 (gn a0).bind fun y1=>some ((decide (y1.1≥0)),())
def nW:=eV 220 Tryz.f220 [.ty (.ls (.st .entry)), .fc 221] [.b] (fun x=>fU x.1) [oZ] [] (by kernel_rfl) fun x=>by simp only[fU,tm]; kernel_rfl
def mi (a0:List eu):Option (Bool×Unit):=
 (fU a0).bind fun y1=>some (y1.1,())
def yy:=eV 152 Tryz.f152 [.ty (.ls (.st .entry))] [.b] (fun x=>mi x.1) [nW] [] (by kernel_rfl) fun x=>by simp only[mi,tm]; kernel_rfl
def rA (a0:Int) (a1:eg):Option (Bool×Unit):=
 eh (0<=a0) ((a1.servers[a0.toNat]?).bind fun x1=>some ((x1.version==1),())) none
def G1:=eV 153 Tryz.f153 [.ty (.i .i64), .pr (.st .cluster)] [.b] (fun x=>rA x.1 x.2.1) [] [] (by kernel_rfl) fun x=>by simp only[rA,tm]; kernel_rfl
abbrev lH:LX:=⟨⟨[(0, .cl (.ro (.i .i64))),(1, .fn 153 [.pro (.st .cluster)]),(7, .cl (.int .i64)),(8, .cl (.int .i64))],[],[],0,19⟩,[(.ret,⟨[(4, .cl (.int .i64))],[],[],0,19⟩),(.ext 0,⟨[(4, .cl (.dead))],[],[],0,19⟩)],[],[0,1,7,8],[4]⟩
def fg (s: (List Int×(eg×Unit)×Int×Int×Unit)×Unit×Unit):lH.R:=
 br (decide (s.1.2.2.2.1<s.1.2.2.1)) (eh (0<=s.1.2.2.2.1) ((s.1.1[s.1.2.2.2.1.toNat]?).bind fun x5=>(rA x5 s.1.2.1.1).bind fun y6=>br y6.1 (some (.inr (.inl (s.1.2.2.2,(()),(()))))) (some (.inl ((s.1.1,s.1.2.1,s.1.2.2.1,(IntKind.wrap .i64 (s.1.2.2.2.1+1)),()),(()),(()))))) none) (some (.inr (.inr (((),()),(()),(())))))
def i9:=gQ fg
def qE:=jP Tryz.f174 [0] lH fg [G1] [] (by kernel_rfl) fun s=>by simp only[fg,tm]; kernel_rfl
def im (a0:List Int) (a1_0:eg):Option (Int×Unit):=
 (i9 ((a0,(a1_0,()),(a0.length:Int),0,()),(()),(()))).bind fun e7=>Sum.elim (fun e7_0=>some e7_0.1) (fun _=>some ((-1),())) e7
def rV:=eV 174 Tryz.f174 [.ty (.ls (.i .i64)), .fn 153 [.st .cluster]] [.i .i64] (fun x=>im x.1 x.2.1.1) [] [qE] (by kernel_rfl) fun x=>by simp only[im,tm]; kernel_rfl
def fw (a0:List Int) (a1_0:eg):Option (Bool×Unit):=
 (im a0 a1_0).bind fun y1=>some ((decide (y1.1≥0)),())
def qu:=eV 85 Tryz.f85 [.ty (.ls (.i .i64)), .fn 153 [.st .cluster]] [.b] (fun x=>fw x.1 x.2.1.1) [rV] [] (by kernel_rfl) fun x=>by simp only[fw,tm]; kernel_rfl
def tw (a0:List eu):Option (Int×(List eu)×Unit):=
 (ln a0).bind fun y1=>br (!y1.1) (some (0,([]:List eu),())) (eh (0<=(if (IntKind.wrap .i64 ((a0.length:Int)-3))>0 then (IntKind.wrap .i64 ((a0.length:Int)-3)) else 0)/\(if (IntKind.wrap .i64 ((a0.length:Int)-3))>0 then (IntKind.wrap .i64 ((a0.length:Int)-3)) else 0)<=(a0.length:Int)/\(a0.length:Int)<=(a0.length:Int)) ((gi ((a0.drop (if (IntKind.wrap .i64 ((a0.length:Int)-3))>0 then (IntKind.wrap .i64 ((a0.length:Int)-3)) else 0).toNat).take ((a0.length:Int).toNat-(if (IntKind.wrap .i64 ((a0.length:Int)-3))>0 then (IntKind.wrap .i64 ((a0.length:Int)-3)) else 0).toNat))).bind fun y2=>some ((if (IntKind.wrap .i64 ((a0.length:Int)-3))>0 then (IntKind.wrap .i64 ((a0.length:Int)-3)) else 0),y2.1,())) none)
def HM:=eV 222 Tryz.f222 [.ty (.ls (.st .entry))] [.i .i64, .ls (.st .entry)] (fun x=>tw x.1) [wE,l9] [] (by kernel_rfl) fun x=>by simp only[tw,tm]; kernel_rfl
def mS (a0:eo) (a1:ej) (a2:Int) (a3:List eu):Option (eo×Bool×Unit):=
 (nQ a1 a2).bind fun y1=>br (y1.1==0) ((hQ a0).bind fun y2=>some (y2.1,false,())) ((ln a3).bind fun y3=>br (!y3.1) ((hQ a0).bind fun y4=>some (y4.1,false,())) ((eF a0.version 1 2).bind fun y5=>br (!y5.1) ((hQ a0).bind fun y6=>some (y6.1,false,())) ((eF a0.epoch 0 a1.epoch).bind fun y7=>br (!y7.1) ((hQ a0).bind fun y8=>some (y8.1,false,())) ((nP a3).bind fun y9=>br (decide (y9.1>a1.epoch)) ((hQ a0).bind fun y10=>some (y10.1,false,())) (let j18:Option (eo×Bool×Unit):=(hO a1).bind fun y13=>(gi a3).bind fun y14=>br (y1.1==3) ((tw a3).bind fun y15=>some ((⟨a0.up,true,a0.version,a1.epoch,y13.1,y15.1,y15.2.1,(a3.length:Int),([]:List eu)⟩:eo),true,())) (some ((⟨a0.up,true,a0.version,a1.epoch,y13.1,0,y14.1,(a3.length:Int),([]:List eu)⟩:eo),true,())); br (a0.version==1) ((mi a3).bind fun y11=>br y11.1 ((hQ a0).bind fun y12=>some (y12.1,false,())) (j18)) (j18))))))
def DU:=eV 154 Tryz.f154 [.ty (.st .server), .ty (.st .config), .ty (.i .i64), .ty (.ls (.st .entry))] [.st .server, .b] (fun x=>mS x.1 x.2.1 x.2.2.1 x.2.2.2.1) [BA,te,wE,gb,yj,yy,qj,l9,HM] [] (by kernel_rfl) fun x=>by simp only[mS,tm]; kernel_rfl
def mn (a0:ev) (a1:Int):Option (ev×Bool×Unit):=
 (mF a0).bind fun y1=>(jX a0).bind fun y2=>br (!y2.1) (some (y1.1,false,())) (br (!(a1==(a0.configs.length:Int))) (some (y1.1,false,())) (br (decide (a1<=a0.activated)) (some (y1.1,false,())) (some ((⟨y1.1.configs,a1⟩:ev),true,()))))
def CJ:=eV 155 Tryz.f155 [.ty (.st .masterLog), .ty (.i .i64)] [.st .masterLog, .b] (fun x=>mn x.1 x.2.1) [wF,rz] [] (by kernel_rfl) fun x=>by simp only[mn,tm]; kernel_rfl
abbrev z7:LX:=⟨⟨[(2, .cl (.ptr 0 0)),(4, .cl (.ptr 1 0)),(6, .cl (.ptr 2 0)),(7, .cl (.own 0 (.st .entry))),(101, .cl (.own 1 (.i .i64))),(102, .cl (.int .i64)),(103, .cl (.int .i64))],[[.int .i64, .em, .em, .em, .int .i64, .int .i64, .int .i64, .int .i64, .int .i64, .em],[.int .i64, .int .i64, .own 2 (.i .i64), .own 3 (.i .i64)],[.int .i64, .own 4 (.st .server), .own 5 (.i .i64), .own 6 (.st .config), .int .i64, .int .i64, .int .i64, .int .i64, .int .i64, .own 7 (.st .place)]],[.st .entry, .i .i64, .i .i64, .i .i64, .st .server, .i .i64, .st .config, .st .place],0,136⟩,[(.ext 1,⟨[(2, .cl (.ptr 0 0)),(4, .cl (.ptr 1 0)),(6, .cl (.ptr 2 0))],[[.int .i64, .em, .em, .em, .int .i64, .int .i64, .int .i64, .int .i64, .int .i64, .em],[.int .i64, .int .i64, .own 0 (.i .i64), .own 1 (.i .i64)],[.int .i64, .own 2 (.st .server), .own 3 (.i .i64), .own 4 (.st .config), .int .i64, .int .i64, .int .i64, .int .i64, .int .i64, .own 5 (.st .place)]],[.i .i64, .i .i64, .st .server, .i .i64, .st .config, .st .place],0,136⟩)],[],[2,4,6,7,101,102,103],[2,4,6]⟩
def np (s: (Unit×Unit×Unit×Unit×Unit×Int×Int×Unit)×((Int×Unit×Unit×Unit×Int×Int×Int×Int×Int×Unit×Unit)×(Int×Int×Unit×Unit×Unit)×(Int×Unit×Unit×Unit×Int×Int×Int×Int×Int×Unit×Unit)×Unit)×List eu×List Int×List Int×List Int×List eo×List Int×List ej×List eN×Unit):z7.R:=
 br (decide (s.1.2.2.2.2.2.2.1<s.1.2.2.2.2.2.1)) (eh (0<=s.1.2.2.2.2.2.2.1/\s.1.2.2.2.2.2.2.1< (s.2.2.2.1.length:Int)) ((s.2.2.2.1[s.1.2.2.2.2.2.2.1.toNat]?).bind fun x44=>eh (0<=x44/\x44< (s.2.2.2.2.2.2.1.length:Int)) ((s.2.2.2.2.2.2.1[x44.toNat]?).bind fun x45=>(s.2.2.2.2.2.2.1[x44.toNat]?).bind fun x46=>eh (0+x45.config.replicas.length<=x46.config.replicas.length) ((s.2.2.2.2.2.2.1[x44.toNat]?).bind fun x47=>eh (0+x45.config.witnesses.length<=x47.config.witnesses.length) ((s.2.2.2.2.2.2.1[x44.toNat]?).bind fun x48=>eh (0+x45.log.length<=x48.log.length) ((s.2.2.2.2.2.2.1[x44.toNat]?).bind fun x49=>eh (0+x45.learned.length<=x49.learned.length) ((mS (⟨x45.up,x45.intact,x45.version,x45.epoch,(⟨x45.config.epoch,x45.config.primary,((x46.config.replicas.drop 0).take x45.config.replicas.length),((x47.config.witnesses.drop 0).take x45.config.witnesses.length)⟩:ej),x45.first,((x48.log.drop 0).take x45.log.length),x45.commit,((x49.learned.drop 0).take x45.learned.length)⟩:eo) (⟨s.2.1.2.1.1,s.2.1.2.1.2.1,s.2.2.2.2.1,s.2.2.2.2.2.1⟩:ej) x44 s.2.2.1).bind fun y50=>eh (0<=x44/\x44< (s.2.2.2.2.2.2.1.length:Int)) ((s.2.2.2.2.2.2.1[x44.toNat]?).bind fun _=>some (.inl (((),(),(),(),(),s.1.2.2.2.2.2.1,(IntKind.wrap .i64 (s.1.2.2.2.2.2.2.1+1)),()),s.2.1,s.2.2.1,s.2.2.2.1,s.2.2.2.2.1,s.2.2.2.2.2.1,(s.2.2.2.2.2.2.1.set x44.toNat y50.1),s.2.2.2.2.2.2.2))) none) none) none) none) none) none) none) (some (.inr (((),(),(),()),s.2.1,s.2.2.2.2)))
def z8:=gQ np
def G2:=jP Tryz.f66 [0] z7 np [DU] [] (by kernel_rfl) fun s=>by simp only[np,tm]; kernel_rfl
def rh (a0:eg):Option (eg×Int×Unit):=
 (qn a0.master).bind fun y1=>(fS a0).bind fun y2=>br (!y2.1) ((eO a0).bind fun y3=>some (y3.1,1,())) (br (!y1.2.1) ((eO a0).bind fun y4=>some (y4.1,1,())) (br (decide (y1.1.epoch<=a0.master.activated)) ((eO a0).bind fun y5=>some (y5.1,1,())) ((jY a0).bind fun y6=>br (!y6.1) ((eO a0).bind fun y7=>some (y7.1,8,())) (eh (0<=y1.1.primary) ((a0.servers[y1.1.primary.toNat]?).bind fun x8=>br (!x8.up) ((eO a0).bind fun y9=>some (y9.1,2,())) (eh (0<=y1.1.primary) ((a0.sides[y1.1.primary.toNat]?).bind fun x10=>br (!(x10==0)) ((eO a0).bind fun y11=>some (y11.1,10,())) ((lC a0.lease a0.now).bind fun y12=>br (!y12.1) ((eO a0).bind fun y13=>some (y13.1,7,())) ((oX a0 y1.1.primary y1.1.epoch).bind fun y14=>(rT y14.1 y1.1.primary).bind fun y15=>br (!y15.2.1) (some (y14.1,9,())) ((lp y1.1).bind fun y16=>(fv y16.1 y14.1).bind fun y17=>br y17.1 (some (y14.1,10,())) ((mi y15.1).bind fun y18=>let j55:Option (eg×Int×Unit):=(z8 (((),(),(),(),(),(y16.1.length:Int),0,()),((0,(),(),(),0,0,0,0,0,(),()),(y1.1.epoch,y1.1.primary,(),(),()),(y14.1.now,(),(),(),y14.1.master.activated,y14.1.masterUp,y14.1.lease.epoch,y14.1.lease.holder,y14.1.lease.ends,(),()),()),y15.1,y16.1,y1.1.replicas,y1.1.witnesses,y14.1.servers,y14.1.sides,y14.1.master.configs,y14.1.places,())).bind fun e53=>(mn (⟨e53.2.2.2.2.2.2.1,e53.2.1.2.2.1.2.2.2.2.1⟩:ev) e53.2.1.2.1.1).bind fun y54=>some ((⟨e53.2.1.2.2.1.1,e53.2.2.2.2.1,e53.2.2.2.2.2.1,y54.1,e53.2.1.2.2.1.2.2.2.2.2.1,(⟨0,0,0⟩:fW),e53.2.2.2.2.2.2.2.1⟩:eg),0,()); br y18.1 ((fw y16.1 y14.1).bind fun y19=>br y19.1 (some (y14.1,6,())) (j55)) (j55)))))) none)) none))))
def MY:=eV 66 Tryz.f66 [.ty (.st .cluster)] [.st .cluster, .i .i64] (fun x=>rh x.1) [Je,iG,jt,vt,z5,GZ,Ll,rP,(Vs 1 151 qt qu rfl),yy,CJ] [G2] (by kernel_rfl) fun x=>by simp only[rh,tm]; kernel_rfl
def BE (a0:eg) (a1:Int):Option (Int×Unit):=
 (fq a0 a1).bind fun y1=>br (!y1.1) (some (1,())) (eh (0<=a1) ((a0.servers[a1.toNat]?).bind fun x2=>br (!x2.up) (some (2,())) (some (0,()))) none)
def Rd:=eV 156 Tryz.f156 [.ty (.st .cluster), .ty (.i .i64)] [.i .i64] (fun x=>BE x.1 x.2.1) [nj] [] (by kernel_rfl) fun x=>by simp only[BE,tm]; kernel_rfl
def qv (a0:fW) (a1:Int) (a2:Int) (a3:Int) (a4:Int):Option (fW×Bool×Unit):=
 br (a0.epoch==a1) ((ni a0).bind fun y1=>br (!y1.1) (some (a0,false,())) ((eF a1 1 20).bind fun y2=>br (!y2.1) (some (a0,false,())) ((eF a2 0 4).bind fun y3=>br (!y3.1) (some (a0,false,())) ((eF a3 0 999).bind fun y4=>br (!y4.1) (some (a0,false,())) ((eF a4 1 50).bind fun y5=>br (!y5.1) (some (a0,false,())) (br (!(a0.holder==a2)) ((lC a0 a3).bind fun y6=>br (!y6.1) (some (a0,false,())) (br (a0.holder==a2) (some ((⟨a1,a2,(if a0.ends>(IntKind.wrap .i64 (a3+a4)) then a0.ends else (IntKind.wrap .i64 (a3+a4)))⟩:fW),true,())) (some ((⟨a1,a2,(IntKind.wrap .i64 (a3+a4))⟩:fW),true,())))) (br (a0.holder==a2) (some ((⟨a1,a2,(if a0.ends>(IntKind.wrap .i64 (a3+a4)) then a0.ends else (IntKind.wrap .i64 (a3+a4)))⟩:fW),true,())) (some ((⟨a1,a2,(IntKind.wrap .i64 (a3+a4))⟩:fW),true,()))))))))) ((ni a0).bind fun y10=>br (!y10.1) (some (a0,false,())) ((eF a1 1 20).bind fun y11=>br (!y11.1) (some (a0,false,())) ((eF a2 0 4).bind fun y12=>br (!y12.1) (some (a0,false,())) ((eF a3 0 999).bind fun y13=>br (!y13.1) (some (a0,false,())) ((eF a4 1 50).bind fun y14=>br (!y14.1) (some (a0,false,())) (br (!false) ((lC a0 a3).bind fun y15=>br (!y15.1) (some (a0,false,())) (some ((⟨a1,a2,(IntKind.wrap .i64 (a3+a4))⟩:fW),true,()))) (some ((⟨a1,a2,(IntKind.wrap .i64 (a3+a4))⟩:fW),true,()))))))))
def Jj:=eV 157 Tryz.f157 [.ty (.st .lease), .ty (.i .i64), .ty (.i .i64), .ty (.i .i64), .ty (.i .i64)] [.st .lease, .b] (fun x=>qv x.1 x.2.1 x.2.2.1 x.2.2.2.1 x.2.2.2.2.1) [zm,gb,z5] [] (by kernel_rfl) fun x=>by simp only[qv,tm]; kernel_rfl
def om (a0:eg) (a1:Int) (a2:Int):Option (eg×Int×Unit):=
 (eO a0).bind fun y1=>(BE a0 a1).bind fun y2=>br (!(y2.1==0)) (some (y1.1,y2.1,())) ((fA a0 a1).bind fun y3=>br (!y3.1) (some (y1.1,3,())) ((jY a0).bind fun y4=>br (!y4.1) (some (y1.1,8,())) (eh (0<=a1) ((a0.sides[a1.toNat]?).bind fun x5=>br (!(x5==0)) (some (y1.1,8,())) (eh (0<=a1) ((a0.servers[a1.toNat]?).bind fun x6=>br (decide ((a0.master.configs.length:Int)>x6.config.epoch)) (some (y1.1,11,())) (eh (0<=a1) ((a0.servers[a1.toNat]?).bind fun x7=>(qv a0.lease x7.config.epoch a1 a0.now a2).bind fun y8=>br (!y8.2.1) (some (y1.1,7,())) (some ((⟨y1.1.now,y1.1.servers,y1.1.sides,y1.1.master,y1.1.masterUp,y8.1,y1.1.places⟩:eg),0,()))) none)) none)) none)))
def Jk:=eV 67 Tryz.f67 [.ty (.st .cluster), .ty (.i .i64), .ty (.i .i64)] [.st .cluster, .i .i64] (fun x=>om x.1 x.2.1 x.2.2.1) [jt,Rd,nk,vt,Jj] [] (by kernel_rfl) fun x=>by simp only[om,tm]; kernel_rfl
def nq (a0:eg) (a1:Int) (a2:Int):Option (eg×Int×Unit):=
 (fS a0).bind fun y1=>br (!y1.1) ((eO a0).bind fun y2=>some (y2.1,1,())) ((eF a2 1 50).bind fun y3=>br (!y3.1) ((eO a0).bind fun y4=>some (y4.1,1,())) ((rQ a0).bind fun y5=>br y5.1 ((eO a0).bind fun y6=>some (y6.1,0,())) ((qm a0 a1 0).bind fun y7=>br (!y7.2.1) ((eO a0).bind fun y8=>some (y8.1,10,())) ((oW a0 y7.1).bind fun y9=>br (y9.2.1==0) ((rd y9.1.lease).bind fun y10=>(ut y9.1 (if (IntKind.wrap .i64 (y10.1-y9.1.now))>0 then (IntKind.wrap .i64 (y10.1-y9.1.now)) else 0)).bind fun y11=>br (!(y11.2.1==0)) ((eO a0).bind fun y26=>some (y26.1,y11.2.1,())) ((rh y11.1).bind fun y27=>br (!(y27.2.1==0)) (some (y27.1,y27.2.1,())) ((om y27.1 y7.1.primary a2).bind fun y28=>some (y28.1,y28.2.1,())))) (br (!(y9.2.1==0)) ((eO a0).bind fun y29=>some (y29.1,y9.2.1,())) ((rh y9.1).bind fun y30=>br (!(y30.2.1==0)) (some (y30.1,y30.2.1,())) ((om y30.1 y7.1.primary a2).bind fun y31=>some (y31.1,y31.2.1,()))))))))
def G3:=eV 25 Tryz.f25 [.ty (.st .cluster), .ty (.i .i64), .ty (.i .i64)] [.st .cluster, .i .i64] (fun x=>nq x.1 x.2.1 x.2.2.1) [iG,jt,gb,Li,Jd,GY,FJ,MW,MY,Jk] [] (by kernel_rfl) fun x=>by simp only[nq,tm]; kernel_rfl
def rX (a0:eg) (a1:Int):Option (eg×Int×Unit):=
 (nq a0 a1 50).bind fun y1=>br (y1.2.1==6) ((nq y1.1 1 50).bind fun y2=>some (y2.1,y2.2.1,())) (some (y1.1,y1.2.1,()))
def Lm:=eV 8 Tryz.f8 [.ty (.st .cluster), .ty (.i .i64)] [.st .cluster, .i .i64] (fun x=>rX x.1 x.2.1) [G3] [] (by kernel_rfl) fun x=>by simp only[rX,tm]; kernel_rfl
def u3 (a0:eu) (a1:Int) (a2:Int):Option (Bool×Unit):=
 br (a0.op.client==a1) (some ((a0.op.seq==a2),())) (some (false,()))
def Ln:=eV 184 Tryz.f184 [.ty (.st .entry), .pr (.i .i64), .pr (.i .i64)] [.b] (fun x=>u3 x.1 x.2.1 x.2.2.1) [] [] (by kernel_rfl) fun x=>by simp only[u3,tm]; kernel_rfl
abbrev lI:LX:=⟨⟨[(0, .cl (.ro (.st .entry))),(1, .fn 184 [.pro (.i .i64), .pro (.i .i64)]),(7, .cl (.int .i64)),(8, .cl (.int .i64))],[],[],0,19⟩,[(.ret,⟨[(4, .cl (.int .i64))],[],[],0,19⟩),(.ext 0,⟨[(4, .cl (.dead))],[],[],0,19⟩)],[],[0,1,7,8],[4]⟩
def fF (s: (List eu×(Int×Int×Unit)×Int×Int×Unit)×Unit×Unit):lI.R:=
 br (decide (s.1.2.2.2.1<s.1.2.2.1)) (eh (0<=s.1.2.2.2.1) ((s.1.1[s.1.2.2.2.1.toNat]?).bind fun x6=>(u3 x6 s.1.2.1.1 s.1.2.1.2.1).bind fun y7=>br y7.1 (some (.inr (.inl (s.1.2.2.2,(()),(()))))) (some (.inl ((s.1.1,s.1.2.1,s.1.2.2.1,(IntKind.wrap .i64 (s.1.2.2.2.1+1)),()),(()),(()))))) none) (some (.inr (.inr (((),()),(()),(())))))
def ja:=gQ fF
def qF:=jP Tryz.f183 [0] lI fF [Ln] [] (by kernel_rfl) fun s=>by simp only[fF,tm]; kernel_rfl
def ip (a0:List eu) (a1_0:Int) (a1_1:Int):Option (Int×Unit):=
 (ja ((a0,(a1_0,a1_1,()),(a0.length:Int),0,()),(()),(()))).bind fun e8=>Sum.elim (fun e8_0=>some e8_0.1) (fun _=>some ((-1),())) e8
def rY:=eV 183 Tryz.f183 [.ty (.ls (.st .entry)), .fn 184 [.i .i64, .i .i64]] [.i .i64] (fun x=>ip x.1 x.2.1.1 x.2.1.2.1) [] [qF] (by kernel_rfl) fun x=>by simp only[ip,tm]; kernel_rfl
def wd (a0:List eu) (a1:Int) (a2:Int):Option (Int×Unit):=
 (ip a0 a1 a2).bind fun y1=>some (y1.1,())
def Lo:=eV 90 Tryz.f90 [.ty (.ls (.st .entry)), .ty (.i .i64), .ty (.i .i64)] [.i .i64] (fun x=>wd x.1 x.2.1 x.2.2.1) [rY] [] (by kernel_rfl) fun x=>by simp only[wd,tm]; kernel_rfl
def qx:Option (eJ×Unit):=
 eh (0<=3/\3=3/\3*((8:Nat):Int)<=2 ^ 40) (some ((⟨(List.replicate (3:Int).toNat (0:Int)),([]:List ew)⟩:eJ),())) none
def Jl:=eV 230 Tryz.f230 [] [.st .machine] (fun _=>qx) [] [] (by kernel_rfl) fun x=>by simp only[qx,tm,-eq_self]; kernel_rfl
def ri (a0:List ew):Option ((List ew)×Unit):=eh (a0.length*32<=2 ^ 40) (some (a0,())) none
def CK:=We 250 Tryz.f250 (.st .session) 32 ri (by kernel_rfl) (fun _=>rfl) fun _=>by kernel_rfl
def o3 (a0:eJ):Option (eJ×Unit):=
 (iP a0.objects).bind fun y1=>(ri a0.sessions).bind fun y2=>some ((⟨y1.1,y2.1⟩:eJ),())
def G4:=eV 231 Tryz.f231 [.ty (.st .machine)] [.st .machine] (fun x=>o3 x.1) [tc,CK] [] (by kernel_rfl) fun x=>by simp only[o3,tm]; kernel_rfl
abbrev z9:LX:=⟨⟨[(1, .cl (.int .i64)),(4, .cl (.ptr 0 0)),(9, .cl (.ro (.st .session))),(10, .cl (.int .i64)),(11, .cl (.int .i64))],[[.int .i64, .int .i64, .bl, .int .i64]],[],0,22⟩,[(.ret,⟨[(4, .cl (.ptr 0 0)),(5, .cl (.bl))],[[.int .i64, .int .i64, .bl, .int .i64]],[],0,22⟩),(.ext 0,⟨[(4, .cl (.ptr 0 0)),(5, .cl (.dead))],[[.int .i64, .int .i64, .bl, .int .i64]],[],0,22⟩)],[],[1,4,9,10,11],[4,5]⟩
def nr (s: (Int×Unit×List ew×Int×Int×Unit)×((Int×Int×Bool×Int×Unit)×Unit)×Unit):z9.R:=
 br (decide (s.1.2.2.2.2.1<s.1.2.2.2.1)) (eh (0<=s.1.2.2.2.2.1) ((s.1.2.2.1[s.1.2.2.2.2.1.toNat]?).bind fun x9=>br (x9.client==s.1.1) (some (.inr (.inl (((),true,()),((x9.client,x9.seq,x9.result.done,x9.result.value,()),()),(()))))) (some (.inl ((s.1.1,(),s.1.2.2.1,s.1.2.2.2.1,(IntKind.wrap .i64 (s.1.2.2.2.2.1+1)),()),s.2.1,(()))))) none) (some (.inr (.inr (((),(),()),s.2.1,(())))))
def vu:=gQ nr
def G5:=jP Tryz.f232 [0] z9 nr [] [] (by kernel_rfl) fun s=>by simp only[nr,tm]; kernel_rfl
def rZ (a0:eJ) (a1:Int):Option (ew×Bool×Unit):=
 (vu ((a1,(),a0.sessions,(a0.sessions.length:Int),0,()),((0,0,false,0,()),()),(()))).bind fun e10=>Sum.elim (fun e10_0=>some ((⟨e10_0.2.1.1.1,e10_0.2.1.1.2.1,(⟨e10_0.2.1.1.2.2.1,e10_0.2.1.1.2.2.2.1⟩:Result)⟩:ew),e10_0.1.2)) (fun _=>some ((⟨0,0,(⟨false,0⟩:Result)⟩:ew),false,())) e10
def Lp:=eV 232 Tryz.f232 [.ty (.st .machine), .ty (.i .i64)] [.st .session, .b] (fun x=>rZ x.1 x.2.1) [] [G5] (by kernel_rfl) fun x=>by simp only[rZ,tm]; kernel_rfl
def lM (a0:Int):Option (Bool×Unit):=
 (eF a0 0 9).bind fun y1=>some ((!y1.1),())
def zx:=eV 251 Tryz.f251 [.ty (.i .i64)] [.b] (fun x=>lM x.1) [gb] [] (by kernel_rfl) fun x=>by simp only[lM,tm]; kernel_rfl
abbrev jG:LX:=⟨⟨[(0, .cl (.ro (.i .i64))),(1, .cl (.fc 251)),(7, .cl (.int .i64)),(8, .cl (.int .i64))],[],[],0,19⟩,[(.ret,⟨[(4, .cl (.int .i64))],[],[],0,19⟩),(.ext 0,⟨[(4, .cl (.dead))],[],[],0,19⟩)],[],[0,1,7,8],[4]⟩
def eZ (s: (List Int×Unit×Int×Int×Unit)×Unit×Unit):jG.R:=
 br (decide (s.1.2.2.2.1<s.1.2.2.1)) (eh (0<=s.1.2.2.2.1) ((s.1.1[s.1.2.2.2.1.toNat]?).bind fun x4=>(lM x4).bind fun y5=>br y5.1 (some (.inr (.inl (s.1.2.2.2,(()),(()))))) (some (.inl ((s.1.1,(),s.1.2.2.1,(IntKind.wrap .i64 (s.1.2.2.2.1+1)),()),(()),(()))))) none) (some (.inr (.inr (((),()),(()),(())))))
def ib:=gQ eZ
def oo:=jP Tryz.f174 [0] jG eZ [zx] [] (by kernel_rfl) fun s=>by simp only[eZ,tm]; kernel_rfl
def gp (a0:List Int):Option (Int×Unit):=
 (ib ((a0,(),(a0.length:Int),0,()),(()),(()))).bind fun e6=>Sum.elim (fun e6_0=>some e6_0.1) (fun _=>some ((-1),())) e6
def o4:=eV 174 Tryz.f174 [.ty (.ls (.i .i64)), .fc 251] [.i .i64] (fun x=>gp x.1) [] [oo] (by kernel_rfl) fun x=>by simp only[gp,tm]; kernel_rfl
def fV (a0:List Int):Option (Bool×Unit):=
 (gp a0).bind fun y1=>some ((decide (y1.1≥0)),())
def nX:=eV 85 Tryz.f85 [.ty (.ls (.i .i64)), .fc 251] [.b] (fun x=>fV x.1) [o4] [] (by kernel_rfl) fun x=>by simp only[fV,tm]; kernel_rfl
abbrev ux:LX:=⟨⟨[(1, .cl (.ptr 0 0)),(15, .cl (.ro (.st .session))),(16, .cl (.int .i64)),(17, .cl (.int .i64))],[[.ro (.i .i64), .ro (.st .session)]],[],0,56⟩,[(.ret,⟨[(2, .cl (.bl))],[],[],0,56⟩),(.ext 0,⟨[(2, .cl (.dead))],[],[],0,56⟩)],[],[1,15,16,17],[2]⟩
def jn (s: (Unit×List ew×Int×Int×Unit)×((List Int×List ew×Unit)×Unit)×Unit):ux.R:=
 br (decide (s.1.2.2.2.1<s.1.2.2.1)) (eh (0<=s.1.2.2.2.1) ((s.1.2.1[s.1.2.2.2.1.toNat]?).bind fun x7=>(eF x7.client 0 2).bind fun y8=>br (!y8.1) (some (.inr (.inl ((false,()),(()),(()))))) (br (decide (s.1.2.2.2.1>0)) (eh (0<=(IntKind.wrap .i64 (s.1.2.2.2.1-1))) ((s.2.1.1.2.1[(IntKind.wrap .i64 (s.1.2.2.2.1-1)).toNat]?).bind fun x9=>br (decide (x7.client<=x9.client)) (some (.inr (.inl ((false,()),(()),(()))))) ((eF x7.seq 1 99).bind fun y10=>br (!y10.1) (some (.inr (.inl ((false,()),(()),(()))))) ((eF x7.result.value 0 9).bind fun y11=>br (!y11.1) (some (.inr (.inl ((false,()),(()),(()))))) (some (.inl (((),s.1.2.1,s.1.2.2.1,(IntKind.wrap .i64 (s.1.2.2.2.1+1)),()),s.2.1,(()))))))) none) ((eF x7.seq 1 99).bind fun y12=>br (!y12.1) (some (.inr (.inl ((false,()),(()),(()))))) ((eF x7.result.value 0 9).bind fun y13=>br (!y13.1) (some (.inr (.inl ((false,()),(()),(()))))) (some (.inl (((),s.1.2.1,s.1.2.2.1,(IntKind.wrap .i64 (s.1.2.2.2.1+1)),()),s.2.1,(())))))))) none) (some (.inr (.inr (((),()),(()),(())))))
def pp:=gQ jn
def AY:=jP Tryz.f233 [0] ux jn [gb] [] (by kernel_rfl) fun s=>by simp only[jn,tm]; kernel_rfl
def mp (a0:eJ):Option (Bool×Unit):=
 br (!((a0.objects.length:Int)==3)) (some (false,())) ((fV a0.objects).bind fun y1=>br y1.1 (some (false,())) ((pp (((),a0.sessions,(a0.sessions.length:Int),0,()),((a0.objects,a0.sessions,()),()),(()))).bind fun e14=>Sum.elim (fun e14_0=>some e14_0.1) (fun _=>some (true,())) e14))
def CL:=eV 233 Tryz.f233 [.ty (.st .machine)] [.b] (fun x=>mp x.1) [nX] [AY] (by kernel_rfl) fun x=>by simp only[mp,tm]; kernel_rfl
def lq (a0:List ew) (a1:Int) (a2:List ew):Option ((List ew)×Unit):=Q8 32 a0 a1 a2
section
open Go.RowKit
set_option maxHeartbeats 4000000 in
set_option maxRecDepth 100000 in
theorem we (ab:Option Addr) (n c:Nat) (ad:Addr) (vc:Nat) (w w':World) (v:Value) (hnc:n<=c) (hn0:ab=none->n=0)
  (hr: ∀ty,(Builtin.append_ #[163,163] ty #[.slice ab n c, .slice (some ad) 1 vc]).run Tryz.prog w= .ok v w'):
  Calls Tryz.prog 234 #[.slice ab n c, .int .i64 n, .slice (some ad) 1 vc] w fun e w1=>e= .returned v/\w1=w':=by
 go_enter Tryz.func234,Tryz.ntmps234
 cases ab with
 |none=>
  obtain rfl:=hn0 rfl
  go_wp2_with (at_builtin; refine Lib.wpList_append_run _ rfl _ _ _ _ rfl _ _ rfl rfl _ _ (hr _) ?_)
  all_goals (go_ret; exact⟨rfl,rfl⟩)
 |some a=>
  obtain⟨b,o,sp⟩:=a
  go_wp2_with (at_builtin; refine Lib.wpList_append_run _ rfl _ _ _ _ rfl _ _ rfl rfl _ _ (hr _) ?_)
  all_goals (go_ret; exact⟨rfl,rfl⟩)
set_option maxHeartbeats 4000000 in
set_option maxRecDepth 100000 in
theorem uI (b n c i:Nat) (ad:Addr) (vc:Nat) (w W1 W2:World) (u1 u2:Value) (hi:i<n) (hnc:n+1<=c) (hn:n<=2 ^ 40) (hne:ad.block≠b)
  (hA: ∃ra ta fa,w.heap[ad.block]? =some (.cells ra ta fa)/\0<ra.size) (hB: ∃rb tb,w.heap[b]? =some (.cells rb tb (0,0)))
  (hcp1: ∀ty dc sc,(Builtin.copy_ #[163,163] ty #[.slice (some ⟨b,(i+1)*4,none⟩) (n-i) dc, .slice (some ⟨b,i*4,none⟩) (n+1-i) sc]).run Tryz.prog w.drew= .ok u1 W1)
  (hcp2: ∀ty dc,(Builtin.copy_ #[163,163] ty #[.slice (some ⟨b,i*4,none⟩) (n+1-i) dc, .slice (some ad) 1 vc]).run Tryz.prog W1= .ok u2 W2):
  Calls Tryz.prog 234 #[.slice (some ⟨b,0,none⟩) n c, .int .i64 i, .slice (some ad) 1 vc] w fun e w1=>e= .returned (.slice (some ⟨b,0,none⟩) (n+1) c)/\w1=W2:=by
 obtain⟨ra,ta,fa,hA1,hA2⟩:=hA;obtain⟨rb,tb,hB1⟩:=hB
 have hov: ∀lb cb,(callFunc 252 #[.slice (some ad) 1 vc, .slice (some ⟨b,(i+1)*4,none⟩) lb cb]).run Tryz.prog w= .ok (.value (.bool false)) w:=fun lb cb=>by
  rw[run_callFunc_extern Tryz.func252 (by kernel_rfl) (by kernel_rfl) (by kernel_rfl) (e:=Extern.SlicesOverlaps.overlaps #[163,163] #[4]) (by kernel_rfl),
   Il w 163 4 195 (by kernel_rfl) (i:=Tryz.t195) (by kernel_rfl) ad ⟨b,(i+1)*4,none⟩ 1 vc lb cb hne hA1 hA2 hB1]
  rfl
 have hz2: ¬ ((i:Int)=(n:Int)):=by omega
 have hw1:IntKind.i64.wrap ((i:Int)+1)=(i:Int)+1:=by rw[IntKind.wrap_i64]; omega
 have hw2:IntKind.i64.wrap ((n:Int)+1)=(n:Int)+1:=by rw[IntKind.wrap_i64]; omega
 have hb1: (0:Int)<=(i:Int)+1:=by omega
 have hin:i<=n:=by omega
 have htn: ((i:Int)+1).toNat=i+1:=by omega
 have htn2: ((n:Int)+1).toNat=n+1:=by omega
 have hb2: ¬ (c=i+1):=by omega
 have hb3: (i:Int)<=(n:Int)+1:=by omega
 have hb4: ¬ (c=i):=by omega
 have mixed:Tryz.prog.follows .mixedOrders=true:=tO;clear hA1 hA2 hB1 hne hn
 go_enter Tryz.func234,Tryz.ntmps234
 go_wp2_with (simp only[hov])
 go_region_law_o (refine HI rfl _ _ 163 163 rfl _ _ (by simp[Act.eval,Act.put]) (by simp[Act.eval,Act.put]) (hcp1 _ _ _) ?_)
 go_wp2_with (refine N5 _ rfl _ _ 163 163 rfl _ _ rfl rfl (hcp2 _ _) ?_)
 go_ret
 exact⟨rfl,rfl⟩
set_option maxHeartbeats 4000000 in
set_option maxRecDepth 100000 in
theorem vw (b g n c G i:Nat) (ad:Addr) (vc:Nat) (w W0 W1 W2:World) (u1 u2:Value) (hi:i<n) (hnn:n<=c) (hnc:c<n+1) (hG:n+1<=G) (hn:n<=2 ^ 40)
  (hrz: ∀ty,(Builtin.append_ #[163,3] ty #[.slice (some ⟨b,0,none⟩) i c, .int .i64 ((n:Int)+1-(i:Int))]).run Tryz.prog w= .ok (.slice (some ⟨g,0,none⟩) (n+1) G) W0)
  (hcp1: ∀ty dc,(Builtin.copy_ #[163,163] ty #[.slice (some ⟨g,i*4,none⟩) (n+1-i) dc, .slice (some ad) 1 vc]).run Tryz.prog W0= .ok u1 W1)
  (hcp2: ∀ty dc sc,(Builtin.copy_ #[163,163] ty #[.slice (some ⟨g,(i+1)*4,none⟩) (n-i) dc, .slice (some ⟨b,i*4,none⟩) (n-i) sc]).run Tryz.prog W1.drew= .ok u2 W2):
  Calls Tryz.prog 234 #[.slice (some ⟨b,0,none⟩) n c, .int .i64 i, .slice (some ad) 1 vc] w fun e w1=>e= .returned (.slice (some ⟨g,0,none⟩) (n+1) G)/\w1=W2:=by
 have hz2: ¬ ((i:Int)=(n:Int)):=by omega
 have hw1:IntKind.i64.wrap ((i:Int)+1)=(i:Int)+1:=by rw[IntKind.wrap_i64]; omega
 have hw2:IntKind.i64.wrap ((n:Int)+1)=(n:Int)+1:=by rw[IntKind.wrap_i64]; omega
 have hw3:IntKind.i64.wrap ((n:Int)+1-(i:Int))=(n:Int)+1-(i:Int):=by rw[IntKind.wrap_i64]; omega
 have hb1: (0:Int)<=(i:Int)+1:=by omega
 have hin:i<=n:=by omega
 have htn: ((i:Int)+1).toNat=i+1:=by omega
 have hb2: ¬ (G=i+1):=by omega
 have hb3: (i:Int)<=(n:Int)+1:=by omega
 have hb4: ¬ (c=i):=by omega
 have hb5: ¬ (G=i):=by omega
 have hb6: (c:Int)< (n:Int)+1:=by omega
 have mixed:Tryz.prog.follows .mixedOrders=true:=tO;clear hn
 go_enter Tryz.func234,Tryz.ntmps234
 go_wp2_with (first
  | (at_builtin; refine Lib.wpList_append_run _ rfl _ _ _ _ rfl _ _ rfl rfl _ _ (hrz _) ?_)
  | (refine N5 _ rfl _ _ 163 163 rfl _ _ rfl rfl (hcp1 _ _) ?_))
 go_region_law_o (refine HI rfl _ _ 163 163 rfl _ _ (by simp[Act.eval,Act.put]) (by simp[Act.eval,Act.put]) (hcp2 _ _ _) ?_)
 go_wp2
 go_ret
 exact⟨rfl,rfl⟩
theorem wH:Im Tryz.prog 234 163 195 3 4 Tryz.t195 (.agg #[.int .i64 0, .int .i64 0, .bool false, .int .i64 0]) where
 enter:=Q7 Tryz.func234 (by kernel_rfl) rfl
 ht:=by kernel_rfl
 hi:=by kernel_rfl
 hz:=by kernel_rfl
 zs:=by kernel_rfl
 z1:=by decide
 hs:=by kernel_rfl
 pos:=by decide
 htn:=by kernel_rfl
 toEnd:=fun ab n c ad vc w w' v h1 h2 _ h4=>we ab n c ad vc w w' v h1 h2 h4
 shift:=uI
 grow:=vw
end
def yz:=UB wH (.st .session) rfl rfl 32 (by kernel_rfl) (by decide)
abbrev BF:LX:=⟨⟨[(3, .cl (.ptr 0 0)),(4, .cl (.ptr 1 0)),(5, .cl (.ptr 2 0)),(7, .cl (.ptr 3 0)),(9, .cl (.bl)),(11, .cl (.ptr 4 0)),(12, .cl (.int .i64))],[[.int .i64, .int .i64, .int .i64, .int .i64, .int .i64, .int .i64],[.em, .em],[.bl, .int .i64],[.own 0 (.i .i64), .own 1 (.st .session)],[.bl, .int .i64]],[.i .i64, .st .session],0,120⟩,[(.ext 1,⟨[(3, .cl (.ptr 0 0)),(4, .cl (.ptr 1 0)),(5, .cl (.ptr 2 0)),(7, .cl (.ptr 3 0)),(9, .cl (.bl)),(11, .cl (.ptr 4 0)),(12, .cl (.int .i64))],[[.int .i64, .int .i64, .int .i64, .int .i64, .int .i64, .int .i64],[.em, .em],[.bl, .int .i64],[.own 0 (.i .i64), .own 1 (.st .session)],[.bl, .int .i64]],[.i .i64, .st .session],0,120⟩)],[],[3,4,5,7,9,11,12],[3,4,5,7,9,11,12]⟩
def wI (s: (Unit×Unit×Unit×Unit×Bool×Unit×Int×Unit)×((Int×Int×Int×Int×Int×Int×Unit)×(Unit×Unit×Unit)×(Bool×Int×Unit)×(Unit×Unit×Unit)×(Bool×Int×Unit)×Unit)×List Int×List ew×Unit):BF.R:=
 br (decide (s.1.2.2.2.2.2.2.1< (s.2.2.2.1.length:Int))) (eh (0<=s.1.2.2.2.2.2.2.1/\s.1.2.2.2.2.2.2.1< (s.2.2.2.1.length:Int)) ((s.2.2.2.1[s.1.2.2.2.2.2.2.1.toNat]?).bind fun x22=>br (decide (x22.client<s.2.1.1.1)) (some (.inl (((),(),(),(),s.1.2.2.2.2.1,(),(IntKind.wrap .i64 (s.1.2.2.2.2.2.2.1+1)),()),s.2))) (some (.inr s))) none) (some (.inr s))
def wJ:=gQ wI
def Jm:=jP Tryz.f180 [0] BF wI [] [] (by kernel_rfl) fun s=>by simp only[wI,tm]; kernel_rfl
def rj (a0:eJ) (a1:Op):Option (eJ×Result×Bool×Unit):=
 (o3 a0).bind fun y1=>(rZ a0 a1.client).bind fun y2=>(mp a0).bind fun y3=>br (!y3.1) (some (y1.1,(⟨false,0⟩:Result),false,())) ((mw a1).bind fun y4=>br (!y4.1) (some (y1.1,(⟨false,0⟩:Result),false,())) (let j54:Option (eJ×Result×Bool×Unit):=eh (0<=a1.object) ((a0.objects[a1.object.toNat]?).bind fun x5=>br (a1.kind==1) (eh (0<=a1.object/\a1.object< (y1.1.objects.length:Int)) ((y1.1.objects[a1.object.toNat]?).bind fun _=>(wJ (((),(),(),(),y2.2.1,(),0,()),((a1.client,a1.seq,a1.kind,a1.object,a1.old,a1.value,()),((),(),()),(false,0,()),((),(),()),(true,x5,()),()),(y1.1.objects.set a1.object.toNat a1.value),y1.1.sessions,())).bind fun e23=>let j28 (p25:List ew):Option (eJ×Result×Bool×Unit):=eh (0<=e23.1.2.2.2.2.2.2.1/\e23.1.2.2.2.2.2.2.1< (p25.length:Int)) ((p25[e23.1.2.2.2.2.2.2.1.toNat]?).bind fun _=>some ((⟨e23.2.2.1,(p25.set e23.1.2.2.2.2.2.2.1.toNat (⟨e23.2.1.1.1,e23.2.1.1.2.1,(⟨e23.2.1.2.2.2.2.1.1,e23.2.1.2.2.2.2.1.2.1⟩:Result)⟩:ew))⟩:eJ),(⟨e23.2.1.2.2.2.2.1.1,e23.2.1.2.2.2.2.1.2.1⟩:Result),true,())) none; br (!e23.1.2.2.2.2.1) ((lq e23.2.2.2.1 e23.1.2.2.2.2.2.2.1 ([(⟨0,0,(⟨false,0⟩:Result)⟩:ew)]:List ew)).bind fun y24=>j28 y24.1) (j28 e23.2.2.2.1)) none) (let j53 (p31:List Int):Option (eJ×Result×Bool×Unit):=(wJ (((),(),(),(),y2.2.1,(),0,()),((a1.client,a1.seq,a1.kind,a1.object,a1.old,a1.value,()),((),(),()),(false,0,()),((),(),()),((x5==a1.old),x5,()),()),p31,y1.1.sessions,())).bind fun e47=>let j52 (p49:List ew):Option (eJ×Result×Bool×Unit):=eh (0<=e47.1.2.2.2.2.2.2.1/\e47.1.2.2.2.2.2.2.1< (p49.length:Int)) ((p49[e47.1.2.2.2.2.2.2.1.toNat]?).bind fun _=>some ((⟨e47.2.2.1,(p49.set e47.1.2.2.2.2.2.2.1.toNat (⟨e47.2.1.1.1,e47.2.1.1.2.1,(⟨e47.2.1.2.2.2.2.1.1,e47.2.1.2.2.2.2.1.2.1⟩:Result)⟩:ew))⟩:eJ),(⟨e47.2.1.2.2.2.2.1.1,e47.2.1.2.2.2.2.1.2.1⟩:Result),true,())) none; br (!e47.1.2.2.2.2.1) ((lq e47.2.2.2.1 e47.1.2.2.2.2.2.2.1 ([(⟨0,0,(⟨false,0⟩:Result)⟩:ew)]:List ew)).bind fun y48=>j52 y48.1) (j52 e47.2.2.2.1); br (x5==a1.old) (eh (0<=a1.object/\a1.object< (y1.1.objects.length:Int)) ((y1.1.objects[a1.object.toNat]?).bind fun _=>j53 (y1.1.objects.set a1.object.toNat a1.value)) none) (j53 y1.1.objects))) none; br y2.2.1 (br (decide (y2.1.seq>a1.seq)) (some (y1.1,(⟨false,0⟩:Result),false,())) (br y2.2.1 (br (y2.1.seq==a1.seq) (some (y1.1,y2.1.result,true,())) (j54)) (j54))) (br y2.2.1 (br (y2.1.seq==a1.seq) (some (y1.1,y2.1.result,true,())) (j54)) (j54))))
def CM:=eV 180 Tryz.f180 [.ty (.st .machine), .ty (.st .op)] [.st .machine, .st .result, .b] (fun x=>rj x.1 x.2.1) [G4,Lp,CL,yh,yz] [Jm] (by kernel_rfl) fun x=>by simp only[rj,tm]; kernel_rfl
abbrev Aa:LX:=⟨⟨[(2, .cl (.ptr 0 0)),(4, .cl (.ptr 1 0)),(12, .cl (.ro (.st .entry))),(13, .cl (.int .i64)),(14, .cl (.int .i64))],[[.em, .em],[.own 0 (.i .i64), .own 1 (.st .session)]],[.i .i64, .st .session],0,28⟩,[(.ext 0,⟨[(2, .cl (.ptr 0 0)),(4, .cl (.ptr 1 0))],[[.em, .em],[.own 0 (.i .i64), .own 1 (.st .session)]],[.i .i64, .st .session],0,28⟩)],[],[2,4,12,13,14],[2,4]⟩
def ns (s: (Unit×Unit×List eu×Int×Int×Unit)×((Unit×Unit×Unit)×(Unit×Unit×Unit)×Unit)×List Int×List ew×Unit):Aa.R:=
 br (decide (s.1.2.2.2.2.1<s.1.2.2.2.1)) (eh (0<=s.1.2.2.2.2.1) ((s.1.2.2.1[s.1.2.2.2.2.1.toNat]?).bind fun x8=>(rj (⟨s.2.2.1,s.2.2.2.1⟩:eJ) x8.op).bind fun y9=>some (.inl (((),(),s.1.2.2.1,s.1.2.2.2.1,(IntKind.wrap .i64 (s.1.2.2.2.2.1+1)),()),(((),(),()),((),(),()),()),y9.1.objects,y9.1.sessions,()))) none) (some (.inr (((),(),()),s.2)))
def Ab:=gQ ns
def G6:=jP Tryz.f179 [0] Aa ns [CM] [] (by kernel_rfl) fun s=>by simp only[ns,tm]; kernel_rfl
def pM (a0:List eu):Option (eJ×Bool×Unit):=
 (ln a0).bind fun y1=>br (!y1.1) (some ((⟨([]:List Int),([]:List ew)⟩:eJ),false,())) ((qx).bind fun y2=>(Ab (((),(),a0,(a0.length:Int),0,()),(((),(),()),((),(),()),()),y2.1.objects,y2.1.sessions,())).bind fun e10=>some ((⟨e10.2.2.1,e10.2.2.2.1⟩:eJ),true,()))
def Dl:=eV 179 Tryz.f179 [.ty (.ls (.st .entry))] [.st .machine, .b] (fun x=>pM x.1) [wE,Jl] [G6] (by kernel_rfl) fun x=>by simp only[pM,tm]; kernel_rfl
abbrev xq:LX:=⟨⟨[(2, .cl (.ptr 0 0)),(5, .cl (.int .i64)),(18, .cl (.own 0 (.i .i64))),(19, .cl (.int .i64)),(20, .cl (.int .i64))],[[.int .i64, .ro (.st .server), .ro (.i .i64), .ro (.st .config), .int .i64, .int .i64, .int .i64, .int .i64, .int .i64, .ro (.st .place)]],[.i .i64],0,34⟩,[(.ext 0,⟨[(5, .cl (.int .i64))],[],[],0,34⟩)],[],[2,5,18,19,20],[5]⟩
def kZ (s: (Unit×Int×Unit×Int×Int×Unit)×((Int×List eo×List Int×List ej×Int×Int×Int×Int×Int×List eN×Unit)×Unit)×List Int×Unit):xq.R:=
 br (decide (s.1.2.2.2.2.1<s.1.2.2.2.1)) (eh (0<=s.1.2.2.2.2.1/\s.1.2.2.2.2.1< (s.2.2.1.length:Int)) ((s.2.2.1[s.1.2.2.2.2.1.toNat]?).bind fun x18=>eh (0<=x18) ((s.2.1.1.2.1[x18.toNat]?).bind fun x19=>some (.inl (((),(if x19.version<s.1.2.1 then x19.version else s.1.2.1),(),s.1.2.2.2.1,(IntKind.wrap .i64 (s.1.2.2.2.2.1+1)),()),s.2))) none) none) (some (.inr ((s.1.2.1,()),(()),(()))))
def xt:=gQ kZ
def DV:=jP Tryz.f182 [0] xq kZ [] [] (by kernel_rfl) fun s=>by simp only[kZ,tm]; kernel_rfl
def nu (a0:eg) (a1:Int):Option (Int×Unit):=
 (fA a0 a1).bind fun y1=>br (!y1.1) (some (0,())) (eh (0<=a1) ((a0.servers[a1.toNat]?).bind fun x2=>(lp x2.config).bind fun y3=>(xt (((),2,(),(y3.1.length:Int),0,()),((a0.now,a0.servers,a0.sides,a0.master.configs,a0.master.activated,a0.masterUp,a0.lease.epoch,a0.lease.holder,a0.lease.ends,a0.places,()),()),y3.1,())).bind fun e20=>some e20.1) none)
def G7:=eV 182 Tryz.f182 [.ty (.st .cluster), .ty (.i .i64)] [.i .i64] (fun x=>nu x.1 x.2.1) [nk,rP] [DV] (by kernel_rfl) fun x=>by simp only[nu,tm]; kernel_rfl
def lr (a0:eg) (a1:Int) (a2:Op):Option (eg×Int×Unit):=
 (eO a0).bind fun y1=>(fq a0 a1).bind fun y2=>br (!y2.1) (some (y1.1,1,())) ((mw a2).bind fun y3=>br (!y3.1) (some (y1.1,1,())) (eh (0<=a1) ((a0.servers[a1.toNat]?).bind fun x4=>br (!x4.up) (some (y1.1,2,())) ((fA a0 a1).bind fun y5=>br (!y5.1) (some (y1.1,3,())) (eh (0<=a1) ((a0.servers[a1.toNat]?).bind fun x6=>(wd x6.log a2.client a2.seq).bind fun y7=>br (decide (y7.1≥0)) (eh (0<=y7.1) ((x6.log[y7.1.toNat]?).bind fun x8=>br (!((x8.op.client==a2.client)&&((x8.op.seq==a2.seq)&&((x8.op.kind==a2.kind)&&((x8.op.object==a2.object)&&((x8.op.old==a2.old)&&((x8.op.value==a2.value)&&true))))))) (some (y1.1,11,())) (some (y1.1,0,()))) none) ((pM x6.log).bind fun y9=>(rj y9.1 a2).bind fun y10=>br (!y10.2.2.1) (some (y1.1,11,())) ((nn a2).bind fun y11=>let j17:Option (eg×Int×Unit):=eh (0<=a1/\a1< (y1.1.servers.length:Int)) ((y1.1.servers[a1.toNat]?).bind fun x13=>(y1.1.servers[a1.toNat]?).bind fun x14=>eh ((0:Nat)=0) (eh (x14.log.length<x13.log.length) none (eh ((x14.log.take x13.log.length++([(⟨x6.epoch,a2⟩:eu)]:List eu)).length*56<=2 ^ 40) (eh (0<=a1/\a1< (y1.1.servers.length:Int)) ((y1.1.servers[a1.toNat]?).bind fun x15=>eh (a1.toNat=a1.toNat) (some ((⟨y1.1.now,(y1.1.servers.set a1.toNat (⟨x15.up,x15.intact,x15.version,x15.epoch,x15.config,x15.first,(x14.log.take x13.log.length++([(⟨x6.epoch,a2⟩:eu)]:List eu)),x15.commit,x15.learned⟩:eo)),y1.1.sides,y1.1.master,y1.1.masterUp,y1.1.lease,y1.1.places⟩:eg),0,())) none) none) none)) none) none; br y11.1 ((nu a0 a1).bind fun y12=>br (decide (y12.1<2)) (some (y1.1,6,())) (br ((x6.log.length:Int)==16) (some (y1.1,5,())) (j17))) (br ((x6.log.length:Int)==16) (some (y1.1,5,())) (j17))))) none))) none))
def BG:=eV 89 Tryz.f89 [.ty (.st .cluster), .ty (.i .i64), .ty (.st .op)] [.st .cluster, .i .i64] (fun x=>lr x.1 x.2.1 x.2.2.1) [jt,nj,yh,nk,Lo,Dl,CM,z6,G7] [] (by kernel_rfl) fun x=>by simp only[lr,tm,-eq_self]; kernel_rfl
def it (a0:eg) (a1:Int) (a2:Int):Option (eg×Bool×Unit):=
 (eO a0).bind fun y1=>(fA a0 a1).bind fun y2=>br (!y2.1) (some (y1.1,false,())) (eh (0<=a1) ((a0.servers[a1.toNat]?).bind fun x3=>(nQ x3.config a2).bind fun y4=>br (y4.1==0) (some (y1.1,false,())) ((zn a0 a1 a2).bind fun y5=>br (!y5.1) (some (y1.1,false,())) (eh (0<=a1) ((a0.servers[a1.toNat]?).bind fun x6=>(hQ x6).bind fun y7=>eh (0<=a1) ((a0.servers[a1.toNat]?).bind fun x8=>(nQ x8.config a2).bind fun y9=>br (y9.1==3) ((tw y7.1.log).bind fun y10=>eh (0<=a2/\a2< (y1.1.servers.length:Int)) (eh (0<=a2/\a2< (y1.1.servers.length:Int)) ((y1.1.servers[a2.toNat]?).bind fun x11=>let z12:=y1.1.servers.set a2.toNat (⟨x11.up,x11.intact,x11.version,x11.epoch,x11.config,y10.1,x11.log,x11.commit,x11.learned⟩:eo); (z12[a2.toNat]?).bind fun x13=>some ((⟨y1.1.now,(z12.set a2.toNat (⟨x13.up,x13.intact,x13.version,x13.epoch,x13.config,x13.first,y10.2.1,x13.commit,x13.learned⟩:eo)),y1.1.sides,y1.1.master,y1.1.masterUp,y1.1.lease,y1.1.places⟩:eg),true,())) none) none) (eh (0<=a2/\a2< (y1.1.servers.length:Int)) ((y1.1.servers[a2.toNat]?).bind fun x15=>some ((⟨y1.1.now,(y1.1.servers.set a2.toNat (⟨x15.up,x15.intact,x15.version,x15.epoch,x15.config,x15.first,y7.1.log,x15.commit,x15.learned⟩:eo)),y1.1.sides,y1.1.master,y1.1.masterUp,y1.1.lease,y1.1.places⟩:eg),true,())) none)) none) none))) none)
def FP:=eV 185 Tryz.f185 [.ty (.st .cluster), .ty (.i .i64), .ty (.i .i64)] [.st .cluster, .b] (fun x=>it x.1 x.2.1 x.2.2.1) [jt,nk,BA,N6,te,HM] [] (by kernel_rfl) fun x=>by simp only[it,tm]; kernel_rfl
abbrev qy:LX:=⟨⟨[(1, .cl (.int .i64)),(2, .cl (.ptr 0 0)),(4, .cl (.ptr 1 0)),(6, .cl (.ptr 2 0)),(7, .cl (.own 0 (.i .i64))),(8, .cl (.bl)),(28, .cl (.own 0 (.i .i64))),(29, .cl (.int .i64)),(30, .cl (.int .i64))],[[.int .i64, .ro (.st .server), .ro (.i .i64), .ro (.st .config), .int .i64, .int .i64, .int .i64, .int .i64, .int .i64, .ro (.st .place)],[.int .i64, .em, .em, .em, .int .i64, .int .i64, .int .i64, .int .i64, .int .i64, .em],[.int .i64, .own 1 (.st .server), .own 2 (.i .i64), .own 3 (.st .config), .int .i64, .int .i64, .int .i64, .int .i64, .int .i64, .own 4 (.st .place)]],[.i .i64, .st .server, .i .i64, .st .config, .st .place],0,68⟩,[(.ext 0,⟨[(1, .cl (.int .i64)),(2, .cl (.ptr 0 0)),(4, .cl (.ptr 1 0)),(6, .cl (.ptr 2 0)),(7, .cl (.own 0 (.i .i64))),(8, .cl (.bl))],[[.int .i64, .ro (.st .server), .ro (.i .i64), .ro (.st .config), .int .i64, .int .i64, .int .i64, .int .i64, .int .i64, .ro (.st .place)],[.int .i64, .em, .em, .em, .int .i64, .int .i64, .int .i64, .int .i64, .int .i64, .em],[.int .i64, .own 1 (.st .server), .own 2 (.i .i64), .own 3 (.st .config), .int .i64, .int .i64, .int .i64, .int .i64, .int .i64, .own 4 (.st .place)]],[.i .i64, .st .server, .i .i64, .st .config, .st .place],0,68⟩)],[],[1,2,4,6,7,8,28,29,30],[1,2,4,6,7,8]⟩
def jH (s: (Int×Unit×Unit×Unit×Unit×Bool×Unit×Int×Int×Unit)×((Int×List eo×List Int×List ej×Int×Int×Int×Int×Int×List eN×Unit)×(Int×Unit×Unit×Unit×Int×Int×Int×Int×Int×Unit×Unit)×(Int×Unit×Unit×Unit×Int×Int×Int×Int×Int×Unit×Unit)×Unit)×List Int×List eo×List Int×List ej×List eN×Unit):qy.R:=
 br (decide (s.1.2.2.2.2.2.2.2.2.1<s.1.2.2.2.2.2.2.2.1)) (eh (0<=s.1.2.2.2.2.2.2.2.2.1/\s.1.2.2.2.2.2.2.2.2.1< (s.2.2.1.length:Int)) ((s.2.2.1[s.1.2.2.2.2.2.2.2.2.1.toNat]?).bind fun x36=>(it (⟨s.2.1.2.2.1.1,s.2.2.2.1,s.2.2.2.2.1,(⟨s.2.2.2.2.2.1,s.2.1.2.2.1.2.2.2.2.1⟩:ev),s.2.1.2.2.1.2.2.2.2.2.1,(⟨s.2.1.2.2.1.2.2.2.2.2.2.1,s.2.1.2.2.1.2.2.2.2.2.2.2.1,s.2.1.2.2.1.2.2.2.2.2.2.2.2.1⟩:fW),s.2.2.2.2.2.2.1⟩:eg) s.1.1 x36).bind fun y37=>let j39 (p38:Bool):qy.R:=some (.inl ((s.1.1,(),(),(),(),p38,(),s.1.2.2.2.2.2.2.2.1,(IntKind.wrap .i64 (s.1.2.2.2.2.2.2.2.2.1+1)),()),(s.2.1.1,s.2.1.2.1,(y37.1.now,(),(),(),y37.1.master.activated,y37.1.masterUp,y37.1.lease.epoch,y37.1.lease.holder,y37.1.lease.ends,(),()),()),s.2.2.1,y37.1.servers,y37.1.sides,y37.1.master.configs,y37.1.places,())); br s.1.2.2.2.2.2.1 (j39 y37.2.1) (j39 false)) none) (some (.inr ((s.1.1,(),(),(),(),s.1.2.2.2.2.2.1,()),s.2)))
def u4:=gQ jH
def BH:=jP Tryz.f91 [0] qy jH [FP] [] (by kernel_rfl) fun s=>by simp only[jH,tm]; kernel_rfl
abbrev uy:LX:=⟨⟨[(1, .cl (.int .i64)),(2, .cl (.ptr 0 0)),(4, .cl (.ptr 1 0)),(6, .cl (.ptr 2 0)),(8, .cl (.bl)),(47, .cl (.own 0 (.i .i64))),(48, .cl (.int .i64)),(49, .cl (.int .i64))],[[.int .i64, .ro (.st .server), .ro (.i .i64), .ro (.st .config), .int .i64, .int .i64, .int .i64, .int .i64, .int .i64, .ro (.st .place)],[.int .i64, .em, .em, .em, .int .i64, .int .i64, .int .i64, .int .i64, .int .i64, .em],[.int .i64, .own 1 (.st .server), .own 2 (.i .i64), .own 3 (.st .config), .int .i64, .int .i64, .int .i64, .int .i64, .int .i64, .own 4 (.st .place)]],[.i .i64, .st .server, .i .i64, .st .config, .st .place],0,68⟩,[(.ext 2,⟨[(4, .cl (.ptr 0 0)),(6, .cl (.ptr 1 0)),(8, .cl (.bl))],[[.int .i64, .em, .em, .em, .int .i64, .int .i64, .int .i64, .int .i64, .int .i64, .em],[.int .i64, .own 0 (.st .server), .own 1 (.i .i64), .own 2 (.st .config), .int .i64, .int .i64, .int .i64, .int .i64, .int .i64, .own 3 (.st .place)]],[.st .server, .i .i64, .st .config, .st .place],0,68⟩)],[],[1,2,4,6,8,47,48,49],[4,6,8]⟩
def jo (s: (Int×Unit×Unit×Unit×Bool×Unit×Int×Int×Unit)×((Int×List eo×List Int×List ej×Int×Int×Int×Int×Int×List eN×Unit)×(Int×Unit×Unit×Unit×Int×Int×Int×Int×Int×Unit×Unit)×(Int×Unit×Unit×Unit×Int×Int×Int×Int×Int×Unit×Unit)×Unit)×List Int×List eo×List Int×List ej×List eN×Unit):uy.R:=
 br (decide (s.1.2.2.2.2.2.2.2.1<s.1.2.2.2.2.2.2.1)) (eh (0<=s.1.2.2.2.2.2.2.2.1/\s.1.2.2.2.2.2.2.2.1< (s.2.2.1.length:Int)) ((s.2.2.1[s.1.2.2.2.2.2.2.2.1.toNat]?).bind fun x72=>eh (0<=s.1.1) ((s.2.1.1.2.1[s.1.1.toNat]?).bind fun x73=>eh (0<=x72/\x72< (s.2.2.2.1.length:Int)) ((s.2.2.2.1[x72.toNat]?).bind fun x74=>some (.inl ((s.1.1,(),(),(),s.1.2.2.2.2.1,(),s.1.2.2.2.2.2.2.1,(IntKind.wrap .i64 (s.1.2.2.2.2.2.2.2.1+1)),()),s.2.1,s.2.2.1,(s.2.2.2.1.set x72.toNat (⟨x74.up,x74.intact,x74.version,x74.epoch,x74.config,x74.first,x74.log,(x73.log.length:Int),x74.learned⟩:eo)),s.2.2.2.2))) none) none) none) (some (.inr (((),(),s.1.2.2.2.2.1,()),s.2.1.2,s.2.2.2)))
def uz:=gQ jo
def AZ:=jP Tryz.f91 [1] uy jo [] [] (by kernel_rfl) fun s=>by simp only[jo,tm]; kernel_rfl
def jN (a0:eg) (a1:Int):Option (eg×Bool×Unit):=
 (eO a0).bind fun y1=>(fA a0 a1).bind fun y2=>br (!y2.1) (some (y1.1,false,())) (eh (0<=a1) ((a0.servers[a1.toNat]?).bind fun x3=>(lp x3.config).bind fun y4=>(u4 ((a1,(),(),(),(),true,(),(y4.1.length:Int),0,()),((a0.now,a0.servers,a0.sides,a0.master.configs,a0.master.activated,a0.masterUp,a0.lease.epoch,a0.lease.holder,a0.lease.ends,a0.places,()),(0,(),(),(),0,0,0,0,0,(),()),(y1.1.now,(),(),(),y1.1.master.activated,y1.1.masterUp,y1.1.lease.epoch,y1.1.lease.holder,y1.1.lease.ends,(),()),()),y4.1,y1.1.servers,y1.1.sides,y1.1.master.configs,y1.1.places,())).bind fun e40=>br e40.1.2.2.2.2.2.1 ((uz ((e40.1.1,(),(),(),e40.1.2.2.2.2.2.1,(),(e40.2.2.1.length:Int),0,()),e40.2)).bind fun e76=>some ((⟨e76.2.1.2.1.1,e76.2.2.1,e76.2.2.2.1,(⟨e76.2.2.2.2.1,e76.2.1.2.1.2.2.2.2.1⟩:ev),e76.2.1.2.1.2.2.2.2.2.1,(⟨e76.2.1.2.1.2.2.2.2.2.2.1,e76.2.1.2.1.2.2.2.2.2.2.2.1,e76.2.1.2.1.2.2.2.2.2.2.2.2.1⟩:fW),e76.2.2.2.2.2.1⟩:eg),e76.1.2.2)) (some ((⟨e40.2.1.2.2.1.1,e40.2.2.2.1,e40.2.2.2.2.1,(⟨e40.2.2.2.2.2.1,e40.2.1.2.2.1.2.2.2.2.1⟩:ev),e40.2.1.2.2.1.2.2.2.2.2.1,(⟨e40.2.1.2.2.1.2.2.2.2.2.2.1,e40.2.1.2.2.1.2.2.2.2.2.2.2.1,e40.2.1.2.2.1.2.2.2.2.2.2.2.2.1⟩:fW),e40.2.2.2.2.2.2.1⟩:eg),e40.1.2.2.2.2.2))) none)
def DW:=eV 91 Tryz.f91 [.ty (.st .cluster), .ty (.i .i64)] [.st .cluster, .b] (fun x=>jN x.1 x.2.1) [jt,nk,rP] [BH,AZ] (by kernel_rfl) fun x=>by simp only[jN,tm]; kernel_rfl
def pq (a0:List eu) (a1:Int):Option (Result×Bool×Unit):=
 (ln a0).bind fun y1=>br (!y1.1) (some ((⟨false,0⟩:Result),false,())) ((eF a1 0 (IntKind.wrap .i64 ((a0.length:Int)-1))).bind fun y2=>br (!y2.1) (some ((⟨false,0⟩:Result),false,())) (eh (0<=(0:Int)/\(0:Int)<=a1/\a1<=(a0.length:Int)) ((pM ((a0.drop (0:Int).toNat).take (a1.toNat-(0:Int).toNat))).bind fun y3=>eh (0<=a1) ((a0[a1.toNat]?).bind fun x4=>(rj y3.1 x4.op).bind fun y5=>some (y5.2.1,y5.2.2.1,())) none) none))
def MZ:=eV 92 Tryz.f92 [.ty (.ls (.st .entry)), .ty (.i .i64)] [.st .result, .b] (fun x=>pq x.1 x.2.1) [wE,gb,Dl,CM] [] (by kernel_rfl) fun x=>by simp only[pq,tm]; kernel_rfl
def uA (a0:eg) (a1:Int) (a2:Op):Option (eg×tM×Unit):=
 (lr a0 a1 a2).bind fun y1=>br (!(y1.2.1==0)) (some (y1.1,(⟨y1.2.1,(⟨false,0⟩:Result),0⟩:tM),())) (eh (0<=a1/\a1< (y1.1.servers.length:Int)) ((y1.1.servers[a1.toNat]?).bind fun x2=>(y1.1.servers[a1.toNat]?).bind fun x3=>eh (0+x2.log.length<=x3.log.length) ((wd ((x3.log.drop 0).take x2.log.length) a2.client a2.seq).bind fun y4=>eh (0<=a1/\a1< (y1.1.servers.length:Int)) ((y1.1.servers[a1.toNat]?).bind fun x5=>br (decide (y4.1≥x5.commit)) ((jN y1.1 a1).bind fun y6=>br (!y6.2.1) (some (y6.1,(⟨4,(⟨false,0⟩:Result),0⟩:tM),())) (eh (0<=a1/\a1< (y6.1.servers.length:Int)) ((y6.1.servers[a1.toNat]?).bind fun x20=>(y6.1.servers[a1.toNat]?).bind fun x21=>eh (0+x20.log.length<=x21.log.length) ((pq ((x21.log.drop 0).take x20.log.length) y4.1).bind fun y22=>some (y6.1,(⟨0,y22.1,y4.1⟩:tM),())) none) none)) (eh (0<=a1/\a1< (y1.1.servers.length:Int)) ((y1.1.servers[a1.toNat]?).bind fun x23=>(y1.1.servers[a1.toNat]?).bind fun x24=>eh (0+x23.log.length<=x24.log.length) ((pq ((x24.log.drop 0).take x23.log.length) y4.1).bind fun y25=>some (y1.1,(⟨0,y25.1,y4.1⟩:tM),())) none) none)) none) none) none)
def M0:=eV 42 Tryz.f42 [.ty (.st .cluster), .ty (.i .i64), .ty (.st .op)] [.st .cluster, .st .reply] (fun x=>uA x.1 x.2.1 x.2.2.1) [BG,Lo,DW,MZ] [] (by kernel_rfl) fun x=>by simp only[uA,tm]; kernel_rfl
def jR (a0:eg) (a1:Int) (a2:Op):Option (Bool×Unit):=
 (rX a0 a1).bind fun y1=>(ke y1.1).bind fun y2=>br (y2.1==(-1)) (some (false,())) ((uA y1.1 y2.1 a2).bind fun y3=>some ((y3.2.1.code==0),()))
def zy:=eV 14 Tryz.f14 [.ty (.st .cluster), .ty (.i .i64), .ty (.st .op)] [.b] (fun x=>jR x.1 x.2.1 x.2.2.1) [Lm,v7,M0] [] (by kernel_rfl) fun x=>by simp only[jR,tm]; kernel_rfl
abbrev FQ:LX:=⟨⟨[(0, .cl (.ro (.i .i64))),(1, .cl (.ro (.i .i64))),(5, .cl (.int .i64))],[],[],0,26⟩,[(.ret,⟨[(4, .cl (.bl))],[],[],0,26⟩),(.ext 0,⟨[(4, .cl (.dead))],[],[],0,26⟩)],[],[0,1,5],[4]⟩
def wK (s: (List Int×List Int×Int×Unit)×Unit×Unit):FQ.R:=
 br (decide (s.1.2.2.1< (s.1.1.length:Int))) (eh (0<=s.1.2.2.1) ((s.1.1[s.1.2.2.1.toNat]?).bind fun x4=>eh (0<=s.1.2.2.1) ((s.1.2.1[s.1.2.2.1.toNat]?).bind fun x5=>br (!(x4==x5)) (some (.inr (.inl ((false,()),(()),(()))))) (some (.inl ((s.1.1,s.1.2.1,(IntKind.wrap .i64 (s.1.2.2.1+1)),()),(()),(()))))) none) none) (some (.inr (.inr (((),()),(()),(())))))
def M1:=gQ wK
def M2:=jP Tryz.f27 [0] FQ wK [] [] (by kernel_rfl) fun s=>by simp only[wK,tm]; kernel_rfl
def uB (a0:List Int) (a1:List Int):Option (Bool×Unit):=
 br (!((a0.length:Int)==(a1.length:Int))) (some (false,())) ((M1 ((a0,a1,0,()),(()),(()))).bind fun e6=>Sum.elim (fun e6_0=>some e6_0.1) (fun _=>some (true,())) e6)
def Lq:=eV 27 Tryz.f27 [.ty (.ls (.i .i64)), .ty (.ls (.i .i64))] [.b] (fun x=>uB x.1 x.2.1) [] [M2] (by kernel_rfl) fun x=>by simp only[uB,tm]; kernel_rfl
def pt (a0:ej) (a1:ej):Option (Bool×Unit):=
 br (!(a0.epoch==a1.epoch)) (some (false,())) (br (!(a0.primary==a1.primary)) (some (false,())) ((uB a0.replicas a1.replicas).bind fun y1=>br (!y1.1) (some (false,())) ((uB a0.witnesses a1.witnesses).bind fun y2=>br (!y2.1) (some (false,())) (some (true,())))))
def FR:=eV 158 Tryz.f158 [.ty (.st .config), .ty (.st .config)] [.b] (fun x=>pt x.1 x.2.1) [Lq] [] (by kernel_rfl) fun x=>by simp only[pt,tm]; kernel_rfl
def FS (a0:Op) (a1:Op):Option (Bool×Unit):=
 br (!(a0.client==a1.client)) (some (false,())) (br (!(a0.seq==a1.seq)) (some (false,())) (br (!(a0.kind==a1.kind)) (some (false,())) (br (!(a0.object==a1.object)) (some (false,())) (br (!(a0.old==a1.old)) (some (false,())) (br (!(a0.value==a1.value)) (some (false,())) (some (true,())))))))
def UO:=eV 247 Tryz.f247 [.ty (.st .op), .ty (.st .op)] [.b] (fun x=>FS x.1 x.2.1) [] [] (by kernel_rfl) fun x=>by simp only[FS,tm]; kernel_rfl
def tz (a0:eu) (a1:eu):Option (Bool×Unit):=
 br (!(a0.epoch==a1.epoch)) (some (false,())) ((FS a0.op a1.op).bind fun y1=>br (!y1.1) (some (false,())) (some (true,())))
def Pd:=eV 223 Tryz.f223 [.ty (.st .entry), .ty (.st .entry)] [.b] (fun x=>tz x.1 x.2.1) [UO] [] (by kernel_rfl) fun x=>by simp only[tz,tm]; kernel_rfl
abbrev BI:LX:=⟨⟨[(0, .cl (.ro (.st .entry))),(1, .cl (.ro (.st .entry))),(5, .cl (.int .i64))],[],[],0,27⟩,[(.ret,⟨[(4, .cl (.bl))],[],[],0,27⟩),(.ext 0,⟨[(4, .cl (.dead))],[],[],0,27⟩)],[],[0,1,5],[4]⟩
def tf (s: (List eu×List eu×Int×Unit)×Unit×Unit):BI.R:=
 br (decide (s.1.2.2.1< (s.1.1.length:Int))) (eh (0<=s.1.2.2.1) ((s.1.1[s.1.2.2.1.toNat]?).bind fun x4=>eh (0<=s.1.2.2.1) ((s.1.2.1[s.1.2.2.1.toNat]?).bind fun x5=>(tz x4 x5).bind fun y6=>br (!y6.1) (some (.inr (.inl ((false,()),(()),(()))))) (some (.inl ((s.1.1,s.1.2.1,(IntKind.wrap .i64 (s.1.2.2.1+1)),()),(()),(()))))) none) none) (some (.inr (.inr (((),()),(()),(())))))
def Jn:=gQ tf
def Jo:=jP Tryz.f159 [0] BI tf [Pd] [] (by kernel_rfl) fun s=>by simp only[tf,tm]; kernel_rfl
def rk (a0:List eu) (a1:List eu):Option (Bool×Unit):=
 br (!((a0.length:Int)==(a1.length:Int))) (some (false,())) ((Jn ((a0,a1,0,()),(()),(()))).bind fun e7=>Sum.elim (fun e7_0=>some e7_0.1) (fun _=>some (true,())) e7)
def M3:=eV 159 Tryz.f159 [.ty (.ls (.st .entry)), .ty (.ls (.st .entry))] [.b] (fun x=>rk x.1 x.2.1) [] [Jo] (by kernel_rfl) fun x=>by simp only[rk,tm]; kernel_rfl
def rn (a0:eo) (a1:eo):Option (Bool×Unit):=
 br (!(a0.up==a1.up)) (some (false,())) (br (!(a0.intact==a1.intact)) (some (false,())) (br (!(a0.version==a1.version)) (some (false,())) (br (!(a0.epoch==a1.epoch)) (some (false,())) ((pt a0.config a1.config).bind fun y1=>br (!y1.1) (some (false,())) (br (!(a0.first==a1.first)) (some (false,())) ((rk a0.log a1.log).bind fun y2=>br (!y2.1) (some (false,())) (br (!(a0.commit==a1.commit)) (some (false,())) ((rk a0.learned a1.learned).bind fun y3=>br (!y3.1) (some (false,())) (some (true,()))))))))))
def M4:=eV 68 Tryz.f68 [.ty (.st .server), .ty (.st .server)] [.b] (fun x=>rn x.1 x.2.1) [FR,M3] [] (by kernel_rfl) fun x=>by simp only[rn,tm]; kernel_rfl
abbrev Ad:LX:=⟨⟨[(0, .cl (.ro (.st .server))),(1, .cl (.ro (.st .server))),(5, .cl (.int .i64))],[],[],0,27⟩,[(.ret,⟨[(4, .cl (.bl))],[],[],0,27⟩),(.ext 0,⟨[(4, .cl (.dead))],[],[],0,27⟩)],[],[0,1,5],[4]⟩
def rB (s: (List eo×List eo×Int×Unit)×Unit×Unit):Ad.R:=
 br (decide (s.1.2.2.1< (s.1.1.length:Int))) (eh (0<=s.1.2.2.1) ((s.1.1[s.1.2.2.1.toNat]?).bind fun x4=>eh (0<=s.1.2.2.1) ((s.1.2.1[s.1.2.2.1.toNat]?).bind fun x5=>(rn x4 x5).bind fun y6=>br (!y6.1) (some (.inr (.inl ((false,()),(()),(()))))) (some (.inl ((s.1.1,s.1.2.1,(IntKind.wrap .i64 (s.1.2.2.1+1)),()),(()),(()))))) none) none) (some (.inr (.inr (((),()),(()),(())))))
def G8:=gQ rB
def G9:=jP Tryz.f26 [0] Ad rB [M4] [] (by kernel_rfl) fun s=>by simp only[rB,tm]; kernel_rfl
def sd (a0:List eo) (a1:List eo):Option (Bool×Unit):=
 br (!((a0.length:Int)==(a1.length:Int))) (some (false,())) ((G8 ((a0,a1,0,()),(()),(()))).bind fun e7=>Sum.elim (fun e7_0=>some e7_0.1) (fun _=>some (true,())) e7)
def Lr:=eV 26 Tryz.f26 [.ty (.ls (.st .server)), .ty (.ls (.st .server))] [.b] (fun x=>sd x.1 x.2.1) [] [G9] (by kernel_rfl) fun x=>by simp only[sd,tm]; kernel_rfl
abbrev Ae:LX:=⟨⟨[(0, .cl (.ro (.st .config))),(1, .cl (.ro (.st .config))),(5, .cl (.int .i64))],[],[],0,27⟩,[(.ret,⟨[(4, .cl (.bl))],[],[],0,27⟩),(.ext 0,⟨[(4, .cl (.dead))],[],[],0,27⟩)],[],[0,1,5],[4]⟩
def rC (s: (List ej×List ej×Int×Unit)×Unit×Unit):Ae.R:=
 br (decide (s.1.2.2.1< (s.1.1.length:Int))) (eh (0<=s.1.2.2.1) ((s.1.1[s.1.2.2.1.toNat]?).bind fun x4=>eh (0<=s.1.2.2.1) ((s.1.2.1[s.1.2.2.1.toNat]?).bind fun x5=>(pt x4 x5).bind fun y6=>br (!y6.1) (some (.inr (.inl ((false,()),(()),(()))))) (some (.inl ((s.1.1,s.1.2.1,(IntKind.wrap .i64 (s.1.2.2.1+1)),()),(()),(()))))) none) none) (some (.inr (.inr (((),()),(()),(())))))
def Ha:=gQ rC
def Hb:=jP Tryz.f69 [0] Ae rC [FR] [] (by kernel_rfl) fun s=>by simp only[rC,tm]; kernel_rfl
def sf (a0:List ej) (a1:List ej):Option (Bool×Unit):=
 br (!((a0.length:Int)==(a1.length:Int))) (some (false,())) ((Ha ((a0,a1,0,()),(()),(()))).bind fun e7=>Sum.elim (fun e7_0=>some e7_0.1) (fun _=>some (true,())) e7)
def Ls:=eV 69 Tryz.f69 [.ty (.ls (.st .config)), .ty (.ls (.st .config))] [.b] (fun x=>sf x.1 x.2.1) [] [Hb] (by kernel_rfl) fun x=>by simp only[sf,tm]; kernel_rfl
def o5 (a0:ev) (a1:ev):Option (Bool×Unit):=
 (sf a0.configs a1.configs).bind fun y1=>br (!y1.1) (some (false,())) (br (!(a0.activated==a1.activated)) (some (false,())) (some (true,())))
def Hc:=eV 28 Tryz.f28 [.ty (.st .masterLog), .ty (.st .masterLog)] [.b] (fun x=>o5 x.1 x.2.1) [Ls] [] (by kernel_rfl) fun x=>by simp only[o5,tm]; kernel_rfl
def wg (a0:fW) (a1:fW):Option (Bool×Unit):=
 br (!(a0.epoch==a1.epoch)) (some (false,())) (br (!(a0.holder==a1.holder)) (some (false,())) (br (!(a0.ends==a1.ends)) (some (false,())) (some (true,()))))
def Pe:=eV 29 Tryz.f29 [.ty (.st .lease), .ty (.st .lease)] [.b] (fun x=>wg x.1 x.2.1) [] [] (by kernel_rfl) fun x=>by simp only[wg,tm]; kernel_rfl
def tA (a0:eN) (a1:eN):Option (Bool×Unit):=
 br (!(a0.rack==a1.rack)) (some (false,())) (br (!(a0.capacity==a1.capacity)) (some (false,())) (br (!(a0.load==a1.load)) (some (false,())) (some (true,()))))
def Pf:=eV 70 Tryz.f70 [.ty (.st .place), .ty (.st .place)] [.b] (fun x=>tA x.1 x.2.1) [] [] (by kernel_rfl) fun x=>by simp only[tA,tm]; kernel_rfl
abbrev BJ:LX:=⟨⟨[(0, .cl (.ro (.st .place))),(1, .cl (.ro (.st .place))),(5, .cl (.int .i64))],[],[],0,27⟩,[(.ret,⟨[(4, .cl (.bl))],[],[],0,27⟩),(.ext 0,⟨[(4, .cl (.dead))],[],[],0,27⟩)],[],[0,1,5],[4]⟩
def tg (s: (List eN×List eN×Int×Unit)×Unit×Unit):BJ.R:=
 br (decide (s.1.2.2.1< (s.1.1.length:Int))) (eh (0<=s.1.2.2.1) ((s.1.1[s.1.2.2.1.toNat]?).bind fun x4=>eh (0<=s.1.2.2.1) ((s.1.2.1[s.1.2.2.1.toNat]?).bind fun x5=>(tA x4 x5).bind fun y6=>br (!y6.1) (some (.inr (.inl ((false,()),(()),(()))))) (some (.inl ((s.1.1,s.1.2.1,(IntKind.wrap .i64 (s.1.2.2.1+1)),()),(()),(()))))) none) none) (some (.inr (.inr (((),()),(()),(())))))
def Jp:=gQ tg
def Jq:=jP Tryz.f30 [0] BJ tg [Pf] [] (by kernel_rfl) fun s=>by simp only[tg,tm]; kernel_rfl
def uC (a0:List eN) (a1:List eN):Option (Bool×Unit):=
 br (!((a0.length:Int)==(a1.length:Int))) (some (false,())) ((Jp ((a0,a1,0,()),(()),(()))).bind fun e7=>Sum.elim (fun e7_0=>some e7_0.1) (fun _=>some (true,())) e7)
def M5:=eV 30 Tryz.f30 [.ty (.ls (.st .place)), .ty (.ls (.st .place))] [.b] (fun x=>uC x.1 x.2.1) [] [Jq] (by kernel_rfl) fun x=>by simp only[uC,tm]; kernel_rfl
def sg (a0:eg) (a1:eg):Option (Bool×Unit):=
 br (!(a0.now==a1.now)) (some (false,())) ((sd a0.servers a1.servers).bind fun y1=>br (!y1.1) (some (false,())) ((uB a0.sides a1.sides).bind fun y2=>br (!y2.1) (some (false,())) ((o5 a0.master a1.master).bind fun y3=>br (!y3.1) (some (false,())) (br (!(a0.masterUp==a1.masterUp)) (some (false,())) ((wg a0.lease a1.lease).bind fun y4=>br (!y4.1) (some (false,())) ((uC a0.places a1.places).bind fun y5=>br (!y5.1) (some (false,())) (some (true,()))))))))
def Lt:=eV 9 Tryz.f9 [.ty (.st .cluster), .ty (.st .cluster)] [.b] (fun x=>sg x.1 x.2.1) [Lr,Lq,Hc,Pe,M5] [] (by kernel_rfl) fun x=>by simp only[sg,tm]; kernel_rfl
def iR (a0:eg) (a1:Int) (a2:Op):Option (Bool×Unit):=
 (mt a0 1048576).bind fun y1=>br (decide (y1.1<0)) (some (true,())) ((nM a0).bind fun y2=>(Cq a2).bind fun y3=>(jQ y2.1 a1 y3.1).bind fun y4=>(nM a0).bind fun y5=>(Cq a2).bind fun y6=>(jR y5.1 a1 y6.1).bind fun y7=>br (!(y7.1==y4.1)) (some (false,())) ((nM a0).bind fun y8=>(sg y5.1 y8.1).bind fun y9=>br (!y9.1) (some (false,())) (some (true,()))))
def uD:=eV 4 Tryz.f4 [.ty (.st .cluster), .ty (.i .i64), .ty (.st .op)] [.b] (fun x=>iR x.1 x.2.1 x.2.2.1) [K2,K6,Q9,zq,zy,Lt] [] (by kernel_rfl) fun x=>by simp only[iR,tm]; kernel_rfl
end
end Go.Proofs.YtjnleglhcppgcaaGreat.En
