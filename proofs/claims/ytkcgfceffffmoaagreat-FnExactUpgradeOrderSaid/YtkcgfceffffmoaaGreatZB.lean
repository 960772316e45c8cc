/- Printed by a program: the walk. -/
import Derived.Test.YtkcgfceffffmoaaGreatZTh
namespace Go.Proofs.YtkcgfceffffmoaaGreat.En
open Go
noncomputable section
def VT:ByteArray:=⟨⟨[0,1,2,2,3,3,3,3,4,4,4,4,4,4,4,4,5,5,5,5,5,5,5,5,5,5,5,5,5,5,5,5,6,6,6,6,6,6,6,6,6,6,6,6,6,6,6,6,6,6,6,6,6,6,6,6,6,6,6,6,6,6,6,6,7,7,7,7,7,7,7,7,7,7,7,7,7,7,7,7,7,7,7,7,7,7,7,7,7,7,7,7,7,7,7,7,7,7,7,7,7,7,7,7,7,7,7,7,7,7,7,7,7,7,7,7,7,7,7,7,7,7,7,7,7,7,7,7,8,8,8,8,8,8,8,8,8,8,8,8,8,8,8,8,8,8,8,8,8,8,8,8,8,8,8,8,8,8,8,8,8,8,8,8,8,8,8,8,8,8,8,8,8,8,8,8,8,8,8,8,8,8,8,8,8,8,8,8,8,8,8,8,8,8,8,8,8,8,8,8,8,8,8,8,8,8,8,8,8,8,8,8,8,8,8,8,8,8,8,8,8,8,8,8,8,8,8,8,8,8,8,8,8,8,8,8,8,8,8,8,8,8,8,8,8,8,8,8,8,8,8,8,8,8,8,8]⟩⟩
theorem af:Tryz.prog.follows .mixedOrders=true:=by kernel_rfl
abbrev Rd:List (Nat×bF):= []
theorem Lq:ax Tryz.prog (aR Rd):=aj _
def w7 {ρ:Type} (a0:List Int) (a1:Int) (k:Int×Unit→Option ρ):Option ρ:=
 br (decide ((IntKind.wrap .i64 (a1 - (a0.length:Int))) < 0)) (k ((-1),())) (k ((IntKind.wrap .i64 (a1 - (a0.length:Int))),()))
def o0 (a0:List Int) (a1:Int):Option (Int×Unit):=w7 a0 a1 some
theorem Ng {ρ:Type} (a0:List Int) (a1:Int) (k:Int×Unit→Option ρ):w7 a0 a1 k=(o0 a0 a1).bind k:=by
 simp only [o0,w7,ak,Option.bind_some]
abbrev Fr:bF:=bV [.ty (.ls (.i .i64)), .ty (.i .i64)] [.i .i64] fun x=>o0 x.1 x.2.1
theorem Lr:aH Tryz.prog 43 Fr:=
 al (Λ:=aU []) (fn:=Tryz.f43) aV Lq af (by kernel_rfl) (aM (by kernel_rfl:_= []) ah) (by kernel_rfl) (fun x=>o0 x.1 x.2.1)
  (fun x=>Eq.trans (by kernel_rfl:_=w7 x.1 x.2.1 (fun y=>ret (aI [.i .i64] y) fun v g=>some (v,g))) (Ng x.1 x.2.1 _)) fun _ _ h=>h
abbrev Nh:List (Nat×bF):= [(43,Fr)]
theorem G2:ax Tryz.prog (aR Nh):=ae Lr <| aj _
def oH {ρ:Type} (a0:ai) (a1:Int) (k:Int×Unit→Option ρ):Option ρ:=
 (o0 a0.replicas a1).bind fun y1=>br (decide (y1.1 < 0)) (k ((-1),())) ((o0 a0.witnesses y1.1).bind fun y2=>br (decide (y2.1 < 0)) (k ((-1),())) (k (y2.1,())))
def gJ (a0:ai) (a1:Int):Option (Int×Unit):=oH a0 a1 some
theorem Jl {ρ:Type} (a0:ai) (a1:Int) (k:Int×Unit→Option ρ):oH a0 a1 k=(gJ a0 a1).bind k:=by
 simp only [gJ,oH,ak,Option.bind_assoc,Option.bind_some]
abbrev yG:bF:=bV [.ty (.st .config), .ty (.i .i64)] [.i .i64] fun x=>gJ x.1 x.2.1
theorem Fs:aH Tryz.prog 206 yG:=
 al (Λ:=aU []) (fn:=Tryz.f206) aV G2 af (by kernel_rfl) (aM (by kernel_rfl:_= []) ah) (by kernel_rfl) (fun x=>gJ x.1 x.2.1)
  (fun x=>Eq.trans (by kernel_rfl:_=oH x.1 x.2.1 (fun y=>ret (aI [.i .i64] y) fun v g=>some (v,g))) (Jl x.1 x.2.1 _)) fun _ _ h=>h
abbrev Ni:List (Nat×bF):= []
theorem G3:ax Tryz.prog (aR Ni):=aj _
def sg {ρ:Type} (a0:List bh) (a1:Int) (k:Int×Unit→Option ρ):Option ρ:=
 br (decide ((IntKind.wrap .i64 (a1 - (a0.length:Int))) < 0)) (k ((-1),())) (k ((IntKind.wrap .i64 (a1 - (a0.length:Int))),()))
def l6 (a0:List bh) (a1:Int):Option (Int×Unit):=sg a0 a1 some
theorem Jm {ρ:Type} (a0:List bh) (a1:Int) (k:Int×Unit→Option ρ):sg a0 a1 k=(l6 a0 a1).bind k:=by
 simp only [l6,sg,ak,Option.bind_some]
abbrev Ft:bF:=bV [.ty (.ls (.st .entry)), .ty (.i .i64)] [.i .i64] fun x=>l6 x.1 x.2.1
theorem Nj:aH Tryz.prog 207 Ft:=
 al (Λ:=aU []) (fn:=Tryz.f207) aV G3 af (by kernel_rfl) (aM (by kernel_rfl:_= []) ah) (by kernel_rfl) (fun x=>l6 x.1 x.2.1)
  (fun x=>Eq.trans (by kernel_rfl:_=sg x.1 x.2.1 (fun y=>ret (aI [.i .i64] y) fun v g=>some (v,g))) (Jm x.1 x.2.1 _)) fun _ _ h=>h
abbrev Nk:List (Nat×bF):= [(206,yG),(207,Ft)]
theorem G4:ax Tryz.prog (aR Nk):=ae Fs <| ae Nj <| aj _
def oI {ρ:Type} (a0:aB) (a1:Int) (k:Int×Unit→Option ρ):Option ρ:=
 (gJ a0.config a1).bind fun y1=>br (decide (y1.1 < 0)) (k ((-1),())) ((l6 a0.log y1.1).bind fun y2=>br (decide (y2.1 < 0)) (k ((-1),())) ((l6 a0.learned y2.1).bind fun y3=>br (decide (y3.1 < 0)) (k ((-1),())) (k (y3.1,()))))
def iL (a0:aB) (a1:Int):Option (Int×Unit):=oI a0 a1 some
theorem Jn {ρ:Type} (a0:aB) (a1:Int) (k:Int×Unit→Option ρ):oI a0 a1 k=(iL a0 a1).bind k:=by
 simp only [iL,oI,ak,Option.bind_assoc,Option.bind_some]
abbrev Fu:bF:=bV [.ty (.st .server), .ty (.i .i64)] [.i .i64] fun x=>iL x.1 x.2.1
theorem Nl:aH Tryz.prog 118 Fu:=
 al (Λ:=aU []) (fn:=Tryz.f118) aV G4 af (by kernel_rfl) (aM (by kernel_rfl:_= []) ah) (by kernel_rfl) (fun x=>iL x.1 x.2.1)
  (fun x=>Eq.trans (by kernel_rfl:_=oI x.1 x.2.1 (fun y=>ret (aI [.i .i64] y) fun v g=>some (v,g))) (Jn x.1 x.2.1 _)) fun _ _ h=>h
abbrev CN:List (Nat×bF):= [(118,Fu)]
theorem vN:ax Tryz.prog (aR CN):=ae Nl <| aj _
noncomputable abbrev nD:Code:=cm (cg Tryz.f42) 0
abbrev ep:eG:=⟨[(0, .cl (.ro (.st .server))),(1, .cl (.int .i64)),(5, .cl (.int .i64))],[],[],0,27⟩
abbrev jH:List (X×eG):= [(.ret,⟨[(1, .cl (.int .i64)),(4, .cl (.int .i64))],[],[],0,27⟩),(.ext 0,⟨[(1, .cl (.int .i64)),(4, .cl (.dead))],[],[],0,27⟩)]
def o1 {ρ:Type} (v1:List aB) (v2:Int) (v3:Int) (fn: (((List aB)×Int×Int×Unit)×(Unit)×(Unit))→Option ρ) (fe: ((Int×Int×Unit)×(Unit)×(Unit))⊕((Int×Unit×Unit)×(Unit)×(Unit))→Option ρ):Option ρ:=
 br (decide (v3 < (v1.length:Int))) (an (0≤v3) ((v1[v3.toNat]?).bind fun x4=>(iL x4 v2).bind fun y5=>br (decide (y5.1 < 0)) (fe (.inl ((y5.1,(-1),()),(()),(())))) (fn ((v1,y5.1,(IntKind.wrap .i64 (v3+1)),()),(()),(())))) none) (fe (.inr ((v2,(),()),(()),(()))))
def gf (s:ep.D):Option (ep.D⊕bu.D jH):=o1 s.1.1 s.1.2.1 s.1.2.2.1 (fun s=>some (.inl s)) (fun e=>some (.inr e))
def sW:ep.D→Option (bu.D jH):=jm gf
theorem Dn {ρ:Type} (s:ep.D) (fn:ep.D→Option ρ) (fe:bu.D jH→Option ρ):o1 s.1.1 s.1.2.1 s.1.2.2.1 fn fe=(gf s).bind (Sum.elim fn fe):=by
 simp only [gf,o1,ak,am,Option.bind_none,Option.bind_assoc,Option.bind_some,Sum.elim_inl,Sum.elim_inr]
abbrev xI:dp:=dy [] [0,1,5] ep jH sW
theorem BB (s:ep.D):eL Θ (aR CN) (aU []) nD (ep.mk' s) (dn [0,1,5] [1,4] fun x S=>some (x,S))=(gf s).bind (Sum.elim (fun s'=>some (.nor,ep.mk' s')) fun e=>some (bu.e jH e)):=
 Eq.trans (by kernel_rfl:_=o1 s.1.1 s.1.2.1 s.1.2.2.1 (fun s'=>some (.nor,ep.mk' s')) (fun e=>some (bu.e jH e))) (Dn s _ _)
theorem BC:cf Tryz.prog nD xI:=bc aV vN af (by kernel_rfl) (dM (by kernel_rfl:_= []) ah) [] [0,1,5] [1,4] ep jH (by kernel_rfl) gf BB sW (gH gf) (aP gf)
def qQ {ρ:Type} (a0:List aB) (a1:Int) (k:Int×Unit→Option ρ):Option ρ:=
 br (decide ((IntKind.wrap .i64 (a1 - (a0.length:Int))) < 0)) (k ((-1),())) ((sW ((a0,(IntKind.wrap .i64 (a1 - (a0.length:Int))),0,()),(()),(()))).bind fun e6=>Sum.elim (fun e6_=>k (e6_.1.2.1,())) (fun e6_=>k (e6_.1.1,())) e6)
def l7 (a0:List aB) (a1:Int):Option (Int×Unit):=qQ a0 a1 some
theorem G5 {ρ:Type} (a0:List aB) (a1:Int) (k:Int×Unit→Option ρ):qQ a0 a1 k=(l7 a0 a1).bind k:=by
 simp only [l7,qQ,ak,co,Option.bind_assoc,Option.bind_some]
abbrev CO:bF:=bV [.ty (.ls (.st .server)), .ty (.i .i64)] [.i .i64] fun x=>l7 x.1 x.2.1
theorem Ls:aH Tryz.prog 42 CO:=
 al (Λ:=aU [(b7 nD,xI)]) (fn:=Tryz.f42) aV vN af (by kernel_rfl) (aM (by kernel_rfl:_= [nD]) (aO (q:=b7 nD) rfl BC fun _ _ _=>by kernel_rfl)) (by kernel_rfl) (fun x=>l7 x.1 x.2.1)
  (fun x=>Eq.trans (by kernel_rfl:_=qQ x.1 x.2.1 (fun y=>ret (aI [.i .i64] y) fun v g=>some (v,g))) (G5 x.1 x.2.1 _)) fun _ _ h=>h
abbrev CP:List (Nat×bF):= [(206,yG)]
theorem vO:ax Tryz.prog (aR CP):=ae Fs <| aj _
noncomputable abbrev nE:Code:=cm (cg Tryz.f119) 0
abbrev eu:eG:=⟨[(0, .cl (.ro (.st .config))),(1, .cl (.int .i64)),(5, .cl (.int .i64))],[],[],0,27⟩
abbrev jI:List (X×eG):= [(.ret,⟨[(1, .cl (.int .i64)),(4, .cl (.int .i64))],[],[],0,27⟩),(.ext 0,⟨[(1, .cl (.int .i64)),(4, .cl (.dead))],[],[],0,27⟩)]
def o2 {ρ:Type} (v1:List ai) (v2:Int) (v3:Int) (fn: (((List ai)×Int×Int×Unit)×(Unit)×(Unit))→Option ρ) (fe: ((Int×Int×Unit)×(Unit)×(Unit))⊕((Int×Unit×Unit)×(Unit)×(Unit))→Option ρ):Option ρ:=
 br (decide (v3 < (v1.length:Int))) (an (0≤v3) ((v1[v3.toNat]?).bind fun x4=>(gJ x4 v2).bind fun y5=>br (decide (y5.1 < 0)) (fe (.inl ((y5.1,(-1),()),(()),(())))) (fn ((v1,y5.1,(IntKind.wrap .i64 (v3+1)),()),(()),(())))) none) (fe (.inr ((v2,(),()),(()),(()))))
def gg (s:eu.D):Option (eu.D⊕bu.D jI):=o2 s.1.1 s.1.2.1 s.1.2.2.1 (fun s=>some (.inl s)) (fun e=>some (.inr e))
def sX:eu.D→Option (bu.D jI):=jm gg
theorem Dp {ρ:Type} (s:eu.D) (fn:eu.D→Option ρ) (fe:bu.D jI→Option ρ):o2 s.1.1 s.1.2.1 s.1.2.2.1 fn fe=(gg s).bind (Sum.elim fn fe):=by
 simp only [gg,o2,ak,am,Option.bind_none,Option.bind_assoc,Option.bind_some,Sum.elim_inl,Sum.elim_inr]
abbrev xJ:dp:=dy [] [0,1,5] eu jI sX
theorem BD (s:eu.D):eL Θ (aR CP) (aU []) nE (eu.mk' s) (dn [0,1,5] [1,4] fun x S=>some (x,S))=(gg s).bind (Sum.elim (fun s'=>some (.nor,eu.mk' s')) fun e=>some (bu.e jI e)):=
 Eq.trans (by kernel_rfl:_=o2 s.1.1 s.1.2.1 s.1.2.2.1 (fun s'=>some (.nor,eu.mk' s')) (fun e=>some (bu.e jI e))) (Dp s _ _)
theorem BE:cf Tryz.prog nE xJ:=bc aV vO af (by kernel_rfl) (dM (by kernel_rfl:_= []) ah) [] [0,1,5] [1,4] eu jI (by kernel_rfl) gg BD sX (gH gg) (aP gg)
def qR {ρ:Type} (a0:List ai) (a1:Int) (k:Int×Unit→Option ρ):Option ρ:=
 br (decide ((IntKind.wrap .i64 (a1 - (a0.length:Int))) < 0)) (k ((-1),())) ((sX ((a0,(IntKind.wrap .i64 (a1 - (a0.length:Int))),0,()),(()),(()))).bind fun e6=>Sum.elim (fun e6_=>k (e6_.1.2.1,())) (fun e6_=>k (e6_.1.1,())) e6)
def l8 (a0:List ai) (a1:Int):Option (Int×Unit):=qR a0 a1 some
theorem G6 {ρ:Type} (a0:List ai) (a1:Int) (k:Int×Unit→Option ρ):qR a0 a1 k=(l8 a0 a1).bind k:=by
 simp only [l8,qR,ak,co,Option.bind_assoc,Option.bind_some]
abbrev CQ:bF:=bV [.ty (.ls (.st .config)), .ty (.i .i64)] [.i .i64] fun x=>l8 x.1 x.2.1
theorem Lt:aH Tryz.prog 119 CQ:=
 al (Λ:=aU [(b7 nE,xJ)]) (fn:=Tryz.f119) aV vO af (by kernel_rfl) (aM (by kernel_rfl:_= [nE]) (aO (q:=b7 nE) rfl BE fun _ _ _=>by kernel_rfl)) (by kernel_rfl) (fun x=>l8 x.1 x.2.1)
  (fun x=>Eq.trans (by kernel_rfl:_=qR x.1 x.2.1 (fun y=>ret (aI [.i .i64] y) fun v g=>some (v,g))) (G6 x.1 x.2.1 _)) fun _ _ h=>h
abbrev G7:List (Nat×bF):= [(119,CQ)]
theorem BF:ax Tryz.prog (aR G7):=ae Lt <| aj _
def j8 {ρ:Type} (a0:ay) (a1:Int) (k:Int×Unit→Option ρ):Option ρ:=
 (l8 a0.configs a1).bind fun y1=>br (decide (y1.1 < 0)) (k ((-1),())) (k (y1.1,()))
def gi (a0:ay) (a1:Int):Option (Int×Unit):=j8 a0 a1 some
theorem Dq {ρ:Type} (a0:ay) (a1:Int) (k:Int×Unit→Option ρ):j8 a0 a1 k=(gi a0 a1).bind k:=by
 simp only [gi,j8,ak,Option.bind_assoc,Option.bind_some]
abbrev xK:bF:=bV [.ty (.st .masterLog), .ty (.i .i64)] [.i .i64] fun x=>gi x.1 x.2.1
theorem G8:aH Tryz.prog 44 xK:=
 al (Λ:=aU []) (fn:=Tryz.f44) aV BF af (by kernel_rfl) (aM (by kernel_rfl:_= []) ah) (by kernel_rfl) (fun x=>gi x.1 x.2.1)
  (fun x=>Eq.trans (by kernel_rfl:_=j8 x.1 x.2.1 (fun y=>ret (aI [.i .i64] y) fun v g=>some (v,g))) (Dq x.1 x.2.1 _)) fun _ _ h=>h
abbrev Nm:List (Nat×bF):= []
theorem G9:ax Tryz.prog (aR Nm):=aj _
def sj {ρ:Type} (a0:List bz) (a1:Int) (k:Int×Unit→Option ρ):Option ρ:=
 br (decide ((IntKind.wrap .i64 (a1 - (a0.length:Int))) < 0)) (k ((-1),())) (k ((IntKind.wrap .i64 (a1 - (a0.length:Int))),()))
def oh (a0:List bz) (a1:Int):Option (Int×Unit):=sj a0 a1 some
theorem Jo {ρ:Type} (a0:List bz) (a1:Int) (k:Int×Unit→Option ρ):sj a0 a1 k=(oh a0 a1).bind k:=by
 simp only [oh,sj,ak,Option.bind_some]
abbrev Fv:bF:=bV [.ty (.ls (.st .place)), .ty (.i .i64)] [.i .i64] fun x=>oh x.1 x.2.1
theorem Nn:aH Tryz.prog 45 Fv:=
 al (Λ:=aU []) (fn:=Tryz.f45) aV G9 af (by kernel_rfl) (aM (by kernel_rfl:_= []) ah) (by kernel_rfl) (fun x=>oh x.1 x.2.1)
  (fun x=>Eq.trans (by kernel_rfl:_=sj x.1 x.2.1 (fun y=>ret (aI [.i .i64] y) fun v g=>some (v,g))) (Jo x.1 x.2.1 _)) fun _ _ h=>h
abbrev Lu:List (Nat×bF):= [(42,CO),(43,Fr),(44,xK),(45,Fv)]
theorem Fw:ax Tryz.prog (aR Lu):=ae Ls <| ae Lr <| ae G8 <| ae Nn <| aj _
def mY {ρ:Type} (a0:aG) (a1:Int) (k:Int×Unit→Option ρ):Option ρ:=
 (l7 a0.servers a1).bind fun y1=>br (decide (y1.1 < 0)) (k ((-1),())) ((o0 a0.sides y1.1).bind fun y2=>br (decide (y2.1 < 0)) (k ((-1),())) ((gi a0.master y2.1).bind fun y3=>br (decide (y3.1 < 0)) (k ((-1),())) ((oh a0.places y3.1).bind fun y4=>br (decide (y4.1 < 0)) (k ((-1),())) (k (y4.1,())))))
def ic (a0:aG) (a1:Int):Option (Int×Unit):=mY a0 a1 some
theorem Ha {ρ:Type} (a0:aG) (a1:Int) (k:Int×Unit→Option ρ):mY a0 a1 k=(ic a0 a1).bind k:=by
 simp only [ic,mY,ak,Option.bind_assoc,Option.bind_some]
abbrev CS:bF:=bV [.ty (.st .cluster), .ty (.i .i64)] [.i .i64] fun x=>ic x.1 x.2.1
theorem Lw:aH Tryz.prog 12 CS:=
 al (Λ:=aU []) (fn:=Tryz.f12) aV Fw af (by kernel_rfl) (aM (by kernel_rfl:_= []) ah) (by kernel_rfl) (fun x=>ic x.1 x.2.1)
  (fun x=>Eq.trans (by kernel_rfl:_=mY x.1 x.2.1 (fun y=>ret (aI [.i .i64] y) fun v g=>some (v,g))) (Ha x.1 x.2.1 _)) fun _ _ h=>h
abbrev Lx:List (Nat×bF):= []
theorem CT:ax Tryz.prog (aR Lx):=aj _
noncomputable abbrev rt:Code:=cm (cg Tryz.f53) 0
abbrev iM:eG:=⟨[(0, .cl (.ro (.i .i64))),(3, .cl (.own 0 (.i .i64))),(4, .cl (.int .i64))],[],[.i .i64],0,22⟩
abbrev ol:List (X×eG):= [(.ext 0,⟨[(3, .cl (.own 0 (.i .i64)))],[],[.i .i64],0,22⟩)]
def sk {ρ:Type} (v1:List Int) (v2:List Int) (v3:Int) (fn: (((List Int)×Unit×Int×Unit)×(Unit)×((List Int)×Unit))→Option ρ) (fe: ((Unit×Unit)×(Unit)×((List Int)×Unit))→Option ρ):Option ρ:=
 br (decide (v3 < (v2.length:Int))) (an (0≤v3) ((v2[v3.toNat]?).bind fun x4=>an (0≤v3∧v3 < (v1.length:Int)) ((v1[v3.toNat]?).bind fun _=>fn ((v2,(),(IntKind.wrap .i64 (v3+1)),()),(()),((v1.set v3.toNat x4),()))) none) none) (fe (((),()),(()),(v1,())))
def l9 (s:iM.D):Option (iM.D⊕bu.D ol):=sk s.2.2.1 s.1.1 s.1.2.2.1 (fun s=>some (.inl s)) (fun e=>some (.inr e))
def yH:iM.D→Option (bu.D ol):=jm l9
theorem Jp {ρ:Type} (s:iM.D) (fn:iM.D→Option ρ) (fe:bu.D ol→Option ρ):sk s.2.2.1 s.1.1 s.1.2.2.1 fn fe=(l9 s).bind (Sum.elim fn fe):=by
 simp only [l9,sk,ak,am,Option.bind_none,Option.bind_assoc,Option.bind_some,Sum.elim_inl,Sum.elim_inr]
abbrev Fx:dp:=dy [] [0,3,4] iM ol yH
theorem Hb (s:iM.D):eL Θ (aR Lx) (aU []) rt (iM.mk' s) (dn [0,3,4] [3] fun x S=>some (x,S))=(l9 s).bind (Sum.elim (fun s'=>some (.nor,iM.mk' s')) fun e=>some (bu.e ol e)):=
 Eq.trans (by kernel_rfl:_=sk s.2.2.1 s.1.1 s.1.2.2.1 (fun s'=>some (.nor,iM.mk' s')) (fun e=>some (bu.e ol e))) (Jp s _ _)
theorem Hc:cf Tryz.prog rt Fx:=bc aV CT af (by kernel_rfl) (dM (by kernel_rfl:_= []) ah) [] [0,3,4] [3] iM ol (by kernel_rfl) l9 Hb yH (gH l9) (aP l9)
def w8 {ρ:Type} (a0:List Int) (k: (List Int)×Unit→Option ρ):Option ρ:=
 an (0≤(a0.length:Int)∧(a0.length:Int)=(a0.length:Int)∧(a0.length:Int)*((8:Nat):Int)≤2 ^ 40) ((yH ((a0,(),0,()),(()),((List.replicate (a0.length:Int).toNat (0:Int)),()))).bind fun e7=>k (e7.2.2.1,())) none
def o3 (a0:List Int):Option ((List Int)×Unit):=w8 a0 some
theorem Np {ρ:Type} (a0:List Int) (k: (List Int)×Unit→Option ρ):w8 a0 k=(o3 a0).bind k:=by
 simp only [o3,w8,am,Option.bind_none,Option.bind_assoc,Option.bind_some]
abbrev Fy:bF:=bV [.ty (.ls (.i .i64))] [.ls (.i .i64)] fun x=>o3 x.1
theorem Ly:aH Tryz.prog 53 Fy:=
 al (Λ:=aU [(b7 rt,Fx)]) (fn:=Tryz.f53) aV CT af (by kernel_rfl) (aM (by kernel_rfl:_= [rt]) (aO (q:=b7 rt) rfl Hc fun _ _ _=>by kernel_rfl)) (by kernel_rfl) (fun x=>o3 x.1)
  (fun x=>Eq.trans (by kernel_rfl:_=w8 x.1 (fun y=>ret (aI [.ls (.i .i64)] y) fun v g=>some (v,g))) (Np x.1 _)) fun _ _ h=>h
abbrev Nq:List (Nat×bF):= [(53,Fy)]
theorem Hd:ax Tryz.prog (aR Nq):=ae Ly <| aj _
def qh {ρ:Type} (a0:ai) (k:ai×Unit→Option ρ):Option ρ:=
 (o3 a0.replicas).bind fun y1=>(o3 a0.witnesses).bind fun y2=>k ((⟨a0.epoch,a0.primary,y1.1,y2.1⟩:ai),())
def kI (a0:ai):Option (ai×Unit):=qh a0 some
theorem Jq {ρ:Type} (a0:ai) (k:ai×Unit→Option ρ):qh a0 k=(kI a0).bind k:=by
 simp only [kI,qh,Option.bind_assoc,Option.bind_some]
abbrev yI:bF:=bV [.ty (.st .config)] [.st .config] fun x=>kI x.1
theorem Fz:aH Tryz.prog 208 yI:=
 al (Λ:=aU []) (fn:=Tryz.f208) aV Hd af (by kernel_rfl) (aM (by kernel_rfl:_= []) ah) (by kernel_rfl) (fun x=>kI x.1)
  (fun x=>Eq.trans (by kernel_rfl:_=qh x.1 (fun y=>ret (aI [.st .config] y) fun v g=>some (v,g))) (Jq x.1 _)) fun _ _ h=>h
abbrev Uk:List (Nat×bF):= []
theorem Pi:ax Tryz.prog (aR Uk):=aj _
def Et {ρ:Type} (a0:Op) (k:Op×Unit→Option ρ):Option ρ:=
 k (a0,())
def FA (a0:Op):Option (Op×Unit):=Et a0 some
theorem Re {ρ:Type} (a0:Op) (k:Op×Unit→Option ρ):Et a0 k=(FA a0).bind k:=by
 simp only [FA,Et,Option.bind_some]
abbrev Rf:bF:=bV [.ty (.st .op)] [.st .op] fun x=>FA x.1
theorem Ul:aH Tryz.prog 40 Rf:=
 al (Λ:=aU []) (fn:=Tryz.f40) aV Pi af (by kernel_rfl) (aM (by kernel_rfl:_= []) ah) (by kernel_rfl) (fun x=>FA x.1)
  (fun x=>Eq.trans (by kernel_rfl:_=Et x.1 (fun y=>ret (aI [.st .op] y) fun v g=>some (v,g))) (Re x.1 _)) fun _ _ h=>h
abbrev Pj:List (Nat×bF):= [(40,Rf)]
theorem Jr:ax Tryz.prog (aR Pj):=ae Ul <| aj _
def uq {ρ:Type} (a0:bh) (k:bh×Unit→Option ρ):Option ρ:=
 (FA a0.op).bind fun y1=>k ((⟨a0.epoch,y1.1⟩:bh),())
def q9 (a0:bh):Option (bh×Unit):=uq a0 some
theorem Lz {ρ:Type} (a0:bh) (k:bh×Unit→Option ρ):uq a0 k=(q9 a0).bind k:=by
 simp only [q9,uq,Option.bind_assoc,Option.bind_some]
abbrev Ic:bF:=bV [.ty (.st .entry)] [.st .entry] fun x=>q9 x.1
theorem Pk:aH Tryz.prog 265 Ic:=
 al (Λ:=aU []) (fn:=Tryz.f265) aV Jr af (by kernel_rfl) (aM (by kernel_rfl:_= []) ah) (by kernel_rfl) (fun x=>q9 x.1)
  (fun x=>Eq.trans (by kernel_rfl:_=uq x.1 (fun y=>ret (aI [.st .entry] y) fun v g=>some (v,g))) (Lz x.1 _)) fun _ _ h=>h
abbrev FB:List (Nat×bF):= [(265,Ic)]
theorem xL:ax Tryz.prog (aR FB):=ae Pk <| aj _
noncomputable abbrev o4:Code:=cm (cg Tryz.f209) 0
abbrev ff:eG:=⟨[(0, .cl (.ro (.st .entry))),(3, .cl (.own 0 (.st .entry))),(4, .cl (.int .i64))],[],[.st .entry],0,23⟩
abbrev kJ:List (X×eG):= [(.ext 0,⟨[(3, .cl (.own 0 (.st .entry)))],[],[.st .entry],0,23⟩)]
def p7 {ρ:Type} (v1:List bh) (v2:List bh) (v3:Int) (fn: (((List bh)×Unit×Int×Unit)×(Unit)×((List bh)×Unit))→Option ρ) (fe: ((Unit×Unit)×(Unit)×((List bh)×Unit))→Option ρ):Option ρ:=
 br (decide (v3 < (v2.length:Int))) (an (0≤v3) ((v2[v3.toNat]?).bind fun x4=>(q9 x4).bind fun y5=>an (0≤v3∧v3 < (v1.length:Int)) ((v1[v3.toNat]?).bind fun _=>fn ((v2,(),(IntKind.wrap .i64 (v3+1)),()),(()),((v1.set v3.toNat y5.1),()))) none) none) (fe (((),()),(()),(v1,())))
def jn (s:ff.D):Option (ff.D⊕bu.D kJ):=p7 s.2.2.1 s.1.1 s.1.2.2.1 (fun s=>some (.inl s)) (fun e=>some (.inr e))
def ur:ff.D→Option (bu.D kJ):=jm jn
theorem FC {ρ:Type} (s:ff.D) (fn:ff.D→Option ρ) (fe:bu.D kJ→Option ρ):p7 s.2.2.1 s.1.1 s.1.2.2.1 fn fe=(jn s).bind (Sum.elim fn fe):=by
 simp only [jn,p7,ak,am,Option.bind_none,Option.bind_assoc,Option.bind_some,Sum.elim_inl,Sum.elim_inr]
abbrev z0:dp:=dy [] [0,3,4] ff kJ ur
theorem Dr (s:ff.D):eL Θ (aR FB) (aU []) o4 (ff.mk' s) (dn [0,3,4] [3] fun x S=>some (x,S))=(jn s).bind (Sum.elim (fun s'=>some (.nor,ff.mk' s')) fun e=>some (bu.e kJ e)):=
 Eq.trans (by kernel_rfl:_=p7 s.2.2.1 s.1.1 s.1.2.2.1 (fun s'=>some (.nor,ff.mk' s')) (fun e=>some (bu.e kJ e))) (FC s _ _)
theorem Ds:cf Tryz.prog o4 z0:=bc aV xL af (by kernel_rfl) (dM (by kernel_rfl:_= []) ah) [] [0,3,4] [3] ff kJ (by kernel_rfl) jn Dr ur (gH jn) (aP jn)
def sn {ρ:Type} (a0:List bh) (k: (List bh)×Unit→Option ρ):Option ρ:=
 an (0≤(a0.length:Int)∧(a0.length:Int)=(a0.length:Int)∧(a0.length:Int)*((56:Nat):Int)≤2 ^ 40) ((ur ((a0,(),0,()),(()),((List.replicate (a0.length:Int).toNat (⟨0,(⟨0,0,0,0,0,0⟩:Op)⟩:bh)),()))).bind fun e8=>k (e8.2.2.1,())) none
def ma (a0:List bh):Option ((List bh)×Unit):=sn a0 some
theorem Js {ρ:Type} (a0:List bh) (k: (List bh)×Unit→Option ρ):sn a0 k=(ma a0).bind k:=by
 simp only [ma,sn,am,Option.bind_none,Option.bind_assoc,Option.bind_some]
abbrev FD:bF:=bV [.ty (.ls (.st .entry))] [.ls (.st .entry)] fun x=>ma x.1
theorem Nr:aH Tryz.prog 209 FD:=
 al (Λ:=aU [(b7 o4,z0)]) (fn:=Tryz.f209) aV xL af (by kernel_rfl) (aM (by kernel_rfl:_= [o4]) (aO (q:=b7 o4) rfl Ds fun _ _ _=>by kernel_rfl)) (by kernel_rfl) (fun x=>ma x.1)
  (fun x=>Eq.trans (by kernel_rfl:_=sn x.1 (fun y=>ret (aI [.ls (.st .entry)] y) fun v g=>some (v,g))) (Js x.1 _)) fun _ _ h=>h
abbrev Ns:List (Nat×bF):= [(208,yI),(209,FD)]
theorem He:ax Tryz.prog (aR Ns):=ae Fz <| ae Nr <| aj _
def qi {ρ:Type} (a0:aB) (k:aB×Unit→Option ρ):Option ρ:=
 (kI a0.config).bind fun y1=>(ma a0.log).bind fun y2=>(ma a0.learned).bind fun y3=>k ((⟨a0.up,a0.intact,a0.version,a0.epoch,y1.1,a0.first,y2.1,a0.commit,y3.1⟩:aB),())
def mb (a0:aB):Option (aB×Unit):=qi a0 some
theorem Jt {ρ:Type} (a0:aB) (k:aB×Unit→Option ρ):qi a0 k=(mb a0).bind k:=by
 simp only [mb,qi,Option.bind_assoc,Option.bind_some]
abbrev FE:bF:=bV [.ty (.st .server)] [.st .server] fun x=>mb x.1
theorem Nt:aH Tryz.prog 132 FE:=
 al (Λ:=aU []) (fn:=Tryz.f132) aV He af (by kernel_rfl) (aM (by kernel_rfl:_= []) ah) (by kernel_rfl) (fun x=>mb x.1)
  (fun x=>Eq.trans (by kernel_rfl:_=qi x.1 (fun y=>ret (aI [.st .server] y) fun v g=>some (v,g))) (Jt x.1 _)) fun _ _ h=>h
abbrev CU:List (Nat×bF):= [(132,FE)]
theorem vP:ax Tryz.prog (aR CU):=ae Nt <| aj _
noncomputable abbrev nF:Code:=cm (cg Tryz.f52) 0
abbrev ev:eG:=⟨[(0, .cl (.ro (.st .server))),(3, .cl (.own 0 (.st .server))),(4, .cl (.int .i64))],[],[.st .server],0,23⟩
abbrev jJ:List (X×eG):= [(.ext 0,⟨[(3, .cl (.own 0 (.st .server)))],[],[.st .server],0,23⟩)]
def o5 {ρ:Type} (v1:List aB) (v2:List aB) (v3:Int) (fn: (((List aB)×Unit×Int×Unit)×(Unit)×((List aB)×Unit))→Option ρ) (fe: ((Unit×Unit)×(Unit)×((List aB)×Unit))→Option ρ):Option ρ:=
 br (decide (v3 < (v2.length:Int))) (an (0≤v3) ((v2[v3.toNat]?).bind fun x4=>(mb x4).bind fun y5=>an (0≤v3∧v3 < (v1.length:Int)) ((v1[v3.toNat]?).bind fun _=>fn ((v2,(),(IntKind.wrap .i64 (v3+1)),()),(()),((v1.set v3.toNat y5.1),()))) none) none) (fe (((),()),(()),(v1,())))
def ig (s:ev.D):Option (ev.D⊕bu.D jJ):=o5 s.2.2.1 s.1.1 s.1.2.2.1 (fun s=>some (.inl s)) (fun e=>some (.inr e))
def sY:ev.D→Option (bu.D jJ):=jm ig
theorem Dt {ρ:Type} (s:ev.D) (fn:ev.D→Option ρ) (fe:bu.D jJ→Option ρ):o5 s.2.2.1 s.1.1 s.1.2.2.1 fn fe=(ig s).bind (Sum.elim fn fe):=by
 simp only [ig,o5,ak,am,Option.bind_none,Option.bind_assoc,Option.bind_some,Sum.elim_inl,Sum.elim_inr]
abbrev xM:dp:=dy [] [0,3,4] ev jJ sY
theorem BG (s:ev.D):eL Θ (aR CU) (aU []) nF (ev.mk' s) (dn [0,3,4] [3] fun x S=>some (x,S))=(ig s).bind (Sum.elim (fun s'=>some (.nor,ev.mk' s')) fun e=>some (bu.e jJ e)):=
 Eq.trans (by kernel_rfl:_=o5 s.2.2.1 s.1.1 s.1.2.2.1 (fun s'=>some (.nor,ev.mk' s')) (fun e=>some (bu.e jJ e))) (Dt s _ _)
theorem BH:cf Tryz.prog nF xM:=bc aV vP af (by kernel_rfl) (dM (by kernel_rfl:_= []) ah) [] [0,3,4] [3] ev jJ (by kernel_rfl) ig BG sY (gH ig) (aP ig)
def qS {ρ:Type} (a0:List aB) (k: (List aB)×Unit→Option ρ):Option ρ:=
 an (0≤(a0.length:Int)∧(a0.length:Int)=(a0.length:Int)∧(a0.length:Int)*((152:Nat):Int)≤2 ^ 40) ((sY ((a0,(),0,()),(()),((List.replicate (a0.length:Int).toNat (⟨false,false,0,0,(⟨0,0,([]:List Int),([]:List Int)⟩:ai),0,([]:List bh),0,([]:List bh)⟩:aB)),()))).bind fun e8=>k (e8.2.2.1,())) none
def mc (a0:List aB):Option ((List aB)×Unit):=qS a0 some
theorem Hf {ρ:Type} (a0:List aB) (k: (List aB)×Unit→Option ρ):qS a0 k=(mc a0).bind k:=by
 simp only [mc,qS,am,Option.bind_none,Option.bind_assoc,Option.bind_some]
abbrev CV:bF:=bV [.ty (.ls (.st .server))] [.ls (.st .server)] fun x=>mc x.1
theorem LA:aH Tryz.prog 52 CV:=
 al (Λ:=aU [(b7 nF,xM)]) (fn:=Tryz.f52) aV vP af (by kernel_rfl) (aM (by kernel_rfl:_= [nF]) (aO (q:=b7 nF) rfl BH fun _ _ _=>by kernel_rfl)) (by kernel_rfl) (fun x=>mc x.1)
  (fun x=>Eq.trans (by kernel_rfl:_=qS x.1 (fun y=>ret (aI [.ls (.st .server)] y) fun v g=>some (v,g))) (Hf x.1 _)) fun _ _ h=>h
abbrev CW:List (Nat×bF):= [(208,yI)]
theorem vQ:ax Tryz.prog (aR CW):=ae Fz <| aj _
noncomputable abbrev nG:Code:=cm (cg Tryz.f133) 0
abbrev ew:eG:=⟨[(0, .cl (.ro (.st .config))),(3, .cl (.own 0 (.st .config))),(4, .cl (.int .i64))],[],[.st .config],0,23⟩
abbrev jK:List (X×eG):= [(.ext 0,⟨[(3, .cl (.own 0 (.st .config)))],[],[.st .config],0,23⟩)]
def o6 {ρ:Type} (v1:List ai) (v2:List ai) (v3:Int) (fn: (((List ai)×Unit×Int×Unit)×(Unit)×((List ai)×Unit))→Option ρ) (fe: ((Unit×Unit)×(Unit)×((List ai)×Unit))→Option ρ):Option ρ:=
 br (decide (v3 < (v2.length:Int))) (an (0≤v3) ((v2[v3.toNat]?).bind fun x4=>(kI x4).bind fun y5=>an (0≤v3∧v3 < (v1.length:Int)) ((v1[v3.toNat]?).bind fun _=>fn ((v2,(),(IntKind.wrap .i64 (v3+1)),()),(()),((v1.set v3.toNat y5.1),()))) none) none) (fe (((),()),(()),(v1,())))
def ii (s:ew.D):Option (ew.D⊕bu.D jK):=o6 s.2.2.1 s.1.1 s.1.2.2.1 (fun s=>some (.inl s)) (fun e=>some (.inr e))
def sZ:ew.D→Option (bu.D jK):=jm ii
theorem Du {ρ:Type} (s:ew.D) (fn:ew.D→Option ρ) (fe:bu.D jK→Option ρ):o6 s.2.2.1 s.1.1 s.1.2.2.1 fn fe=(ii s).bind (Sum.elim fn fe):=by
 simp only [ii,o6,ak,am,Option.bind_none,Option.bind_assoc,Option.bind_some,Sum.elim_inl,Sum.elim_inr]
abbrev xN:dp:=dy [] [0,3,4] ew jK sZ
theorem BI (s:ew.D):eL Θ (aR CW) (aU []) nG (ew.mk' s) (dn [0,3,4] [3] fun x S=>some (x,S))=(ii s).bind (Sum.elim (fun s'=>some (.nor,ew.mk' s')) fun e=>some (bu.e jK e)):=
 Eq.trans (by kernel_rfl:_=o6 s.2.2.1 s.1.1 s.1.2.2.1 (fun s'=>some (.nor,ew.mk' s')) (fun e=>some (bu.e jK e))) (Du s _ _)
theorem BJ:cf Tryz.prog nG xN:=bc aV vQ af (by kernel_rfl) (dM (by kernel_rfl:_= []) ah) [] [0,3,4] [3] ew jK (by kernel_rfl) ii BI sZ (gH ii) (aP ii)
def qT {ρ:Type} (a0:List ai) (k: (List ai)×Unit→Option ρ):Option ρ:=
 an (0≤(a0.length:Int)∧(a0.length:Int)=(a0.length:Int)∧(a0.length:Int)*((64:Nat):Int)≤2 ^ 40) ((sZ ((a0,(),0,()),(()),((List.replicate (a0.length:Int).toNat (⟨0,0,([]:List Int),([]:List Int)⟩:ai)),()))).bind fun e8=>k (e8.2.2.1,())) none
def md (a0:List ai):Option ((List ai)×Unit):=qT a0 some
theorem Hg {ρ:Type} (a0:List ai) (k: (List ai)×Unit→Option ρ):qT a0 k=(md a0).bind k:=by
 simp only [md,qT,am,Option.bind_none,Option.bind_assoc,Option.bind_some]
abbrev CX:bF:=bV [.ty (.ls (.st .config))] [.ls (.st .config)] fun x=>md x.1
theorem LB:aH Tryz.prog 133 CX:=
 al (Λ:=aU [(b7 nG,xN)]) (fn:=Tryz.f133) aV vQ af (by kernel_rfl) (aM (by kernel_rfl:_= [nG]) (aO (q:=b7 nG) rfl BJ fun _ _ _=>by kernel_rfl)) (by kernel_rfl) (fun x=>md x.1)
  (fun x=>Eq.trans (by kernel_rfl:_=qT x.1 (fun y=>ret (aI [.ls (.st .config)] y) fun v g=>some (v,g))) (Hg x.1 _)) fun _ _ h=>h
abbrev Hh:List (Nat×bF):= [(133,CX)]
theorem BK:ax Tryz.prog (aR Hh):=ae LB <| aj _
def me {ρ:Type} (a0:ay) (k:ay×Unit→Option ρ):Option ρ:=
 (md a0.configs).bind fun y1=>k ((⟨y1.1,a0.activated⟩:ay),())
def jL (a0:ay):Option (ay×Unit):=me a0 some
theorem Dv {ρ:Type} (a0:ay) (k:ay×Unit→Option ρ):me a0 k=(jL a0).bind k:=by
 simp only [jL,me,Option.bind_assoc,Option.bind_some]
abbrev xO:bF:=bV [.ty (.st .masterLog)] [.st .masterLog] fun x=>jL x.1
theorem Hi:aH Tryz.prog 54 xO:=
 al (Λ:=aU []) (fn:=Tryz.f54) aV BK af (by kernel_rfl) (aM (by kernel_rfl:_= []) ah) (by kernel_rfl) (fun x=>jL x.1)
  (fun x=>Eq.trans (by kernel_rfl:_=me x.1 (fun y=>ret (aI [.st .masterLog] y) fun v g=>some (v,g))) (Dv x.1 _)) fun _ _ h=>h
abbrev Pm:List (Nat×bF):= []
theorem Ju:ax Tryz.prog (aR Pm):=aj _
def ut {ρ:Type} (a0:kV) (k:kV×Unit→Option ρ):Option ρ:=
 k (a0,())
def rc (a0:kV):Option (kV×Unit):=ut a0 some
theorem LC {ρ:Type} (a0:kV) (k:kV×Unit→Option ρ):ut a0 k=(rc a0).bind k:=by
 simp only [rc,ut,Option.bind_some]
abbrev Ie:bF:=bV [.ty (.st .lease)] [.st .lease] fun x=>rc x.1
theorem Pn:aH Tryz.prog 55 Ie:=
 al (Λ:=aU []) (fn:=Tryz.f55) aV Ju af (by kernel_rfl) (aM (by kernel_rfl:_= []) ah) (by kernel_rfl) (fun x=>rc x.1)
  (fun x=>Eq.trans (by kernel_rfl:_=ut x.1 (fun y=>ret (aI [.st .lease] y) fun v g=>some (v,g))) (LC x.1 _)) fun _ _ h=>h
abbrev Po:List (Nat×bF):= []
theorem Jv:ax Tryz.prog (aR Po):=aj _
def uu {ρ:Type} (a0:bz) (k:bz×Unit→Option ρ):Option ρ:=
 k (a0,())
def rd (a0:bz):Option (bz×Unit):=uu a0 some
theorem LD {ρ:Type} (a0:bz) (k:bz×Unit→Option ρ):uu a0 k=(rd a0).bind k:=by
 simp only [rd,uu,Option.bind_some]
abbrev Ig:bF:=bV [.ty (.st .place)] [.st .place] fun x=>rd x.1
theorem Pp:aH Tryz.prog 134 Ig:=
 al (Λ:=aU []) (fn:=Tryz.f134) aV Jv af (by kernel_rfl) (aM (by kernel_rfl:_= []) ah) (by kernel_rfl) (fun x=>rd x.1)
  (fun x=>Eq.trans (by kernel_rfl:_=uu x.1 (fun y=>ret (aI [.st .place] y) fun v g=>some (v,g))) (LD x.1 _)) fun _ _ h=>h
abbrev FF:List (Nat×bF):= [(134,Ig)]
theorem xP:ax Tryz.prog (aR FF):=ae Pp <| aj _
noncomputable abbrev o7:Code:=cm (cg Tryz.f56) 0
abbrev fg:eG:=⟨[(0, .cl (.ro (.st .place))),(3, .cl (.own 0 (.st .place))),(4, .cl (.int .i64))],[],[.st .place],0,23⟩
abbrev kK:List (X×eG):= [(.ext 0,⟨[(3, .cl (.own 0 (.st .place)))],[],[.st .place],0,23⟩)]
def p8 {ρ:Type} (v1:List bz) (v2:List bz) (v3:Int) (fn: (((List bz)×Unit×Int×Unit)×(Unit)×((List bz)×Unit))→Option ρ) (fe: ((Unit×Unit)×(Unit)×((List bz)×Unit))→Option ρ):Option ρ:=
 br (decide (v3 < (v2.length:Int))) (an (0≤v3) ((v2[v3.toNat]?).bind fun x4=>(rd x4).bind fun y5=>an (0≤v3∧v3 < (v1.length:Int)) ((v1[v3.toNat]?).bind fun _=>fn ((v2,(),(IntKind.wrap .i64 (v3+1)),()),(()),((v1.set v3.toNat y5.1),()))) none) none) (fe (((),()),(()),(v1,())))
def jo (s:fg.D):Option (fg.D⊕bu.D kK):=p8 s.2.2.1 s.1.1 s.1.2.2.1 (fun s=>some (.inl s)) (fun e=>some (.inr e))
def uv:fg.D→Option (bu.D kK):=jm jo
theorem FG {ρ:Type} (s:fg.D) (fn:fg.D→Option ρ) (fe:bu.D kK→Option ρ):p8 s.2.2.1 s.1.1 s.1.2.2.1 fn fe=(jo s).bind (Sum.elim fn fe):=by
 simp only [jo,p8,ak,am,Option.bind_none,Option.bind_assoc,Option.bind_some,Sum.elim_inl,Sum.elim_inr]
abbrev z6:dp:=dy [] [0,3,4] fg kK uv
theorem Dw (s:fg.D):eL Θ (aR FF) (aU []) o7 (fg.mk' s) (dn [0,3,4] [3] fun x S=>some (x,S))=(jo s).bind (Sum.elim (fun s'=>some (.nor,fg.mk' s')) fun e=>some (bu.e kK e)):=
 Eq.trans (by kernel_rfl:_=p8 s.2.2.1 s.1.1 s.1.2.2.1 (fun s'=>some (.nor,fg.mk' s')) (fun e=>some (bu.e kK e))) (FG s _ _)
theorem Dx:cf Tryz.prog o7 z6:=bc aV xP af (by kernel_rfl) (dM (by kernel_rfl:_= []) ah) [] [0,3,4] [3] fg kK (by kernel_rfl) jo Dw uv (gH jo) (aP jo)
def so {ρ:Type} (a0:List bz) (k: (List bz)×Unit→Option ρ):Option ρ:=
 an (0≤(a0.length:Int)∧(a0.length:Int)=(a0.length:Int)∧(a0.length:Int)*((24:Nat):Int)≤2 ^ 40) ((uv ((a0,(),0,()),(()),((List.replicate (a0.length:Int).toNat (⟨0,0,0⟩:bz)),()))).bind fun e8=>k (e8.2.2.1,())) none
def om (a0:List bz):Option ((List bz)×Unit):=so a0 some
theorem Jw {ρ:Type} (a0:List bz) (k: (List bz)×Unit→Option ρ):so a0 k=(om a0).bind k:=by
 simp only [om,so,am,Option.bind_none,Option.bind_assoc,Option.bind_some]
abbrev FH:bF:=bV [.ty (.ls (.st .place))] [.ls (.st .place)] fun x=>om x.1
theorem Nu:aH Tryz.prog 56 FH:=
 al (Λ:=aU [(b7 o7,z6)]) (fn:=Tryz.f56) aV xP af (by kernel_rfl) (aM (by kernel_rfl:_= [o7]) (aO (q:=b7 o7) rfl Dx fun _ _ _=>by kernel_rfl)) (by kernel_rfl) (fun x=>om x.1)
  (fun x=>Eq.trans (by kernel_rfl:_=so x.1 (fun y=>ret (aI [.ls (.st .place)] y) fun v g=>some (v,g))) (Jw x.1 _)) fun _ _ h=>h
abbrev LF:List (Nat×bF):= [(52,CV),(53,Fy),(54,xO),(55,Ie),(56,FH)]
theorem FI:ax Tryz.prog (aR LF):=ae LA <| ae Ly <| ae Hi <| ae Pn <| ae Nu <| aj _
def o8 {ρ:Type} (a0:aG) (k:aG×Unit→Option ρ):Option ρ:=
 (mc a0.servers).bind fun y1=>(o3 a0.sides).bind fun y2=>(jL a0.master).bind fun y3=>(rc a0.lease).bind fun y4=>(om a0.places).bind fun y5=>k ((⟨a0.now,y1.1,y2.1,y3.1,a0.masterUp,y4.1,y5.1⟩:aG),())
def ij (a0:aG):Option (aG×Unit):=o8 a0 some
theorem Hj {ρ:Type} (a0:aG) (k:aG×Unit→Option ρ):o8 a0 k=(ij a0).bind k:=by
 simp only [ij,o8,Option.bind_assoc,Option.bind_some]
abbrev CY:bF:=bV [.ty (.st .cluster)] [.st .cluster] fun x=>ij x.1
theorem LG:aH Tryz.prog 14 CY:=
 al (Λ:=aU []) (fn:=Tryz.f14) aV FI af (by kernel_rfl) (aM (by kernel_rfl:_= []) ah) (by kernel_rfl) (fun x=>ij x.1)
  (fun x=>Eq.trans (by kernel_rfl:_=o8 x.1 (fun y=>ret (aI [.st .cluster] y) fun v g=>some (v,g))) (Hj x.1 _)) fun _ _ h=>h
abbrev Um:List (Nat×bF):= []
theorem Pq:ax Tryz.prog (aR Um):=aj _
def z8 {ρ:Type} (a0:Int) (a1:Int) (a2:Int) (k:Bool×Unit→Option ρ):Option ρ:=
 br (decide (a0≥a1)) (k ((decide (a0≤a2)),())) (k (false,()))
def eM (a0:Int) (a1:Int) (a2:Int):Option (Bool×Unit):=z8 a0 a1 a2 some
theorem Rg {ρ:Type} (a0:Int) (a1:Int) (a2:Int) (k:Bool×Unit→Option ρ):z8 a0 a1 a2 k=(eM a0 a1 a2).bind k:=by
 simp only [eM,z8,ak,Option.bind_some]
abbrev qu:bF:=bV [.ty (.i .i64), .ty (.i .i64), .ty (.i .i64)] [.b] fun x=>eM x.1 x.2.1 x.2.2.1
theorem ru:aH Tryz.prog 120 qu:=
 al (Λ:=aU []) (fn:=Tryz.f120) aV Pq af (by kernel_rfl) (aM (by kernel_rfl:_= []) ah) (by kernel_rfl) (fun x=>eM x.1 x.2.1 x.2.2.1)
  (fun x=>Eq.trans (by kernel_rfl:_=z8 x.1 x.2.1 x.2.2.1 (fun y=>ret (aI [.b] y) fun v g=>some (v,g))) (Rg x.1 x.2.1 x.2.2.1 _)) fun _ _ h=>h
abbrev Aa:List (Nat×bF):= [(120,qu)]
theorem uM:ax Tryz.prog (aR Aa):=ae ru <| aj _
noncomputable abbrev mf:Code:=cm (cg Tryz.f224) 0
abbrev dT:eG:=⟨[(0, .cl (.ro (.i .i64))),(3, .cl (.int .i64))],[],[],0,32⟩
abbrev iO:List (X×eG):= [(.ret,⟨[(2, .cl (.bl))],[],[],0,32⟩),(.ext 0,⟨[(2, .cl (.dead))],[],[],0,32⟩)]
def jg {ρ:Type} (v1:List Int) (v2:Int) (fn: (((List Int)×Int×Unit)×(Unit)×(Unit))→Option ρ) (fe: ((Bool×Unit)×(Unit)×(Unit))⊕((Unit×Unit)×(Unit)×(Unit))→Option ρ):Option ρ:=
 br (decide (v2 < (v1.length:Int))) (an (0≤v2) ((v1[v2.toNat]?).bind fun x3=>(eM x3 0 4).bind fun y4=>br (!y4.1) (fe (.inl ((false,()),(()),(())))) (br (decide (v2 > 0)) (an (0≤(IntKind.wrap .i64 (v2 - 1))) ((v1[(IntKind.wrap .i64 (v2 - 1)).toNat]?).bind fun x5=>an (0≤v2) ((v1[v2.toNat]?).bind fun x6=>br (decide (x5≥x6)) (fe (.inl ((false,()),(()),(())))) (fn ((v1,(IntKind.wrap .i64 (v2+1)),()),(()),(())))) none) none) (fn ((v1,(IntKind.wrap .i64 (v2+1)),()),(()),(()))))) none) (fe (.inr (((),()),(()),(()))))
def ex (s:dT.D):Option (dT.D⊕bu.D iO):=jg s.1.1 s.1.2.1 (fun s=>some (.inl s)) (fun e=>some (.inr e))
def mg:dT.D→Option (bu.D iO):=jm ex
theorem BL {ρ:Type} (s:dT.D) (fn:dT.D→Option ρ) (fe:bu.D iO→Option ρ):jg s.1.1 s.1.2.1 fn fe=(ex s).bind (Sum.elim fn fe):=by
 simp only [ex,jg,ak,am,Option.bind_none,Option.bind_assoc,Option.bind_some,Sum.elim_inl,Sum.elim_inr]
abbrev vR:dp:=dy [] [0,3] dT iO mg
theorem Ab (s:dT.D):eL Θ (aR Aa) (aU []) mf (dT.mk' s) (dn [0,3] [2] fun x S=>some (x,S))=(ex s).bind (Sum.elim (fun s'=>some (.nor,dT.mk' s')) fun e=>some (bu.e iO e)):=
 Eq.trans (by kernel_rfl:_=jg s.1.1 s.1.2.1 (fun s'=>some (.nor,dT.mk' s')) (fun e=>some (bu.e iO e))) (BL s _ _)
theorem Ad:cf Tryz.prog mf vR:=bc aV uM af (by kernel_rfl) (dM (by kernel_rfl:_= []) ah) [] [0,3] [2] dT iO (by kernel_rfl) ex Ab mg (gH ex) (aP ex)
def nH {ρ:Type} (a0:List Int) (k:Bool×Unit→Option ρ):Option ρ:=
 (mg ((a0,0,()),(()),(()))).bind fun e7=>Sum.elim (fun e7_=>k (e7_.1.1,())) (fun e7_=>k (true,())) e7
def hO (a0:List Int):Option (Bool×Unit):=nH a0 some
theorem FJ {ρ:Type} (a0:List Int) (k:Bool×Unit→Option ρ):nH a0 k=(hO a0).bind k:=by
 simp only [hO,nH,co,Option.bind_assoc,Option.bind_some]
abbrev Ae:bF:=bV [.ty (.ls (.i .i64))] [.b] fun x=>hO x.1
theorem Jx:aH Tryz.prog 224 Ae:=
 al (Λ:=aU [(b7 mf,vR)]) (fn:=Tryz.f224) aV uM af (by kernel_rfl) (aM (by kernel_rfl:_= [mf]) (aO (q:=b7 mf) rfl Ad fun _ _ _=>by kernel_rfl)) (by kernel_rfl) (fun x=>hO x.1)
  (fun x=>Eq.trans (by kernel_rfl:_=nH x.1 (fun y=>ret (aI [.b] y) fun v g=>some (v,g))) (FJ x.1 _)) fun _ _ h=>h
abbrev CZ:List (Nat×bF):= []
theorem vS:ax Tryz.prog (aR CZ):=aj _
noncomputable abbrev nI:Code:=cm (cg Tryz.f51) 0
abbrev ey:eG:=⟨[(0, .cl (.ro (.i .i64))),(1, .cl (.int .i64)),(5, .cl (.int .i64))],[],[],0,18⟩
abbrev jM:List (X×eG):= [(.ret,⟨[(4, .cl (.bl))],[],[],0,18⟩),(.ext 0,⟨[(4, .cl (.dead))],[],[],0,18⟩)]
def j9 {ρ:Type} (v1:List Int) (v2:Int) (v3:Int) (fn: (((List Int)×Int×Int×Unit)×(Unit)×(Unit))→Option ρ) (fe: ((Bool×Unit)×(Unit)×(Unit))⊕((Unit×Unit)×(Unit)×(Unit))→Option ρ):Option ρ:=
 br (decide (v3 < (v1.length:Int))) (an (0≤v3) ((v1[v3.toNat]?).bind fun x4=>br (x4==v2) (fe (.inl ((true,()),(()),(())))) (fn ((v1,v2,(IntKind.wrap .i64 (v3+1)),()),(()),(())))) none) (fe (.inr (((),()),(()),(()))))
def eY (s:ey.D):Option (ey.D⊕bu.D jM):=j9 s.1.1 s.1.2.1 s.1.2.2.1 (fun s=>some (.inl s)) (fun e=>some (.inr e))
def nJ:ey.D→Option (bu.D jM):=jm eY
theorem Dy {ρ:Type} (s:ey.D) (fn:ey.D→Option ρ) (fe:bu.D jM→Option ρ):j9 s.1.1 s.1.2.1 s.1.2.2.1 fn fe=(eY s).bind (Sum.elim fn fe):=by
 simp only [eY,j9,ak,am,Option.bind_none,Option.bind_assoc,Option.bind_some,Sum.elim_inl,Sum.elim_inr]
abbrev xQ:dp:=dy [] [0,1,5] ey jM nJ
theorem BM (s:ey.D):eL Θ (aR CZ) (aU []) nI (ey.mk' s) (dn [0,1,5] [4] fun x S=>some (x,S))=(eY s).bind (Sum.elim (fun s'=>some (.nor,ey.mk' s')) fun e=>some (bu.e jM e)):=
 Eq.trans (by kernel_rfl:_=j9 s.1.1 s.1.2.1 s.1.2.2.1 (fun s'=>some (.nor,ey.mk' s')) (fun e=>some (bu.e jM e))) (Dy s _ _)
theorem BN:cf Tryz.prog nI xQ:=bc aV vS af (by kernel_rfl) (dM (by kernel_rfl:_= []) ah) [] [0,1,5] [4] ey jM (by kernel_rfl) eY BM nJ (gH eY) (aP eY)
def o9 {ρ:Type} (a0:List Int) (a1:Int) (k:Bool×Unit→Option ρ):Option ρ:=
 (nJ ((a0,a1,0,()),(()),(()))).bind fun e5=>Sum.elim (fun e5_=>k (e5_.1.1,())) (fun e5_=>k (false,())) e5
def gm (a0:List Int) (a1:Int):Option (Bool×Unit):=o9 a0 a1 some
theorem Hk {ρ:Type} (a0:List Int) (a1:Int) (k:Bool×Unit→Option ρ):o9 a0 a1 k=(gm a0 a1).bind k:=by
 simp only [gm,o9,co,Option.bind_assoc,Option.bind_some]
abbrev qj:bF:=bV [.ty (.ls (.i .i64)), .ty (.i .i64)] [.b] fun x=>gm x.1 x.2.1
theorem sq:aH Tryz.prog 51 qj:=
 al (Λ:=aU [(b7 nI,xQ)]) (fn:=Tryz.f51) aV vS af (by kernel_rfl) (aM (by kernel_rfl:_= [nI]) (aO (q:=b7 nI) rfl BN fun _ _ _=>by kernel_rfl)) (by kernel_rfl) (fun x=>gm x.1 x.2.1)
  (fun x=>Eq.trans (by kernel_rfl:_=o9 x.1 x.2.1 (fun y=>ret (aI [.b] y) fun v g=>some (v,g))) (Hk x.1 x.2.1 _)) fun _ _ h=>h
abbrev Ox:List (Nat×bF):= []
theorem FK:ax Tryz.prog (aR Ox):=aj _
noncomputable abbrev tC:Code:=cm (cg Tryz.f148) 0
abbrev ka:eG:=⟨[(0, .cl (.ro (.i .i64))),(1, .cl (.int .i64)),(5, .cl (.int .i64))],[],[],0,47⟩
abbrev pN:List (X×eG):= [(.ext 0,⟨[(0, .cl (.ro (.i .i64))),(1, .cl (.int .i64)),(5, .cl (.int .i64))],[],[],0,47⟩)]
def pO {ρ:Type} (v1:List Int) (v2:Int) (v3:Int) (fn: (((List Int)×Int×Int×Unit)×(Unit)×(Unit))→Option ρ) (fe: (((List Int)×Int×Int×Unit)×(Unit)×(Unit))→Option ρ):Option ρ:=
 br (decide (v3 < (v1.length:Int))) (an (0≤v3) ((v1[v3.toNat]?).bind fun x4=>br (decide (x4 < v2)) (fn ((v1,v2,(IntKind.wrap .i64 (v3+1)),()),(()),(()))) (fe ((v1,v2,v3,()),(()),(())))) none) (fe ((v1,v2,v3,()),(()),(())))
def lr (s:ka.D):Option (ka.D⊕bu.D pN):=pO s.1.1 s.1.2.1 s.1.2.2.1 (fun s=>some (.inl s)) (fun e=>some (.inr e))
def w9:ka.D→Option (bu.D pN):=jm lr
theorem LH {ρ:Type} (s:ka.D) (fn:ka.D→Option ρ) (fe:bu.D pN→Option ρ):pO s.1.1 s.1.2.1 s.1.2.2.1 fn fe=(lr s).bind (Sum.elim fn fe):=by
 simp only [lr,pO,ak,am,Option.bind_none,Option.bind_assoc,Option.bind_some,Sum.elim_inl,Sum.elim_inr]
abbrev Ih:dp:=dy [] [0,1,5] ka pN w9
theorem Jy (s:ka.D):eL Θ (aR Ox) (aU []) tC (ka.mk' s) (dn [0,1,5] [0,1,5] fun x S=>some (x,S))=(lr s).bind (Sum.elim (fun s'=>some (.nor,ka.mk' s')) fun e=>some (bu.e pN e)):=
 Eq.trans (by kernel_rfl:_=pO s.1.1 s.1.2.1 s.1.2.2.1 (fun s'=>some (.nor,ka.mk' s')) (fun e=>some (bu.e pN e))) (LH s _ _)
theorem Jz:cf Tryz.prog tC Ih:=bc aV FK af (by kernel_rfl) (dM (by kernel_rfl:_= []) ah) [] [0,1,5] [0,1,5] ka pN (by kernel_rfl) lr Jy w9 (gH lr) (aP lr)
def vT {ρ:Type} (a0:List Int) (a1:Int) (k: (List Int)×Unit→Option ρ):Option ρ:=
 (w9 ((a0,a1,0,()),(()),(()))).bind fun e5=>br (decide (e5.1.2.2.1 < (e5.1.1.length:Int))) (an (0≤e5.1.2.2.1) ((e5.1.1[e5.1.2.2.1.toNat]?).bind fun x6=>br (x6==e5.1.2.1) (an ((([]:List Int)++e5.1.1).length*8≤2 ^ 40) (k ((([]:List Int)++e5.1.1),())) none) (an (0≤(0:Int)∧(0:Int)≤e5.1.2.2.1∧e5.1.2.2.1≤(e5.1.1.length:Int)) (an ((([]:List Int)++((e5.1.1.drop (0:Int).toNat).take (e5.1.2.2.1.toNat - (0:Int).toNat))).length*8≤2 ^ 40) (an (((([]:List Int)++((e5.1.1.drop (0:Int).toNat).take (e5.1.2.2.1.toNat - (0:Int).toNat)))++([e5.1.2.1]:List Int)).length*8≤2 ^ 40) (an (0≤e5.1.2.2.1∧e5.1.2.2.1≤(e5.1.1.length:Int)∧(e5.1.1.length:Int)≤(e5.1.1.length:Int)) (an ((((([]:List Int)++((e5.1.1.drop (0:Int).toNat).take (e5.1.2.2.1.toNat - (0:Int).toNat)))++([e5.1.2.1]:List Int))++((e5.1.1.drop e5.1.2.2.1.toNat).take ((e5.1.1.length:Int).toNat - e5.1.2.2.1.toNat))).length*8≤2 ^ 40) (k ((((([]:List Int)++((e5.1.1.drop (0:Int).toNat).take (e5.1.2.2.1.toNat - (0:Int).toNat)))++([e5.1.2.1]:List Int))++((e5.1.1.drop e5.1.2.2.1.toNat).take ((e5.1.1.length:Int).toNat - e5.1.2.2.1.toNat))),())) none) none) none) none) none)) none) (an (0≤(0:Int)∧(0:Int)≤e5.1.2.2.1∧e5.1.2.2.1≤(e5.1.1.length:Int)) (an ((([]:List Int)++((e5.1.1.drop (0:Int).toNat).take (e5.1.2.2.1.toNat - (0:Int).toNat))).length*8≤2 ^ 40) (an (((([]:List Int)++((e5.1.1.drop (0:Int).toNat).take (e5.1.2.2.1.toNat - (0:Int).toNat)))++([e5.1.2.1]:List Int)).length*8≤2 ^ 40) (an (0≤e5.1.2.2.1∧e5.1.2.2.1≤(e5.1.1.length:Int)∧(e5.1.1.length:Int)≤(e5.1.1.length:Int)) (an ((((([]:List Int)++((e5.1.1.drop (0:Int).toNat).take (e5.1.2.2.1.toNat - (0:Int).toNat)))++([e5.1.2.1]:List Int))++((e5.1.1.drop e5.1.2.2.1.toNat).take ((e5.1.1.length:Int).toNat - e5.1.2.2.1.toNat))).length*8≤2 ^ 40) (k ((((([]:List Int)++((e5.1.1.drop (0:Int).toNat).take (e5.1.2.2.1.toNat - (0:Int).toNat)))++([e5.1.2.1]:List Int))++((e5.1.1.drop e5.1.2.2.1.toNat).take ((e5.1.1.length:Int).toNat - e5.1.2.2.1.toNat))),())) none) none) none) none) none)
def sr (a0:List Int) (a1:Int):Option ((List Int)×Unit):=vT a0 a1 some
theorem Pr {ρ:Type} (a0:List Int) (a1:Int) (k: (List Int)×Unit→Option ρ):vT a0 a1 k=(sr a0 a1).bind k:=by
 simp only [sr,vT,ak,am,Option.bind_none,Option.bind_assoc,Option.bind_some]
abbrev JA:bF:=bV [.ty (.ls (.i .i64)), .ty (.i .i64)] [.ls (.i .i64)] fun x=>sr x.1 x.2.1
theorem Oy:aH Tryz.prog 148 JA:=
 al (Λ:=aU [(b7 tC,Ih)]) (fn:=Tryz.f148) aV FK af (by kernel_rfl) (aM (by kernel_rfl:_= [tC]) (aO (q:=b7 tC) rfl Jz fun _ _ _=>by kernel_rfl)) (by kernel_rfl) (fun x=>sr x.1 x.2.1)
  (fun x=>Eq.trans (by kernel_rfl:_=vT x.1 x.2.1 (fun y=>ret (aI [.ls (.i .i64)] y) fun v g=>some (v,g))) (Pr x.1 x.2.1 _)) fun _ _ h=>h
abbrev uN:List (Nat×bF):= [(51,qj),(148,JA)]
theorem rv:ax Tryz.prog (aR uN):=ae sq <| ae Oy <| aj _
noncomputable abbrev jq:Code:=cm (cg Tryz.f128) 0
abbrev cL:eG:=⟨[(0, .cl (.ro (.i .i64))),(1, .cl (.ro (.i .i64))),(5, .cl (.own 0 (.i .i64))),(6, .cl (.int .i64))],[],[.i .i64],0,27⟩
abbrev fh:List (X×eG):= [(.ext 0,⟨[(5, .cl (.own 0 (.i .i64)))],[],[.i .i64],0,27⟩)]
def fK {ρ:Type} (v1:List Int) (v2:List Int) (v3:List Int) (v4:Int) (fn: (((List Int)×(List Int)×Unit×Int×Unit)×(Unit)×((List Int)×Unit))→Option ρ) (fe: ((Unit×Unit)×(Unit)×((List Int)×Unit))→Option ρ):Option ρ:=
 br (decide (v4 < (v2.length:Int))) (an (0≤v4) ((v2[v4.toNat]?).bind fun x5=>(gm v3 x5).bind fun y6=>br y6.1 (an (0≤v4) ((v2[v4.toNat]?).bind fun x7=>(sr v1 x7).bind fun y8=>fn ((v2,v3,(),(IntKind.wrap .i64 (v4+1)),()),(()),(y8.1,()))) none) (fn ((v2,v3,(),(IntKind.wrap .i64 (v4+1)),()),(()),(v1,())))) none) (fe (((),()),(()),(v1,())))
def dh (s:cL.D):Option (cL.D⊕bu.D fh):=fK s.2.2.1 s.1.1 s.1.2.1 s.1.2.2.2.1 (fun s=>some (.inl s)) (fun e=>some (.inr e))
def lJ:cL.D→Option (bu.D fh):=jm dh
theorem xh {ρ:Type} (s:cL.D) (fn:cL.D→Option ρ) (fe:bu.D fh→Option ρ):fK s.2.2.1 s.1.1 s.1.2.1 s.1.2.2.2.1 fn fe=(dh s).bind (Sum.elim fn fe):=by
 simp only [dh,fK,ak,am,Option.bind_none,Option.bind_assoc,Option.bind_some,Sum.elim_inl,Sum.elim_inr]
abbrev sw:dp:=dy [] [0,1,5,6] cL fh lJ
theorem vU (s:cL.D):eL Θ (aR uN) (aU []) jq (cL.mk' s) (dn [0,1,5,6] [5] fun x S=>some (x,S))=(dh s).bind (Sum.elim (fun s'=>some (.nor,cL.mk' s')) fun e=>some (bu.e fh e)):=
 Eq.trans (by kernel_rfl:_=fK s.2.2.1 s.1.1 s.1.2.1 s.1.2.2.2.1 (fun s'=>some (.nor,cL.mk' s')) (fun e=>some (bu.e fh e))) (xh s _ _)
theorem vV:cf Tryz.prog jq sw:=bc aV rv af (by kernel_rfl) (dM (by kernel_rfl:_= []) ah) [] [0,1,5,6] [5] cL fh (by kernel_rfl) dh vU lJ (gH dh) (aP dh)
def kb {ρ:Type} (a0:List Int) (a1:List Int) (k: (List Int)×Unit→Option ρ):Option ρ:=
 (lJ ((a0,a1,(),0,()),(()),(([]:List Int),()))).bind fun e9=>k (e9.2.2.1,())
def gK (a0:List Int) (a1:List Int):Option ((List Int)×Unit):=kb a0 a1 some
theorem Af {ρ:Type} (a0:List Int) (a1:List Int) (k: (List Int)×Unit→Option ρ):kb a0 a1 k=(gK a0 a1).bind k:=by
 simp only [gK,kb,Option.bind_assoc,Option.bind_some]
abbrev uO:bF:=bV [.ty (.ls (.i .i64)), .ty (.ls (.i .i64))] [.ls (.i .i64)] fun x=>gK x.1 x.2.1
theorem Dz:aH Tryz.prog 128 uO:=
 al (Λ:=aU [(b7 jq,sw)]) (fn:=Tryz.f128) aV rv af (by kernel_rfl) (aM (by kernel_rfl:_= [jq]) (aO (q:=b7 jq) rfl vV fun _ _ _=>by kernel_rfl)) (by kernel_rfl) (fun x=>gK x.1 x.2.1)
  (fun x=>Eq.trans (by kernel_rfl:_=kb x.1 x.2.1 (fun y=>ret (aI [.ls (.i .i64)] y) fun v g=>some (v,g))) (Af x.1 x.2.1 _)) fun _ _ h=>h
abbrev DA:List (Nat×bF):= [(120,qu),(224,Ae),(51,qj),(128,uO)]
theorem yJ:ax Tryz.prog (aR DA):=ae ru <| ae Jx <| ae sq <| ae Dz <| aj _
def iy {ρ:Type} (a0:ai) (k:Bool×Unit→Option ρ):Option ρ:=
 (eM a0.epoch 1 20).bind fun y1=>br y1.1 ((hO a0.replicas).bind fun y2=>br y2.1 ((hO a0.witnesses).bind fun y3=>br y3.1 ((gm a0.replicas a0.primary).bind fun y4=>br y4.1 ((gK a0.replicas a0.witnesses).bind fun y5=>k (((y5.1.length:Int)==0),())) (k (false,()))) (k (false,()))) (k (false,()))) (k (false,()))
def cq (a0:ai):Option (Bool×Unit):=iy a0 some
theorem Ag {ρ:Type} (a0:ai) (k:Bool×Unit→Option ρ):iy a0 k=(cq a0).bind k:=by
 simp only [cq,iy,ak,Option.bind_assoc,Option.bind_some]
abbrev qv:bF:=bV [.ty (.st .config)] [.b] fun x=>cq x.1
theorem uP:aH Tryz.prog 169 qv:=
 al (Λ:=aU []) (fn:=Tryz.f169) aV yJ af (by kernel_rfl) (aM (by kernel_rfl:_= []) ah) (by kernel_rfl) (fun x=>cq x.1)
  (fun x=>Eq.trans (by kernel_rfl:_=iy x.1 (fun y=>ret (aI [.b] y) fun v g=>some (v,g))) (Ag x.1 _)) fun _ _ h=>h
abbrev xR:List (Nat×bF):= [(169,qv),(120,qu)]
theorem tD:ax Tryz.prog (aR xR):=ae uP <| ae ru <| aj _
noncomputable abbrev kW:Code:=cm (cg Tryz.f122) 0
abbrev dA:eG:=⟨[(1, .cl (.ptr 0 0)),(3, .cl (.int .i64))],[[.ro (.st .config), .int .i64]],[],0,35⟩
abbrev gM:List (X×eG):= [(.ret,⟨[(1, .cl (.ptr 0 0)),(2, .cl (.bl))],[[.ro (.st .config), .int .i64]],[],0,35⟩),(.ext 0,⟨[(1, .cl (.ptr 0 0)),(2, .cl (.dead))],[[.ro (.st .config), .int .i64]],[],0,35⟩)]
def ed {ρ:Type} (v1:Int) (v2:List ai) (v3:Int) (fn: ((Unit×Int×Unit)×(((List ai)×Int×Unit)×Unit)×(Unit))→Option ρ) (fe: ((Unit×Bool×Unit)×(((List ai)×Int×Unit)×Unit)×(Unit))⊕((Unit×Unit×Unit)×(((List ai)×Int×Unit)×Unit)×(Unit))→Option ρ):Option ρ:=
 br (decide (v1 < (v2.length:Int))) (an (0≤v1) ((v2[v1.toNat]?).bind fun x4=>(cq x4).bind fun y5=>br (!y5.1) (fe (.inl (((),false,()),((v2,v3,()),()),(())))) (an (0≤v1) ((v2[v1.toNat]?).bind fun x6=>br (!(x6.epoch==(IntKind.wrap .i64 (v1+1)))) (fe (.inl (((),false,()),((v2,v3,()),()),(())))) (fn (((),(IntKind.wrap .i64 (v1+1)),()),((v2,v3,()),()),(())))) none)) none) (fe (.inr (((),(),()),((v2,v3,()),()),(()))))
def bU (s:dA.D):Option (dA.D⊕bu.D gM):=ed s.1.2.1 s.2.1.1.1 s.2.1.1.2.1 (fun s=>some (.inl s)) (fun e=>some (.inr e))
def gO:dA.D→Option (bu.D gM):=jm bU
theorem Ah {ρ:Type} (s:dA.D) (fn:dA.D→Option ρ) (fe:bu.D gM→Option ρ):ed s.1.2.1 s.2.1.1.1 s.2.1.1.2.1 fn fe=(bU s).bind (Sum.elim fn fe):=by
 simp only [bU,ed,ak,am,Option.bind_none,Option.bind_assoc,Option.bind_some,Sum.elim_inl,Sum.elim_inr]
abbrev uQ:dp:=dy [] [1,3] dA gM gO
theorem yK (s:dA.D):eL Θ (aR xR) (aU []) kW (dA.mk' s) (dn [1,3] [1,2] fun x S=>some (x,S))=(bU s).bind (Sum.elim (fun s'=>some (.nor,dA.mk' s')) fun e=>some (bu.e gM e)):=
 Eq.trans (by kernel_rfl:_=ed s.1.2.1 s.2.1.1.1 s.2.1.1.2.1 (fun s'=>some (.nor,dA.mk' s')) (fun e=>some (bu.e gM e))) (Ah s _ _)
theorem yL:cf Tryz.prog kW uQ:=bc aV tD af (by kernel_rfl) (dM (by kernel_rfl:_= []) ah) [] [1,3] [1,2] dA gM (by kernel_rfl) bU yK gO (gH bU) (aP bU)
def ke {ρ:Type} (a0:ay) (k:Bool×Unit→Option ρ):Option ρ:=
 (gO (((),0,()),((a0.configs,a0.activated,()),()),(()))).bind fun e7=>Sum.elim (fun e7_=>k (e7_.1.2.1,())) (fun e7_=>(eM e7_.2.1.1.2.1 0 (e7_.2.1.1.1.length:Int)).bind fun y8=>k (y8.1,())) e7
def dY (a0:ay):Option (Bool×Unit):=ke a0 some
theorem DB {ρ:Type} (a0:ay) (k:Bool×Unit→Option ρ):ke a0 k=(dY a0).bind k:=by
 simp only [dY,ke,co,Option.bind_assoc,Option.bind_some]
abbrev s3:bF:=bV [.ty (.st .masterLog)] [.b] fun x=>dY x.1
theorem xS:aH Tryz.prog 122 s3:=
 al (Λ:=aU [(b7 kW,uQ)]) (fn:=Tryz.f122) aV tD af (by kernel_rfl) (aM (by kernel_rfl:_= [kW]) (aO (q:=b7 kW) rfl yL fun _ _ _=>by kernel_rfl)) (by kernel_rfl) (fun x=>dY x.1)
  (fun x=>Eq.trans (by kernel_rfl:_=ke x.1 (fun y=>ret (aI [.b] y) fun v g=>some (v,g))) (DB x.1 _)) fun _ _ h=>h
abbrev Ri:List (Nat×bF):= []
theorem LI:ax Tryz.prog (aR Ri):=aj _
def rf {ρ:Type} (a0:ai) (k:ai×Unit→Option ρ):Option ρ:=
 an ((([]:List Int)++a0.replicas).length*8≤2 ^ 40) (an ((([]:List Int)++a0.witnesses).length*8≤2 ^ 40) (k ((⟨a0.epoch,a0.primary,(([]:List Int)++a0.replicas),(([]:List Int)++a0.witnesses)⟩:ai),())) none) none
def pa (a0:ai):Option (ai×Unit):=rf a0 some
theorem Nv {ρ:Type} (a0:ai) (k:ai×Unit→Option ρ):rf a0 k=(pa a0).bind k:=by
 simp only [pa,rf,am,Option.bind_none,Option.bind_some]
abbrev LJ:bF:=bV [.ty (.st .config)] [.st .config] fun x=>pa x.1
theorem Rj:aH Tryz.prog 170 LJ:=
 al (Λ:=aU []) (fn:=Tryz.f170) aV LI af (by kernel_rfl) (aM (by kernel_rfl:_= []) ah) (by kernel_rfl) (fun x=>pa x.1)
  (fun x=>Eq.trans (by kernel_rfl:_=rf x.1 (fun y=>ret (aI [.st .config] y) fun v g=>some (v,g))) (Nv x.1 _)) fun _ _ h=>h
abbrev Nw:List (Nat×bF):= [(122,s3),(120,qu),(170,LJ)]
theorem Hl:ax Tryz.prog (aR Nw):=ae xS <| ae ru <| ae Rj <| aj _
def oJ {ρ:Type} (a0:ay) (a1:Int) (k:ai×Bool×Unit→Option ρ):Option ρ:=
 (dY a0).bind fun y1=>br (!y1.1) (k ((⟨0,0,([]:List Int),([]:List Int)⟩:ai),false,())) ((eM a1 1 (a0.configs.length:Int)).bind fun y2=>br (!y2.1) (k ((⟨0,0,([]:List Int),([]:List Int)⟩:ai),false,())) (an (0≤(IntKind.wrap .i64 (a1 - 1))) ((a0.configs[(IntKind.wrap .i64 (a1 - 1)).toNat]?).bind fun x3=>(pa x3).bind fun y4=>k (y4.1,true,())) none))
def jN (a0:ay) (a1:Int):Option (ai×Bool×Unit):=oJ a0 a1 some
theorem JB {ρ:Type} (a0:ay) (a1:Int) (k:ai×Bool×Unit→Option ρ):oJ a0 a1 k=(jN a0 a1).bind k:=by
 simp only [jN,oJ,ak,am,Option.bind_none,Option.bind_assoc,Option.bind_some]
abbrev yM:bF:=bV [.ty (.st .masterLog), .ty (.i .i64)] [.st .config, .b] fun x=>jN x.1 x.2.1
theorem FL:aH Tryz.prog 127 yM:=
 al (Λ:=aU []) (fn:=Tryz.f127) aV Hl af (by kernel_rfl) (aM (by kernel_rfl:_= []) ah) (by kernel_rfl) (fun x=>jN x.1 x.2.1)
  (fun x=>Eq.trans (by kernel_rfl:_=oJ x.1 x.2.1 (fun y=>ret (aI [.st .config, .b] y) fun v g=>some (v,g))) (JB x.1 x.2.1 _)) fun _ _ h=>h
abbrev DC:List (Nat×bF):= [(127,yM)]
theorem yN:ax Tryz.prog (aR DC):=ae FL <| aj _
def iz {ρ:Type} (a0:ay) (k:ai×Bool×Unit→Option ρ):Option ρ:=
 (jN a0 a0.activated).bind fun y1=>k (y1.1,y1.2.1,())
def eH (a0:ay):Option (ai×Bool×Unit):=iz a0 some
theorem Ai {ρ:Type} (a0:ay) (k:ai×Bool×Unit→Option ρ):iz a0 k=(eH a0).bind k:=by
 simp only [eH,iz,Option.bind_assoc,Option.bind_some]
abbrev uR:bF:=bV [.ty (.st .masterLog)] [.st .config, .b] fun x=>eH x.1
theorem DD:aH Tryz.prog 50 uR:=
 al (Λ:=aU []) (fn:=Tryz.f50) aV yN af (by kernel_rfl) (aM (by kernel_rfl:_= []) ah) (by kernel_rfl) (fun x=>eH x.1)
  (fun x=>Eq.trans (by kernel_rfl:_=iz x.1 (fun y=>ret (aI [.st .config, .b] y) fun v g=>some (v,g))) (Ai x.1 _)) fun _ _ h=>h
abbrev FM:List (Nat×bF):= [(120,qu)]
theorem xT:ax Tryz.prog (aR FM):=ae ru <| aj _
noncomputable abbrev pb:Code:=cm (cg Tryz.f121) 0
abbrev fi:eG:=⟨[(0, .cl (.ro (.i .i64))),(3, .cl (.int .i64))],[],[],0,19⟩
abbrev kL:List (X×eG):= [(.ret,⟨[(0, .cl (.ro (.i .i64))),(2, .cl (.bl))],[],[],0,19⟩),(.ext 0,⟨[(0, .cl (.ro (.i .i64))),(2, .cl (.dead))],[],[],0,19⟩)]
def lu {ρ:Type} (v1:List Int) (v2:Int) (fn: (((List Int)×Int×Unit)×(Unit)×(Unit))→Option ρ) (fe: (((List Int)×Bool×Unit)×(Unit)×(Unit))⊕(((List Int)×Unit×Unit)×(Unit)×(Unit))→Option ρ):Option ρ:=
 br (decide (v2 < (v1.length:Int))) (an (0≤v2) ((v1[v2.toNat]?).bind fun x3=>(eM x3 0 3).bind fun y4=>br (!y4.1) (fe (.inl ((v1,false,()),(()),(())))) (fn ((v1,(IntKind.wrap .i64 (v2+1)),()),(()),(())))) none) (fe (.inr ((v1,(),()),(()),(()))))
def gk (s:fi.D):Option (fi.D⊕bu.D kL):=lu s.1.1 s.1.2.1 (fun s=>some (.inl s)) (fun e=>some (.inr e))
def pc:fi.D→Option (bu.D kL):=jm gk
theorem FN {ρ:Type} (s:fi.D) (fn:fi.D→Option ρ) (fe:bu.D kL→Option ρ):lu s.1.1 s.1.2.1 fn fe=(gk s).bind (Sum.elim fn fe):=by
 simp only [gk,lu,ak,am,Option.bind_none,Option.bind_assoc,Option.bind_some,Sum.elim_inl,Sum.elim_inr]
abbrev Aj:dp:=dy [] [0,3] fi kL pc
theorem DE (s:fi.D):eL Θ (aR FM) (aU []) pb (fi.mk' s) (dn [0,3] [0,2] fun x S=>some (x,S))=(gk s).bind (Sum.elim (fun s'=>some (.nor,fi.mk' s')) fun e=>some (bu.e kL e)):=
 Eq.trans (by kernel_rfl:_=lu s.1.1 s.1.2.1 (fun s'=>some (.nor,fi.mk' s')) (fun e=>some (bu.e kL e))) (FN s _ _)
theorem DF:cf Tryz.prog pb Aj:=bc aV xT af (by kernel_rfl) (dM (by kernel_rfl:_= []) ah) [] [0,3] [0,2] fi kL (by kernel_rfl) gk DE pc (gH gk) (aP gk)
def qk {ρ:Type} (a0:List Int) (k:Bool×Unit→Option ρ):Option ρ:=
 (pc ((a0,0,()),(()),(()))).bind fun e5=>Sum.elim (fun e5_=>k (e5_.1.2.1,())) (fun e5_=>k (((e5_.1.1.length:Int)==5),())) e5
def mh (a0:List Int):Option (Bool×Unit):=qk a0 some
theorem JC {ρ:Type} (a0:List Int) (k:Bool×Unit→Option ρ):qk a0 k=(mh a0).bind k:=by
 simp only [mh,qk,co,Option.bind_assoc,Option.bind_some]
abbrev FO:bF:=bV [.ty (.ls (.i .i64))] [.b] fun x=>mh x.1
theorem Nx:aH Tryz.prog 121 FO:=
 al (Λ:=aU [(b7 pb,Aj)]) (fn:=Tryz.f121) aV xT af (by kernel_rfl) (aM (by kernel_rfl:_= [pb]) (aO (q:=b7 pb) rfl DF fun _ _ _=>by kernel_rfl)) (by kernel_rfl) (fun x=>mh x.1)
  (fun x=>Eq.trans (by kernel_rfl:_=qk x.1 (fun y=>ret (aI [.b] y) fun v g=>some (v,g))) (JC x.1 _)) fun _ _ h=>h
abbrev Ps:List (Nat×bF):= [(120,qu)]
theorem JD:ax Tryz.prog (aR Ps):=ae ru <| aj _
def rx {ρ:Type} (a0:kV) (k:Bool×Unit→Option ρ):Option ρ:=
 br ((a0.epoch==0)&&((a0.holder==0)&&((a0.ends==0)&&true))) (k (true,())) ((eM a0.epoch 1 20).bind fun y1=>br y1.1 ((eM a0.holder 0 4).bind fun y2=>br y2.1 ((eM a0.ends 1 1049).bind fun y3=>k (y3.1,())) (k (false,()))) (k (false,())))
def oK (a0:kV):Option (Bool×Unit):=rx a0 some
theorem LK {ρ:Type} (a0:kV) (k:Bool×Unit→Option ρ):rx a0 k=(oK a0).bind k:=by
 simp only [oK,rx,ak,Option.bind_assoc,Option.bind_some]
abbrev Ii:bF:=bV [.ty (.st .lease)] [.b] fun x=>oK x.1
theorem Pt:aH Tryz.prog 123 Ii:=
 al (Λ:=aU []) (fn:=Tryz.f123) aV JD af (by kernel_rfl) (aM (by kernel_rfl:_= []) ah) (by kernel_rfl) (fun x=>oK x.1)
  (fun x=>Eq.trans (by kernel_rfl:_=rx x.1 (fun y=>ret (aI [.b] y) fun v g=>some (v,g))) (LK x.1 _)) fun _ _ h=>h
abbrev C0:List (Nat×bF):= [(120,qu)]
theorem vW:ax Tryz.prog (aR C0):=ae ru <| aj _
noncomputable abbrev nK:Code:=cm (cg Tryz.f124) 0
abbrev ez:eG:=⟨[(0, .cl (.ro (.st .place))),(3, .cl (.int .i64))],[],[],0,38⟩
abbrev jO:List (X×eG):= [(.ret,⟨[(0, .cl (.ro (.st .place))),(2, .cl (.bl))],[],[],0,38⟩),(.ext 0,⟨[(0, .cl (.ro (.st .place))),(2, .cl (.dead))],[],[],0,38⟩)]
def kf {ρ:Type} (v1:List bz) (v2:Int) (fn: (((List bz)×Int×Unit)×(Unit)×(Unit))→Option ρ) (fe: (((List bz)×Bool×Unit)×(Unit)×(Unit))⊕(((List bz)×Unit×Unit)×(Unit)×(Unit))→Option ρ):Option ρ:=
 br (decide (v2 < (v1.length:Int))) (an (0≤v2) ((v1[v2.toNat]?).bind fun x3=>(eM x3.rack 0 9).bind fun y4=>br (!y4.1) (fe (.inl ((v1,false,()),(()),(())))) (an (0≤v2) ((v1[v2.toNat]?).bind fun x5=>(eM x5.capacity 0 9).bind fun y6=>br (!y6.1) (fe (.inl ((v1,false,()),(()),(())))) (an (0≤v2) ((v1[v2.toNat]?).bind fun x7=>(eM x7.load 0 99).bind fun y8=>br (!y8.1) (fe (.inl ((v1,false,()),(()),(())))) (fn ((v1,(IntKind.wrap .i64 (v2+1)),()),(()),(())))) none)) none)) none) (fe (.inr ((v1,(),()),(()),(()))))
def eZ (s:ez.D):Option (ez.D⊕bu.D jO):=kf s.1.1 s.1.2.1 (fun s=>some (.inl s)) (fun e=>some (.inr e))
def nL:ez.D→Option (bu.D jO):=jm eZ
theorem DG {ρ:Type} (s:ez.D) (fn:ez.D→Option ρ) (fe:bu.D jO→Option ρ):kf s.1.1 s.1.2.1 fn fe=(eZ s).bind (Sum.elim fn fe):=by
 simp only [eZ,kf,ak,am,Option.bind_none,Option.bind_assoc,Option.bind_some,Sum.elim_inl,Sum.elim_inr]
abbrev xU:dp:=dy [] [0,3] ez jO nL
theorem BO (s:ez.D):eL Θ (aR C0) (aU []) nK (ez.mk' s) (dn [0,3] [0,2] fun x S=>some (x,S))=(eZ s).bind (Sum.elim (fun s'=>some (.nor,ez.mk' s')) fun e=>some (bu.e jO e)):=
 Eq.trans (by kernel_rfl:_=kf s.1.1 s.1.2.1 (fun s'=>some (.nor,ez.mk' s')) (fun e=>some (bu.e jO e))) (DG s _ _)
theorem BP:cf Tryz.prog nK xU:=bc aV vW af (by kernel_rfl) (dM (by kernel_rfl:_= []) ah) [] [0,3] [0,2] ez jO (by kernel_rfl) eZ BO nL (gH eZ) (aP eZ)
def pd {ρ:Type} (a0:List bz) (k:Bool×Unit→Option ρ):Option ρ:=
 (nL ((a0,0,()),(()),(()))).bind fun e9=>Sum.elim (fun e9_=>k (e9_.1.2.1,())) (fun e9_=>k (((e9_.1.1.length:Int)==5),())) e9
def kD (a0:List bz):Option (Bool×Unit):=pd a0 some
theorem Hm {ρ:Type} (a0:List bz) (k:Bool×Unit→Option ρ):pd a0 k=(kD a0).bind k:=by
 simp only [kD,pd,co,Option.bind_assoc,Option.bind_some]
abbrev C1:bF:=bV [.ty (.ls (.st .place))] [.b] fun x=>kD x.1
theorem LL:aH Tryz.prog 124 C1:=
 al (Λ:=aU [(b7 nK,xU)]) (fn:=Tryz.f124) aV vW af (by kernel_rfl) (aM (by kernel_rfl:_= [nK]) (aO (q:=b7 nK) rfl BP fun _ _ _=>by kernel_rfl)) (by kernel_rfl) (fun x=>kD x.1)
  (fun x=>Eq.trans (by kernel_rfl:_=pd x.1 (fun y=>ret (aI [.b] y) fun v g=>some (v,g))) (Hm x.1 _)) fun _ _ h=>h
abbrev LM:List (Nat×bF):= [(120,qu)]
theorem FP:ax Tryz.prog (aR LM):=ae ru <| aj _
def pe {ρ:Type} (a0:Op) (k:Bool×Unit→Option ρ):Option ρ:=
 (eM a0.client 0 2).bind fun y1=>br (!y1.1) (k (false,())) ((eM a0.seq 1 99).bind fun y2=>br (!y2.1) (k (false,())) ((eM a0.object 0 2).bind fun y3=>br (!y3.1) (k (false,())) ((eM a0.value 0 9).bind fun y4=>br (!y4.1) (k (false,())) (br (a0.kind==1) (br (a0.old==0) (k (true,())) (br (a0.kind==2) ((eM a0.old 0 9).bind fun y5=>k (y5.1,())) (k (false,())))) (br (a0.kind==2) ((eM a0.old 0 9).bind fun y6=>k (y6.1,())) (k (false,())))))))
def mi (a0:Op):Option (Bool×Unit):=pe a0 some
theorem Hn {ρ:Type} (a0:Op) (k:Bool×Unit→Option ρ):pe a0 k=(mi a0).bind k:=by
 simp only [mi,pe,ak,Option.bind_assoc,Option.bind_some]
abbrev C2:bF:=bV [.ty (.st .op)] [.b] fun x=>mi x.1
theorem LN:aH Tryz.prog 225 C2:=
 al (Λ:=aU []) (fn:=Tryz.f225) aV FP af (by kernel_rfl) (aM (by kernel_rfl:_= []) ah) (by kernel_rfl) (fun x=>mi x.1)
  (fun x=>Eq.trans (by kernel_rfl:_=pe x.1 (fun y=>ret (aI [.b] y) fun v g=>some (v,g))) (Hn x.1 _)) fun _ _ h=>h
abbrev Oz:List (Nat×bF):= [(120,qu),(225,C2)]
theorem FQ:ax Tryz.prog (aR Oz):=ae ru <| ae LN <| aj _
noncomputable abbrev tE:Code:=cm (cg Tryz.f172) 0
abbrev kg:eG:=⟨[(0, .cl (.ro (.st .entry))),(3, .cl (.int .i64))],[],[],0,47⟩
abbrev pP:List (X×eG):= [(.ret,⟨[(0, .cl (.ro (.st .entry))),(2, .cl (.bl))],[],[],0,47⟩),(.ext 0,⟨[(0, .cl (.ro (.st .entry))),(2, .cl (.dead))],[],[],0,47⟩)]
def pQ {ρ:Type} (v1:List bh) (v2:Int) (fn: (((List bh)×Int×Unit)×(Unit)×(Unit))→Option ρ) (fe: (((List bh)×Bool×Unit)×(Unit)×(Unit))⊕(((List bh)×Unit×Unit)×(Unit)×(Unit))→Option ρ):Option ρ:=
 br (decide (v2 < (v1.length:Int))) (an (0≤v2) ((v1[v2.toNat]?).bind fun x3=>(eM x3.epoch 1 20).bind fun y4=>br (!y4.1) (fe (.inl ((v1,false,()),(()),(())))) (an (0≤v2) ((v1[v2.toNat]?).bind fun x5=>(mi x5.op).bind fun y6=>br (!y6.1) (fe (.inl ((v1,false,()),(()),(())))) (br (decide (v2 > 0)) (an (0≤(IntKind.wrap .i64 (v2 - 1))) ((v1[(IntKind.wrap .i64 (v2 - 1)).toNat]?).bind fun x7=>an (0≤v2) ((v1[v2.toNat]?).bind fun x8=>br (decide (x7.epoch > x8.epoch)) (fe (.inl ((v1,false,()),(()),(())))) (fn ((v1,(IntKind.wrap .i64 (v2+1)),()),(()),(())))) none) none) (fn ((v1,(IntKind.wrap .i64 (v2+1)),()),(()),(()))))) none)) none) (fe (.inr ((v1,(),()),(()),(()))))
def lw (s:kg.D):Option (kg.D⊕bu.D pP):=pQ s.1.1 s.1.2.1 (fun s=>some (.inl s)) (fun e=>some (.inr e))
def tF:kg.D→Option (bu.D pP):=jm lw
theorem LO {ρ:Type} (s:kg.D) (fn:kg.D→Option ρ) (fe:bu.D pP→Option ρ):pQ s.1.1 s.1.2.1 fn fe=(lw s).bind (Sum.elim fn fe):=by
 simp only [lw,pQ,ak,am,Option.bind_none,Option.bind_assoc,Option.bind_some,Sum.elim_inl,Sum.elim_inr]
abbrev Ij:dp:=dy [] [0,3] kg pP tF
theorem JE (s:kg.D):eL Θ (aR Oz) (aU []) tE (kg.mk' s) (dn [0,3] [0,2] fun x S=>some (x,S))=(lw s).bind (Sum.elim (fun s'=>some (.nor,kg.mk' s')) fun e=>some (bu.e pP e)):=
 Eq.trans (by kernel_rfl:_=pQ s.1.1 s.1.2.1 (fun s'=>some (.nor,kg.mk' s')) (fun e=>some (bu.e pP e))) (LO s _ _)
theorem JF:cf Tryz.prog tE Ij:=bc aV FQ af (by kernel_rfl) (dM (by kernel_rfl:_= []) ah) [] [0,3] [0,2] kg pP (by kernel_rfl) lw JE tF (gH lw) (aP lw)
def vX {ρ:Type} (a0:List bh) (k:Bool×Unit→Option ρ):Option ρ:=
 (tF ((a0,0,()),(()),(()))).bind fun e9=>Sum.elim (fun e9_=>k (e9_.1.2.1,())) (fun e9_=>k ((decide ((e9_.1.1.length:Int)≤16)),())) e9
def qU (a0:List bh):Option (Bool×Unit):=vX a0 some
theorem Pu {ρ:Type} (a0:List bh) (k:Bool×Unit→Option ρ):vX a0 k=(qU a0).bind k:=by
 simp only [qU,vX,co,Option.bind_assoc,Option.bind_some]
abbrev OA:bF:=bV [.ty (.ls (.st .entry))] [.b] fun x=>qU x.1
theorem S4:aH Tryz.prog 172 OA:=
 al (Λ:=aU [(b7 tE,Ij)]) (fn:=Tryz.f172) aV FQ af (by kernel_rfl) (aM (by kernel_rfl:_= [tE]) (aO (q:=b7 tE) rfl JF fun _ _ _=>by kernel_rfl)) (by kernel_rfl) (fun x=>qU x.1)
  (fun x=>Eq.trans (by kernel_rfl:_=vX x.1 (fun y=>ret (aI [.b] y) fun v g=>some (v,g))) (Pu x.1 _)) fun _ _ h=>h
abbrev vY:List (Nat×bF):= []
theorem sx:ax Tryz.prog (aR vY):=aj _
noncomputable abbrev kh:Code:=cm (cg Tryz.f159) 0
abbrev dc:eG:=⟨[(0, .cl (.ro (.i .i64))),(1, .cl (.ro (.i .i64))),(5, .cl (.int .i64))],[],[],0,26⟩
abbrev fL:List (X×eG):= [(.ret,⟨[(4, .cl (.bl))],[],[],0,26⟩),(.ext 0,⟨[(4, .cl (.dead))],[],[],0,26⟩)]
def gy {ρ:Type} (v1:List Int) (v2:List Int) (v3:Int) (fn: (((List Int)×(List Int)×Int×Unit)×(Unit)×(Unit))→Option ρ) (fe: ((Bool×Unit)×(Unit)×(Unit))⊕((Unit×Unit)×(Unit)×(Unit))→Option ρ):Option ρ:=
 br (decide (v3 < (v1.length:Int))) (an (0≤v3) ((v1[v3.toNat]?).bind fun x4=>an (0≤v3) ((v2[v3.toNat]?).bind fun x5=>br (!(x4==x5)) (fe (.inl ((false,()),(()),(())))) (fn ((v1,v2,(IntKind.wrap .i64 (v3+1)),()),(()),(())))) none) none) (fe (.inr (((),()),(()),(()))))
def dF (s:dc.D):Option (dc.D⊕bu.D fL):=gy s.1.1 s.1.2.1 s.1.2.2.1 (fun s=>some (.inl s)) (fun e=>some (.inr e))
def ki:dc.D→Option (bu.D fL):=jm dF
theorem yO {ρ:Type} (s:dc.D) (fn:dc.D→Option ρ) (fe:bu.D fL→Option ρ):gy s.1.1 s.1.2.1 s.1.2.2.1 fn fe=(dF s).bind (Sum.elim fn fe):=by
 simp only [dF,gy,ak,am,Option.bind_none,Option.bind_assoc,Option.bind_some,Sum.elim_inl,Sum.elim_inr]
abbrev tG:dp:=dy [] [0,1,5] dc fL ki
theorem xi (s:dc.D):eL Θ (aR vY) (aU []) kh (dc.mk' s) (dn [0,1,5] [4] fun x S=>some (x,S))=(dF s).bind (Sum.elim (fun s'=>some (.nor,dc.mk' s')) fun e=>some (bu.e fL e)):=
 Eq.trans (by kernel_rfl:_=gy s.1.1 s.1.2.1 s.1.2.2.1 (fun s'=>some (.nor,dc.mk' s')) (fun e=>some (bu.e fL e))) (yO s _ _)
theorem xj:cf Tryz.prog kh tG:=bc aV sx af (by kernel_rfl) (dM (by kernel_rfl:_= []) ah) [] [0,1,5] [4] dc fL (by kernel_rfl) dF xi ki (gH dF) (aP dF)
def kX {ρ:Type} (a0:List Int) (a1:List Int) (k:Bool×Unit→Option ρ):Option ρ:=
 br (!((a0.length:Int)==(a1.length:Int))) (k (false,())) ((ki ((a0,a1,0,()),(()),(()))).bind fun e6=>Sum.elim (fun e6_=>k (e6_.1.1,())) (fun e6_=>k (true,())) e6)
def gn (a0:List Int) (a1:List Int):Option (Bool×Unit):=kX a0 a1 some
theorem BQ {ρ:Type} (a0:List Int) (a1:List Int) (k:Bool×Unit→Option ρ):kX a0 a1 k=(gn a0 a1).bind k:=by
 simp only [gn,kX,ak,co,Option.bind_assoc,Option.bind_some]
abbrev vZ:bF:=bV [.ty (.ls (.i .i64)), .ty (.ls (.i .i64))] [.b] fun x=>gn x.1 x.2.1
theorem FR:aH Tryz.prog 159 vZ:=
 al (Λ:=aU [(b7 kh,tG)]) (fn:=Tryz.f159) aV sx af (by kernel_rfl) (aM (by kernel_rfl:_= [kh]) (aO (q:=b7 kh) rfl xj fun _ _ _=>by kernel_rfl)) (by kernel_rfl) (fun x=>gn x.1 x.2.1)
  (fun x=>Eq.trans (by kernel_rfl:_=kX x.1 x.2.1 (fun y=>ret (aI [.b] y) fun v g=>some (v,g))) (BQ x.1 x.2.1 _)) fun _ _ h=>h
abbrev FS:List (Nat×bF):= [(159,vZ)]
theorem Ak:ax Tryz.prog (aR FS):=ae FR <| aj _
def kY {ρ:Type} (a0:ai) (a1:ai) (k:Bool×Unit→Option ρ):Option ρ:=
 br (a0.epoch==a1.epoch) (br (a0.primary==a1.primary) ((gn a0.replicas a1.replicas).bind fun y1=>br y1.1 ((gn a0.witnesses a1.witnesses).bind fun y2=>k (y2.1,())) (k (false,()))) (k (false,()))) (k (false,()))
def gp (a0:ai) (a1:ai):Option (Bool×Unit):=kY a0 a1 some
theorem BR {ρ:Type} (a0:ai) (a1:ai) (k:Bool×Unit→Option ρ):kY a0 a1 k=(gp a0 a1).bind k:=by
 simp only [gp,kY,ak,Option.bind_assoc,Option.bind_some]
abbrev ry:bF:=bV [.ty (.st .config), .ty (.st .config)] [.b] fun x=>gp x.1 x.2.1
theorem wb:aH Tryz.prog 90 ry:=
 al (Λ:=aU []) (fn:=Tryz.f90) aV Ak af (by kernel_rfl) (aM (by kernel_rfl:_= []) ah) (by kernel_rfl) (fun x=>gp x.1 x.2.1)
  (fun x=>Eq.trans (by kernel_rfl:_=kY x.1 x.2.1 (fun y=>ret (aI [.b] y) fun v g=>some (v,g))) (BR x.1 x.2.1 _)) fun _ _ h=>h
abbrev Pv:List (Nat×bF):= [(90,ry)]
theorem JG:ax Tryz.prog (aR Pv):=ae wb <| aj _
def rz {ρ:Type} (a0:ai) (k:Bool×Unit→Option ρ):Option ρ:=
 (gp a0 (⟨0,0,([]:List Int),([]:List Int)⟩:ai)).bind fun y1=>k (y1.1,())
def oL (a0:ai):Option (Bool×Unit):=rz a0 some
theorem LP {ρ:Type} (a0:ai) (k:Bool×Unit→Option ρ):rz a0 k=(oL a0).bind k:=by
 simp only [oL,rz,Option.bind_assoc,Option.bind_some]
abbrev BS:bF:=bV [.ty (.st .config)] [.b] fun x=>oL x.1
theorem Ik:aH Tryz.prog 89 BS:=
 al (Λ:=aU []) (fn:=Tryz.f89) aV JG af (by kernel_rfl) (aM (by kernel_rfl:_= []) ah) (by kernel_rfl) (fun x=>oL x.1)
  (fun x=>Eq.trans (by kernel_rfl:_=rz x.1 (fun y=>ret (aI [.b] y) fun v g=>some (v,g))) (LP x.1 _)) fun _ _ h=>h
abbrev Pw:List (Nat×bF):= []
theorem JH:ax Tryz.prog (aR Pw):=aj _
def rA {ρ:Type} (a0:List bh) (k:Int×Unit→Option ρ):Option ρ:=
 br ((a0.length:Int)==0) (k (0,())) (an (0≤(IntKind.wrap .i64 ((a0.length:Int) - 1))) ((a0[(IntKind.wrap .i64 ((a0.length:Int) - 1)).toNat]?).bind fun x1=>k (x1.epoch,())) none)
def oM (a0:List bh):Option (Int×Unit):=rA a0 some
theorem LQ {ρ:Type} (a0:List bh) (k:Int×Unit→Option ρ):rA a0 k=(oM a0).bind k:=by
 simp only [oM,rA,ak,am,Option.bind_none,Option.bind_assoc,Option.bind_some]
abbrev BT:bF:=bV [.ty (.ls (.st .entry))] [.i .i64] fun x=>oM x.1
theorem Il:aH Tryz.prog 126 BT:=
 al (Λ:=aU []) (fn:=Tryz.f126) aV JH af (by kernel_rfl) (aM (by kernel_rfl:_= []) ah) (by kernel_rfl) (fun x=>oM x.1)
  (fun x=>Eq.trans (by kernel_rfl:_=rA x.1 (fun y=>ret (aI [.i .i64] y) fun v g=>some (v,g))) (LQ x.1 _)) fun _ _ h=>h
abbrev Rk:List (Nat×bF):= [(169,qv),(51,qj)]
theorem LR:ax Tryz.prog (aR Rk):=ae uP <| ae sq <| aj _
def tH {ρ:Type} (a0:ai) (a1:Int) (k:Int×Unit→Option ρ):Option ρ:=
 (cq a0).bind fun y1=>br (!y1.1) (k (0,())) (br (a1==a0.primary) (k (1,())) ((gm a0.replicas a1).bind fun y2=>br y2.1 (k (2,())) ((gm a0.witnesses a1).bind fun y3=>br y3.1 (k (3,())) (k (0,())))))
def rB (a0:ai) (a1:Int):Option (Int×Unit):=tH a0 a1 some
theorem Ny {ρ:Type} (a0:ai) (a1:Int) (k:Int×Unit→Option ρ):tH a0 a1 k=(rB a0 a1).bind k:=by
 simp only [rB,tH,ak,Option.bind_assoc,Option.bind_some]
abbrev LS:bF:=bV [.ty (.st .config), .ty (.i .i64)] [.i .i64] fun x=>rB x.1 x.2.1
theorem Rl:aH Tryz.prog 171 LS:=
 al (Λ:=aU []) (fn:=Tryz.f171) aV LR af (by kernel_rfl) (aM (by kernel_rfl:_= []) ah) (by kernel_rfl) (fun x=>rB x.1 x.2.1)
  (fun x=>Eq.trans (by kernel_rfl:_=tH x.1 x.2.1 (fun y=>ret (aI [.i .i64] y) fun v g=>some (v,g))) (Ny x.1 x.2.1 _)) fun _ _ h=>h
abbrev DH:List (Nat×bF):= [(120,qu),(172,OA),(89,BS),(126,BT),(171,LS)]
theorem yP:ax Tryz.prog (aR DH):=ae ru <| ae S4 <| ae Ik <| ae Il <| ae Rl <| aj _
def kj {ρ:Type} (a0:aB) (a1:Int) (k:Bool×Unit→Option ρ):Option ρ:=
 (eM a0.version 1 2).bind fun y1=>br (!y1.1) (k (false,())) ((eM a0.epoch 0 20).bind fun y2=>br (!y2.1) (k (false,())) ((qU a0.log).bind fun y3=>br (!y3.1) (k (false,())) ((qU a0.learned).bind fun y4=>br (!y4.1) (k (false,())) ((eM a0.first 0 16).bind fun y5=>br (!y5.1) (k (false,())) ((eM (IntKind.wrap .i64 (a0.first+(a0.log.length:Int))) 0 16).bind fun y6=>br (!y6.1) (k (false,())) ((eM a0.commit 0 (IntKind.wrap .i64 (a0.first+(a0.log.length:Int)))).bind fun y7=>br (!y7.1) (k (false,())) ((oL a0.config).bind fun y8=>br y8.1 (br (a0.first==0) (br ((a0.log.length:Int)==0) (k ((a0.commit==0),())) (k (false,()))) (k (false,()))) (br (!a0.intact) (k (false,())) (br (decide (a0.epoch < a0.config.epoch)) (k (false,())) ((oM a0.log).bind fun y9=>br (decide (y9.1 > a0.config.epoch)) (k (false,())) ((rB a0.config a1).bind fun y10=>br (y10.1==0) (k (false,())) (br (y10.1==3) (br (decide ((a0.log.length:Int)≤3)) (br ((a0.log.length:Int)==3) (k (true,())) (k ((a0.first==0),()))) (k (false,()))) (k ((a0.first==0),()))))))))))))))
def eI (a0:aB) (a1:Int):Option (Bool×Unit):=kj a0 a1 some
theorem Al {ρ:Type} (a0:aB) (a1:Int) (k:Bool×Unit→Option ρ):kj a0 a1 k=(eI a0 a1).bind k:=by
 simp only [eI,kj,ak,Option.bind_assoc,Option.bind_some]
abbrev uS:bF:=bV [.ty (.st .server), .ty (.i .i64)] [.b] fun x=>eI x.1 x.2.1
theorem DI:aH Tryz.prog 125 uS:=
 al (Λ:=aU []) (fn:=Tryz.f125) aV yP af (by kernel_rfl) (aM (by kernel_rfl:_= []) ah) (by kernel_rfl) (fun x=>eI x.1 x.2.1)
  (fun x=>Eq.trans (by kernel_rfl:_=kj x.1 x.2.1 (fun y=>ret (aI [.b] y) fun v g=>some (v,g))) (Al x.1 x.2.1 _)) fun _ _ h=>h
abbrev tI:List (Nat×bF):= [(120,qu),(121,FO),(122,s3),(123,Ii),(124,C1),(125,uS),(126,BT),(127,yM),(89,BS),(90,ry)]
theorem qE:ax Tryz.prog (aR tI):=ae ru <| ae Nx <| ae xS <| ae Pt <| ae LL <| ae DI <| ae Il <| ae FL <| ae Ik <| ae wb <| aj _
noncomputable abbrev iP:Code:=cm (cg Tryz.f46) 0
abbrev ct:eG:=⟨[(1, .cl (.ptr 0 0)),(3, .cl (.int .i64))],[[.int .i64, .ro (.st .server), .ro (.i .i64), .ro (.st .config), .int .i64, .int .i64, .int .i64, .int .i64, .int .i64, .ro (.st .place)]],[],0,123⟩
abbrev eN:List (X×eG):= [(.ret,⟨[(2, .cl (.bl))],[],[],0,123⟩),(.ext 0,⟨[(2, .cl (.dead))],[],[],0,123⟩)]
def c9 {ρ:Type} (v7:Int) (v8:Int) (v9:List aB) (v10:List Int) (v11:List ai) (v12:Int) (v13:Int) (v14:Int) (v15:Int) (v16:Int) (v17:List bz) (fn: ((Unit×Int×Unit)×((Int×(List aB)×(List Int)×(List ai)×Int×Int×Int×Int×Int×(List bz)×Unit)×Unit)×(Unit))→Option ρ) (fe: ((Bool×Unit)×(Unit)×(Unit))⊕((Unit×Unit)×(Unit)×(Unit))→Option ρ):Option ρ:=
 br (decide (v7 < (v9.length:Int))) (an (0≤v7) ((v9[v7.toNat]?).bind fun x18=>(eI x18 v7).bind fun y19=>br (!y19.1) (fe (.inl ((false,()),(()),(())))) (br (decide (x18.epoch > (v11.length:Int))) (fe (.inl ((false,()),(()),(())))) ((oM x18.learned).bind fun y20=>br (decide (y20.1 > v12)) (fe (.inl ((false,()),(()),(())))) ((jN (⟨v11,v12⟩:ay) x18.config.epoch).bind fun y21=>(oL x18.config).bind fun y22=>br (!y22.1) (br (!y21.2.1) (fe (.inl ((false,()),(()),(())))) ((gp y21.1 x18.config).bind fun y23=>br (!y23.1) (fe (.inl ((false,()),(()),(())))) (br (decide (x18.config.epoch > v12)) (fe (.inl ((false,()),(()),(())))) (fn (((),(IntKind.wrap .i64 (v7+1)),()),((v8,v9,v10,v11,v12,v13,v14,v15,v16,v17,()),()),(())))))) (fn (((),(IntKind.wrap .i64 (v7+1)),()),((v8,v9,v10,v11,v12,v13,v14,v15,v16,v17,()),()),(()))))))) none) (fe (.inr (((),()),(()),(()))))
def bi (s:ct.D):Option (ct.D⊕bu.D eN):=c9 s.1.2.1 s.2.1.1.1 s.2.1.1.2.1 s.2.1.1.2.2.1 s.2.1.1.2.2.2.1 s.2.1.1.2.2.2.2.1 s.2.1.1.2.2.2.2.2.1 s.2.1.1.2.2.2.2.2.2.1 s.2.1.1.2.2.2.2.2.2.2.1 s.2.1.1.2.2.2.2.2.2.2.2.1 s.2.1.1.2.2.2.2.2.2.2.2.2.1 (fun s=>some (.inl s)) (fun e=>some (.inr e))
def fM:ct.D→Option (bu.D eN):=jm bi
theorem wc {ρ:Type} (s:ct.D) (fn:ct.D→Option ρ) (fe:bu.D eN→Option ρ):c9 s.1.2.1 s.2.1.1.1 s.2.1.1.2.1 s.2.1.1.2.2.1 s.2.1.1.2.2.2.1 s.2.1.1.2.2.2.2.1 s.2.1.1.2.2.2.2.2.1 s.2.1.1.2.2.2.2.2.2.1 s.2.1.1.2.2.2.2.2.2.2.1 s.2.1.1.2.2.2.2.2.2.2.2.1 s.2.1.1.2.2.2.2.2.2.2.2.2.1 fn fe=(bi s).bind (Sum.elim fn fe):=by
 simp only [bi,c9,ak,am,Option.bind_none,Option.bind_assoc,Option.bind_some,Sum.elim_inl,Sum.elim_inr]
abbrev rC:dp:=dy [] [1,3] ct eN fM
theorem vb (s:ct.D):eL Θ (aR tI) (aU []) iP (ct.mk' s) (dn [1,3] [2] fun x S=>some (x,S))=(bi s).bind (Sum.elim (fun s'=>some (.nor,ct.mk' s')) fun e=>some (bu.e eN e)):=
 Eq.trans (by kernel_rfl:_=c9 s.1.2.1 s.2.1.1.1 s.2.1.1.2.1 s.2.1.1.2.2.1 s.2.1.1.2.2.2.1 s.2.1.1.2.2.2.2.1 s.2.1.1.2.2.2.2.2.1 s.2.1.1.2.2.2.2.2.2.1 s.2.1.1.2.2.2.2.2.2.2.1 s.2.1.1.2.2.2.2.2.2.2.2.1 s.2.1.1.2.2.2.2.2.2.2.2.2.1 (fun s'=>some (.nor,ct.mk' s')) (fun e=>some (bu.e eN e))) (wc s _ _)
theorem vd:cf Tryz.prog iP rC:=bc aV qE af (by kernel_rfl) (dM (by kernel_rfl:_= []) ah) [] [1,3] [2] ct eN (by kernel_rfl) bi vb fM (gH bi) (aP bi)
def gz {ρ:Type} (a0:aG) (k:Bool×Unit→Option ρ):Option ρ:=
 (eM a0.now 0 999).bind fun y1=>br (!y1.1) (k (false,())) (br (!((a0.servers.length:Int)==5)) (k (false,())) ((mh a0.sides).bind fun y2=>br (!y2.1) (k (false,())) ((dY a0.master).bind fun y3=>br (!y3.1) (k (false,())) ((eM a0.masterUp 0 3).bind fun y4=>br (!y4.1) (k (false,())) ((oK a0.lease).bind fun y5=>br (!y5.1) (k (false,())) ((kD a0.places).bind fun y6=>br (!y6.1) (k (false,())) (br (decide (a0.lease.epoch > a0.master.activated)) (k (false,())) ((fM (((),0,()),((a0.now,a0.servers,a0.sides,a0.master.configs,a0.master.activated,a0.masterUp,a0.lease.epoch,a0.lease.holder,a0.lease.ends,a0.places,()),()),(()))).bind fun e24=>Sum.elim (fun e24_=>k (e24_.1.1,())) (fun e24_=>k (true,())) e24))))))))
def dG (a0:aG):Option (Bool×Unit):=gz a0 some
theorem yQ {ρ:Type} (a0:aG) (k:Bool×Unit→Option ρ):gz a0 k=(dG a0).bind k:=by
 simp only [dG,gz,ak,co,Option.bind_assoc,Option.bind_some]
abbrev tJ:bF:=bV [.ty (.st .cluster)] [.b] fun x=>dG x.1
theorem BU:aH Tryz.prog 46 tJ:=
 al (Λ:=aU [(b7 iP,rC)]) (fn:=Tryz.f46) aV qE af (by kernel_rfl) (aM (by kernel_rfl:_= [iP]) (aO (q:=b7 iP) rfl vd fun _ _ _=>by kernel_rfl)) (by kernel_rfl) (fun x=>dG x.1)
  (fun x=>Eq.trans (by kernel_rfl:_=gz x.1 (fun y=>ret (aI [.b] y) fun v g=>some (v,g))) (yQ x.1 _)) fun _ _ h=>h
abbrev tK:List (Nat×bF):= [(51,qj),(148,JA)]
theorem qF:ax Tryz.prog (aR tK):=ae sq <| ae Oy <| aj _
noncomputable abbrev iQ:Code:=cm (cg Tryz.f71) 0
abbrev cu:eG:=⟨[(0, .cl (.ro (.i .i64))),(1, .cl (.ro (.i .i64))),(5, .cl (.own 0 (.i .i64))),(6, .cl (.int .i64))],[],[.i .i64],0,28⟩
abbrev eO:List (X×eG):= [(.ext 0,⟨[(5, .cl (.own 0 (.i .i64)))],[],[.i .i64],0,28⟩)]
def fw {ρ:Type} (v1:List Int) (v2:List Int) (v3:List Int) (v4:Int) (fn: (((List Int)×(List Int)×Unit×Int×Unit)×(Unit)×((List Int)×Unit))→Option ρ) (fe: ((Unit×Unit)×(Unit)×((List Int)×Unit))→Option ρ):Option ρ:=
 br (decide (v4 < (v2.length:Int))) (an (0≤v4) ((v2[v4.toNat]?).bind fun x5=>(gm v3 x5).bind fun y6=>br (!y6.1) (an (0≤v4) ((v2[v4.toNat]?).bind fun x7=>(sr v1 x7).bind fun y8=>fn ((v2,v3,(),(IntKind.wrap .i64 (v4+1)),()),(()),(y8.1,()))) none) (fn ((v2,v3,(),(IntKind.wrap .i64 (v4+1)),()),(()),(v1,())))) none) (fe (((),()),(()),(v1,())))
def cQ (s:cu.D):Option (cu.D⊕bu.D eO):=fw s.2.2.1 s.1.1 s.1.2.1 s.1.2.2.2.1 (fun s=>some (.inl s)) (fun e=>some (.inr e))
def kM:cu.D→Option (bu.D eO):=jm cQ
theorem wd {ρ:Type} (s:cu.D) (fn:cu.D→Option ρ) (fe:bu.D eO→Option ρ):fw s.2.2.1 s.1.1 s.1.2.1 s.1.2.2.2.1 fn fe=(cQ s).bind (Sum.elim fn fe):=by
 simp only [cQ,fw,ak,am,Option.bind_none,Option.bind_assoc,Option.bind_some,Sum.elim_inl,Sum.elim_inr]
abbrev rD:dp:=dy [] [0,1,5,6] cu eO kM
theorem ve (s:cu.D):eL Θ (aR tK) (aU []) iQ (cu.mk' s) (dn [0,1,5,6] [5] fun x S=>some (x,S))=(cQ s).bind (Sum.elim (fun s'=>some (.nor,cu.mk' s')) fun e=>some (bu.e eO e)):=
 Eq.trans (by kernel_rfl:_=fw s.2.2.1 s.1.1 s.1.2.1 s.1.2.2.2.1 (fun s'=>some (.nor,cu.mk' s')) (fun e=>some (bu.e eO e))) (wd s _ _)
theorem vf:cf Tryz.prog iQ rD:=bc aV qF af (by kernel_rfl) (dM (by kernel_rfl:_= []) ah) [] [0,1,5,6] [5] cu eO (by kernel_rfl) cQ ve kM (gH cQ) (aP cQ)
def jr {ρ:Type} (a0:List Int) (a1:List Int) (k: (List Int)×Unit→Option ρ):Option ρ:=
 (kM ((a0,a1,(),0,()),(()),(([]:List Int),()))).bind fun e9=>k (e9.2.2.1,())
def fO (a0:List Int) (a1:List Int):Option ((List Int)×Unit):=jr a0 a1 some
theorem yR {ρ:Type} (a0:List Int) (a1:List Int) (k: (List Int)×Unit→Option ρ):jr a0 a1 k=(fO a0 a1).bind k:=by
 simp only [fO,jr,Option.bind_assoc,Option.bind_some]
abbrev tL:bF:=bV [.ty (.ls (.i .i64)), .ty (.ls (.i .i64))] [.ls (.i .i64)] fun x=>fO x.1 x.2.1
theorem BV:aH Tryz.prog 71 tL:=
 al (Λ:=aU [(b7 iQ,rD)]) (fn:=Tryz.f71) aV qF af (by kernel_rfl) (aM (by kernel_rfl:_= [iQ]) (aO (q:=b7 iQ) rfl vf fun _ _ _=>by kernel_rfl)) (by kernel_rfl) (fun x=>fO x.1 x.2.1)
  (fun x=>Eq.trans (by kernel_rfl:_=jr x.1 x.2.1 (fun y=>ret (aI [.ls (.i .i64)] y) fun v g=>some (v,g))) (yR x.1 x.2.1 _)) fun _ _ h=>h
abbrev we:List (Nat×bF):= [(50,uR),(46,tJ),(71,tL)]
theorem sy:ax Tryz.prog (aR we):=ae DD <| ae BU <| ae BV <| aj _
noncomputable abbrev km:Code:=cm (cg Tryz.f17) 0
abbrev de:eG:=⟨[(1, .cl (.ptr 0 0)),(3, .cl (.own 0 (.i .i64))),(6, .cl (.own 1 (.i .i64))),(7, .cl (.int .i64))],[[.int .i64, .ro (.st .server), .ro (.i .i64), .ro (.st .config), .int .i64, .int .i64, .int .i64, .int .i64, .int .i64, .ro (.st .place)]],[.i .i64, .i .i64],0,62⟩
abbrev fP:List (X×eG):= [(.ext 0,⟨[(3, .cl (.own 0 (.i .i64)))],[],[.i .i64],0,62⟩)]
def gA {ρ:Type} (v4:List Int) (v5:List Int) (v6:Int) (v7:Int) (v8:List aB) (v9:List Int) (v10:List ai) (v11:Int) (v12:Int) (v13:Int) (v14:Int) (v15:Int) (v16:List bz) (fn: ((Unit×Unit×Unit×Int×Unit)×((Int×(List aB)×(List Int)×(List ai)×Int×Int×Int×Int×Int×(List bz)×Unit)×Unit)×((List Int)×(List Int)×Unit))→Option ρ) (fe: ((Unit×Unit)×(Unit)×((List Int)×Unit))→Option ρ):Option ρ:=
 br (decide (v6 < (v5.length:Int))) (an (0≤v6∧v6 < (v5.length:Int)) ((v5[v6.toNat]?).bind fun x17=>an (0≤x17) ((v8[x17.toNat]?).bind fun x18=>br (x18.version==1) (an (0≤v6∧v6 < (v5.length:Int)) ((v5[v6.toNat]?).bind fun x19=>an ((v4++([x19]:List Int)).length*8≤2 ^ 40) (fn (((),(),(),(IntKind.wrap .i64 (v6+1)),()),((v7,v8,v9,v10,v11,v12,v13,v14,v15,v16,()),()),((v4++([x19]:List Int)),v5,()))) none) none) (fn (((),(),(),(IntKind.wrap .i64 (v6+1)),()),((v7,v8,v9,v10,v11,v12,v13,v14,v15,v16,()),()),(v4,v5,())))) none) none) (fe (((),()),(()),(v4,())))
def dH (s:de.D):Option (de.D⊕bu.D fP):=gA s.2.2.1 s.2.2.2.1 s.1.2.2.2.1 s.2.1.1.1 s.2.1.1.2.1 s.2.1.1.2.2.1 s.2.1.1.2.2.2.1 s.2.1.1.2.2.2.2.1 s.2.1.1.2.2.2.2.2.1 s.2.1.1.2.2.2.2.2.2.1 s.2.1.1.2.2.2.2.2.2.2.1 s.2.1.1.2.2.2.2.2.2.2.2.1 s.2.1.1.2.2.2.2.2.2.2.2.2.1 (fun s=>some (.inl s)) (fun e=>some (.inr e))
def mZ:de.D→Option (bu.D fP):=jm dH
theorem yS {ρ:Type} (s:de.D) (fn:de.D→Option ρ) (fe:bu.D fP→Option ρ):gA s.2.2.1 s.2.2.2.1 s.1.2.2.2.1 s.2.1.1.1 s.2.1.1.2.1 s.2.1.1.2.2.1 s.2.1.1.2.2.2.1 s.2.1.1.2.2.2.2.1 s.2.1.1.2.2.2.2.2.1 s.2.1.1.2.2.2.2.2.2.1 s.2.1.1.2.2.2.2.2.2.2.1 s.2.1.1.2.2.2.2.2.2.2.2.1 s.2.1.1.2.2.2.2.2.2.2.2.2.1 fn fe=(dH s).bind (Sum.elim fn fe):=by
 simp only [dH,gA,ak,am,Option.bind_none,Option.bind_assoc,Option.bind_some,Sum.elim_inl,Sum.elim_inr]
abbrev tM:dp:=dy [] [1,3,6,7] de fP mZ
theorem xk (s:de.D):eL Θ (aR we) (aU []) km (de.mk' s) (dn [1,3,6,7] [3] fun x S=>some (x,S))=(dH s).bind (Sum.elim (fun s'=>some (.nor,de.mk' s')) fun e=>some (bu.e fP e)):=
 Eq.trans (by kernel_rfl:_=gA s.2.2.1 s.2.2.2.1 s.1.2.2.2.1 s.2.1.1.1 s.2.1.1.2.1 s.2.1.1.2.2.1 s.2.1.1.2.2.2.1 s.2.1.1.2.2.2.2.1 s.2.1.1.2.2.2.2.2.1 s.2.1.1.2.2.2.2.2.2.1 s.2.1.1.2.2.2.2.2.2.2.1 s.2.1.1.2.2.2.2.2.2.2.2.1 s.2.1.1.2.2.2.2.2.2.2.2.2.1 (fun s'=>some (.nor,de.mk' s')) (fun e=>some (bu.e fP e))) (yS s _ _)
theorem xm:cf Tryz.prog km tM:=bc aV sy af (by kernel_rfl) (dM (by kernel_rfl:_= []) ah) [] [1,3,6,7] [3] de fP (by kernel_rfl) dH xk mZ (gH dH) (aP dH)
def kZ {ρ:Type} (a0:aG) (k: (List Int)×Unit→Option ρ):Option ρ:=
 (eH a0.master).bind fun y1=>(dG a0).bind fun y2=>br (!y2.1) (k (([]:List Int),())) (br (!y1.2.1) (k (([]:List Int),())) (an ((([]:List Int)++y1.1.witnesses).length*8≤2 ^ 40) ((fO y1.1.replicas ([y1.1.primary]:List Int)).bind fun y3=>an (((([]:List Int)++y1.1.witnesses)++y3.1).length*8≤2 ^ 40) (an ((((([]:List Int)++y1.1.witnesses)++y3.1)++([y1.1.primary]:List Int)).length*8≤2 ^ 40) ((mZ (((),(),(),0,()),((a0.now,a0.servers,a0.sides,a0.master.configs,a0.master.activated,a0.masterUp,a0.lease.epoch,a0.lease.holder,a0.lease.ends,a0.places,()),()),(([]:List Int),(((([]:List Int)++y1.1.witnesses)++y3.1)++([y1.1.primary]:List Int)),()))).bind fun e20=>k (e20.2.2.1,())) none) none) none))
def iR (a0:aG):Option ((List Int)×Unit):=kZ a0 some
theorem BW {ρ:Type} (a0:aG) (k: (List Int)×Unit→Option ρ):kZ a0 k=(iR a0).bind k:=by
 simp only [iR,kZ,ak,am,Option.bind_none,Option.bind_assoc,Option.bind_some]
abbrev wg:bF:=bV [.ty (.st .cluster)] [.ls (.i .i64)] fun x=>iR x.1
theorem FT:aH Tryz.prog 17 wg:=
 al (Λ:=aU [(b7 km,tM)]) (fn:=Tryz.f17) aV sy af (by kernel_rfl) (aM (by kernel_rfl:_= [km]) (aO (q:=b7 km) rfl xm fun _ _ _=>by kernel_rfl)) (by kernel_rfl) (fun x=>iR x.1)
  (fun x=>Eq.trans (by kernel_rfl:_=kZ x.1 (fun y=>ret (aI [.ls (.i .i64)] y) fun v g=>some (v,g))) (BW x.1 _)) fun _ _ h=>h
abbrev Rm:List (Nat×bF):= []
theorem LU:ax Tryz.prog (aR Rm):=aj _
def tN {ρ:Type} (a0:Int) (a1:Int) (a2:Int) (k:Bool×Unit→Option ρ):Option ρ:=
 br (decide (a1≤a0)) (k ((decide (a0≤a2)),())) (k (false,()))
def cw (a0:Int) (a1:Int) (a2:Int):Option (Bool×Unit):=tN a0 a1 a2 some
theorem Nz {ρ:Type} (a0:Int) (a1:Int) (a2:Int) (k:Bool×Unit→Option ρ):tN a0 a1 a2 k=(cw a0 a1 a2).bind k:=by
 simp only [cw,tN,ak,Option.bind_some]
abbrev ko:bF:=bV [.ty (.i .i64), .ty (.i .i64), .ty (.i .i64)] [.b] fun x=>cw x.1 x.2.1 x.2.2.1
theorem k9:aH Tryz.prog 135 ko:=
 al (Λ:=aU []) (fn:=Tryz.f135) aV LU af (by kernel_rfl) (aM (by kernel_rfl:_= []) ah) (by kernel_rfl) (fun x=>cw x.1 x.2.1 x.2.2.1)
  (fun x=>Eq.trans (by kernel_rfl:_=tN x.1 x.2.1 x.2.2.1 (fun y=>ret (aI [.b] y) fun v g=>some (v,g))) (Nz x.1 x.2.1 x.2.2.1 _)) fun _ _ h=>h
abbrev Am:List (Nat×bF):= [(135,ko)]
theorem uT:ax Tryz.prog (aR Am):=ae k9 <| aj _
noncomputable abbrev mm:Code:=cm (cg Tryz.f227) 0
abbrev dU:eG:=⟨[(0, .cl (.ro (.i .i64))),(5, .cl (.ro (.i .i64))),(6, .cl (.int .i64)),(7, .cl (.int .i64))],[],[],0,29⟩
abbrev iT:List (X×eG):= [(.ret,⟨[(2, .cl (.bl))],[],[],0,29⟩),(.ext 0,⟨[(2, .cl (.dead))],[],[],0,29⟩)]
def jh {ρ:Type} (v1:List Int) (v2:List Int) (v3:Int) (v4:Int) (fn: (((List Int)×(List Int)×Int×Int×Unit)×(Unit)×(Unit))→Option ρ) (fe: ((Bool×Unit)×(Unit)×(Unit))⊕((Unit×Unit)×(Unit)×(Unit))→Option ρ):Option ρ:=
 br (decide (v4 < v3)) (an (0≤v4) ((v2[v4.toNat]?).bind fun x5=>(cw x5 0 4).bind fun y6=>br (!y6.1) (fe (.inl ((false,()),(()),(())))) (br (decide (v4 > 0)) (an (0≤(IntKind.wrap .i64 (v4 - 1))) ((v1[(IntKind.wrap .i64 (v4 - 1)).toNat]?).bind fun x7=>br (decide (x5≤x7)) (fe (.inl ((false,()),(()),(())))) (fn ((v1,v2,v3,(IntKind.wrap .i64 (v4+1)),()),(()),(())))) none) (fn ((v1,v2,v3,(IntKind.wrap .i64 (v4+1)),()),(()),(()))))) none) (fe (.inr (((),()),(()),(()))))
def eA (s:dU.D):Option (dU.D⊕bu.D iT):=jh s.1.1 s.1.2.1 s.1.2.2.1 s.1.2.2.2.1 (fun s=>some (.inl s)) (fun e=>some (.inr e))
def mn:dU.D→Option (bu.D iT):=jm eA
theorem BX {ρ:Type} (s:dU.D) (fn:dU.D→Option ρ) (fe:bu.D iT→Option ρ):jh s.1.1 s.1.2.1 s.1.2.2.1 s.1.2.2.2.1 fn fe=(eA s).bind (Sum.elim fn fe):=by
 simp only [eA,jh,ak,am,Option.bind_none,Option.bind_assoc,Option.bind_some,Sum.elim_inl,Sum.elim_inr]
abbrev wi:dp:=dy [] [0,5,6,7] dU iT mn
theorem An (s:dU.D):eL Θ (aR Am) (aU []) mm (dU.mk' s) (dn [0,5,6,7] [2] fun x S=>some (x,S))=(eA s).bind (Sum.elim (fun s'=>some (.nor,dU.mk' s')) fun e=>some (bu.e iT e)):=
 Eq.trans (by kernel_rfl:_=jh s.1.1 s.1.2.1 s.1.2.2.1 s.1.2.2.2.1 (fun s'=>some (.nor,dU.mk' s')) (fun e=>some (bu.e iT e))) (BX s _ _)
theorem Ao:cf Tryz.prog mm wi:=bc aV uT af (by kernel_rfl) (dM (by kernel_rfl:_= []) ah) [] [0,5,6,7] [2] dU iT (by kernel_rfl) eA An mn (gH eA) (aP eA)
def nM {ρ:Type} (a0:List Int) (k:Bool×Unit→Option ρ):Option ρ:=
 (mn ((a0,a0,(a0.length:Int),0,()),(()),(()))).bind fun e8=>Sum.elim (fun e8_=>k (e8_.1.1,())) (fun e8_=>k (true,())) e8
def hQ (a0:List Int):Option (Bool×Unit):=nM a0 some
theorem FU {ρ:Type} (a0:List Int) (k:Bool×Unit→Option ρ):nM a0 k=(hQ a0).bind k:=by
 simp only [hQ,nM,co,Option.bind_assoc,Option.bind_some]
abbrev Ap:bF:=bV [.ty (.ls (.i .i64))] [.b] fun x=>hQ x.1
theorem JI:aH Tryz.prog 227 Ap:=
 al (Λ:=aU [(b7 mm,wi)]) (fn:=Tryz.f227) aV uT af (by kernel_rfl) (aM (by kernel_rfl:_= [mm]) (aO (q:=b7 mm) rfl Ao fun _ _ _=>by kernel_rfl)) (by kernel_rfl) (fun x=>hQ x.1)
  (fun x=>Eq.trans (by kernel_rfl:_=nM x.1 (fun y=>ret (aI [.b] y) fun v g=>some (v,g))) (FU x.1 _)) fun _ _ h=>h
abbrev Aq:List (Nat×bF):= []
theorem uU:ax Tryz.prog (aR Aq):=aj _
noncomputable abbrev mo:Code:=cm (cg Tryz.f214) 0
abbrev dV:eG:=⟨[(0, .cl (.ro (.i .i64))),(1, .cl (.int .i64)),(7, .cl (.int .i64)),(8, .cl (.int .i64))],[],[],0,19⟩
abbrev iU:List (X×eG):= [(.ret,⟨[(4, .cl (.int .i64))],[],[],0,19⟩),(.ext 0,⟨[(4, .cl (.dead))],[],[],0,19⟩)]
def ji {ρ:Type} (v1:List Int) (v2:Int) (v3:Int) (v4:Int) (fn: (((List Int)×Int×Int×Int×Unit)×(Unit)×(Unit))→Option ρ) (fe: ((Int×Unit)×(Unit)×(Unit))⊕((Unit×Unit)×(Unit)×(Unit))→Option ρ):Option ρ:=
 br (decide (v4 < v3)) (an (0≤v4) ((v1[v4.toNat]?).bind fun x5=>br (v2==x5) (fe (.inl ((v4,()),(()),(())))) (fn ((v1,v2,v3,(IntKind.wrap .i64 (v4+1)),()),(()),(())))) none) (fe (.inr (((),()),(()),(()))))
def eB (s:dV.D):Option (dV.D⊕bu.D iU):=ji s.1.1 s.1.2.1 s.1.2.2.1 s.1.2.2.2.1 (fun s=>some (.inl s)) (fun e=>some (.inr e))
def mp:dV.D→Option (bu.D iU):=jm eB
theorem BZ {ρ:Type} (s:dV.D) (fn:dV.D→Option ρ) (fe:bu.D iU→Option ρ):ji s.1.1 s.1.2.1 s.1.2.2.1 s.1.2.2.2.1 fn fe=(eB s).bind (Sum.elim fn fe):=by
 simp only [eB,ji,ak,am,Option.bind_none,Option.bind_assoc,Option.bind_some,Sum.elim_inl,Sum.elim_inr]
abbrev wj:dp:=dy [] [0,1,7,8] dV iU mp
theorem Ar (s:dV.D):eL Θ (aR Aq) (aU []) mo (dV.mk' s) (dn [0,1,7,8] [4] fun x S=>some (x,S))=(eB s).bind (Sum.elim (fun s'=>some (.nor,dV.mk' s')) fun e=>some (bu.e iU e)):=
 Eq.trans (by kernel_rfl:_=ji s.1.1 s.1.2.1 s.1.2.2.1 s.1.2.2.2.1 (fun s'=>some (.nor,dV.mk' s')) (fun e=>some (bu.e iU e))) (BZ s _ _)
theorem Au:cf Tryz.prog mo wj:=bc aV uU af (by kernel_rfl) (dM (by kernel_rfl:_= []) ah) [] [0,1,7,8] [4] dV iU (by kernel_rfl) eB Ar mp (gH eB) (aP eB)
def nN {ρ:Type} (a0:List Int) (a1:Int) (k:Int×Unit→Option ρ):Option ρ:=
 (mp ((a0,a1,(a0.length:Int),0,()),(()),(()))).bind fun e6=>Sum.elim (fun e6_=>k (e6_.1.1,())) (fun e6_=>k ((-1),())) e6
def m0 (a0:List Int) (a1:Int):Option (Int×Unit):=nN a0 a1 some
theorem FV {ρ:Type} (a0:List Int) (a1:Int) (k:Int×Unit→Option ρ):nN a0 a1 k=(m0 a0 a1).bind k:=by
 simp only [m0,nN,co,Option.bind_assoc,Option.bind_some]
abbrev Av:bF:=bV [.ty (.ls (.i .i64)), .ty (.i .i64)] [.i .i64] fun x=>m0 x.1 x.2.1
theorem JJ:aH Tryz.prog 214 Av:=
 al (Λ:=aU [(b7 mo,wj)]) (fn:=Tryz.f214) aV uU af (by kernel_rfl) (aM (by kernel_rfl:_= [mo]) (aO (q:=b7 mo) rfl Au fun _ _ _=>by kernel_rfl)) (by kernel_rfl) (fun x=>m0 x.1 x.2.1)
  (fun x=>Eq.trans (by kernel_rfl:_=nN x.1 x.2.1 (fun y=>ret (aI [.i .i64] y) fun v g=>some (v,g))) (FV x.1 x.2.1 _)) fun _ _ h=>h
abbrev DJ:List (Nat×bF):= [(214,Av)]
theorem yT:ax Tryz.prog (aR DJ):=ae JJ <| aj _
def kp {ρ:Type} (a0:List Int) (a1:Int) (k:Bool×Unit→Option ρ):Option ρ:=
 (m0 a0 a1).bind fun y1=>k ((decide (y1.1≥0)),())
def jj (a0:List Int) (a1:Int):Option (Bool×Unit):=kp a0 a1 some
theorem Aw {ρ:Type} (a0:List Int) (a1:Int) (k:Bool×Unit→Option ρ):kp a0 a1 k=(jj a0 a1).bind k:=by
 simp only [jj,kp,Option.bind_assoc,Option.bind_some]
abbrev uV:bF:=bV [.ty (.ls (.i .i64)), .ty (.i .i64)] [.b] fun x=>jj x.1 x.2.1
theorem DK:aH Tryz.prog 144 uV:=
 al (Λ:=aU []) (fn:=Tryz.f144) aV yT af (by kernel_rfl) (aM (by kernel_rfl:_= []) ah) (by kernel_rfl) (fun x=>jj x.1 x.2.1)
  (fun x=>Eq.trans (by kernel_rfl:_=kp x.1 x.2.1 (fun y=>ret (aI [.b] y) fun v g=>some (v,g))) (Aw x.1 x.2.1 _)) fun _ _ h=>h
abbrev LV:List (Nat×bF):= [(144,uV)]
theorem FW:ax Tryz.prog (aR LV):=ae DK <| aj _
def pf {ρ:Type} (a0:List Int) (a1:Int) (k:Bool×Unit→Option ρ):Option ρ:=
 (jj a0 a1).bind fun y1=>k (y1.1,())
def ik (a0:List Int) (a1:Int):Option (Bool×Unit):=pf a0 a1 some
theorem Ho {ρ:Type} (a0:List Int) (a1:Int) (k:Bool×Unit→Option ρ):pf a0 a1 k=(ik a0 a1).bind k:=by
 simp only [ik,pf,Option.bind_assoc,Option.bind_some]
abbrev sA:bF:=bV [.ty (.ls (.i .i64)), .ty (.i .i64)] [.b] fun x=>ik x.1 x.2.1
theorem wk:aH Tryz.prog 66 sA:=
 al (Λ:=aU []) (fn:=Tryz.f66) aV FW af (by kernel_rfl) (aM (by kernel_rfl:_= []) ah) (by kernel_rfl) (fun x=>ik x.1 x.2.1)
  (fun x=>Eq.trans (by kernel_rfl:_=pf x.1 x.2.1 (fun y=>ret (aI [.b] y) fun v g=>some (v,g))) (Ho x.1 x.2.1 _)) fun _ _ h=>h
abbrev JK:List (Nat×bF):= []
theorem DL:ax Tryz.prog (aR JK):=aj _
def xV {ρ:Type} (a0:List Int) (k: (List Int)×Unit→Option ρ):Option ρ:=
 an (a0.length*8≤2 ^ 40) (k (a0,())) none
def qV (a0:List Int):Option ((List Int)×Unit):=xV a0 some
abbrev Ax:bF:=bV [.ty (.ls (.i .i64))] [.ls (.i .i64)] fun x=>qV x.1
abbrev qW (y: (List Int)×Unit):Option (V×List bO):=ret (aI [.ls (.i .i64)] y) fun v g=>some (v,g)
theorem JL:aH Tryz.prog 164 Ax:=
 al (Λ:=aU []) (fn:=Tryz.f164) aV DL af (by kernel_rfl) (aM (by kernel_rfl:_= []) ah) (by kernel_rfl) (fun x=>qV x.1)
  (fun x=>Eq.trans (by kernel_rfl:_=TP x.1 (R9 (qW ([],())) (an ((([]:List Int)++x.1).length*8≤2 ^ 40) (qW (([]:List Int)++x.1,())) none) none) (an ((([]:List Int)++x.1).length*8≤2 ^ 40) (qW (([]:List Int)++x.1,())) none)) (SZ x.1 8 qW)) fun _ _ h=>h
abbrev NA:List (Nat×bF):= []
theorem Hp:ax Tryz.prog (aR NA):=aj _
def sB {ρ:Type} (a0:Int) (k:Int×Unit→Option ρ):Option ρ:=
 br (decide (a0≥4294967296)) (none) (br (decide (a0≥65536)) (none) (br (decide (a0≥256)) (none) (an (0≤(IntKind.wrap .u8 a0)) ((VT[(IntKind.wrap .u8 a0).toNat]?).bind fun x1=>k ((IntKind.wrap .i64 (0+(IntKind.wrap .i64 (x1.toNat:Int)))),())) none)))
def rE (a0:Int):Option (Int×Unit):=sB a0 some
theorem JM {ρ:Type} (a0:Int) (k:Int×Unit→Option ρ):sB a0 k=(rE a0).bind k:=by
 simp only [rE,sB,ak,am,Option.bind_none,Option.bind_assoc,Option.bind_some]
abbrev FX:bF:=bV [.ty (.i .u64)] [.i .i64] fun x=>rE x.1
theorem NB:aH Tryz.prog 298 FX:=
 al (Λ:=aU []) (fn:=Tryz.f298) aV Hp af (by kernel_rfl) (aM (by kernel_rfl:_= []) ah) (by kernel_rfl) (fun x=>rE x.1)
  (fun x=>Eq.trans (by kernel_rfl:_=sB x.1 (fun y=>ret (aI [.i .i64] y) fun v g=>some (v,g))) (JM x.1 _)) fun _ _ h=>h
abbrev Rn:List (Nat×bF):= [(298,FX)]
theorem LW:ax Tryz.prog (aR Rn):=ae NB <| aj _
def xb {ρ:Type} (a0:Int) (k:Int×Unit→Option ρ):Option ρ:=
 (rE a0).bind fun y1=>k (y1.1,())
def tO (a0:Int):Option (Int×Unit):=xb a0 some
theorem NC {ρ:Type} (a0:Int) (k:Int×Unit→Option ρ):xb a0 k=(tO a0).bind k:=by
 simp only [tO,xb,Option.bind_assoc,Option.bind_some]
abbrev LX:bF:=bV [.ty (.i .u64)] [.i .i64] fun x=>tO x.1
theorem Ro:aH Tryz.prog 268 LX:=
 al (Λ:=aU []) (fn:=Tryz.f268) aV LW af (by kernel_rfl) (aM (by kernel_rfl:_= []) ah) (by kernel_rfl) (fun x=>tO x.1)
  (fun x=>Eq.trans (by kernel_rfl:_=xb x.1 (fun y=>ret (aI [.i .i64] y) fun v g=>some (v,g))) (NC x.1 _)) fun _ _ h=>h
abbrev Hq:List (Nat×bF):= []
theorem B0:ax Tryz.prog (aR Hq):=aj _
def mq {ρ:Type} (a0:Int) (k:Bool×Unit→Option ρ):Option ρ:=
 k ((!(a0==a0)),())
def jP (a0:Int):Option (Bool×Unit):=mq a0 some
theorem DM {ρ:Type} (a0:Int) (k:Bool×Unit→Option ρ):mq a0 k=(jP a0).bind k:=by
 simp only [jP,mq,Option.bind_some]
abbrev xW:bF:=bV [.ty (.i .i64)] [.b] fun x=>jP x.1
theorem Hr:aH Tryz.prog 314 xW:=
 al (Λ:=aU []) (fn:=Tryz.f314) aV B0 af (by kernel_rfl) (aM (by kernel_rfl:_= []) ah) (by kernel_rfl) (fun x=>jP x.1)
  (fun x=>Eq.trans (by kernel_rfl:_=mq x.1 (fun y=>ret (aI [.b] y) fun v g=>some (v,g))) (DM x.1 _)) fun _ _ h=>h
abbrev JN:List (Nat×bF):= [(314,xW)]
theorem DN:ax Tryz.prog (aR JN):=ae Hr <| aj _
def nP {ρ:Type} (a0:Int) (a1:Int) (k:Bool×Unit→Option ρ):Option ρ:=
 (jP a0).bind fun y1=>br y1.1 ((jP a1).bind fun y2=>br (!y2.1) (k (true,())) (k ((decide (a0 < a1)),()))) (k ((decide (a0 < a1)),()))
def kN (a0:Int) (a1:Int):Option (Bool×Unit):=nP a0 a1 some
theorem FY {ρ:Type} (a0:Int) (a1:Int) (k:Bool×Unit→Option ρ):nP a0 a1 k=(kN a0 a1).bind k:=by
 simp only [kN,nP,ak,Option.bind_assoc,Option.bind_some]
abbrev Ay:bF:=bV [.ty (.i .i64), .ty (.i .i64)] [.b] fun x=>kN x.1 x.2.1
theorem JO:aH Tryz.prog 294 Ay:=
 al (Λ:=aU []) (fn:=Tryz.f294) aV DN af (by kernel_rfl) (aM (by kernel_rfl:_= []) ah) (by kernel_rfl) (fun x=>kN x.1 x.2.1)
  (fun x=>Eq.trans (by kernel_rfl:_=nP x.1 x.2.1 (fun y=>ret (aI [.b] y) fun v g=>some (v,g))) (FY x.1 x.2.1 _)) fun _ _ h=>h
abbrev fQ:List (Nat×bF):= [(294,Ay)]
theorem eX:ax Tryz.prog (aR fQ):=ae JO <| aj _
noncomputable abbrev b9:Code:=cm (cg Tryz.f288) 0
noncomputable abbrev cM:Code:=cm b9 0
abbrev aK:eG:=⟨[(0, .cl (.own 0 (.i .i64))),(1, .cl (.int .i64)),(2, .cl (.int .i64)),(6, .cl (.int .i64)),(7, .cl (.int .i64))],[],[.i .i64],1,49⟩
abbrev bH:List (X×eG):= [(.ext 2,⟨[(0, .cl (.own 0 (.i .i64))),(1, .cl (.int .i64)),(2, .cl (.int .i64)),(6, .cl (.int .i64))],[],[.i .i64],1,49⟩)]
def cH {ρ:Type} (v5:List Int) (v6:Int) (v7:Int) (v8:Int) (v9:Int) (fn: ((Unit×Int×Int×Int×Int×Unit)×(Unit)×((List Int)×Unit))→Option ρ) (fe: ((Unit×Int×Int×Int×Unit)×(Unit)×((List Int)×Unit))→Option ρ):Option ρ:=
 br (decide (v9 > v6)) (an (0≤v9∧v9 < (v5.length:Int)) ((v5[v9.toNat]?).bind fun x10=>an (0≤(IntKind.wrap .i64 (v9 - 1))∧(IntKind.wrap .i64 (v9 - 1)) < (v5.length:Int)) ((v5[(IntKind.wrap .i64 (v9 - 1)).toNat]?).bind fun x11=>(kN x10 x11).bind fun y12=>br y12.1 (an (0≤(IntKind.wrap .i64 (v9 - 1))∧(IntKind.wrap .i64 (v9 - 1)) < (v5.length:Int)) ((v5[(IntKind.wrap .i64 (v9 - 1)).toNat]?).bind fun x13=>an (0≤v9∧v9 < (v5.length:Int)) ((v5[v9.toNat]?).bind fun x14=>an (0≤v9∧v9 < (v5.length:Int)) (an (0≤(IntKind.wrap .i64 (v9 - 1))∧(IntKind.wrap .i64 (v9 - 1)) < (v5.length:Int)) ((v5[v9.toNat]?).bind fun _=>let z16:=v5.set v9.toNat x13; (z16[(IntKind.wrap .i64 (v9 - 1)).toNat]?).bind fun _=>fn (((),v6,v7,v8,(IntKind.wrap .i64 (v9 - 1)),()),(()),((z16.set ((IntKind.wrap .i64 (v9 - 1)).toNat) x14),()))) none) none) none) none) (fe (((),v6,v7,v8,()),(()),(v5,())))) none) none) (fe (((),v6,v7,v8,()),(()),(v5,())))
def bw (s:aK.D):Option (aK.D⊕bu.D bH):=cH s.2.2.1 s.1.2.1 s.1.2.2.1 s.1.2.2.2.1 s.1.2.2.2.2.1 (fun s=>some (.inl s)) (fun e=>some (.inr e))
def dN:aK.D→Option (bu.D bH):=jm bw
theorem oo {ρ:Type} (s:aK.D) (fn:aK.D→Option ρ) (fe:bu.D bH→Option ρ):cH s.2.2.1 s.1.2.1 s.1.2.2.1 s.1.2.2.2.1 s.1.2.2.2.2.1 fn fe=(bw s).bind (Sum.elim fn fe):=by
 simp only [bw,cH,ak,am,Option.bind_none,Option.bind_assoc,Option.bind_some,Sum.elim_inl,Sum.elim_inr]
abbrev js:dp:=dy [] [0,1,2,6,7] aK bH dN
theorem nQ (s:aK.D):eL Θ (aR fQ) (aU []) cM (aK.mk' s) (dn [0,1,2,6,7] [0,1,2,6] fun x S=>some (x,S))=(bw s).bind (Sum.elim (fun s'=>some (.nor,aK.mk' s')) fun e=>some (bu.e bH e)):=
 Eq.trans (by kernel_rfl:_=cH s.2.2.1 s.1.2.1 s.1.2.2.1 s.1.2.2.2.1 s.1.2.2.2.2.1 (fun s'=>some (.nor,aK.mk' s')) (fun e=>some (bu.e bH e))) (oo s _ _)
theorem nR:cf Tryz.prog cM js:=bc aV eX af (by kernel_rfl) (dM (by kernel_rfl:_= []) ah) [] [0,1,2,6,7] [0,1,2,6] aK bH (by kernel_rfl) bw nQ dN (gH bw) (aP bw)
abbrev aL:eG:=⟨[(0, .cl (.own 0 (.i .i64))),(1, .cl (.int .i64)),(2, .cl (.int .i64)),(6, .cl (.int .i64))],[],[.i .i64],1,49⟩
abbrev bI:List (X×eG):= [(.ext 0,⟨[],[],[.i .i64],1,49⟩)]
def bX {ρ:Type} (v1:List Int) (v2:Int) (v3:Int) (v4:Int) (fn: ((Unit×Int×Int×Int×Unit)×(Unit)×((List Int)×Unit))→Option ρ) (fe: ((Unit)×(Unit)×((List Int)×Unit))→Option ρ):Option ρ:=
 br (decide (v4 < v3)) ((dN (((),v2,v3,v4,v4,()),(()),(v1,()))).bind fun e19=>fn (((),e19.1.2.1,e19.1.2.2.1,(IntKind.wrap .i64 (e19.1.2.2.2.1+1)),()),(()),(e19.2.2.1,()))) (fe ((()),(()),(v1,())))
def aX (s:aL.D):Option (aL.D⊕bu.D bI):=bX s.2.2.1 s.1.2.1 s.1.2.2.1 s.1.2.2.2.1 (fun s=>some (.inl s)) (fun e=>some (.inr e))
def dP:aL.D→Option (bu.D bI):=jm aX
theorem oq {ρ:Type} (s:aL.D) (fn:aL.D→Option ρ) (fe:bu.D bI→Option ρ):bX s.2.2.1 s.1.2.1 s.1.2.2.1 s.1.2.2.2.1 fn fe=(aX s).bind (Sum.elim fn fe):=by
 simp only [aX,bX,ak,Option.bind_assoc,Option.bind_some,Sum.elim_inl,Sum.elim_inr]
abbrev jt:dp:=dy [] [0,1,2,6] aL bI dP
theorem nS (s:aL.D):eL Θ (aR fQ) (aU [(b7 cM,js)]) b9 (aL.mk' s) (dn [0,1,2,6] [] fun x S=>some (x,S))=(aX s).bind (Sum.elim (fun s'=>some (.nor,aL.mk' s')) fun e=>some (bu.e bI e)):=
 Eq.trans (by kernel_rfl:_=bX s.2.2.1 s.1.2.1 s.1.2.2.1 s.1.2.2.2.1 (fun s'=>some (.nor,aL.mk' s')) (fun e=>some (bu.e bI e))) (oq s _ _)
theorem nT:cf Tryz.prog b9 jt:=bc aV eX af (by kernel_rfl) (dM (by kernel_rfl:_= [cM]) (aO (q:=b7 cM) rfl nR fun _ _ _=>by kernel_rfl)) [] [0,1,2,6] [] aL bI (by kernel_rfl) aX nS dP (gH aX) (aP aX)
def cY {ρ:Type} (a0:List Int) (a1:Int) (a2:Int) (k: (List Int)×Unit→Option ρ):Option ρ:=
 (dP (((),a1,a2,(IntKind.wrap .i64 (a1+1)),()),(()),(a0,()))).bind fun e20=>k (e20.2.2.1,())
def bQ (a0:List Int) (a1:Int) (a2:Int):Option ((List Int)×Unit):=cY a0 a1 a2 some
theorem pg {ρ:Type} (a0:List Int) (a1:Int) (a2:Int) (k: (List Int)×Unit→Option ρ):cY a0 a1 a2 k=(bQ a0 a1 a2).bind k:=by
 simp only [bQ,cY,Option.bind_assoc,Option.bind_some]
abbrev kr:bF:=G1 (.i .i64) [.ty (.i .i64), .ty (.i .i64)] [] fun l x=>bQ l x.1 x.2.1
theorem pR:aH Tryz.prog (mX 288) kr:=
 sf (Λ:=aU [(b7 b9,jt)]) (fn:=Tryz.f288) aV eX af (by kernel_rfl) (aM (by kernel_rfl:_= [b9]) (aO (q:=b7 b9) rfl nT fun _ _ _=>by kernel_rfl)) (by kernel_rfl) (fun l x=>bQ l x.1 x.2.1)
  (fun l x=>Eq.trans (by kernel_rfl:_=cY l x.1 x.2.1 (fun y=>G0 (.i .i64) [] y fun v g=>some (v,g))) (pg l x.1 x.2.1 _)) fun _ _ _ h=>h
abbrev nU:List (Nat×bF):= [(mX 288,kr)]
theorem lK:ax Tryz.prog (aR nU):=ae pR <| aj _
noncomputable abbrev dW:Code:=cm (cg Tryz.f267) 0
abbrev bk:eG:=⟨[(0, .cl (.own 0 (.i .i64))),(1, .cl (.int .i64)),(2, .cl (.int .i64)),(3, .cl (.int .i64)),(8, .cl (.bl)),(9, .cl (.bl))],[],[.i .i64],1,134⟩
abbrev cx:List (X×eG):= [(.ret,⟨[],[],[.i .i64],1,134⟩)]
def dQ {ρ:Type} (v1:List Int) (v2:Int) (v3:Int) (v4:Int) (v5:Bool) (_v6:Bool) (fn: ((Unit×Int×Int×Int×Bool×Bool×Unit)×(Unit)×((List Int)×Unit))→Option ρ) (fe: ((Unit)×(Unit)×((List Int)×Unit))→Option ρ):Option ρ:=
 br (decide ((IntKind.wrap .i64 (v3 - v2))≤12)) ((bQ v1 v2 v3).bind fun y7=>an (y7.1.length=v1.length) (fe ((()),(()),(y7.1,()))) none) (br (v4==0) (none) (br (!v5) (none) (none)))
def b0 (s:bk.D):Option (bk.D⊕bu.D cx):=dQ s.2.2.1 s.1.2.1 s.1.2.2.1 s.1.2.2.2.1 s.1.2.2.2.2.1 s.1.2.2.2.2.2.1 (fun s=>some (.inl s)) (fun e=>some (.inr e))
def fj:bk.D→Option (bu.D cx):=jm b0
theorem qw {ρ:Type} (s:bk.D) (fn:bk.D→Option ρ) (fe:bu.D cx→Option ρ):dQ s.2.2.1 s.1.2.1 s.1.2.2.1 s.1.2.2.2.1 s.1.2.2.2.2.1 s.1.2.2.2.2.2.1 fn fe=(b0 s).bind (Sum.elim fn fe):=by
 simp only [b0,dQ,ak,am,Option.bind_none,Option.bind_assoc,Option.bind_some,Sum.elim_inr]
abbrev mr:dp:=dy [] [0,1,2,3,8,9] bk cx fj
theorem qm (s:bk.D):eL Θ (aR nU) (aU []) dW (bk.mk' s) (dn [0,1,2,3,8,9] [] fun x S=>some (x,S))=(b0 s).bind (Sum.elim (fun s'=>some (.nor,bk.mk' s')) fun e=>some (bu.e cx e)):=
 Eq.trans (by kernel_rfl:_=dQ s.2.2.1 s.1.2.1 s.1.2.2.1 s.1.2.2.2.1 s.1.2.2.2.2.1 s.1.2.2.2.2.2.1 (fun s'=>some (.nor,bk.mk' s')) (fun e=>some (bu.e cx e))) (qw s _ _)
theorem qn:cf Tryz.prog dW mr:=bc aV lK af (by kernel_rfl) (dM (by kernel_rfl:_= []) ah) [] [0,1,2,3,8,9] [] bk cx (by kernel_rfl) b0 qm fj (gH b0) (aP b0)
def eg {ρ:Type} (a0:List Int) (a1:Int) (a2:Int) (a3:Int) (k: (List Int)×Unit→Option ρ):Option ρ:=
 (fj (((),a1,a2,a3,true,true,()),(()),(a0,()))).bind fun e8=>k (e8.2.2.1,())
def cR (a0:List Int) (a1:Int) (a2:Int) (a3:Int):Option ((List Int)×Unit):=eg a0 a1 a2 a3 some
theorem rF {ρ:Type} (a0:List Int) (a1:Int) (a2:Int) (a3:Int) (k: (List Int)×Unit→Option ρ):eg a0 a1 a2 a3 k=(cR a0 a1 a2 a3).bind k:=by
 simp only [cR,eg,Option.bind_assoc,Option.bind_some]
abbrev nV:bF:=G1 (.i .i64) [.ty (.i .i64), .ty (.i .i64), .ty (.i .i64)] [] fun l x=>cR l x.1 x.2.1 x.2.2.1
theorem s4:aH Tryz.prog (mX 267) nV:=
 sf (Λ:=aU [(b7 dW,mr)]) (fn:=Tryz.f267) aV lK af (by kernel_rfl) (aM (by kernel_rfl:_= [dW]) (aO (q:=b7 dW) rfl qn fun _ _ _=>by kernel_rfl)) (by kernel_rfl) (fun l x=>cR l x.1 x.2.1 x.2.2.1)
  (fun l x=>Eq.trans (by kernel_rfl:_=eg l x.1 x.2.1 x.2.2.1 (fun y=>G0 (.i .i64) [] y fun v g=>some (v,g))) (rF l x.1 x.2.1 x.2.2.1 _)) fun _ _ _ h=>h
abbrev FZ:List (Nat×bF):= [(268,LX),(mX 267,nV)]
theorem Az:ax Tryz.prog (aR FZ):=ae Ro <| ae s4 <| aj _
def la {ρ:Type} (a0:List Int) (k: (List Int)×Unit→Option ρ):Option ρ:=
 (tO (IntKind.wrap .u64 (a0.length:Int))).bind fun y1=>(cR a0 0 (a0.length:Int) y1.1).bind fun y2=>an (y2.1.length=a0.length) (k (y2.1,())) none
def iV (a0:List Int):Option ((List Int)×Unit):=la a0 some
theorem B3 {ρ:Type} (a0:List Int) (k: (List Int)×Unit→Option ρ):la a0 k=(iV a0).bind k:=by
 simp only [iV,la,am,Option.bind_none,Option.bind_assoc,Option.bind_some]
abbrev wl:bF:=G1 (.i .i64) [] [] fun l _=>iV l
theorem F0:aH Tryz.prog (mX 216) wl:=
 sf (Λ:=aU []) (fn:=Tryz.f216) aV Az af (by kernel_rfl) (aM (by kernel_rfl:_= []) ah) (by kernel_rfl) (fun l _=>iV l)
  (fun l _=>Eq.trans (by kernel_rfl:_=la l (fun y=>G0 (.i .i64) [] y fun v g=>some (v,g))) (B3 l _)) fun _ _ _ h=>h
abbrev ph:List (Nat×bF):= []
theorem mt:ax Tryz.prog (aR ph):=aj _
noncomputable abbrev fx:Code:=cm (cg Tryz.f217) 0
noncomputable abbrev gW:Code:=cm fx 0
abbrev ch:eG:=⟨[(0, .cl (.own 0 (.i .i64))),(3, .cl (.int .i64)),(4, .cl (.sub 0 (.i .i64))),(5, .cl (.int .i64))],[],[.i .i64],0,61⟩
abbrev eh:List (X×eG):= [(.ext 2,⟨[(0, .cl (.own 0 (.i .i64))),(3, .cl (.int .i64))],[],[.i .i64],0,61⟩)]
def ju {ρ:Type} (v5:List Int) (v6:Int) (v7: (Nat×Nat)) (v8:Int) (fn: ((Unit×Int×((Nat×Nat))×Int×Unit)×(Unit)×((List Int)×Unit))→Option ρ) (fe: ((Unit×Int×Unit)×(Unit)×((List Int)×Unit))→Option ρ):Option ρ:=
 br (decide (v8 < ((v7.2:Nat):Int))) (an (0≤v8∧v8 < ((v7.2:Nat):Int)) ((v5[(v7.1+v8.toNat)]?).bind fun x9=>an (0≤(IntKind.wrap .i64 (v8 - 1))∧(IntKind.wrap .i64 (v8 - 1)) < ((v7.2:Nat):Int)) ((v5[(v7.1+(IntKind.wrap .i64 (v8 - 1)).toNat)]?).bind fun x10=>br (!(x9==x10)) (an (0≤v8∧v8 < ((v7.2:Nat):Int)) ((v5[(v7.1+v8.toNat)]?).bind fun x11=>an (0≤v6∧v6 < (v5.length:Int)) ((v5[v6.toNat]?).bind fun _=>fn (((),(IntKind.wrap .i64 (v6+1)),(v7.1,v7.2),(IntKind.wrap .i64 (v8+1)),()),(()),((v5.set v6.toNat x11),()))) none) none) (fn (((),v6,(v7.1,v7.2),(IntKind.wrap .i64 (v8+1)),()),(()),(v5,())))) none) none) (fe (((),v6,()),(()),(v5,())))
def ei (s:ch.D):Option (ch.D⊕bu.D eh):=ju s.2.2.1 s.1.2.1 s.1.2.2.1 s.1.2.2.2.1 (fun s=>some (.inl s)) (fun e=>some (.inr e))
def nw:ch.D→Option (bu.D eh):=jm ei
theorem vg {ρ:Type} (s:ch.D) (fn:ch.D→Option ρ) (fe:bu.D eh→Option ρ):ju s.2.2.1 s.1.2.1 s.1.2.2.1 s.1.2.2.2.1 fn fe=(ei s).bind (Sum.elim fn fe):=by
 simp only [ei,ju,ak,am,Option.bind_none,Option.bind_assoc,Option.bind_some,Sum.elim_inl,Sum.elim_inr]
abbrev qG:dp:=dy [] [0,3,4,5] ch eh nw
theorem uw (s:ch.D):eL Θ (aR ph) (aU []) gW (ch.mk' s) (dn [0,3,4,5] [0,3] fun x S=>some (x,S))=(ei s).bind (Sum.elim (fun s'=>some (.nor,ch.mk' s')) fun e=>some (bu.e eh e)):=
 Eq.trans (by kernel_rfl:_=ju s.2.2.1 s.1.2.1 s.1.2.2.1 s.1.2.2.2.1 (fun s'=>some (.nor,ch.mk' s')) (fun e=>some (bu.e eh e))) (vg s _ _)
theorem ux:cf Tryz.prog gW qG:=bc aV mt af (by kernel_rfl) (dM (by kernel_rfl:_= []) ah) [] [0,3,4,5] [0,3] ch eh (by kernel_rfl) ei uw nw (gH ei) (aP ei)
abbrev ci:eG:=⟨[(0, .cl (.own 0 (.i .i64))),(3, .cl (.int .i64))],[],[.i .i64],0,61⟩
abbrev ej:List (X×eG):= [(.ret,⟨[(0, .cl (.own 0 (.i .i64))),(2, .cl (.sub 0 (.i .i64)))],[],[.i .i64],0,61⟩),(.ext 0,⟨[(0, .cl (.own 0 (.i .i64))),(2, .cl (.dead))],[],[.i .i64],0,61⟩)]
def eV {ρ:Type} (v1:List Int) (v2:Int) (fn: ((Unit×Int×Unit)×(Unit)×((List Int)×Unit))→Option ρ) (fe: ((Unit×((Nat×Nat))×Unit)×(Unit)×((List Int)×Unit))⊕((Unit×Unit×Unit)×(Unit)×((List Int)×Unit))→Option ρ):Option ρ:=
 br (decide (v2 < (v1.length:Int))) (an (0≤v2∧v2 < (v1.length:Int)) ((v1[v2.toNat]?).bind fun x3=>an (0≤(IntKind.wrap .i64 (v2 - 1))∧(IntKind.wrap .i64 (v2 - 1)) < (v1.length:Int)) ((v1[(IntKind.wrap .i64 (v2 - 1)).toNat]?).bind fun x4=>br (x3==x4) (an (0≤v2∧v2≤(v1.length:Int)∧(v1.length:Int)≤((v1.length:Nat):Int)) ((nw (((),v2,((0+v2.toNat),((v1.length:Int).toNat - v2.toNat)),1,()),(()),(v1,()))).bind fun e14=>an (0≤e14.1.2.1∧e14.1.2.1≤(e14.2.2.1.length:Int)∧(e14.2.2.1.length:Int)≤((e14.2.2.1.length:Nat):Int)) (an ((0+e14.1.2.1.toNat)+((e14.2.2.1.length:Int).toNat - e14.1.2.1.toNat)≤e14.2.2.1.length) (an (0≤(0:Int)∧(0:Int)≤e14.1.2.1∧e14.1.2.1≤((e14.2.2.1.length:Nat):Int)) (fe (.inl (((),((0+(0:Int).toNat),(e14.1.2.1.toNat - (0:Int).toNat)),()),(()),((e14.2.2.1.take (0+e14.1.2.1.toNat)++List.replicate ((e14.2.2.1.length:Int).toNat - e14.1.2.1.toNat) (0:Int)++e14.2.2.1.drop ((0+e14.1.2.1.toNat)+((e14.2.2.1.length:Int).toNat - e14.1.2.1.toNat))),())))) none) none) none) none) (fn (((),(IntKind.wrap .i64 (v2+1)),()),(()),(v1,())))) none) none) (fe (.inr (((),(),()),(()),(v1,()))))
def cG (s:ci.D):Option (ci.D⊕bu.D ej):=eV s.2.2.1 s.1.2.1 (fun s=>some (.inl s)) (fun e=>some (.inr e))
def jZ:ci.D→Option (bu.D ej):=jm cG
theorem vh {ρ:Type} (s:ci.D) (fn:ci.D→Option ρ) (fe:bu.D ej→Option ρ):eV s.2.2.1 s.1.2.1 fn fe=(cG s).bind (Sum.elim fn fe):=by
 simp only [cG,eV,ak,am,Option.bind_none,Option.bind_assoc,Option.bind_some,Sum.elim_inl,Sum.elim_inr]
abbrev qH:dp:=dy [] [0,3] ci ej jZ
theorem uy (s:ci.D):eL Θ (aR ph) (aU [(b7 gW,qG)]) fx (ci.mk' s) (dn [0,3] [0,2] fun x S=>some (x,S))=(cG s).bind (Sum.elim (fun s'=>some (.nor,ci.mk' s')) fun e=>some (bu.e ej e)):=
 Eq.trans (by kernel_rfl:_=eV s.2.2.1 s.1.2.1 (fun s'=>some (.nor,ci.mk' s')) (fun e=>some (bu.e ej e))) (vh s _ _)
theorem uz:cf Tryz.prog fx qH:=bc aV mt af (by kernel_rfl) (dM (by kernel_rfl:_= [gW]) (aO (q:=b7 gW) rfl ux fun _ _ _=>by kernel_rfl)) [] [0,3] [0,2] ci ej (by kernel_rfl) cG uy jZ (gH cG) (aP cG)
def iW {ρ:Type} (a0:List Int) (k: (List Int)×Unit→Option ρ):Option ρ:=
 br (decide ((a0.length:Int) < 2)) (k (a0,())) ((jZ (((),1,()),(()),(a0,()))).bind fun e15=>Sum.elim (fun e15_=>an (e15_.1.2.1.1=0∧e15_.1.2.1.2≤e15_.2.2.1.length) (k ((e15_.2.2.1.take e15_.1.2.1.2),())) none) (fun e15_=>k (e15_.2.2.1,())) e15)
def fk (a0:List Int):Option ((List Int)×Unit):=iW a0 some
theorem xn {ρ:Type} (a0:List Int) (k: (List Int)×Unit→Option ρ):iW a0 k=(fk a0).bind k:=by
 simp only [fk,iW,ak,am,Option.bind_none,co,Option.bind_assoc,Option.bind_some]
abbrev sC:bF:=Q8 (.i .i64) [] [.ls (.i .i64)] fun l _=>fk l
theorem AA:aH Tryz.prog (Bk 217) sC:=
 Jh (Λ:=aU [(b7 fx,qH)]) (fn:=Tryz.f217) aV mt af (by kernel_rfl) (aM (by kernel_rfl:_= [fx]) (aO (q:=b7 fx) rfl uz fun _ _ _=>by kernel_rfl)) (fun l _=>fk l)
  (fun l _=>Eq.trans (by kernel_rfl:_=iW l (fun y=>ret (aI [.ls (.i .i64)] y) fun v g=>some (v,g))) (xn l _)) fun _ _ _ h=>h
abbrev LY:List (Nat×bF):= [(164,Ax),(mX 216,wl),(Bk 217,sC)]
theorem F1:ax Tryz.prog (aR LY):=ae JL <| ae F0 <| ae AA <| aj _
def pi {ρ:Type} (a0:List Int) (k: (List Int)×Unit→Option ρ):Option ρ:=
 (qV a0).bind fun y1=>(iV y1.1).bind fun y2=>an (y2.1.length=y1.1.length) ((fk y2.1).bind fun y3=>k (y3.1,())) none
def mu (a0:List Int):Option ((List Int)×Unit):=pi a0 some
theorem Hs {ρ:Type} (a0:List Int) (k: (List Int)×Unit→Option ρ):pi a0 k=(mu a0).bind k:=by
 simp only [mu,pi,am,Option.bind_none,Option.bind_assoc,Option.bind_some]
abbrev C3:bF:=bV [.ty (.ls (.i .i64))] [.ls (.i .i64)] fun x=>mu x.1
theorem LZ:aH Tryz.prog 150 C3:=
 al (Λ:=aU []) (fn:=Tryz.f150) aV F1 af (by kernel_rfl) (aM (by kernel_rfl:_= []) ah) (by kernel_rfl) (fun x=>mu x.1)
  (fun x=>Eq.trans (by kernel_rfl:_=pi x.1 (fun y=>ret (aI [.ls (.i .i64)] y) fun v g=>some (v,g))) (Hs x.1 _)) fun _ _ h=>h
abbrev xp:List (Nat×bF):= [(66,sA)]
theorem uA:ax Tryz.prog (aR xp):=ae wk <| aj _
def gq {ρ:Type} (a0:Int) (a1:List Int) (k:Bool×Unit→Option ρ):Option ρ:=
 (ik a1 a0).bind fun y1=>k (y1.1,())
def dJ (a0:Int) (a1:List Int):Option (Bool×Unit):=gq a0 a1 some
theorem vi {ρ:Type} (a0:Int) (a1:List Int) (k:Bool×Unit→Option ρ):gq a0 a1 k=(dJ a0 a1).bind k:=by
 simp only [dJ,gq,Option.bind_assoc,Option.bind_some]
abbrev nx:bF:=bV [.ty (.i .i64), .pr (.ls (.i .i64))] [.b] fun x=>dJ x.1 x.2.1
theorem qI:aH Tryz.prog 151 nx:=
 al (Λ:=aU []) (fn:=Tryz.f151) aV uA af (by kernel_rfl) (aM (by kernel_rfl:_= []) ah) (by kernel_rfl) (fun x=>dJ x.1 x.2.1)
  (fun x=>Eq.trans (by kernel_rfl:_=gq x.1 x.2.1 (fun y=>ret (aI [.b] y) fun v g=>some (v,g))) (vi x.1 x.2.1 _)) fun _ _ h=>h
abbrev il:List (Nat×bF):= [(151,nx)]
theorem gr:ax Tryz.prog (aR il):=ae qI <| aj _
noncomputable abbrev ca:Code:=cm (cg Tryz.f143) 0
abbrev az:eG:=⟨[(0, .cl (.ro (.i .i64))),(1, .fn 151 [.pro (.ls (.i .i64))]),(7, .cl (.int .i64)),(8, .cl (.int .i64))],[],[],0,19⟩
abbrev bn:List (X×eG):= [(.ret,⟨[(4, .cl (.int .i64))],[],[],0,19⟩),(.ext 0,⟨[(4, .cl (.dead))],[],[],0,19⟩)]
def bE {ρ:Type} (v1:List Int) (v2:List Int) (v3:Int) (v4:Int) (fn: (((List Int)×((List Int)×Unit)×Int×Int×Unit)×(Unit)×(Unit))→Option ρ) (fe: ((Int×Unit)×(Unit)×(Unit))⊕((Unit×Unit)×(Unit)×(Unit))→Option ρ):Option ρ:=
 br (decide (v4 < v3)) (an (0≤v4) ((v1[v4.toNat]?).bind fun x5=>(dJ x5 v2).bind fun y6=>br y6.1 (fe (.inl ((v4,()),(()),(())))) (fn ((v1,(v2,()),v3,(IntKind.wrap .i64 (v4+1)),()),(()),(())))) none) (fe (.inr (((),()),(()),(()))))
def aE (s:az.D):Option (az.D⊕bu.D bn):=bE s.1.1 s.1.2.1.1 s.1.2.2.1 s.1.2.2.2.1 (fun s=>some (.inl s)) (fun e=>some (.inr e))
def cb:az.D→Option (bu.D bn):=jm aE
theorem lO {ρ:Type} (s:az.D) (fn:az.D→Option ρ) (fe:bu.D bn→Option ρ):bE s.1.1 s.1.2.1.1 s.1.2.2.1 s.1.2.2.2.1 fn fe=(aE s).bind (Sum.elim fn fe):=by
 simp only [aE,bE,ak,am,Option.bind_none,Option.bind_assoc,Option.bind_some,Sum.elim_inl,Sum.elim_inr]
abbrev gC:dp:=dy [] [0,1,7,8] az bn cb
theorem lE (s:az.D):eL Θ (aR il) (aU []) ca (az.mk' s) (dn [0,1,7,8] [4] fun x S=>some (x,S))=(aE s).bind (Sum.elim (fun s'=>some (.nor,az.mk' s')) fun e=>some (bu.e bn e)):=
 Eq.trans (by kernel_rfl:_=bE s.1.1 s.1.2.1.1 s.1.2.2.1 s.1.2.2.2.1 (fun s'=>some (.nor,az.mk' s')) (fun e=>some (bu.e bn e))) (lO s _ _)
theorem lF:cf Tryz.prog ca gC:=bc aV gr af (by kernel_rfl) (dM (by kernel_rfl:_= []) ah) [] [0,1,7,8] [4] az bn (by kernel_rfl) aE lE cb (gH aE) (aP aE)
def cj {ρ:Type} (a0:List Int) (a1_0:List Int) (k:Int×Unit→Option ρ):Option ρ:=
 (cb ((a0,(a1_0,()),(a0.length:Int),0,()),(()),(()))).bind fun e7=>Sum.elim (fun e7_=>k (e7_.1.1,())) (fun e7_=>k ((-1),())) e7
def bL (a0:List Int) (a1_0:List Int):Option (Int×Unit):=cj a0 a1_0 some
theorem m8 {ρ:Type} (a0:List Int) (a1_0:List Int) (k:Int×Unit→Option ρ):cj a0 a1_0 k=(bL a0 a1_0).bind k:=by
 simp only [bL,cj,co,Option.bind_assoc,Option.bind_some]
abbrev im:bF:=bV [.ty (.ls (.i .i64)), .fn 151 [.ls (.i .i64)]] [.i .i64] fun x=>bL x.1 x.2.1.1
theorem nW:aH Tryz.prog 143 im:=
 al (Λ:=aU [(b7 ca,gC)]) (fn:=Tryz.f143) aV gr af (by kernel_rfl) (aM (by kernel_rfl:_= [ca]) (aO (q:=b7 ca) rfl lF fun _ _ _=>by kernel_rfl)) (by kernel_rfl) (fun x=>bL x.1 x.2.1.1)
  (fun x=>Eq.trans (by kernel_rfl:_=cj x.1 x.2.1.1 (fun y=>ret (aI [.i .i64] y) fun v g=>some (v,g))) (m8 x.1 x.2.1.1 _)) fun _ _ h=>h
abbrev f7:List (Nat×bF):= [(143,im),(151,nx)]
theorem fm:ax Tryz.prog (aR f7):=ae nW <| ae qI <| aj _
noncomputable abbrev bJ:Code:=cm (cg Tryz.f74) 0
abbrev aq:eG:=⟨[(0, .cl (.own 0 (.i .i64))),(1, .fn 151 [.pro (.ls (.i .i64))]),(5, .cl (.int .i64)),(6, .cl (.int .i64))],[],[.i .i64],0,42⟩
abbrev ba:List (X×eG):= [(.ext 0,⟨[(0, .cl (.own 0 (.i .i64))),(5, .cl (.int .i64))],[],[.i .i64],0,42⟩)]
def bo {ρ:Type} (v2:List Int) (v3:List Int) (v4:Int) (v5:Int) (fn: ((Unit×((List Int)×Unit)×Int×Int×Unit)×(Unit)×((List Int)×Unit))→Option ρ) (fe: ((Unit×Int×Unit)×(Unit)×((List Int)×Unit))→Option ρ):Option ρ:=
 br (decide (v5 < (v2.length:Int))) (an (0≤v5∧v5 < (v2.length:Int)) ((v2[v5.toNat]?).bind fun x6=>(dJ x6 v3).bind fun y7=>br (!y7.1) (an (0≤v4∧v4 < (v2.length:Int)) ((v2[v4.toNat]?).bind fun _=>fn (((),(v3,()),(IntKind.wrap .i64 (v4+1)),(IntKind.wrap .i64 (v5+1)),()),(()),((v2.set v4.toNat x6),()))) none) (fn (((),(v3,()),v4,(IntKind.wrap .i64 (v5+1)),()),(()),(v2,())))) none) (fe (((),v4,()),(()),(v2,())))
def aw (s:aq.D):Option (aq.D⊕bu.D ba):=bo s.2.2.1 s.1.2.1.1 s.1.2.2.1 s.1.2.2.2.1 (fun s=>some (.inl s)) (fun e=>some (.inr e))
def cr:aq.D→Option (bu.D ba):=jm aw
theorem kC {ρ:Type} (s:aq.D) (fn:aq.D→Option ρ) (fe:bu.D ba→Option ρ):bo s.2.2.1 s.1.2.1.1 s.1.2.2.1 s.1.2.2.2.1 fn fe=(aw s).bind (Sum.elim fn fe):=by
 simp only [aw,bo,ak,am,Option.bind_none,Option.bind_assoc,Option.bind_some,Sum.elim_inl,Sum.elim_inr]
abbrev fC:dp:=dy [] [0,1,5,6] aq ba cr
theorem kt (s:aq.D):eL Θ (aR f7) (aU []) bJ (aq.mk' s) (dn [0,1,5,6] [0,5] fun x S=>some (x,S))=(aw s).bind (Sum.elim (fun s'=>some (.nor,aq.mk' s')) fun e=>some (bu.e ba e)):=
 Eq.trans (by kernel_rfl:_=bo s.2.2.1 s.1.2.1.1 s.1.2.2.1 s.1.2.2.2.1 (fun s'=>some (.nor,aq.mk' s')) (fun e=>some (bu.e ba e))) (kC s _ _)
theorem ku:cf Tryz.prog bJ fC:=bc aV fm af (by kernel_rfl) (dM (by kernel_rfl:_= []) ah) [] [0,1,5,6] [0,5] aq ba (by kernel_rfl) aw kt cr (gH aw) (aP aw)
def bP {ρ:Type} (a0:List Int) (a1_0:List Int) (k: (List Int)×Unit→Option ρ):Option ρ:=
 (bL a0 a1_0).bind fun y1=>br (y1.1==(-1)) (k (a0,())) ((cr (((),(a1_0,()),y1.1,(IntKind.wrap .i64 (y1.1+1)),()),(()),(a0,()))).bind fun e10=>an (0≤e10.1.2.1∧e10.1.2.1≤(e10.2.2.1.length:Int)∧(e10.2.2.1.length:Int)≤((e10.2.2.1.length:Nat):Int)) (an ((0+e10.1.2.1.toNat)+((e10.2.2.1.length:Int).toNat - e10.1.2.1.toNat)≤e10.2.2.1.length) (an (0≤(0:Int)∧(0:Int)≤e10.1.2.1∧e10.1.2.1≤((e10.2.2.1.length:Nat):Int)) (an ((0+(0:Int).toNat)=0∧(e10.1.2.1.toNat - (0:Int).toNat)≤(e10.2.2.1.take (0+e10.1.2.1.toNat)++List.replicate ((e10.2.2.1.length:Int).toNat - e10.1.2.1.toNat) (0:Int)++e10.2.2.1.drop ((0+e10.1.2.1.toNat)+((e10.2.2.1.length:Int).toNat - e10.1.2.1.toNat))).length) (k (((e10.2.2.1.take (0+e10.1.2.1.toNat)++List.replicate ((e10.2.2.1.length:Int).toNat - e10.1.2.1.toNat) (0:Int)++e10.2.2.1.drop ((0+e10.1.2.1.toNat)+((e10.2.2.1.length:Int).toNat - e10.1.2.1.toNat))).take (e10.1.2.1.toNat - (0:Int).toNat)),())) none) none) none) none)
def bf (a0:List Int) (a1_0:List Int):Option ((List Int)×Unit):=bP a0 a1_0 some
theorem lb {ρ:Type} (a0:List Int) (a1_0:List Int) (k: (List Int)×Unit→Option ρ):bP a0 a1_0 k=(bf a0 a1_0).bind k:=by
 simp only [bf,bP,ak,am,Option.bind_none,Option.bind_assoc,Option.bind_some]
abbrev f8:bF:=Q8 (.i .i64) [.fn 151 [.ls (.i .i64)]] [.ls (.i .i64)] fun l x=>bf l x.1.1
theorem lP:aH Tryz.prog (Bk 74) f8:=
 Jh (Λ:=aU [(b7 bJ,fC)]) (fn:=Tryz.f74) aV fm af (by kernel_rfl) (aM (by kernel_rfl:_= [bJ]) (aO (q:=b7 bJ) rfl ku fun _ _ _=>by kernel_rfl)) (fun l x=>bf l x.1.1)
  (fun l x=>Eq.trans (by kernel_rfl:_=bP l x.1.1 (fun y=>ret (aI [.ls (.i .i64)] y) fun v g=>some (v,g))) (lb l x.1.1 _)) fun _ _ _ h=>h
abbrev B4:List (Nat×bF):= [(150,C3),(Bk 74,f8)]
theorem xq:ax Tryz.prog (aR B4):=ae LZ <| ae lP <| aj _
def jv {ρ:Type} (a0:List Int) (a1:List Int) (k: (List Int)×Unit→Option ρ):Option ρ:=
 (mu a0).bind fun y1=>(bf y1.1 a1).bind fun y2=>k (y2.1,())
def ef (a0:List Int) (a1:List Int):Option ((List Int)×Unit):=jv a0 a1 some
theorem yU {ρ:Type} (a0:List Int) (a1:List Int) (k: (List Int)×Unit→Option ρ):jv a0 a1 k=(ef a0 a1).bind k:=by
 simp only [ef,jv,Option.bind_assoc,Option.bind_some]
abbrev pS:bF:=bV [.ty (.ls (.i .i64)), .ty (.ls (.i .i64))] [.ls (.i .i64)] fun x=>ef x.1 x.2.1
theorem tP:aH Tryz.prog 73 pS:=
 al (Λ:=aU []) (fn:=Tryz.f73) aV xq af (by kernel_rfl) (aM (by kernel_rfl:_= []) ah) (by kernel_rfl) (fun x=>ef x.1 x.2.1)
  (fun x=>Eq.trans (by kernel_rfl:_=jv x.1 x.2.1 (fun y=>ret (aI [.ls (.i .i64)] y) fun v g=>some (v,g))) (yU x.1 x.2.1 _)) fun _ _ h=>h
abbrev DP:List (Nat×bF):= [(73,pS)]
theorem yV:ax Tryz.prog (aR DP):=ae tP <| aj _
def kv {ρ:Type} (a0:List Int) (a1:List Int) (k: (List Int)×Unit→Option ρ):Option ρ:=
 (ef a0 a1).bind fun y1=>(ef a0 y1.1).bind fun y2=>k (y2.1,())
def gP (a0:List Int) (a1:List Int):Option ((List Int)×Unit):=kv a0 a1 some
theorem AB {ρ:Type} (a0:List Int) (a1:List Int) (k: (List Int)×Unit→Option ρ):kv a0 a1 k=(gP a0 a1).bind k:=by
 simp only [gP,kv,Option.bind_assoc,Option.bind_some]
abbrev uW:bF:=bV [.ty (.ls (.i .i64)), .ty (.ls (.i .i64))] [.ls (.i .i64)] fun x=>gP x.1 x.2.1
theorem DQ:aH Tryz.prog 228 uW:=
 al (Λ:=aU []) (fn:=Tryz.f228) aV yV af (by kernel_rfl) (aM (by kernel_rfl:_= []) ah) (by kernel_rfl) (fun x=>gP x.1 x.2.1)
  (fun x=>Eq.trans (by kernel_rfl:_=kv x.1 x.2.1 (fun y=>ret (aI [.ls (.i .i64)] y) fun v g=>some (v,g))) (AB x.1 x.2.1 _)) fun _ _ h=>h
abbrev DR:List (Nat×bF):= [(135,ko),(227,Ap),(66,sA),(228,uW)]
theorem yW:ax Tryz.prog (aR DR):=ae k9 <| ae JI <| ae wk <| ae DQ <| aj _
def kw {ρ:Type} (a0:ai) (k:Bool×Unit→Option ρ):Option ρ:=
 (cw a0.epoch 1 20).bind fun y1=>br y1.1 ((hQ a0.replicas).bind fun y2=>br y2.1 ((hQ a0.witnesses).bind fun y3=>br y3.1 ((ik a0.replicas a0.primary).bind fun y4=>br y4.1 ((gP a0.replicas a0.witnesses).bind fun y5=>k (((y5.1.length:Int)==0),())) (k (false,()))) (k (false,()))) (k (false,()))) (k (false,()))
def fD (a0:ai):Option (Bool×Unit):=kw a0 some
theorem AD {ρ:Type} (a0:ai) (k:Bool×Unit→Option ρ):kw a0 k=(fD a0).bind k:=by
 simp only [fD,kw,ak,Option.bind_assoc,Option.bind_some]
abbrev qx:bF:=bV [.ty (.st .config)] [.b] fun x=>fD x.1
theorem uX:aH Tryz.prog 176 qx:=
 al (Λ:=aU []) (fn:=Tryz.f176) aV yW af (by kernel_rfl) (aM (by kernel_rfl:_= []) ah) (by kernel_rfl) (fun x=>fD x.1)
  (fun x=>Eq.trans (by kernel_rfl:_=kw x.1 (fun y=>ret (aI [.b] y) fun v g=>some (v,g))) (AD x.1 _)) fun _ _ h=>h
abbrev xX:List (Nat×bF):= [(176,qx),(135,ko)]
theorem tQ:ax Tryz.prog (aR xX):=ae uX <| ae k9 <| aj _
noncomputable abbrev lc:Code:=cm (cg Tryz.f137) 0
abbrev dB:eG:=⟨[(1, .cl (.ptr 0 0)),(6, .cl (.ro (.st .config))),(7, .cl (.int .i64)),(8, .cl (.int .i64))],[[.ro (.st .config), .int .i64]],[],0,30⟩
abbrev gQ:List (X×eG):= [(.ret,⟨[(1, .cl (.ptr 0 0)),(2, .cl (.bl))],[[.ro (.st .config), .int .i64]],[],0,30⟩),(.ext 0,⟨[(1, .cl (.ptr 0 0)),(2, .cl (.dead))],[[.ro (.st .config), .int .i64]],[],0,30⟩)]
def iA {ρ:Type} (v1:List ai) (v2:Int) (v3:Int) (v4:List ai) (v5:Int) (fn: ((Unit×(List ai)×Int×Int×Unit)×(((List ai)×Int×Unit)×Unit)×(Unit))→Option ρ) (fe: ((Unit×Bool×Unit)×(((List ai)×Int×Unit)×Unit)×(Unit))⊕((Unit×Unit×Unit)×(((List ai)×Int×Unit)×Unit)×(Unit))→Option ρ):Option ρ:=
 br (decide (v3 < v2)) (an (0≤v3) ((v1[v3.toNat]?).bind fun x6=>(fD x6).bind fun y7=>br (!y7.1) (fe (.inl (((),false,()),((v4,v5,()),()),(())))) (br (!(x6.epoch==(IntKind.wrap .i64 (v3+1)))) (fe (.inl (((),false,()),((v4,v5,()),()),(())))) (fn (((),v1,v2,(IntKind.wrap .i64 (v3+1)),()),((v4,v5,()),()),(()))))) none) (fe (.inr (((),(),()),((v4,v5,()),()),(()))))
def dZ (s:dB.D):Option (dB.D⊕bu.D gQ):=iA s.1.2.1 s.1.2.2.1 s.1.2.2.2.1 s.2.1.1.1 s.2.1.1.2.1 (fun s=>some (.inl s)) (fun e=>some (.inr e))
def ld:dB.D→Option (bu.D gQ):=jm dZ
theorem AE {ρ:Type} (s:dB.D) (fn:dB.D→Option ρ) (fe:bu.D gQ→Option ρ):iA s.1.2.1 s.1.2.2.1 s.1.2.2.2.1 s.2.1.1.1 s.2.1.1.2.1 fn fe=(dZ s).bind (Sum.elim fn fe):=by
 simp only [dZ,iA,ak,am,Option.bind_none,Option.bind_assoc,Option.bind_some,Sum.elim_inl,Sum.elim_inr]
abbrev uY:dp:=dy [] [1,6,7,8] dB gQ ld
theorem yX (s:dB.D):eL Θ (aR xX) (aU []) lc (dB.mk' s) (dn [1,6,7,8] [1,2] fun x S=>some (x,S))=(dZ s).bind (Sum.elim (fun s'=>some (.nor,dB.mk' s')) fun e=>some (bu.e gQ e)):=
 Eq.trans (by kernel_rfl:_=iA s.1.2.1 s.1.2.2.1 s.1.2.2.2.1 s.2.1.1.1 s.2.1.1.2.1 (fun s'=>some (.nor,dB.mk' s')) (fun e=>some (bu.e gQ e))) (AE s _ _)
theorem yY:cf Tryz.prog lc uY:=bc aV tQ af (by kernel_rfl) (dM (by kernel_rfl:_= []) ah) [] [1,6,7,8] [1,2] dB gQ (by kernel_rfl) dZ yX ld (gH dZ) (aP dZ)
def mw {ρ:Type} (a0:ay) (k:Bool×Unit→Option ρ):Option ρ:=
 (ld (((),a0.configs,(a0.configs.length:Int),0,()),((a0.configs,a0.activated,()),()),(()))).bind fun e8=>Sum.elim (fun e8_=>k (e8_.1.2.1,())) (fun e8_=>(cw e8_.2.1.1.2.1 0 (e8_.2.1.1.1.length:Int)).bind fun y9=>k (y9.1,())) e8
def ip (a0:ay):Option (Bool×Unit):=mw a0 some
theorem DS {ρ:Type} (a0:ay) (k:Bool×Unit→Option ρ):mw a0 k=(ip a0).bind k:=by
 simp only [ip,mw,co,Option.bind_assoc,Option.bind_some]
abbrev s5:bF:=bV [.ty (.st .masterLog)] [.b] fun x=>ip x.1
theorem xY:aH Tryz.prog 137 s5:=
 al (Λ:=aU [(b7 lc,uY)]) (fn:=Tryz.f137) aV tQ af (by kernel_rfl) (aM (by kernel_rfl:_= [lc]) (aO (q:=b7 lc) rfl yY fun _ _ _=>by kernel_rfl)) (by kernel_rfl) (fun x=>ip x.1)
  (fun x=>Eq.trans (by kernel_rfl:_=mw x.1 (fun y=>ret (aI [.b] y) fun v g=>some (v,g))) (DS x.1 _)) fun _ _ h=>h
abbrev JP:List (Nat×bF):= []
theorem DT:ax Tryz.prog (aR JP):=aj _
def lx {ρ:Type} (a0:ai) (k:ai×Unit→Option ρ):Option ρ:=
 an ((([]:List Int)++a0.replicas).length*8≤2 ^ 40) (an ((([]:List Int)++a0.witnesses).length*8≤2 ^ 40) (k ((⟨a0.epoch,a0.primary,(([]:List Int)++a0.replicas),(([]:List Int)++a0.witnesses)⟩:ai),())) none) none
def hU (a0:ai):Option (ai×Unit):=lx a0 some
theorem F2 {ρ:Type} (a0:ai) (k:ai×Unit→Option ρ):lx a0 k=(hU a0).bind k:=by
 simp only [hU,lx,am,Option.bind_none,Option.bind_some]
abbrev AF:bF:=bV [.ty (.st .config)] [.st .config] fun x=>hU x.1
theorem JQ:aH Tryz.prog 177 AF:=
 al (Λ:=aU []) (fn:=Tryz.f177) aV DT af (by kernel_rfl) (aM (by kernel_rfl:_= []) ah) (by kernel_rfl) (fun x=>hU x.1)
  (fun x=>Eq.trans (by kernel_rfl:_=lx x.1 (fun y=>ret (aI [.st .config] y) fun v g=>some (v,g))) (F2 x.1 _)) fun _ _ h=>h
abbrev ND:List (Nat×bF):= [(137,s5),(135,ko),(177,AF)]
theorem Ht:ax Tryz.prog (aR ND):=ae xY <| ae k9 <| ae JQ <| aj _
def oO {ρ:Type} (a0:ay) (a1:Int) (k:ai×Bool×Unit→Option ρ):Option ρ:=
 (ip a0).bind fun y1=>br (!y1.1) (k ((⟨0,0,([]:List Int),([]:List Int)⟩:ai),false,())) ((cw a1 1 (a0.configs.length:Int)).bind fun y2=>br (!y2.1) (k ((⟨0,0,([]:List Int),([]:List Int)⟩:ai),false,())) (an (0≤(IntKind.wrap .i64 (a1 - 1))) ((a0.configs[(IntKind.wrap .i64 (a1 - 1)).toNat]?).bind fun x3=>(hU x3).bind fun y4=>k (y4.1,true,())) none))
def jQ (a0:ay) (a1:Int):Option (ai×Bool×Unit):=oO a0 a1 some
theorem JR {ρ:Type} (a0:ay) (a1:Int) (k:ai×Bool×Unit→Option ρ):oO a0 a1 k=(jQ a0 a1).bind k:=by
 simp only [jQ,oO,ak,am,Option.bind_none,Option.bind_assoc,Option.bind_some]
abbrev yZ:bF:=bV [.ty (.st .masterLog), .ty (.i .i64)] [.st .config, .b] fun x=>jQ x.1 x.2.1
theorem F3:aH Tryz.prog 142 yZ:=
 al (Λ:=aU []) (fn:=Tryz.f142) aV Ht af (by kernel_rfl) (aM (by kernel_rfl:_= []) ah) (by kernel_rfl) (fun x=>jQ x.1 x.2.1)
  (fun x=>Eq.trans (by kernel_rfl:_=oO x.1 x.2.1 (fun y=>ret (aI [.st .config, .b] y) fun v g=>some (v,g))) (JR x.1 x.2.1 _)) fun _ _ h=>h
abbrev DU:List (Nat×bF):= [(142,yZ)]
theorem za:ax Tryz.prog (aR DU):=ae F3 <| aj _
def iB {ρ:Type} (a0:ay) (k:ai×Bool×Unit→Option ρ):Option ρ:=
 (jQ a0 a0.activated).bind fun y1=>k (y1.1,y1.2.1,())
def eJ (a0:ay):Option (ai×Bool×Unit):=iB a0 some
theorem AG {ρ:Type} (a0:ay) (k:ai×Bool×Unit→Option ρ):iB a0 k=(eJ a0).bind k:=by
 simp only [eJ,iB,Option.bind_assoc,Option.bind_some]
abbrev uZ:bF:=bV [.ty (.st .masterLog)] [.st .config, .b] fun x=>eJ x.1
theorem DV:aH Tryz.prog 60 uZ:=
 al (Λ:=aU []) (fn:=Tryz.f60) aV za af (by kernel_rfl) (aM (by kernel_rfl:_= []) ah) (by kernel_rfl) (fun x=>eJ x.1)
  (fun x=>Eq.trans (by kernel_rfl:_=iB x.1 (fun y=>ret (aI [.st .config, .b] y) fun v g=>some (v,g))) (AG x.1 _)) fun _ _ h=>h
abbrev Hu:List (Nat×bF):= [(135,ko)]
theorem B6:ax Tryz.prog (aR Hu):=ae k9 <| aj _
def my {ρ:Type} (a0:Int) (k:Bool×Unit→Option ρ):Option ρ:=
 (cw a0 0 3).bind fun y1=>k ((!y1.1),())
def ly (a0:Int):Option (Bool×Unit):=my a0 some
theorem DW {ρ:Type} (a0:Int) (k:Bool×Unit→Option ρ):my a0 k=(ly a0).bind k:=by
 simp only [ly,my,Option.bind_assoc,Option.bind_some]
abbrev xZ:bF:=bV [.ty (.i .i64)] [.b] fun x=>ly x.1
theorem Hv:aH Tryz.prog 210 xZ:=
 al (Λ:=aU []) (fn:=Tryz.f210) aV B6 af (by kernel_rfl) (aM (by kernel_rfl:_= []) ah) (by kernel_rfl) (fun x=>ly x.1)
  (fun x=>Eq.trans (by kernel_rfl:_=my x.1 (fun y=>ret (aI [.b] y) fun v g=>some (v,g))) (DW x.1 _)) fun _ _ h=>h
abbrev kE:List (Nat×bF):= [(210,xZ)]
theorem jw:ax Tryz.prog (aR kE):=ae Hv <| aj _
noncomputable abbrev cZ:Code:=cm (cg Tryz.f143) 0
abbrev aQ:eG:=⟨[(0, .cl (.ro (.i .i64))),(1, .cl (.fc 210)),(7, .cl (.int .i64)),(8, .cl (.int .i64))],[],[],0,19⟩
abbrev bK:List (X×eG):= [(.ret,⟨[(4, .cl (.int .i64))],[],[],0,19⟩),(.ext 0,⟨[(4, .cl (.dead))],[],[],0,19⟩)]
def cc {ρ:Type} (v1:List Int) (v2:Int) (v3:Int) (fn: (((List Int)×Unit×Int×Int×Unit)×(Unit)×(Unit))→Option ρ) (fe: ((Int×Unit)×(Unit)×(Unit))⊕((Unit×Unit)×(Unit)×(Unit))→Option ρ):Option ρ:=
 br (decide (v3 < v2)) (an (0≤v3) ((v1[v3.toNat]?).bind fun x4=>(ly x4).bind fun y5=>br y5.1 (fe (.inl ((v3,()),(()),(())))) (fn ((v1,(),v2,(IntKind.wrap .i64 (v3+1)),()),(()),(())))) none) (fe (.inr (((),()),(()),(()))))
def aY (s:aQ.D):Option (aQ.D⊕bu.D bK):=cc s.1.1 s.1.2.2.1 s.1.2.2.2.1 (fun s=>some (.inl s)) (fun e=>some (.inr e))
def c7:aQ.D→Option (bu.D bK):=jm aY
theorem oS {ρ:Type} (s:aQ.D) (fn:aQ.D→Option ρ) (fe:bu.D bK→Option ρ):cc s.1.1 s.1.2.2.1 s.1.2.2.2.1 fn fe=(aY s).bind (Sum.elim fn fe):=by
 simp only [aY,cc,ak,am,Option.bind_none,Option.bind_assoc,Option.bind_some,Sum.elim_inl,Sum.elim_inr]
abbrev jW:dp:=dy [] [0,1,7,8] aQ bK c7
theorem ot (s:aQ.D):eL Θ (aR kE) (aU []) cZ (aQ.mk' s) (dn [0,1,7,8] [4] fun x S=>some (x,S))=(aY s).bind (Sum.elim (fun s'=>some (.nor,aQ.mk' s')) fun e=>some (bu.e bK e)):=
 Eq.trans (by kernel_rfl:_=cc s.1.1 s.1.2.2.1 s.1.2.2.2.1 (fun s'=>some (.nor,aQ.mk' s')) (fun e=>some (bu.e bK e))) (oS s _ _)
theorem ou:cf Tryz.prog cZ jW:=bc aV jw af (by kernel_rfl) (dM (by kernel_rfl:_= []) ah) [] [0,1,7,8] [4] aQ bK (by kernel_rfl) aY ot c7 (gH aY) (aP aY)
def df {ρ:Type} (a0:List Int) (k:Int×Unit→Option ρ):Option ρ:=
 (c7 ((a0,(),(a0.length:Int),0,()),(()),(()))).bind fun e6=>Sum.elim (fun e6_=>k (e6_.1.1,())) (fun e6_=>k ((-1),())) e6
def cF (a0:List Int):Option (Int×Unit):=df a0 some
theorem pH {ρ:Type} (a0:List Int) (k:Int×Unit→Option ρ):df a0 k=(cF a0).bind k:=by
 simp only [cF,df,co,Option.bind_assoc,Option.bind_some]
abbrev kF:bF:=bV [.ty (.ls (.i .i64)), .fc 210] [.i .i64] fun x=>cF x.1
theorem qo:aH Tryz.prog 143 kF:=
 al (Λ:=aU [(b7 cZ,jW)]) (fn:=Tryz.f143) aV jw af (by kernel_rfl) (aM (by kernel_rfl:_= [cZ]) (aO (q:=b7 cZ) rfl ou fun _ _ _=>by kernel_rfl)) (by kernel_rfl) (fun x=>cF x.1)
  (fun x=>Eq.trans (by kernel_rfl:_=df x.1 (fun y=>ret (aI [.i .i64] y) fun v g=>some (v,g))) (pH x.1 _)) fun _ _ h=>h
abbrev pj:List (Nat×bF):= [(143,kF)]
theorem nX:ax Tryz.prog (aR pj):=ae qo <| aj _
def cI {ρ:Type} (a0:List Int) (k:Bool×Unit→Option ρ):Option ρ:=
 (cF a0).bind fun y1=>k ((decide (y1.1≥0)),())
def cd (a0:List Int):Option (Bool×Unit):=cI a0 some
theorem ov {ρ:Type} (a0:List Int) (k:Bool×Unit→Option ρ):cI a0 k=(cd a0).bind k:=by
 simp only [cd,cI,Option.bind_assoc,Option.bind_some]
abbrev jx:bF:=bV [.ty (.ls (.i .i64)), .fc 210] [.b] fun x=>cd x.1
theorem pk:aH Tryz.prog 61 jx:=
 al (Λ:=aU []) (fn:=Tryz.f61) aV nX af (by kernel_rfl) (aM (by kernel_rfl:_= []) ah) (by kernel_rfl) (fun x=>cd x.1)
  (fun x=>Eq.trans (by kernel_rfl:_=cI x.1 (fun y=>ret (aI [.b] y) fun v g=>some (v,g))) (ov x.1 _)) fun _ _ h=>h
abbrev NE:List (Nat×bF):= [(61,jx)]
theorem Hw:ax Tryz.prog (aR NE):=ae pk <| aj _
def qp {ρ:Type} (a0:List Int) (k:Bool×Unit→Option ρ):Option ρ:=
 br ((a0.length:Int)==5) ((cd a0).bind fun y1=>k ((!y1.1),())) (k (false,()))
def ow (a0:List Int):Option (Bool×Unit):=qp a0 some
theorem JS {ρ:Type} (a0:List Int) (k:Bool×Unit→Option ρ):qp a0 k=(ow a0).bind k:=by
 simp only [ow,qp,ak,Option.bind_assoc,Option.bind_some]
abbrev F4:bF:=bV [.ty (.ls (.i .i64))] [.b] fun x=>ow x.1
theorem NF:aH Tryz.prog 136 F4:=
 al (Λ:=aU []) (fn:=Tryz.f136) aV Hw af (by kernel_rfl) (aM (by kernel_rfl:_= []) ah) (by kernel_rfl) (fun x=>ow x.1)
  (fun x=>Eq.trans (by kernel_rfl:_=qp x.1 (fun y=>ret (aI [.b] y) fun v g=>some (v,g))) (JS x.1 _)) fun _ _ h=>h
abbrev Px:List (Nat×bF):= [(135,ko)]
theorem JT:ax Tryz.prog (aR Px):=ae k9 <| aj _
def rG {ρ:Type} (a0:kV) (k:Bool×Unit→Option ρ):Option ρ:=
 br ((a0.epoch==0)&&((a0.holder==0)&&((a0.ends==0)&&true))) (k (true,())) ((cw a0.epoch 1 20).bind fun y1=>br y1.1 ((cw a0.holder 0 4).bind fun y2=>br y2.1 ((cw a0.ends 1 1049).bind fun y3=>k (y3.1,())) (k (false,()))) (k (false,())))
def pT (a0:kV):Option (Bool×Unit):=rG a0 some
theorem L0 {ρ:Type} (a0:kV) (k:Bool×Unit→Option ρ):rG a0 k=(pT a0).bind k:=by
 simp only [pT,rG,ak,Option.bind_assoc,Option.bind_some]
abbrev Im:bF:=bV [.ty (.st .lease)] [.b] fun x=>pT x.1
theorem Py:aH Tryz.prog 138 Im:=
 al (Λ:=aU []) (fn:=Tryz.f138) aV JT af (by kernel_rfl) (aM (by kernel_rfl:_= []) ah) (by kernel_rfl) (fun x=>pT x.1)
  (fun x=>Eq.trans (by kernel_rfl:_=rG x.1 (fun y=>ret (aI [.b] y) fun v g=>some (v,g))) (L0 x.1 _)) fun _ _ h=>h
abbrev F5:List (Nat×bF):= [(135,ko)]
theorem AH:ax Tryz.prog (aR F5):=ae k9 <| aj _
def lf {ρ:Type} (a0:bz) (k:Bool×Unit→Option ρ):Option ρ:=
 (cw a0.rack 0 9).bind fun y1=>br (!y1.1) (k (true,())) ((cw a0.capacity 0 9).bind fun y2=>br (!y2.1) (k (true,())) ((cw a0.load 0 99).bind fun y3=>k ((!y3.1),())))
def kx (a0:bz):Option (Bool×Unit):=lf a0 some
theorem B7 {ρ:Type} (a0:bz) (k:Bool×Unit→Option ρ):lf a0 k=(kx a0).bind k:=by
 simp only [kx,lf,ak,Option.bind_assoc,Option.bind_some]
abbrev wm:bF:=bV [.ty (.st .place)] [.b] fun x=>kx x.1
theorem F6:aH Tryz.prog 212 wm:=
 al (Λ:=aU []) (fn:=Tryz.f212) aV AH af (by kernel_rfl) (aM (by kernel_rfl:_= []) ah) (by kernel_rfl) (fun x=>kx x.1)
  (fun x=>Eq.trans (by kernel_rfl:_=lf x.1 (fun y=>ret (aI [.b] y) fun v g=>some (v,g))) (B7 x.1 _)) fun _ _ h=>h
abbrev jy:List (Nat×bF):= [(212,wm)]
theorem iq:ax Tryz.prog (aR jy):=ae F6 <| aj _
noncomputable abbrev cy:Code:=cm (cg Tryz.f266) 0
abbrev aF:eG:=⟨[(0, .cl (.ro (.st .place))),(1, .cl (.fc 212)),(7, .cl (.int .i64)),(8, .cl (.int .i64))],[],[],0,19⟩
abbrev bC:List (X×eG):= [(.ret,⟨[(4, .cl (.int .i64))],[],[],0,19⟩),(.ext 0,⟨[(4, .cl (.dead))],[],[],0,19⟩)]
def bM {ρ:Type} (v1:List bz) (v2:Int) (v3:Int) (fn: (((List bz)×Unit×Int×Int×Unit)×(Unit)×(Unit))→Option ρ) (fe: ((Int×Unit)×(Unit)×(Unit))⊕((Unit×Unit)×(Unit)×(Unit))→Option ρ):Option ρ:=
 br (decide (v3 < v2)) (an (0≤v3) ((v1[v3.toNat]?).bind fun x4=>(kx x4).bind fun y5=>br y5.1 (fe (.inl ((v3,()),(()),(())))) (fn ((v1,(),v2,(IntKind.wrap .i64 (v3+1)),()),(()),(())))) none) (fe (.inr (((),()),(()),(()))))
def aN (s:aF.D):Option (aF.D⊕bu.D bC):=bM s.1.1 s.1.2.2.1 s.1.2.2.2.1 (fun s=>some (.inl s)) (fun e=>some (.inr e))
def cz:aF.D→Option (bu.D bC):=jm aN
theorem ny {ρ:Type} (s:aF.D) (fn:aF.D→Option ρ) (fe:bu.D bC→Option ρ):bM s.1.1 s.1.2.2.1 s.1.2.2.2.1 fn fe=(aN s).bind (Sum.elim fn fe):=by
 simp only [aN,bM,ak,am,Option.bind_none,Option.bind_assoc,Option.bind_some,Sum.elim_inl,Sum.elim_inr]
abbrev iX:dp:=dy [] [0,1,7,8] aF bC cz
theorem m9 (s:aF.D):eL Θ (aR jy) (aU []) cy (aF.mk' s) (dn [0,1,7,8] [4] fun x S=>some (x,S))=(aN s).bind (Sum.elim (fun s'=>some (.nor,aF.mk' s')) fun e=>some (bu.e bC e)):=
 Eq.trans (by kernel_rfl:_=bM s.1.1 s.1.2.2.1 s.1.2.2.2.1 (fun s'=>some (.nor,aF.mk' s')) (fun e=>some (bu.e bC e))) (ny s _ _)
theorem na:cf Tryz.prog cy iX:=bc aV iq af (by kernel_rfl) (dM (by kernel_rfl:_= []) ah) [] [0,1,7,8] [4] aF bC (by kernel_rfl) aN m9 cz (gH aN) (aP aN)
def cJ {ρ:Type} (a0:List bz) (k:Int×Unit→Option ρ):Option ρ:=
 (cz ((a0,(),(a0.length:Int),0,()),(()),(()))).bind fun e6=>Sum.elim (fun e6_=>k (e6_.1.1,())) (fun e6_=>k ((-1),())) e6
def ce (a0:List bz):Option (Int×Unit):=cJ a0 some
theorem ox {ρ:Type} (a0:List bz) (k:Int×Unit→Option ρ):cJ a0 k=(ce a0).bind k:=by
 simp only [ce,cJ,co,Option.bind_assoc,Option.bind_some]
abbrev jz:bF:=bV [.ty (.ls (.st .place)), .fc 212] [.i .i64] fun x=>ce x.1
theorem pm:aH Tryz.prog 266 jz:=
 al (Λ:=aU [(b7 cy,iX)]) (fn:=Tryz.f266) aV iq af (by kernel_rfl) (aM (by kernel_rfl:_= [cy]) (aO (q:=b7 cy) rfl na fun _ _ _=>by kernel_rfl)) (by kernel_rfl) (fun x=>ce x.1)
  (fun x=>Eq.trans (by kernel_rfl:_=cJ x.1 (fun y=>ret (aI [.i .i64] y) fun v g=>some (v,g))) (ox x.1 _)) fun _ _ h=>h
abbrev nY:List (Nat×bF):= [(266,jz)]
theorem mz:ax Tryz.prog (aR nY):=ae pm <| aj _
def ck {ρ:Type} (a0:List bz) (k:Bool×Unit→Option ρ):Option ρ:=
 (ce a0).bind fun y1=>k ((decide (y1.1≥0)),())
def bN (a0:List bz):Option (Bool×Unit):=ck a0 some
theorem nc {ρ:Type} (a0:List bz) (k:Bool×Unit→Option ρ):ck a0 k=(bN a0).bind k:=by
 simp only [bN,ck,Option.bind_assoc,Option.bind_some]
abbrev ir:bF:=bV [.ty (.ls (.st .place)), .fc 212] [.b] fun x=>bN x.1
theorem nZ:aH Tryz.prog 211 ir:=
 al (Λ:=aU []) (fn:=Tryz.f211) aV mz af (by kernel_rfl) (aM (by kernel_rfl:_= []) ah) (by kernel_rfl) (fun x=>bN x.1)
  (fun x=>Eq.trans (by kernel_rfl:_=ck x.1 (fun y=>ret (aI [.b] y) fun v g=>some (v,g))) (nc x.1 _)) fun _ _ h=>h
abbrev L3:List (Nat×bF):= [(211,ir)]
theorem F7:ax Tryz.prog (aR L3):=ae nZ <| aj _
def pn {ρ:Type} (a0:List bz) (k:Bool×Unit→Option ρ):Option ρ:=
 br ((a0.length:Int)==5) ((bN a0).bind fun y1=>k ((!y1.1),())) (k (false,()))
def mA (a0:List bz):Option (Bool×Unit):=pn a0 some
theorem Hx {ρ:Type} (a0:List bz) (k:Bool×Unit→Option ρ):pn a0 k=(mA a0).bind k:=by
 simp only [mA,pn,ak,Option.bind_assoc,Option.bind_some]
abbrev C4:bF:=bV [.ty (.ls (.st .place))] [.b] fun x=>mA x.1
theorem L4:aH Tryz.prog 139 C4:=
 al (Λ:=aU []) (fn:=Tryz.f139) aV F7 af (by kernel_rfl) (aM (by kernel_rfl:_= []) ah) (by kernel_rfl) (fun x=>mA x.1)
  (fun x=>Eq.trans (by kernel_rfl:_=pn x.1 (fun y=>ret (aI [.b] y) fun v g=>some (v,g))) (Hx x.1 _)) fun _ _ h=>h
abbrev L5:List (Nat×bF):= [(135,ko)]
theorem F8:ax Tryz.prog (aR L5):=ae k9 <| aj _
def po {ρ:Type} (a0:Op) (k:Bool×Unit→Option ρ):Option ρ:=
 (cw a0.client 0 2).bind fun y1=>br (!y1.1) (k (false,())) ((cw a0.seq 1 99).bind fun y2=>br (!y2.1) (k (false,())) ((cw a0.object 0 2).bind fun y3=>br (!y3.1) (k (false,())) ((cw a0.value 0 9).bind fun y4=>br (!y4.1) (k (false,())) (br (a0.kind==1) (br (a0.old==0) (k (true,())) (br (a0.kind==2) ((cw a0.old 0 9).bind fun y5=>k (y5.1,())) (k (false,())))) (br (a0.kind==2) ((cw a0.old 0 9).bind fun y6=>k (y6.1,())) (k (false,())))))))
def kG (a0:Op):Option (Bool×Unit):=po a0 some
theorem Hy {ρ:Type} (a0:Op) (k:Bool×Unit→Option ρ):po a0 k=(kG a0).bind k:=by
 simp only [kG,po,ak,Option.bind_assoc,Option.bind_some]
abbrev C5:bF:=bV [.ty (.st .op)] [.b] fun x=>kG x.1
theorem L6:aH Tryz.prog 229 C5:=
 al (Λ:=aU []) (fn:=Tryz.f229) aV F8 af (by kernel_rfl) (aM (by kernel_rfl:_= []) ah) (by kernel_rfl) (fun x=>kG x.1)
  (fun x=>Eq.trans (by kernel_rfl:_=po x.1 (fun y=>ret (aI [.b] y) fun v g=>some (v,g))) (Hy x.1 _)) fun _ _ h=>h
abbrev OB:List (Nat×bF):= [(135,ko),(229,C5)]
theorem F9:ax Tryz.prog (aR OB):=ae k9 <| ae L6 <| aj _
noncomputable abbrev tR:Code:=cm (cg Tryz.f179) 0
abbrev ky:eG:=⟨[(0, .cl (.ro (.st .entry))),(5, .cl (.ro (.st .entry))),(6, .cl (.int .i64)),(7, .cl (.int .i64))],[],[],0,41⟩
abbrev pU:List (X×eG):= [(.ret,⟨[(0, .cl (.ro (.st .entry))),(2, .cl (.bl))],[],[],0,41⟩),(.ext 0,⟨[(0, .cl (.ro (.st .entry))),(2, .cl (.dead))],[],[],0,41⟩)]
def pV {ρ:Type} (v1:List bh) (v2:List bh) (v3:Int) (v4:Int) (fn: (((List bh)×(List bh)×Int×Int×Unit)×(Unit)×(Unit))→Option ρ) (fe: (((List bh)×Bool×Unit)×(Unit)×(Unit))⊕(((List bh)×Unit×Unit)×(Unit)×(Unit))→Option ρ):Option ρ:=
 br (decide (v4 < v3)) (an (0≤v4) ((v2[v4.toNat]?).bind fun x5=>(cw x5.epoch 1 20).bind fun y6=>br (!y6.1) (fe (.inl ((v1,false,()),(()),(())))) (br (decide (v4 > 0)) (an (0≤(IntKind.wrap .i64 (v4 - 1))) ((v1[(IntKind.wrap .i64 (v4 - 1)).toNat]?).bind fun x7=>br (decide (x5.epoch < x7.epoch)) (fe (.inl ((v1,false,()),(()),(())))) ((kG x5.op).bind fun y8=>br (!y8.1) (fe (.inl ((v1,false,()),(()),(())))) (fn ((v1,v2,v3,(IntKind.wrap .i64 (v4+1)),()),(()),(()))))) none) ((kG x5.op).bind fun y9=>br (!y9.1) (fe (.inl ((v1,false,()),(()),(())))) (fn ((v1,v2,v3,(IntKind.wrap .i64 (v4+1)),()),(()),(())))))) none) (fe (.inr ((v1,(),()),(()),(()))))
def lz (s:ky.D):Option (ky.D⊕bu.D pU):=pV s.1.1 s.1.2.1 s.1.2.2.1 s.1.2.2.2.1 (fun s=>some (.inl s)) (fun e=>some (.inr e))
def tS:ky.D→Option (bu.D pU):=jm lz
theorem L7 {ρ:Type} (s:ky.D) (fn:ky.D→Option ρ) (fe:bu.D pU→Option ρ):pV s.1.1 s.1.2.1 s.1.2.2.1 s.1.2.2.2.1 fn fe=(lz s).bind (Sum.elim fn fe):=by
 simp only [lz,pV,ak,am,Option.bind_none,Option.bind_assoc,Option.bind_some,Sum.elim_inl,Sum.elim_inr]
abbrev Io:dp:=dy [] [0,5,6,7] ky pU tS
theorem JU (s:ky.D):eL Θ (aR OB) (aU []) tR (ky.mk' s) (dn [0,5,6,7] [0,2] fun x S=>some (x,S))=(lz s).bind (Sum.elim (fun s'=>some (.nor,ky.mk' s')) fun e=>some (bu.e pU e)):=
 Eq.trans (by kernel_rfl:_=pV s.1.1 s.1.2.1 s.1.2.2.1 s.1.2.2.2.1 (fun s'=>some (.nor,ky.mk' s')) (fun e=>some (bu.e pU e))) (L7 s _ _)
theorem JV:cf Tryz.prog tR Io:=bc aV F9 af (by kernel_rfl) (dM (by kernel_rfl:_= []) ah) [] [0,5,6,7] [0,2] ky pU (by kernel_rfl) lz JU tS (gH lz) (aP lz)
def wn {ρ:Type} (a0:List bh) (k:Bool×Unit→Option ρ):Option ρ:=
 (tS ((a0,a0,(a0.length:Int),0,()),(()),(()))).bind fun e10=>Sum.elim (fun e10_=>k (e10_.1.2.1,())) (fun e10_=>k ((decide ((e10_.1.1.length:Int)≤16)),())) e10
def p9 (a0:List bh):Option (Bool×Unit):=wn a0 some
theorem Pz {ρ:Type} (a0:List bh) (k:Bool×Unit→Option ρ):wn a0 k=(p9 a0).bind k:=by
 simp only [p9,wn,co,Option.bind_assoc,Option.bind_some]
abbrev JW:bF:=bV [.ty (.ls (.st .entry))] [.b] fun x=>p9 x.1
theorem OC:aH Tryz.prog 179 JW:=
 al (Λ:=aU [(b7 tR,Io)]) (fn:=Tryz.f179) aV F9 af (by kernel_rfl) (aM (by kernel_rfl:_= [tR]) (aO (q:=b7 tR) rfl JV fun _ _ _=>by kernel_rfl)) (by kernel_rfl) (fun x=>p9 x.1)
  (fun x=>Eq.trans (by kernel_rfl:_=wn x.1 (fun y=>ret (aI [.b] y) fun v g=>some (v,g))) (Pz x.1 _)) fun _ _ h=>h
abbrev AI:List (Nat×bF):= []
theorem u1:ax Tryz.prog (aR AI):=aj _
noncomputable abbrev mB:Code:=cm (cg Tryz.f219) 0
abbrev dX:eG:=⟨[(0, .cl (.ro (.i .i64))),(1, .cl (.ro (.i .i64))),(12, .cl (.int .i64)),(13, .cl (.int .i64))],[],[],0,26⟩
abbrev iY:List (X×eG):= [(.ret,⟨[(4, .cl (.bl))],[],[],0,26⟩),(.ext 0,⟨[(4, .cl (.dead))],[],[],0,26⟩)]
def jk {ρ:Type} (v1:List Int) (v2:List Int) (v3:Int) (v4:Int) (fn: (((List Int)×(List Int)×Int×Int×Unit)×(Unit)×(Unit))→Option ρ) (fe: ((Bool×Unit)×(Unit)×(Unit))⊕((Unit×Unit)×(Unit)×(Unit))→Option ρ):Option ρ:=
 br (decide (v4 < v3)) (an (0≤v4) ((v1[v4.toNat]?).bind fun x5=>an (0≤v4) ((v2[v4.toNat]?).bind fun x6=>br (!(x5==x6)) (fe (.inl ((false,()),(()),(())))) (fn ((v1,v2,v3,(IntKind.wrap .i64 (v4+1)),()),(()),(())))) none) none) (fe (.inr (((),()),(()),(()))))
def eC (s:dX.D):Option (dX.D⊕bu.D iY):=jk s.1.1 s.1.2.1 s.1.2.2.1 s.1.2.2.2.1 (fun s=>some (.inl s)) (fun e=>some (.inr e))
def mD:dX.D→Option (bu.D iY):=jm eC
theorem B8 {ρ:Type} (s:dX.D) (fn:dX.D→Option ρ) (fe:bu.D iY→Option ρ):jk s.1.1 s.1.2.1 s.1.2.2.1 s.1.2.2.2.1 fn fe=(eC s).bind (Sum.elim fn fe):=by
 simp only [eC,jk,ak,am,Option.bind_none,Option.bind_assoc,Option.bind_some,Sum.elim_inl,Sum.elim_inr]
abbrev wo:dp:=dy [] [0,1,12,13] dX iY mD
theorem AJ (s:dX.D):eL Θ (aR AI) (aU []) mB (dX.mk' s) (dn [0,1,12,13] [4] fun x S=>some (x,S))=(eC s).bind (Sum.elim (fun s'=>some (.nor,dX.mk' s')) fun e=>some (bu.e iY e)):=
 Eq.trans (by kernel_rfl:_=jk s.1.1 s.1.2.1 s.1.2.2.1 s.1.2.2.2.1 (fun s'=>some (.nor,dX.mk' s')) (fun e=>some (bu.e iY e))) (B8 s _ _)
theorem AK:cf Tryz.prog mB wo:=bc aV u1 af (by kernel_rfl) (dM (by kernel_rfl:_= []) ah) [] [0,1,12,13] [4] dX iY (by kernel_rfl) eC AJ mD (gH eC) (aP eC)
def n0 {ρ:Type} (a0:List Int) (a1:List Int) (k:Bool×Unit→Option ρ):Option ρ:=
 br (!((a0.length:Int)==(a1.length:Int))) (k (false,())) ((mD ((a0,a1,(a0.length:Int),0,()),(()),(()))).bind fun e7=>Sum.elim (fun e7_=>k (e7_.1.1,())) (fun e7_=>k (true,())) e7)
def ne (a0:List Int) (a1:List Int):Option (Bool×Unit):=n0 a0 a1 some
theorem Ga {ρ:Type} (a0:List Int) (a1:List Int) (k:Bool×Unit→Option ρ):n0 a0 a1 k=(ne a0 a1).bind k:=by
 simp only [ne,n0,ak,co,Option.bind_assoc,Option.bind_some]
abbrev AL:bF:=bV [.ty (.ls (.i .i64)), .ty (.ls (.i .i64))] [.b] fun x=>ne x.1 x.2.1
theorem JX:aH Tryz.prog 219 AL:=
 al (Λ:=aU [(b7 mB,wo)]) (fn:=Tryz.f219) aV u1 af (by kernel_rfl) (aM (by kernel_rfl:_= [mB]) (aO (q:=b7 mB) rfl AK fun _ _ _=>by kernel_rfl)) (by kernel_rfl) (fun x=>ne x.1 x.2.1)
  (fun x=>Eq.trans (by kernel_rfl:_=n0 x.1 x.2.1 (fun y=>ret (aI [.b] y) fun v g=>some (v,g))) (Ga x.1 x.2.1 _)) fun _ _ h=>h
abbrev Gb:List (Nat×bF):= [(219,AL)]
theorem AM:ax Tryz.prog (aR Gb):=ae JX <| aj _
def lg {ρ:Type} (a0:List Int) (a1:List Int) (k:Bool×Unit→Option ρ):Option ρ:=
 (ne a0 a1).bind fun y1=>k (y1.1,())
def gt (a0:List Int) (a1:List Int):Option (Bool×Unit):=lg a0 a1 some
theorem B9 {ρ:Type} (a0:List Int) (a1:List Int) (k:Bool×Unit→Option ρ):lg a0 a1 k=(gt a0 a1).bind k:=by
 simp only [gt,lg,Option.bind_assoc,Option.bind_some]
abbrev wq:bF:=bV [.ty (.ls (.i .i64)), .ty (.ls (.i .i64))] [.b] fun x=>gt x.1 x.2.1
theorem Gc:aH Tryz.prog 160 wq:=
 al (Λ:=aU []) (fn:=Tryz.f160) aV AM af (by kernel_rfl) (aM (by kernel_rfl:_= []) ah) (by kernel_rfl) (fun x=>gt x.1 x.2.1)
  (fun x=>Eq.trans (by kernel_rfl:_=lg x.1 x.2.1 (fun y=>ret (aI [.b] y) fun v g=>some (v,g))) (B9 x.1 x.2.1 _)) fun _ _ h=>h
abbrev Gd:List (Nat×bF):= [(160,wq)]
theorem AN:ax Tryz.prog (aR Gd):=ae Gc <| aj _
def lh {ρ:Type} (a0:ai) (a1:ai) (k:Bool×Unit→Option ρ):Option ρ:=
 br (a0.epoch==a1.epoch) (br (a0.primary==a1.primary) ((gt a0.replicas a1.replicas).bind fun y1=>br y1.1 ((gt a0.witnesses a1.witnesses).bind fun y2=>k (y2.1,())) (k (false,()))) (k (false,()))) (k (false,()))
def fo (a0:ai) (a1:ai):Option (Bool×Unit):=lh a0 a1 some
theorem Ca {ρ:Type} (a0:ai) (a1:ai) (k:Bool×Unit→Option ρ):lh a0 a1 k=(fo a0 a1).bind k:=by
 simp only [fo,lh,ak,Option.bind_assoc,Option.bind_some]
abbrev rH:bF:=bV [.ty (.st .config), .ty (.st .config)] [.b] fun x=>fo x.1 x.2.1
theorem wr:aH Tryz.prog 91 rH:=
 al (Λ:=aU []) (fn:=Tryz.f91) aV AN af (by kernel_rfl) (aM (by kernel_rfl:_= []) ah) (by kernel_rfl) (fun x=>fo x.1 x.2.1)
  (fun x=>Eq.trans (by kernel_rfl:_=lh x.1 x.2.1 (fun y=>ret (aI [.b] y) fun v g=>some (v,g))) (Ca x.1 x.2.1 _)) fun _ _ h=>h
abbrev L8:List (Nat×bF):= []
theorem Ge:ax Tryz.prog (aR L8):=aj _
def pp {ρ:Type} (a0:List bh) (k:Int×Unit→Option ρ):Option ρ:=
 br ((a0.length:Int)==0) (k (0,())) (an (0≤(IntKind.wrap .i64 ((a0.length:Int) - 1))) ((a0[(IntKind.wrap .i64 ((a0.length:Int) - 1)).toNat]?).bind fun x1=>k (x1.epoch,())) none)
def kH (a0:List bh):Option (Int×Unit):=pp a0 some
theorem Hz {ρ:Type} (a0:List bh) (k:Int×Unit→Option ρ):pp a0 k=(kH a0).bind k:=by
 simp only [kH,pp,ak,am,Option.bind_none,Option.bind_assoc,Option.bind_some]
abbrev wt:bF:=bV [.ty (.ls (.st .entry))] [.i .i64] fun x=>kH x.1
theorem C6:aH Tryz.prog 141 wt:=
 al (Λ:=aU []) (fn:=Tryz.f141) aV Ge af (by kernel_rfl) (aM (by kernel_rfl:_= []) ah) (by kernel_rfl) (fun x=>kH x.1)
  (fun x=>Eq.trans (by kernel_rfl:_=pp x.1 (fun y=>ret (aI [.i .i64] y) fun v g=>some (v,g))) (Hz x.1 _)) fun _ _ h=>h
abbrev Rp:List (Nat×bF):= [(176,qx),(66,sA)]
theorem L9:ax Tryz.prog (aR Rp):=ae uX <| ae wk <| aj _
def tT {ρ:Type} (a0:ai) (a1:Int) (k:Int×Unit→Option ρ):Option ρ:=
 (fD a0).bind fun y1=>br (!y1.1) (k (0,())) (br (a1==a0.primary) (k (1,())) ((ik a0.replicas a1).bind fun y2=>br y2.1 (k (2,())) ((ik a0.witnesses a1).bind fun y3=>br y3.1 (k (3,())) (k (0,())))))
def rI (a0:ai) (a1:Int):Option (Int×Unit):=tT a0 a1 some
theorem NG {ρ:Type} (a0:ai) (a1:Int) (k:Int×Unit→Option ρ):tT a0 a1 k=(rI a0 a1).bind k:=by
 simp only [rI,tT,ak,Option.bind_assoc,Option.bind_some]
abbrev Ma:bF:=bV [.ty (.st .config), .ty (.i .i64)] [.i .i64] fun x=>rI x.1 x.2.1
theorem Rq:aH Tryz.prog 178 Ma:=
 al (Λ:=aU []) (fn:=Tryz.f178) aV L9 af (by kernel_rfl) (aM (by kernel_rfl:_= []) ah) (by kernel_rfl) (fun x=>rI x.1 x.2.1)
  (fun x=>Eq.trans (by kernel_rfl:_=tT x.1 x.2.1 (fun y=>ret (aI [.i .i64] y) fun v g=>some (v,g))) (NG x.1 x.2.1 _)) fun _ _ h=>h
abbrev Rr:List (Nat×bF):= [(179,JW),(135,ko)]
theorem Mb:ax Tryz.prog (aR Rr):=ae OC <| ae k9 <| aj _
def tU {ρ:Type} (a0:Int) (a1:List bh) (k:Bool×Unit→Option ρ):Option ρ:=
 (p9 a1).bind fun y1=>br y1.1 (br (decide ((a1.length:Int)≤3)) ((cw a0 0 (IntKind.wrap .i64 (16 - (a1.length:Int)))).bind fun y2=>br y2.1 (br (a0==0) (k (true,())) (k (((a1.length:Int)==3),()))) (k (false,()))) (k (false,()))) (k (false,()))
def rJ (a0:Int) (a1:List bh):Option (Bool×Unit):=tU a0 a1 some
theorem NH {ρ:Type} (a0:Int) (a1:List bh) (k:Bool×Unit→Option ρ):tU a0 a1 k=(rJ a0 a1).bind k:=by
 simp only [rJ,tU,ak,Option.bind_assoc,Option.bind_some]
abbrev Mc:bF:=bV [.ty (.i .i64), .ty (.ls (.st .entry))] [.b] fun x=>rJ x.1 x.2.1
theorem Rs:aH Tryz.prog 213 Mc:=
 al (Λ:=aU []) (fn:=Tryz.f213) aV Mb af (by kernel_rfl) (aM (by kernel_rfl:_= []) ah) (by kernel_rfl) (fun x=>rJ x.1 x.2.1)
  (fun x=>Eq.trans (by kernel_rfl:_=tU x.1 x.2.1 (fun y=>ret (aI [.b] y) fun v g=>some (v,g))) (NH x.1 x.2.1 _)) fun _ _ h=>h
abbrev DX:List (Nat×bF):= [(135,ko),(179,JW),(91,rH),(141,wt),(178,Ma),(213,Mc)]
theorem zb:ax Tryz.prog (aR DX):=ae k9 <| ae OC <| ae wr <| ae C6 <| ae Rq <| ae Rs <| aj _
def kz {ρ:Type} (a0:aB) (a1:Int) (k:Bool×Unit→Option ρ):Option ρ:=
 (cw a0.version 1 2).bind fun y1=>br (!y1.1) (k (false,())) ((cw a0.epoch 0 20).bind fun y2=>br (!y2.1) (k (false,())) ((p9 a0.log).bind fun y3=>br (!y3.1) (k (false,())) ((p9 a0.learned).bind fun y4=>br (!y4.1) (k (false,())) ((cw a0.first 0 16).bind fun y5=>br (!y5.1) (k (false,())) (br (decide ((IntKind.wrap .i64 (a0.first+(a0.log.length:Int))) > 16)) (k (false,())) ((cw a0.commit 0 (IntKind.wrap .i64 (a0.first+(a0.log.length:Int)))).bind fun y6=>br (!y6.1) (k (false,())) ((fo a0.config (⟨0,0,([]:List Int),([]:List Int)⟩:ai)).bind fun y7=>br y7.1 (br (a0.first==0) (br (a0.commit==0) (k (((a0.log.length:Int)==0),())) (k (false,()))) (k (false,()))) (br (!a0.intact) (k (false,())) (br (decide (a0.epoch < a0.config.epoch)) (k (false,())) ((kH a0.log).bind fun y8=>br (decide (y8.1 > a0.config.epoch)) (k (false,())) ((rI a0.config a1).bind fun y9=>br (y9.1==1) (k ((a0.first==0),())) (br (y9.1==2) (k ((a0.first==0),())) (br (y9.1==3) ((rJ a0.first a0.log).bind fun y10=>k (y10.1,())) (k (false,())))))))))))))))
def gR (a0:aB) (a1:Int):Option (Bool×Unit):=kz a0 a1 some
theorem AO {ρ:Type} (a0:aB) (a1:Int) (k:Bool×Unit→Option ρ):kz a0 a1 k=(gR a0 a1).bind k:=by
 simp only [gR,kz,ak,Option.bind_assoc,Option.bind_some]
abbrev u2:bF:=bV [.ty (.st .server), .ty (.i .i64)] [.b] fun x=>gR x.1 x.2.1
theorem DY:aH Tryz.prog 140 u2:=
 al (Λ:=aU []) (fn:=Tryz.f140) aV zb af (by kernel_rfl) (aM (by kernel_rfl:_= []) ah) (by kernel_rfl) (fun x=>gR x.1 x.2.1)
  (fun x=>Eq.trans (by kernel_rfl:_=kz x.1 x.2.1 (fun y=>ret (aI [.b] y) fun v g=>some (v,g))) (AO x.1 x.2.1 _)) fun _ _ h=>h
abbrev tV:List (Nat×bF):= [(135,ko),(136,F4),(137,s5),(138,Im),(139,C4),(140,u2),(141,wt),(91,rH),(142,yZ)]
theorem qJ:ax Tryz.prog (aR tV):=ae k9 <| ae NF <| ae xY <| ae Py <| ae L4 <| ae DY <| ae C6 <| ae wr <| ae F3 <| aj _
noncomputable abbrev iZ:Code:=cm (cg Tryz.f57) 0
abbrev cA:eG:=⟨[(1, .cl (.ptr 0 0)),(57, .cl (.ro (.st .server))),(58, .cl (.int .i64)),(59, .cl (.int .i64))],[[.int .i64, .ro (.st .server), .ro (.i .i64), .ro (.st .config), .int .i64, .int .i64, .int .i64, .int .i64, .int .i64, .ro (.st .place)]],[],0,118⟩
abbrev eP:List (X×eG):= [(.ret,⟨[(2, .cl (.bl))],[],[],0,118⟩),(.ext 0,⟨[(2, .cl (.dead))],[],[],0,118⟩)]
def fy {ρ:Type} (v7:List aB) (v8:Int) (v9:Int) (v10:Int) (v11:List aB) (v12:List Int) (v13:List ai) (v14:Int) (v15:Int) (v16:Int) (v17:Int) (v18:Int) (v19:List bz) (fn: ((Unit×(List aB)×Int×Int×Unit)×((Int×(List aB)×(List Int)×(List ai)×Int×Int×Int×Int×Int×(List bz)×Unit)×Unit)×(Unit))→Option ρ) (fe: ((Bool×Unit)×(Unit)×(Unit))⊕((Unit×Unit)×(Unit)×(Unit))→Option ρ):Option ρ:=
 br (decide (v9 < v8)) (an (0≤v9) ((v7[v9.toNat]?).bind fun x20=>(gR x20 v9).bind fun y21=>br (!y21.1) (fe (.inl ((false,()),(()),(())))) (br (decide (x20.epoch > (v13.length:Int))) (fe (.inl ((false,()),(()),(())))) ((kH x20.learned).bind fun y22=>br (decide (y22.1 > v14)) (fe (.inl ((false,()),(()),(())))) ((fo x20.config (⟨0,0,([]:List Int),([]:List Int)⟩:ai)).bind fun y23=>br y23.1 (fn (((),v7,v8,(IntKind.wrap .i64 (v9+1)),()),((v10,v11,v12,v13,v14,v15,v16,v17,v18,v19,()),()),(()))) ((jQ (⟨v13,v14⟩:ay) x20.config.epoch).bind fun y24=>br (!y24.2.1) (fe (.inl ((false,()),(()),(())))) ((fo y24.1 x20.config).bind fun y25=>br (!y25.1) (fe (.inl ((false,()),(()),(())))) (br (decide (x20.config.epoch > v14)) (fe (.inl ((false,()),(()),(())))) (fn (((),v7,v8,(IntKind.wrap .i64 (v9+1)),()),((v10,v11,v12,v13,v14,v15,v16,v17,v18,v19,()),()),(())))))))))) none) (fe (.inr (((),()),(()),(()))))
def cS (s:cA.D):Option (cA.D⊕bu.D eP):=fy s.1.2.1 s.1.2.2.1 s.1.2.2.2.1 s.2.1.1.1 s.2.1.1.2.1 s.2.1.1.2.2.1 s.2.1.1.2.2.2.1 s.2.1.1.2.2.2.2.1 s.2.1.1.2.2.2.2.2.1 s.2.1.1.2.2.2.2.2.2.1 s.2.1.1.2.2.2.2.2.2.2.1 s.2.1.1.2.2.2.2.2.2.2.2.1 s.2.1.1.2.2.2.2.2.2.2.2.2.1 (fun s=>some (.inl s)) (fun e=>some (.inr e))
def i4:cA.D→Option (bu.D eP):=jm cS
theorem wu {ρ:Type} (s:cA.D) (fn:cA.D→Option ρ) (fe:bu.D eP→Option ρ):fy s.1.2.1 s.1.2.2.1 s.1.2.2.2.1 s.2.1.1.1 s.2.1.1.2.1 s.2.1.1.2.2.1 s.2.1.1.2.2.2.1 s.2.1.1.2.2.2.2.1 s.2.1.1.2.2.2.2.2.1 s.2.1.1.2.2.2.2.2.2.1 s.2.1.1.2.2.2.2.2.2.2.1 s.2.1.1.2.2.2.2.2.2.2.2.1 s.2.1.1.2.2.2.2.2.2.2.2.2.1 fn fe=(cS s).bind (Sum.elim fn fe):=by
 simp only [cS,fy,ak,am,Option.bind_none,Option.bind_assoc,Option.bind_some,Sum.elim_inl,Sum.elim_inr]
abbrev rK:dp:=dy [] [1,57,58,59] cA eP i4
theorem vj (s:cA.D):eL Θ (aR tV) (aU []) iZ (cA.mk' s) (dn [1,57,58,59] [2] fun x S=>some (x,S))=(cS s).bind (Sum.elim (fun s'=>some (.nor,cA.mk' s')) fun e=>some (bu.e eP e)):=
 Eq.trans (by kernel_rfl:_=fy s.1.2.1 s.1.2.2.1 s.1.2.2.2.1 s.2.1.1.1 s.2.1.1.2.1 s.2.1.1.2.2.1 s.2.1.1.2.2.2.1 s.2.1.1.2.2.2.2.1 s.2.1.1.2.2.2.2.2.1 s.2.1.1.2.2.2.2.2.2.1 s.2.1.1.2.2.2.2.2.2.2.1 s.2.1.1.2.2.2.2.2.2.2.2.1 s.2.1.1.2.2.2.2.2.2.2.2.2.1 (fun s'=>some (.nor,cA.mk' s')) (fun e=>some (bu.e eP e))) (wu s _ _)
theorem vk:cf Tryz.prog iZ rK:=bc aV qJ af (by kernel_rfl) (dM (by kernel_rfl:_= []) ah) [] [1,57,58,59] [2] cA eP (by kernel_rfl) cS vj i4 (gH cS) (aP cS)
def jA {ρ:Type} (a0:aG) (k:Bool×Unit→Option ρ):Option ρ:=
 (cw a0.now 0 999).bind fun y1=>br (!y1.1) (k (false,())) (br (!((a0.servers.length:Int)==5)) (k (false,())) ((ow a0.sides).bind fun y2=>br (!y2.1) (k (false,())) ((ip a0.master).bind fun y3=>br (!y3.1) (k (false,())) ((pT a0.lease).bind fun y4=>br (!y4.1) (k (false,())) ((mA a0.places).bind fun y5=>br (!y5.1) (k (false,())) ((cw a0.masterUp 0 3).bind fun y6=>br (!y6.1) (k (false,())) (br (decide (a0.lease.epoch > a0.master.activated)) (k (false,())) ((i4 (((),a0.servers,(a0.servers.length:Int),0,()),((a0.now,a0.servers,a0.sides,a0.master.configs,a0.master.activated,a0.masterUp,a0.lease.epoch,a0.lease.holder,a0.lease.ends,a0.places,()),()),(()))).bind fun e26=>Sum.elim (fun e26_=>k (e26_.1.1,())) (fun e26_=>k (true,())) e26))))))))
def fR (a0:aG):Option (Bool×Unit):=jA a0 some
theorem zd {ρ:Type} (a0:aG) (k:Bool×Unit→Option ρ):jA a0 k=(fR a0).bind k:=by
 simp only [fR,jA,ak,co,Option.bind_assoc,Option.bind_some]
abbrev tW:bF:=bV [.ty (.st .cluster)] [.b] fun x=>fR x.1
theorem Cb:aH Tryz.prog 57 tW:=
 al (Λ:=aU [(b7 iZ,rK)]) (fn:=Tryz.f57) aV qJ af (by kernel_rfl) (aM (by kernel_rfl:_= [iZ]) (aO (q:=b7 iZ) rfl vk fun _ _ _=>by kernel_rfl)) (by kernel_rfl) (fun x=>fR x.1)
  (fun x=>Eq.trans (by kernel_rfl:_=jA x.1 (fun y=>ret (aI [.b] y) fun v g=>some (v,g))) (zd x.1 _)) fun _ _ h=>h
abbrev Gf:List (Nat×bF):= []
theorem AP:ax Tryz.prog (aR Gf):=aj _
def li {ρ:Type} (a1:Int) (k: (List Int)×Unit→Option ρ):Option ρ:=
 br (decide (a1 < 0)) (none) (br (decide ((IntKind.wrap .i64 (a1 - (IntKind.wrap .i64 (0 - 0)))) > 0)) (an ((0:Int)=0∧(0:Int)=0) (an (0 < (IntKind.wrap .i64 (a1 - (IntKind.wrap .i64 (0 - 0))))∧(IntKind.wrap .i64 (a1 - (IntKind.wrap .i64 (0 - 0))))*((8:Nat):Int)≤2 ^ 40) (an (0≤(0:Int)∧(0:Int)≤(0:Int)∧(0:Int)≤(((IntKind.wrap .i64 (a1 - (IntKind.wrap .i64 (0 - 0)))).toNat:Nat):Int)) (an ((0+(0:Int).toNat)=0∧((0:Int).toNat - (0:Int).toNat)≤(List.replicate (IntKind.wrap .i64 (a1 - (IntKind.wrap .i64 (0 - 0)))).toNat (0:Int)).length) (k (((List.replicate (IntKind.wrap .i64 (a1 - (IntKind.wrap .i64 (0 - 0)))).toNat (0:Int)).take ((0:Int).toNat - (0:Int).toNat)),())) none) none) none) none) (k (([]:List Int),())))
def i5 (a1:Int):Option ((List Int)×Unit):=li a1 some
theorem Cc {ρ:Type} (a1:Int) (k: (List Int)×Unit→Option ρ):li a1 k=(i5 a1).bind k:=by
 simp only [i5,li,ak,am,Option.bind_none,Option.bind_some]
abbrev wv:bF:=bV [.nl, .ty (.i .i64)] [.ls (.i .i64)] fun x=>i5 x.2.1
theorem Gg:aH Tryz.prog 149 wv:=
 al (Λ:=aU []) (fn:=Tryz.f149) aV AP af (by kernel_rfl) (aM (by kernel_rfl:_= []) ah) (by kernel_rfl) (fun x=>i5 x.2.1)
  (fun x=>Eq.trans (by kernel_rfl:_=li x.2.1 (fun y=>ret (aI [.ls (.i .i64)] y) fun v g=>some (v,g))) (Cc x.2.1 _)) fun _ _ h=>h
abbrev s6:List (Nat×bF):= [(149,wv)]
theorem pW:ax Tryz.prog (aR s6):=ae Gg <| aj _
noncomputable abbrev lj:Code:=cm (cg Tryz.f72) 0
noncomputable abbrev kA:Code:=cm (cg Tryz.f72) 1
abbrev dC:eG:=⟨[(0, .cl (.ro (.ls (.i .i64)))),(3, .cl (.int .i64)),(9, .cl (.ro (.ls (.i .i64)))),(10, .cl (.int .i64)),(11, .cl (.int .i64))],[],[],0,36⟩
abbrev gT:List (X×eG):= [(.ext 0,⟨[(0, .cl (.ro (.ls (.i .i64)))),(3, .cl (.int .i64))],[],[],0,36⟩)]
def iC {ρ:Type} (v1:List (List Int)) (v2:Int) (v3:List (List Int)) (v4:Int) (v5:Int) (fn: (((List (List Int))×Int×(List (List Int))×Int×Int×Unit)×(Unit)×(Unit))→Option ρ) (fe: (((List (List Int))×Int×Unit)×(Unit)×(Unit))→Option ρ):Option ρ:=
 br (decide (v5 < v4)) (an (0≤v5) ((v3[v5.toNat]?).bind fun x6=>br (decide ((IntKind.wrap .i64 (v2+(x6.length:Int))) < 0)) (none) (fn ((v1,(IntKind.wrap .i64 (v2+(x6.length:Int))),v3,v4,(IntKind.wrap .i64 (v5+1)),()),(()),(())))) none) (fe ((v1,v2,()),(()),(())))
def ea (s:dC.D):Option (dC.D⊕bu.D gT):=iC s.1.1 s.1.2.1 s.1.2.2.1 s.1.2.2.2.1 s.1.2.2.2.2.1 (fun s=>some (.inl s)) (fun e=>some (.inr e))
def oc:dC.D→Option (bu.D gT):=jm ea
theorem AQ {ρ:Type} (s:dC.D) (fn:dC.D→Option ρ) (fe:bu.D gT→Option ρ):iC s.1.1 s.1.2.1 s.1.2.2.1 s.1.2.2.2.1 s.1.2.2.2.2.1 fn fe=(ea s).bind (Sum.elim fn fe):=by
 simp only [ea,iC,ak,am,Option.bind_none,Option.bind_assoc,Option.bind_some,Sum.elim_inl,Sum.elim_inr]
abbrev u3:dp:=dy [] [0,3,9,10,11] dC gT oc
theorem zf (s:dC.D):eL Θ (aR s6) (aU []) lj (dC.mk' s) (dn [0,3,9,10,11] [0,3] fun x S=>some (x,S))=(ea s).bind (Sum.elim (fun s'=>some (.nor,dC.mk' s')) fun e=>some (bu.e gT e)):=
 Eq.trans (by kernel_rfl:_=iC s.1.1 s.1.2.1 s.1.2.2.1 s.1.2.2.2.1 s.1.2.2.2.2.1 (fun s'=>some (.nor,dC.mk' s')) (fun e=>some (bu.e gT e))) (AQ s _ _)
theorem zg:cf Tryz.prog lj u3:=bc aV pW af (by kernel_rfl) (dM (by kernel_rfl:_= []) ah) [] [0,3,9,10,11] [0,3] dC gT (by kernel_rfl) ea zf oc (gH ea) (aP ea)
abbrev dg:eG:=⟨[(6, .cl (.own 0 (.i .i64))),(25, .cl (.ro (.ls (.i .i64)))),(26, .cl (.int .i64)),(27, .cl (.int .i64))],[],[.i .i64],0,36⟩
abbrev fS:List (X×eG):= [(.ext 2,⟨[(6, .cl (.own 0 (.i .i64)))],[],[.i .i64],0,36⟩)]
def gD {ρ:Type} (v9:List Int) (v10:List (List Int)) (v11:Int) (v12:Int) (fn: ((Unit×(List (List Int))×Int×Int×Unit)×(Unit)×((List Int)×Unit))→Option ρ) (fe: ((Unit×Unit)×(Unit)×((List Int)×Unit))→Option ρ):Option ρ:=
 br (decide (v12 < v11)) (an (0≤v12) ((v10[v12.toNat]?).bind fun x13=>an ((v9++x13).length*8≤2 ^ 40) (fn (((),v10,v11,(IntKind.wrap .i64 (v12+1)),()),(()),((v9++x13),()))) none) none) (fe (((),()),(()),(v9,())))
def dI (s:dg.D):Option (dg.D⊕bu.D fS):=gD s.2.2.1 s.1.2.1 s.1.2.2.1 s.1.2.2.2.1 (fun s=>some (.inl s)) (fun e=>some (.inr e))
def nf:dg.D→Option (bu.D fS):=jm dI
theorem zh {ρ:Type} (s:dg.D) (fn:dg.D→Option ρ) (fe:bu.D fS→Option ρ):gD s.2.2.1 s.1.2.1 s.1.2.2.1 s.1.2.2.2.1 fn fe=(dI s).bind (Sum.elim fn fe):=by
 simp only [dI,gD,ak,am,Option.bind_none,Option.bind_assoc,Option.bind_some,Sum.elim_inl,Sum.elim_inr]
abbrev tX:dp:=dy [] [6,25,26,27] dg fS nf
theorem xt (s:dg.D):eL Θ (aR s6) (aU []) kA (dg.mk' s) (dn [6,25,26,27] [6] fun x S=>some (x,S))=(dI s).bind (Sum.elim (fun s'=>some (.nor,dg.mk' s')) fun e=>some (bu.e fS e)):=
 Eq.trans (by kernel_rfl:_=gD s.2.2.1 s.1.2.1 s.1.2.2.1 s.1.2.2.2.1 (fun s'=>some (.nor,dg.mk' s')) (fun e=>some (bu.e fS e))) (zh s _ _)
theorem xw:cf Tryz.prog kA tX:=bc aV pW af (by kernel_rfl) (dM (by kernel_rfl:_= []) ah) [] [6,25,26,27] [6] dg fS (by kernel_rfl) dI xt nf (gH dI) (aP dI)
def mF {ρ:Type} (a0:List (List Int)) (k: (List Int)×Unit→Option ρ):Option ρ:=
 (oc ((a0,0,a0,(a0.length:Int),0,()),(()),(()))).bind fun e7=>(i5 e7.1.2.1).bind fun y8=>(nf (((),e7.1.1,(e7.1.1.length:Int),0,()),(()),(y8.1,()))).bind fun e14=>k (e14.2.2.1,())
def jR (a0:List (List Int)):Option ((List Int)×Unit):=mF a0 some
theorem DZ {ρ:Type} (a0:List (List Int)) (k: (List Int)×Unit→Option ρ):mF a0 k=(jR a0).bind k:=by
 simp only [jR,mF,Option.bind_assoc,Option.bind_some]
abbrev x0:bF:=bV [.ty (.ls (.ls (.i .i64)))] [.ls (.i .i64)] fun x=>jR x.1
theorem HA:aH Tryz.prog 72 x0:=
 al (Λ:=aU [(b7 lj,u3),(b7 kA,tX)]) (fn:=Tryz.f72) aV pW af (by kernel_rfl) (aM (by kernel_rfl:_= [lj,kA]) (Pf (aO (q:=b7 lj) rfl zg fun _ _ _=>by kernel_rfl) (aO (q:=b7 kA) rfl xw fun _ _ _=>by kernel_rfl))) (by kernel_rfl) (fun x=>jR x.1)
  (fun x=>Eq.trans (by kernel_rfl:_=mF x.1 (fun y=>ret (aI [.ls (.i .i64)] y) fun v g=>some (v,g))) (DZ x.1 _)) fun _ _ h=>h
abbrev AR:List (Nat×bF):= []
theorem ww:ax Tryz.prog (aR AR):=aj _
def i6 {ρ:Type} (a0:Int) (a1:aG) (k:Bool×Unit→Option ρ):Option ρ:=
 an (0≤a0) ((a1.servers[a0.toNat]?).bind fun x1=>k ((!(x1.version==1)),())) none
def ek (a0:Int) (a1:aG):Option (Bool×Unit):=i6 a0 a1 some
theorem xx {ρ:Type} (a0:Int) (a1:aG) (k:Bool×Unit→Option ρ):i6 a0 a1 k=(ek a0 a1).bind k:=by
 simp only [ek,i6,am,Option.bind_none,Option.bind_assoc,Option.bind_some]
abbrev pq:bF:=bV [.ty (.i .i64), .pr (.st .cluster)] [.b] fun x=>ek x.1 x.2.1
theorem sD:aH Tryz.prog 75 pq:=
 al (Λ:=aU []) (fn:=Tryz.f75) aV ww af (by kernel_rfl) (aM (by kernel_rfl:_= []) ah) (by kernel_rfl) (fun x=>ek x.1 x.2.1)
  (fun x=>Eq.trans (by kernel_rfl:_=i6 x.1 x.2.1 (fun y=>ret (aI [.b] y) fun v g=>some (v,g))) (xx x.1 x.2.1 _)) fun _ _ h=>h
abbrev jc:List (Nat×bF):= [(75,pq)]
theorem gX:ax Tryz.prog (aR jc):=ae sD <| aj _
noncomputable abbrev cn:Code:=cm (cg Tryz.f143) 0
abbrev aD:eG:=⟨[(0, .cl (.ro (.i .i64))),(1, .fn 75 [.pro (.st .cluster)]),(7, .cl (.int .i64)),(8, .cl (.int .i64))],[],[],0,19⟩
abbrev bA:List (X×eG):= [(.ret,⟨[(4, .cl (.int .i64))],[],[],0,19⟩),(.ext 0,⟨[(4, .cl (.dead))],[],[],0,19⟩)]
def da {ρ:Type} (v1:List Int) (v2:aG) (v3:Int) (v4:Int) (fn: (((List Int)×(aG×Unit)×Int×Int×Unit)×(Unit)×(Unit))→Option ρ) (fe: ((Int×Unit)×(Unit)×(Unit))⊕((Unit×Unit)×(Unit)×(Unit))→Option ρ):Option ρ:=
 br (decide (v4 < v3)) (an (0≤v4) ((v1[v4.toNat]?).bind fun x5=>(ek x5 v2).bind fun y6=>br y6.1 (fe (.inl ((v4,()),(()),(())))) (fn ((v1,(v2,()),v3,(IntKind.wrap .i64 (v4+1)),()),(()),(())))) none) (fe (.inr (((),()),(()),(()))))
def be (s:aD.D):Option (aD.D⊕bu.D bA):=da s.1.1 s.1.2.1.1 s.1.2.2.1 s.1.2.2.2.1 (fun s=>some (.inl s)) (fun e=>some (.inr e))
def eD:aD.D→Option (bu.D bA):=jm be
theorem nh {ρ:Type} (s:aD.D) (fn:aD.D→Option ρ) (fe:bu.D bA→Option ρ):da s.1.1 s.1.2.1.1 s.1.2.2.1 s.1.2.2.2.1 fn fe=(be s).bind (Sum.elim fn fe):=by
 simp only [be,da,ak,am,Option.bind_none,Option.bind_assoc,Option.bind_some,Sum.elim_inl,Sum.elim_inr]
abbrev it:dp:=dy [] [0,1,7,8] aD bA eD
theorem mG (s:aD.D):eL Θ (aR jc) (aU []) cn (aD.mk' s) (dn [0,1,7,8] [4] fun x S=>some (x,S))=(be s).bind (Sum.elim (fun s'=>some (.nor,aD.mk' s')) fun e=>some (bu.e bA e)):=
 Eq.trans (by kernel_rfl:_=da s.1.1 s.1.2.1.1 s.1.2.2.1 s.1.2.2.2.1 (fun s'=>some (.nor,aD.mk' s')) (fun e=>some (bu.e bA e))) (nh s _ _)
theorem mH:cf Tryz.prog cn it:=bc aV gX af (by kernel_rfl) (dM (by kernel_rfl:_= []) ah) [] [0,1,7,8] [4] aD bA (by kernel_rfl) be mG eD (gH be) (aP be)
def dw {ρ:Type} (a0:List Int) (a1_0:aG) (k:Int×Unit→Option ρ):Option ρ:=
 (eD ((a0,(a1_0,()),(a0.length:Int),0,()),(()),(()))).bind fun e7=>Sum.elim (fun e7_=>k (e7_.1.1,())) (fun e7_=>k ((-1),())) e7
def cK (a0:List Int) (a1_0:aG):Option (Int×Unit):=dw a0 a1_0 some
theorem n5 {ρ:Type} (a0:List Int) (a1_0:aG) (k:Int×Unit→Option ρ):dw a0 a1_0 k=(cK a0 a1_0).bind k:=by
 simp only [cK,dw,co,Option.bind_assoc,Option.bind_some]
abbrev jd:bF:=bV [.ty (.ls (.i .i64)), .fn 75 [.st .cluster]] [.i .i64] fun x=>cK x.1 x.2.1.1
theorem oT:aH Tryz.prog 143 jd:=
 al (Λ:=aU [(b7 cn,it)]) (fn:=Tryz.f143) aV gX af (by kernel_rfl) (aM (by kernel_rfl:_= [cn]) (aO (q:=b7 cn) rfl mH fun _ _ _=>by kernel_rfl)) (by kernel_rfl) (fun x=>cK x.1 x.2.1.1)
  (fun x=>Eq.trans (by kernel_rfl:_=dw x.1 x.2.1.1 (fun y=>ret (aI [.i .i64] y) fun v g=>some (v,g))) (n5 x.1 x.2.1.1 _)) fun _ _ h=>h
abbrev gE:List (Nat×bF):= [(143,jd),(75,pq)]
theorem fI:ax Tryz.prog (aR gE):=ae oT <| ae sD <| aj _
noncomputable abbrev bS:Code:=cm (cg Tryz.f74) 0
abbrev au:eG:=⟨[(0, .cl (.own 0 (.i .i64))),(1, .fn 75 [.pro (.st .cluster)]),(5, .cl (.int .i64)),(6, .cl (.int .i64))],[],[.i .i64],0,42⟩
abbrev bg:List (X×eG):= [(.ext 0,⟨[(0, .cl (.own 0 (.i .i64))),(5, .cl (.int .i64))],[],[.i .i64],0,42⟩)]
def cE {ρ:Type} (v2:List Int) (v3:aG) (v4:Int) (v5:Int) (fn: ((Unit×(aG×Unit)×Int×Int×Unit)×(Unit)×((List Int)×Unit))→Option ρ) (fe: ((Unit×Int×Unit)×(Unit)×((List Int)×Unit))→Option ρ):Option ρ:=
 br (decide (v5 < (v2.length:Int))) (an (0≤v5∧v5 < (v2.length:Int)) ((v2[v5.toNat]?).bind fun x6=>(ek x6 v3).bind fun y7=>br (!y7.1) (an (0≤v4∧v4 < (v2.length:Int)) ((v2[v4.toNat]?).bind fun _=>fn (((),(v3,()),(IntKind.wrap .i64 (v4+1)),(IntKind.wrap .i64 (v5+1)),()),(()),((v2.set v4.toNat x6),()))) none) (fn (((),(v3,()),v4,(IntKind.wrap .i64 (v5+1)),()),(()),(v2,())))) none) (fe (((),v4,()),(()),(v2,())))
def aW (s:au.D):Option (au.D⊕bu.D bg):=cE s.2.2.1 s.1.2.1.1 s.1.2.2.1 s.1.2.2.2.1 (fun s=>some (.inl s)) (fun e=>some (.inr e))
def dS:au.D→Option (bu.D bg):=jm aW
theorem ll {ρ:Type} (s:au.D) (fn:au.D→Option ρ) (fe:bu.D bg→Option ρ):cE s.2.2.1 s.1.2.1.1 s.1.2.2.1 s.1.2.2.2.1 fn fe=(aW s).bind (Sum.elim fn fe):=by
 simp only [aW,cE,ak,am,Option.bind_none,Option.bind_assoc,Option.bind_some,Sum.elim_inl,Sum.elim_inr]
abbrev f9:dp:=dy [] [0,1,5,6] au bg dS
theorem kO (s:au.D):eL Θ (aR gE) (aU []) bS (au.mk' s) (dn [0,1,5,6] [0,5] fun x S=>some (x,S))=(aW s).bind (Sum.elim (fun s'=>some (.nor,au.mk' s')) fun e=>some (bu.e bg e)):=
 Eq.trans (by kernel_rfl:_=cE s.2.2.1 s.1.2.1.1 s.1.2.2.1 s.1.2.2.2.1 (fun s'=>some (.nor,au.mk' s')) (fun e=>some (bu.e bg e))) (ll s _ _)
theorem kP:cf Tryz.prog bS f9:=bc aV fI af (by kernel_rfl) (dM (by kernel_rfl:_= []) ah) [] [0,1,5,6] [0,5] au bg (by kernel_rfl) aW kO dS (gH aW) (aP aW)
def cN {ρ:Type} (a0:List Int) (a1_0:aG) (k: (List Int)×Unit→Option ρ):Option ρ:=
 (cK a0 a1_0).bind fun y1=>br (y1.1==(-1)) (k (a0,())) ((dS (((),(a1_0,()),y1.1,(IntKind.wrap .i64 (y1.1+1)),()),(()),(a0,()))).bind fun e10=>an (0≤e10.1.2.1∧e10.1.2.1≤(e10.2.2.1.length:Int)∧(e10.2.2.1.length:Int)≤((e10.2.2.1.length:Nat):Int)) (an ((0+e10.1.2.1.toNat)+((e10.2.2.1.length:Int).toNat - e10.1.2.1.toNat)≤e10.2.2.1.length) (an (0≤(0:Int)∧(0:Int)≤e10.1.2.1∧e10.1.2.1≤((e10.2.2.1.length:Nat):Int)) (an ((0+(0:Int).toNat)=0∧(e10.1.2.1.toNat - (0:Int).toNat)≤(e10.2.2.1.take (0+e10.1.2.1.toNat)++List.replicate ((e10.2.2.1.length:Int).toNat - e10.1.2.1.toNat) (0:Int)++e10.2.2.1.drop ((0+e10.1.2.1.toNat)+((e10.2.2.1.length:Int).toNat - e10.1.2.1.toNat))).length) (k (((e10.2.2.1.take (0+e10.1.2.1.toNat)++List.replicate ((e10.2.2.1.length:Int).toNat - e10.1.2.1.toNat) (0:Int)++e10.2.2.1.drop ((0+e10.1.2.1.toNat)+((e10.2.2.1.length:Int).toNat - e10.1.2.1.toNat))).take (e10.1.2.1.toNat - (0:Int).toNat)),())) none) none) none) none)
def bq (a0:List Int) (a1_0:aG):Option ((List Int)×Unit):=cN a0 a1_0 some
theorem lQ {ρ:Type} (a0:List Int) (a1_0:aG) (k: (List Int)×Unit→Option ρ):cN a0 a1_0 k=(bq a0 a1_0).bind k:=by
 simp only [bq,cN,ak,am,Option.bind_none,Option.bind_assoc,Option.bind_some]
abbrev gF:bF:=Q8 (.i .i64) [.fn 75 [.st .cluster]] [.ls (.i .i64)] fun l x=>bq l x.1.1
theorem ni:aH Tryz.prog (Bk 74) gF:=
 Jh (Λ:=aU [(b7 bS,f9)]) (fn:=Tryz.f74) aV fI af (by kernel_rfl) (aM (by kernel_rfl:_= [bS]) (aO (q:=b7 bS) rfl kP fun _ _ _=>by kernel_rfl)) (fun l x=>bq l x.1.1)
  (fun l x=>Eq.trans (by kernel_rfl:_=cN l x.1.1 (fun y=>ret (aI [.ls (.i .i64)] y) fun v g=>some (v,g))) (lQ l x.1.1 _)) fun _ _ _ h=>h
abbrev Gh:List (Nat×bF):= [(60,uZ),(57,tW),(73,pS),(72,x0),(Bk 74,gF)]
theorem AU:ax Tryz.prog (aR Gh):=ae DV <| ae Cb <| ae tP <| ae HA <| ae ni <| aj _
def lm {ρ:Type} (a0:aG) (k: (List Int)×Unit→Option ρ):Option ρ:=
 (eJ a0.master).bind fun y1=>br (!y1.2.1) (k (([]:List Int),())) ((fR a0).bind fun y2=>br (!y2.1) (k (([]:List Int),())) ((ef y1.1.replicas ([y1.1.primary]:List Int)).bind fun y3=>(jR ([y1.1.witnesses,y3.1,([y1.1.primary]:List Int)]:List (List Int))).bind fun y4=>(bq y4.1 a0).bind fun y5=>k (y5.1,())))
def gv (a0:aG):Option ((List Int)×Unit):=lm a0 some
theorem Cd {ρ:Type} (a0:aG) (k: (List Int)×Unit→Option ρ):lm a0 k=(gv a0).bind k:=by
 simp only [gv,lm,ak,Option.bind_assoc,Option.bind_some]
abbrev wx:bF:=bV [.ty (.st .cluster)] [.ls (.i .i64)] fun x=>gv x.1
theorem Gi:aH Tryz.prog 18 wx:=
 al (Λ:=aU []) (fn:=Tryz.f18) aV AU af (by kernel_rfl) (aM (by kernel_rfl:_= []) ah) (by kernel_rfl) (fun x=>gv x.1)
  (fun x=>Eq.trans (by kernel_rfl:_=lm x.1 (fun y=>ret (aI [.ls (.i .i64)] y) fun v g=>some (v,g))) (Cd x.1 _)) fun _ _ h=>h
abbrev Md:List (Nat×bF):= []
theorem C7:ax Tryz.prog (aR Md):=aj _
noncomputable abbrev rL:Code:=cm (cg Tryz.f19) 0
abbrev i7:eG:=⟨[(0, .cl (.ro (.i .i64))),(1, .cl (.ro (.i .i64))),(5, .cl (.int .i64))],[],[],0,26⟩
abbrev oy:List (X×eG):= [(.ret,⟨[(4, .cl (.bl))],[],[],0,26⟩),(.ext 0,⟨[(4, .cl (.dead))],[],[],0,26⟩)]
def sE {ρ:Type} (v1:List Int) (v2:List Int) (v3:Int) (fn: (((List Int)×(List Int)×Int×Unit)×(Unit)×(Unit))→Option ρ) (fe: ((Bool×Unit)×(Unit)×(Unit))⊕((Unit×Unit)×(Unit)×(Unit))→Option ρ):Option ρ:=
 br (decide (v3 < (v1.length:Int))) (an (0≤v3) ((v1[v3.toNat]?).bind fun x4=>an (0≤v3) ((v2[v3.toNat]?).bind fun x5=>br (!(x4==x5)) (fe (.inl ((false,()),(()),(())))) (fn ((v1,v2,(IntKind.wrap .i64 (v3+1)),()),(()),(())))) none) none) (fe (.inr (((),()),(()),(()))))
def mJ (s:i7.D):Option (i7.D⊕bu.D oy):=sE s.1.1 s.1.2.1 s.1.2.2.1 (fun s=>some (.inl s)) (fun e=>some (.inr e))
def zi:i7.D→Option (bu.D oy):=jm mJ
theorem JY {ρ:Type} (s:i7.D) (fn:i7.D→Option ρ) (fe:bu.D oy→Option ρ):sE s.1.1 s.1.2.1 s.1.2.2.1 fn fe=(mJ s).bind (Sum.elim fn fe):=by
 simp only [mJ,sE,ak,am,Option.bind_none,Option.bind_assoc,Option.bind_some,Sum.elim_inl,Sum.elim_inr]
abbrev Gj:dp:=dy [] [0,1,5] i7 oy zi
theorem HB (s:i7.D):eL Θ (aR Md) (aU []) rL (i7.mk' s) (dn [0,1,5] [4] fun x S=>some (x,S))=(mJ s).bind (Sum.elim (fun s'=>some (.nor,i7.mk' s')) fun e=>some (bu.e oy e)):=
 Eq.trans (by kernel_rfl:_=sE s.1.1 s.1.2.1 s.1.2.2.1 (fun s'=>some (.nor,i7.mk' s')) (fun e=>some (bu.e oy e))) (JY s _ _)
theorem HC:cf Tryz.prog rL Gj:=bc aV C7 af (by kernel_rfl) (dM (by kernel_rfl:_= []) ah) [] [0,1,5] [4] i7 oy (by kernel_rfl) mJ HB zi (gH mJ) (aP mJ)
def xd {ρ:Type} (a0:List Int) (a1:List Int) (k:Bool×Unit→Option ρ):Option ρ:=
 br (!((a0.length:Int)==(a1.length:Int))) (k (false,())) ((zi ((a0,a1,0,()),(()),(()))).bind fun e6=>Sum.elim (fun e6_=>k (e6_.1.1,())) (fun e6_=>k (true,())) e6)
def ln (a0:List Int) (a1:List Int):Option (Bool×Unit):=xd a0 a1 some
theorem NI {ρ:Type} (a0:List Int) (a1:List Int) (k:Bool×Unit→Option ρ):xd a0 a1 k=(ln a0 a1).bind k:=by
 simp only [ln,xd,ak,co,Option.bind_assoc,Option.bind_some]
abbrev AW:bF:=bV [.ty (.ls (.i .i64)), .ty (.ls (.i .i64))] [.b] fun x=>ln x.1 x.2.1
theorem Gk:aH Tryz.prog 19 AW:=
 al (Λ:=aU [(b7 rL,Gj)]) (fn:=Tryz.f19) aV C7 af (by kernel_rfl) (aM (by kernel_rfl:_= [rL]) (aO (q:=b7 rL) rfl HC fun _ _ _=>by kernel_rfl)) (by kernel_rfl) (fun x=>ln x.1 x.2.1)
  (fun x=>Eq.trans (by kernel_rfl:_=xd x.1 x.2.1 (fun y=>ret (aI [.b] y) fun v g=>some (v,g))) (NI x.1 x.2.1 _)) fun _ _ h=>h
abbrev NJ:List (Nat×bF):= [(19,AW)]
theorem HD:ax Tryz.prog (aR NJ):=ae Gk <| aj _
def qq {ρ:Type} (a0:ai) (a1:ai) (k:Bool×Unit→Option ρ):Option ρ:=
 br (!(a0.epoch==a1.epoch)) (k (false,())) (br (!(a0.primary==a1.primary)) (k (false,())) ((ln a0.replicas a1.replicas).bind fun y1=>br (!y1.1) (k (false,())) ((ln a0.witnesses a1.witnesses).bind fun y2=>br (!y2.1) (k (false,())) (k (true,())))))
def kQ (a0:ai) (a1:ai):Option (Bool×Unit):=qq a0 a1 some
theorem JZ {ρ:Type} (a0:ai) (a1:ai) (k:Bool×Unit→Option ρ):qq a0 a1 k=(kQ a0 a1).bind k:=by
 simp only [kQ,qq,ak,Option.bind_assoc,Option.bind_some]
abbrev zj:bF:=bV [.ty (.st .config), .ty (.st .config)] [.b] fun x=>kQ x.1 x.2.1
theorem Gl:aH Tryz.prog 215 zj:=
 al (Λ:=aU []) (fn:=Tryz.f215) aV HD af (by kernel_rfl) (aM (by kernel_rfl:_= []) ah) (by kernel_rfl) (fun x=>kQ x.1 x.2.1)
  (fun x=>Eq.trans (by kernel_rfl:_=qq x.1 x.2.1 (fun y=>ret (aI [.b] y) fun v g=>some (v,g))) (JZ x.1 x.2.1 _)) fun _ _ h=>h
abbrev Un:List (Nat×bF):= []
theorem PA:ax Tryz.prog (aR Un):=aj _
def AX {ρ:Type} (a0:Op) (a1:Op) (k:Bool×Unit→Option ρ):Option ρ:=
 br (!(a0.client==a1.client)) (k (false,())) (br (!(a0.seq==a1.seq)) (k (false,())) (br (!(a0.kind==a1.kind)) (k (false,())) (br (!(a0.object==a1.object)) (k (false,())) (br (!(a0.old==a1.old)) (k (false,())) (br (!(a0.value==a1.value)) (k (false,())) (k (true,())))))))
def zk (a0:Op) (a1:Op):Option (Bool×Unit):=AX a0 a1 some
theorem Rt {ρ:Type} (a0:Op) (a1:Op) (k:Bool×Unit→Option ρ):AX a0 a1 k=(zk a0 a1).bind k:=by
 simp only [zk,AX,ak,Option.bind_some]
abbrev Ru:bF:=bV [.ty (.st .op), .ty (.st .op)] [.b] fun x=>zk x.1 x.2.1
theorem Uo:aH Tryz.prog 153 Ru:=
 al (Λ:=aU []) (fn:=Tryz.f153) aV PA af (by kernel_rfl) (aM (by kernel_rfl:_= []) ah) (by kernel_rfl) (fun x=>zk x.1 x.2.1)
  (fun x=>Eq.trans (by kernel_rfl:_=AX x.1 x.2.1 (fun y=>ret (aI [.b] y) fun v g=>some (v,g))) (Rt x.1 x.2.1 _)) fun _ _ h=>h
abbrev PB:List (Nat×bF):= [(153,Ru)]
theorem J0:ax Tryz.prog (aR PB):=ae Uo <| aj _
def rM {ρ:Type} (a0:bh) (a1:bh) (k:Bool×Unit→Option ρ):Option ρ:=
 br (!(a0.epoch==a1.epoch)) (k (false,())) ((zk a0.op a1.op).bind fun y1=>br (!y1.1) (k (false,())) (k (true,())))
def oP (a0:bh) (a1:bh):Option (Bool×Unit):=rM a0 a1 some
theorem Me {ρ:Type} (a0:bh) (a1:bh) (k:Bool×Unit→Option ρ):rM a0 a1 k=(oP a0 a1).bind k:=by
 simp only [oP,rM,ak,Option.bind_assoc,Option.bind_some]
abbrev Ip:bF:=bV [.ty (.st .entry), .ty (.st .entry)] [.b] fun x=>oP x.1 x.2.1
theorem PC:aH Tryz.prog 81 Ip:=
 al (Λ:=aU []) (fn:=Tryz.f81) aV J0 af (by kernel_rfl) (aM (by kernel_rfl:_= []) ah) (by kernel_rfl) (fun x=>oP x.1 x.2.1)
  (fun x=>Eq.trans (by kernel_rfl:_=rM x.1 x.2.1 (fun y=>ret (aI [.b] y) fun v g=>some (v,g))) (Me x.1 x.2.1 _)) fun _ _ h=>h
abbrev Gm:List (Nat×bF):= [(81,Ip)]
theorem ya:ax Tryz.prog (aR Gm):=ae PC <| aj _
noncomputable abbrev pt:Code:=cm (cg Tryz.f25) 0
abbrev fp:eG:=⟨[(0, .cl (.ro (.st .entry))),(1, .cl (.ro (.st .entry))),(5, .cl (.int .i64))],[],[],0,27⟩
abbrev kR:List (X×eG):= [(.ret,⟨[(4, .cl (.bl))],[],[],0,27⟩),(.ext 0,⟨[(4, .cl (.dead))],[],[],0,27⟩)]
def qa {ρ:Type} (v1:List bh) (v2:List bh) (v3:Int) (fn: (((List bh)×(List bh)×Int×Unit)×(Unit)×(Unit))→Option ρ) (fe: ((Bool×Unit)×(Unit)×(Unit))⊕((Unit×Unit)×(Unit)×(Unit))→Option ρ):Option ρ:=
 br (decide (v3 < (v1.length:Int))) (an (0≤v3) ((v1[v3.toNat]?).bind fun x4=>an (0≤v3) ((v2[v3.toNat]?).bind fun x5=>(oP x4 x5).bind fun y6=>br (!y6.1) (fe (.inl ((false,()),(()),(())))) (fn ((v1,v2,(IntKind.wrap .i64 (v3+1)),()),(()),(())))) none) none) (fe (.inr (((),()),(()),(()))))
def jB (s:fp.D):Option (fp.D⊕bu.D kR):=qa s.1.1 s.1.2.1 s.1.2.2.1 (fun s=>some (.inl s)) (fun e=>some (.inr e))
def uB:fp.D→Option (bu.D kR):=jm jB
theorem Gn {ρ:Type} (s:fp.D) (fn:fp.D→Option ρ) (fe:bu.D kR→Option ρ):qa s.1.1 s.1.2.1 s.1.2.2.1 fn fe=(jB s).bind (Sum.elim fn fe):=by
 simp only [jB,qa,ak,am,Option.bind_none,Option.bind_assoc,Option.bind_some,Sum.elim_inl,Sum.elim_inr]
abbrev AY:dp:=dy [] [0,1,5] fp kR uB
theorem D0 (s:fp.D):eL Θ (aR Gm) (aU []) pt (fp.mk' s) (dn [0,1,5] [4] fun x S=>some (x,S))=(jB s).bind (Sum.elim (fun s'=>some (.nor,fp.mk' s')) fun e=>some (bu.e kR e)):=
 Eq.trans (by kernel_rfl:_=qa s.1.1 s.1.2.1 s.1.2.2.1 (fun s'=>some (.nor,fp.mk' s')) (fun e=>some (bu.e kR e))) (Gn s _ _)
theorem D3:cf Tryz.prog pt AY:=bc aV ya af (by kernel_rfl) (dM (by kernel_rfl:_= []) ah) [] [0,1,5] [4] fp kR (by kernel_rfl) jB D0 uB (gH jB) (aP jB)
def sF {ρ:Type} (a0:List bh) (a1:List bh) (k:Bool×Unit→Option ρ):Option ρ:=
 br (!((a0.length:Int)==(a1.length:Int))) (k (false,())) ((uB ((a0,a1,0,()),(()),(()))).bind fun e7=>Sum.elim (fun e7_=>k (e7_.1.1,())) (fun e7_=>k (true,())) e7)
def mL (a0:List bh) (a1:List bh):Option (Bool×Unit):=sF a0 a1 some
theorem J1 {ρ:Type} (a0:List bh) (a1:List bh) (k:Bool×Unit→Option ρ):sF a0 a1 k=(mL a0 a1).bind k:=by
 simp only [mL,sF,ak,co,Option.bind_assoc,Option.bind_some]
abbrev Gp:bF:=bV [.ty (.ls (.st .entry)), .ty (.ls (.st .entry))] [.b] fun x=>mL x.1 x.2.1
theorem NK:aH Tryz.prog 25 Gp:=
 al (Λ:=aU [(b7 pt,AY)]) (fn:=Tryz.f25) aV ya af (by kernel_rfl) (aM (by kernel_rfl:_= [pt]) (aO (q:=b7 pt) rfl D3 fun _ _ _=>by kernel_rfl)) (by kernel_rfl) (fun x=>mL x.1 x.2.1)
  (fun x=>Eq.trans (by kernel_rfl:_=sF x.1 x.2.1 (fun y=>ret (aI [.b] y) fun v g=>some (v,g))) (J1 x.1 x.2.1 _)) fun _ _ h=>h
abbrev NL:List (Nat×bF):= [(215,zj),(25,Gp)]
theorem HE:ax Tryz.prog (aR NL):=ae Gl <| ae NK <| aj _
def qs {ρ:Type} (a0:aB) (a1:aB) (k:Bool×Unit→Option ρ):Option ρ:=
 br (!(a0.up==a1.up)) (k (false,())) (br (!(a0.intact==a1.intact)) (k (false,())) (br (!(a0.version==a1.version)) (k (false,())) (br (!(a0.epoch==a1.epoch)) (k (false,())) ((kQ a0.config a1.config).bind fun y1=>br (!y1.1) (k (false,())) (br (!(a0.first==a1.first)) (k (false,())) ((mL a0.log a1.log).bind fun y2=>br (!y2.1) (k (false,())) (br (!(a0.commit==a1.commit)) (k (false,())) ((mL a0.learned a1.learned).bind fun y3=>br (!y3.1) (k (false,())) (k (true,()))))))))))
def mM (a0:aB) (a1:aB):Option (Bool×Unit):=qs a0 a1 some
theorem J2 {ρ:Type} (a0:aB) (a1:aB) (k:Bool×Unit→Option ρ):qs a0 a1 k=(mM a0 a1).bind k:=by
 simp only [mM,qs,ak,Option.bind_assoc,Option.bind_some]
abbrev Gq:bF:=bV [.ty (.st .server), .ty (.st .server)] [.b] fun x=>mM x.1 x.2.1
theorem NM:aH Tryz.prog 145 Gq:=
 al (Λ:=aU []) (fn:=Tryz.f145) aV HE af (by kernel_rfl) (aM (by kernel_rfl:_= []) ah) (by kernel_rfl) (fun x=>mM x.1 x.2.1)
  (fun x=>Eq.trans (by kernel_rfl:_=qs x.1 x.2.1 (fun y=>ret (aI [.b] y) fun v g=>some (v,g))) (J2 x.1 x.2.1 _)) fun _ _ h=>h
abbrev C8:List (Nat×bF):= [(145,Gq)]
theorem wy:ax Tryz.prog (aR C8):=ae NM <| aj _
noncomputable abbrev n6:Code:=cm (cg Tryz.f67) 0
abbrev eE:eG:=⟨[(0, .cl (.ro (.st .server))),(1, .cl (.ro (.st .server))),(5, .cl (.int .i64))],[],[],0,27⟩
abbrev jS:List (X×eG):= [(.ret,⟨[(4, .cl (.bl))],[],[],0,27⟩),(.ext 0,⟨[(4, .cl (.dead))],[],[],0,27⟩)]
def pu {ρ:Type} (v1:List aB) (v2:List aB) (v3:Int) (fn: (((List aB)×(List aB)×Int×Unit)×(Unit)×(Unit))→Option ρ) (fe: ((Bool×Unit)×(Unit)×(Unit))⊕((Unit×Unit)×(Unit)×(Unit))→Option ρ):Option ρ:=
 br (decide (v3 < (v1.length:Int))) (an (0≤v3) ((v1[v3.toNat]?).bind fun x4=>an (0≤v3) ((v2[v3.toNat]?).bind fun x5=>(mM x4 x5).bind fun y6=>br (!y6.1) (fe (.inl ((false,()),(()),(())))) (fn ((v1,v2,(IntKind.wrap .i64 (v3+1)),()),(()),(())))) none) none) (fe (.inr (((),()),(()),(()))))
def iu (s:eE.D):Option (eE.D⊕bu.D jS):=pu s.1.1 s.1.2.1 s.1.2.2.1 (fun s=>some (.inl s)) (fun e=>some (.inr e))
def s7:eE.D→Option (bu.D jS):=jm iu
theorem D4 {ρ:Type} (s:eE.D) (fn:eE.D→Option ρ) (fe:bu.D jS→Option ρ):pu s.1.1 s.1.2.1 s.1.2.2.1 fn fe=(iu s).bind (Sum.elim fn fe):=by
 simp only [iu,pu,ak,am,Option.bind_none,Option.bind_assoc,Option.bind_some,Sum.elim_inl,Sum.elim_inr]
abbrev yb:dp:=dy [] [0,1,5] eE jS s7
theorem Ce (s:eE.D):eL Θ (aR C8) (aU []) n6 (eE.mk' s) (dn [0,1,5] [4] fun x S=>some (x,S))=(iu s).bind (Sum.elim (fun s'=>some (.nor,eE.mk' s')) fun e=>some (bu.e jS e)):=
 Eq.trans (by kernel_rfl:_=pu s.1.1 s.1.2.1 s.1.2.2.1 (fun s'=>some (.nor,eE.mk' s')) (fun e=>some (bu.e jS e))) (D4 s _ _)
theorem Cf:cf Tryz.prog n6 yb:=bc aV wy af (by kernel_rfl) (dM (by kernel_rfl:_= []) ah) [] [0,1,5] [4] eE jS (by kernel_rfl) iu Ce s7 (gH iu) (aP iu)
def qX {ρ:Type} (a0:List aB) (a1:List aB) (k:Bool×Unit→Option ρ):Option ρ:=
 br (!((a0.length:Int)==(a1.length:Int))) (k (false,())) ((s7 ((a0,a1,0,()),(()),(()))).bind fun e7=>Sum.elim (fun e7_=>k (e7_.1.1,())) (fun e7_=>k (true,())) e7)
def mN (a0:List aB) (a1:List aB):Option (Bool×Unit):=qX a0 a1 some
theorem HF {ρ:Type} (a0:List aB) (a1:List aB) (k:Bool×Unit→Option ρ):qX a0 a1 k=(mN a0 a1).bind k:=by
 simp only [mN,qX,ak,co,Option.bind_assoc,Option.bind_some]
abbrev C9:bF:=bV [.ty (.ls (.st .server)), .ty (.ls (.st .server))] [.b] fun x=>mN x.1 x.2.1
theorem Mf:aH Tryz.prog 67 C9:=
 al (Λ:=aU [(b7 n6,yb)]) (fn:=Tryz.f67) aV wy af (by kernel_rfl) (aM (by kernel_rfl:_= [n6]) (aO (q:=b7 n6) rfl Cf fun _ _ _=>by kernel_rfl)) (by kernel_rfl) (fun x=>mN x.1 x.2.1)
  (fun x=>Eq.trans (by kernel_rfl:_=qX x.1 x.2.1 (fun y=>ret (aI [.b] y) fun v g=>some (v,g))) (HF x.1 x.2.1 _)) fun _ _ h=>h
abbrev Da:List (Nat×bF):= [(215,zj)]
theorem wz:ax Tryz.prog (aR Da):=ae Gl <| aj _
noncomputable abbrev n7:Code:=cm (cg Tryz.f146) 0
abbrev eF:eG:=⟨[(0, .cl (.ro (.st .config))),(1, .cl (.ro (.st .config))),(5, .cl (.int .i64))],[],[],0,27⟩
abbrev jT:List (X×eG):= [(.ret,⟨[(4, .cl (.bl))],[],[],0,27⟩),(.ext 0,⟨[(4, .cl (.dead))],[],[],0,27⟩)]
def pv {ρ:Type} (v1:List ai) (v2:List ai) (v3:Int) (fn: (((List ai)×(List ai)×Int×Unit)×(Unit)×(Unit))→Option ρ) (fe: ((Bool×Unit)×(Unit)×(Unit))⊕((Unit×Unit)×(Unit)×(Unit))→Option ρ):Option ρ:=
 br (decide (v3 < (v1.length:Int))) (an (0≤v3) ((v1[v3.toNat]?).bind fun x4=>an (0≤v3) ((v2[v3.toNat]?).bind fun x5=>(kQ x4 x5).bind fun y6=>br (!y6.1) (fe (.inl ((false,()),(()),(())))) (fn ((v1,v2,(IntKind.wrap .i64 (v3+1)),()),(()),(())))) none) none) (fe (.inr (((),()),(()),(()))))
def iv (s:eF.D):Option (eF.D⊕bu.D jT):=pv s.1.1 s.1.2.1 s.1.2.2.1 (fun s=>some (.inl s)) (fun e=>some (.inr e))
def s8:eF.D→Option (bu.D jT):=jm iv
theorem D5 {ρ:Type} (s:eF.D) (fn:eF.D→Option ρ) (fe:bu.D jT→Option ρ):pv s.1.1 s.1.2.1 s.1.2.2.1 fn fe=(iv s).bind (Sum.elim fn fe):=by
 simp only [iv,pv,ak,am,Option.bind_none,Option.bind_assoc,Option.bind_some,Sum.elim_inl,Sum.elim_inr]
abbrev yc:dp:=dy [] [0,1,5] eF jT s8
theorem Cg (s:eF.D):eL Θ (aR Da) (aU []) n7 (eF.mk' s) (dn [0,1,5] [4] fun x S=>some (x,S))=(iv s).bind (Sum.elim (fun s'=>some (.nor,eF.mk' s')) fun e=>some (bu.e jT e)):=
 Eq.trans (by kernel_rfl:_=pv s.1.1 s.1.2.1 s.1.2.2.1 (fun s'=>some (.nor,eF.mk' s')) (fun e=>some (bu.e jT e))) (D5 s _ _)
theorem Ch:cf Tryz.prog n7 yc:=bc aV wz af (by kernel_rfl) (dM (by kernel_rfl:_= []) ah) [] [0,1,5] [4] eF jT (by kernel_rfl) iv Cg s8 (gH iv) (aP iv)
def qY {ρ:Type} (a0:List ai) (a1:List ai) (k:Bool×Unit→Option ρ):Option ρ:=
 br (!((a0.length:Int)==(a1.length:Int))) (k (false,())) ((s8 ((a0,a1,0,()),(()),(()))).bind fun e7=>Sum.elim (fun e7_=>k (e7_.1.1,())) (fun e7_=>k (true,())) e7)
def mO (a0:List ai) (a1:List ai):Option (Bool×Unit):=qY a0 a1 some
theorem HG {ρ:Type} (a0:List ai) (a1:List ai) (k:Bool×Unit→Option ρ):qY a0 a1 k=(mO a0 a1).bind k:=by
 simp only [mO,qY,ak,co,Option.bind_assoc,Option.bind_some]
abbrev Db:bF:=bV [.ty (.ls (.st .config)), .ty (.ls (.st .config))] [.b] fun x=>mO x.1 x.2.1
theorem Mg:aH Tryz.prog 146 Db:=
 al (Λ:=aU [(b7 n7,yc)]) (fn:=Tryz.f146) aV wz af (by kernel_rfl) (aM (by kernel_rfl:_= [n7]) (aO (q:=b7 n7) rfl Ch fun _ _ _=>by kernel_rfl)) (by kernel_rfl) (fun x=>mO x.1 x.2.1)
  (fun x=>Eq.trans (by kernel_rfl:_=qY x.1 x.2.1 (fun y=>ret (aI [.b] y) fun v g=>some (v,g))) (HG x.1 x.2.1 _)) fun _ _ h=>h
abbrev HH:List (Nat×bF):= [(146,Db)]
theorem Ci:ax Tryz.prog (aR HH):=ae Mg <| aj _
def mQ {ρ:Type} (a0:ay) (a1:ay) (k:Bool×Unit→Option ρ):Option ρ:=
 (mO a0.configs a1.configs).bind fun y1=>br (!y1.1) (k (false,())) (br (!(a0.activated==a1.activated)) (k (false,())) (k (true,())))
def jU (a0:ay) (a1:ay):Option (Bool×Unit):=mQ a0 a1 some
theorem D6 {ρ:Type} (a0:ay) (a1:ay) (k:Bool×Unit→Option ρ):mQ a0 a1 k=(jU a0 a1).bind k:=by
 simp only [jU,mQ,ak,Option.bind_assoc,Option.bind_some]
abbrev yd:bF:=bV [.ty (.st .masterLog), .ty (.st .masterLog)] [.b] fun x=>jU x.1 x.2.1
theorem HI:aH Tryz.prog 68 yd:=
 al (Λ:=aU []) (fn:=Tryz.f68) aV Ci af (by kernel_rfl) (aM (by kernel_rfl:_= []) ah) (by kernel_rfl) (fun x=>jU x.1 x.2.1)
  (fun x=>Eq.trans (by kernel_rfl:_=mQ x.1 x.2.1 (fun y=>ret (aI [.b] y) fun v g=>some (v,g))) (D6 x.1 x.2.1 _)) fun _ _ h=>h
abbrev PD:List (Nat×bF):= []
theorem J3:ax Tryz.prog (aR PD):=aj _
def rN {ρ:Type} (a0:kV) (a1:kV) (k:Bool×Unit→Option ρ):Option ρ:=
 br (!(a0.epoch==a1.epoch)) (k (false,())) (br (!(a0.holder==a1.holder)) (k (false,())) (br (!(a0.ends==a1.ends)) (k (false,())) (k (true,()))))
def pX (a0:kV) (a1:kV):Option (Bool×Unit):=rN a0 a1 some
theorem Mh {ρ:Type} (a0:kV) (a1:kV) (k:Bool×Unit→Option ρ):rN a0 a1 k=(pX a0 a1).bind k:=by
 simp only [pX,rN,ak,Option.bind_some]
abbrev Iq:bF:=bV [.ty (.st .lease), .ty (.st .lease)] [.b] fun x=>pX x.1 x.2.1
theorem PE:aH Tryz.prog 69 Iq:=
 al (Λ:=aU []) (fn:=Tryz.f69) aV J3 af (by kernel_rfl) (aM (by kernel_rfl:_= []) ah) (by kernel_rfl) (fun x=>pX x.1 x.2.1)
  (fun x=>Eq.trans (by kernel_rfl:_=rN x.1 x.2.1 (fun y=>ret (aI [.b] y) fun v g=>some (v,g))) (Mh x.1 x.2.1 _)) fun _ _ h=>h
abbrev PF:List (Nat×bF):= []
theorem J4:ax Tryz.prog (aR PF):=aj _
def rO {ρ:Type} (a0:bz) (a1:bz) (k:Bool×Unit→Option ρ):Option ρ:=
 br (!(a0.rack==a1.rack)) (k (false,())) (br (!(a0.capacity==a1.capacity)) (k (false,())) (br (!(a0.load==a1.load)) (k (false,())) (k (true,()))))
def oQ (a0:bz) (a1:bz):Option (Bool×Unit):=rO a0 a1 some
theorem Mi {ρ:Type} (a0:bz) (a1:bz) (k:Bool×Unit→Option ρ):rO a0 a1 k=(oQ a0 a1).bind k:=by
 simp only [oQ,rO,ak,Option.bind_some]
abbrev Ir:bF:=bV [.ty (.st .place), .ty (.st .place)] [.b] fun x=>oQ x.1 x.2.1
theorem PG:aH Tryz.prog 147 Ir:=
 al (Λ:=aU []) (fn:=Tryz.f147) aV J4 af (by kernel_rfl) (aM (by kernel_rfl:_= []) ah) (by kernel_rfl) (fun x=>oQ x.1 x.2.1)
  (fun x=>Eq.trans (by kernel_rfl:_=rO x.1 x.2.1 (fun y=>ret (aI [.b] y) fun v g=>some (v,g))) (Mi x.1 x.2.1 _)) fun _ _ h=>h
abbrev Gr:List (Nat×bF):= [(147,Ir)]
theorem ye:ax Tryz.prog (aR Gr):=ae PG <| aj _
noncomputable abbrev pw:Code:=cm (cg Tryz.f70) 0
abbrev fq:eG:=⟨[(0, .cl (.ro (.st .place))),(1, .cl (.ro (.st .place))),(5, .cl (.int .i64))],[],[],0,27⟩
abbrev kT:List (X×eG):= [(.ret,⟨[(4, .cl (.bl))],[],[],0,27⟩),(.ext 0,⟨[(4, .cl (.dead))],[],[],0,27⟩)]
def qb {ρ:Type} (v1:List bz) (v2:List bz) (v3:Int) (fn: (((List bz)×(List bz)×Int×Unit)×(Unit)×(Unit))→Option ρ) (fe: ((Bool×Unit)×(Unit)×(Unit))⊕((Unit×Unit)×(Unit)×(Unit))→Option ρ):Option ρ:=
 br (decide (v3 < (v1.length:Int))) (an (0≤v3) ((v1[v3.toNat]?).bind fun x4=>an (0≤v3) ((v2[v3.toNat]?).bind fun x5=>(oQ x4 x5).bind fun y6=>br (!y6.1) (fe (.inl ((false,()),(()),(())))) (fn ((v1,v2,(IntKind.wrap .i64 (v3+1)),()),(()),(())))) none) none) (fe (.inr (((),()),(()),(()))))
def jC (s:fq.D):Option (fq.D⊕bu.D kT):=qb s.1.1 s.1.2.1 s.1.2.2.1 (fun s=>some (.inl s)) (fun e=>some (.inr e))
def uC:fq.D→Option (bu.D kT):=jm jC
theorem Gs {ρ:Type} (s:fq.D) (fn:fq.D→Option ρ) (fe:bu.D kT→Option ρ):qb s.1.1 s.1.2.1 s.1.2.2.1 fn fe=(jC s).bind (Sum.elim fn fe):=by
 simp only [jC,qb,ak,am,Option.bind_none,Option.bind_assoc,Option.bind_some,Sum.elim_inl,Sum.elim_inr]
abbrev AZ:dp:=dy [] [0,1,5] fq kT uC
theorem D7 (s:fq.D):eL Θ (aR Gr) (aU []) pw (fq.mk' s) (dn [0,1,5] [4] fun x S=>some (x,S))=(jC s).bind (Sum.elim (fun s'=>some (.nor,fq.mk' s')) fun e=>some (bu.e kT e)):=
 Eq.trans (by kernel_rfl:_=qb s.1.1 s.1.2.1 s.1.2.2.1 (fun s'=>some (.nor,fq.mk' s')) (fun e=>some (bu.e kT e))) (Gs s _ _)
theorem D8:cf Tryz.prog pw AZ:=bc aV ye af (by kernel_rfl) (dM (by kernel_rfl:_= []) ah) [] [0,1,5] [4] fq kT (by kernel_rfl) jC D7 uC (gH jC) (aP jC)
def sG {ρ:Type} (a0:List bz) (a1:List bz) (k:Bool×Unit→Option ρ):Option ρ:=
 br (!((a0.length:Int)==(a1.length:Int))) (k (false,())) ((uC ((a0,a1,0,()),(()),(()))).bind fun e7=>Sum.elim (fun e7_=>k (e7_.1.1,())) (fun e7_=>k (true,())) e7)
def oz (a0:List bz) (a1:List bz):Option (Bool×Unit):=sG a0 a1 some
theorem J5 {ρ:Type} (a0:List bz) (a1:List bz) (k:Bool×Unit→Option ρ):sG a0 a1 k=(oz a0 a1).bind k:=by
 simp only [oz,sG,ak,co,Option.bind_assoc,Option.bind_some]
abbrev Gt:bF:=bV [.ty (.ls (.st .place)), .ty (.ls (.st .place))] [.b] fun x=>oz x.1 x.2.1
theorem NN:aH Tryz.prog 70 Gt:=
 al (Λ:=aU [(b7 pw,AZ)]) (fn:=Tryz.f70) aV ye af (by kernel_rfl) (aM (by kernel_rfl:_= [pw]) (aO (q:=b7 pw) rfl D8 fun _ _ _=>by kernel_rfl)) (by kernel_rfl) (fun x=>oz x.1 x.2.1)
  (fun x=>Eq.trans (by kernel_rfl:_=sG x.1 x.2.1 (fun y=>ret (aI [.b] y) fun v g=>some (v,g))) (J5 x.1 x.2.1 _)) fun _ _ h=>h
abbrev Mj:List (Nat×bF):= [(67,C9),(19,AW),(68,yd),(69,Iq),(70,Gt)]
theorem Gu:ax Tryz.prog (aR Mj):=ae Mf <| ae Gk <| ae HI <| ae PE <| ae NN <| aj _
def pz {ρ:Type} (a0:aG) (a1:aG) (k:Bool×Unit→Option ρ):Option ρ:=
 br (!(a0.now==a1.now)) (k (false,())) ((mN a0.servers a1.servers).bind fun y1=>br (!y1.1) (k (false,())) ((ln a0.sides a1.sides).bind fun y2=>br (!y2.1) (k (false,())) ((jU a0.master a1.master).bind fun y3=>br (!y3.1) (k (false,())) (br (!(a0.masterUp==a1.masterUp)) (k (false,())) ((pX a0.lease a1.lease).bind fun y4=>br (!y4.1) (k (false,())) ((oz a0.places a1.places).bind fun y5=>br (!y5.1) (k (false,())) (k (true,()))))))))
def mR (a0:aG) (a1:aG):Option (Bool×Unit):=pz a0 a1 some
theorem HJ {ρ:Type} (a0:aG) (a1:aG) (k:Bool×Unit→Option ρ):pz a0 a1 k=(mR a0 a1).bind k:=by
 simp only [mR,pz,ak,Option.bind_assoc,Option.bind_some]
abbrev Dc:bF:=bV [.ty (.st .cluster), .ty (.st .cluster)] [.b] fun x=>mR x.1 x.2.1
theorem Ml:aH Tryz.prog 16 Dc:=
 al (Λ:=aU []) (fn:=Tryz.f16) aV Gu af (by kernel_rfl) (aM (by kernel_rfl:_= []) ah) (by kernel_rfl) (fun x=>mR x.1 x.2.1)
  (fun x=>Eq.trans (by kernel_rfl:_=pz x.1 x.2.1 (fun y=>ret (aI [.b] y) fun v g=>some (v,g))) (HJ x.1 x.2.1 _)) fun _ _ h=>h
abbrev yf:List (Nat×bF):= []
theorem tY:ax Tryz.prog (aR yf):=aj _
noncomputable abbrev lp:Code:=cm (cg Tryz.f21) 0
abbrev dD:eG:=⟨[(0, .cl (.own 0 (.i .i64))),(1, .cl (.int .i64)),(5, .cl (.int .i64))],[],[.i .i64],1,19⟩
abbrev gU:List (X×eG):= [(.ext 0,⟨[(1, .cl (.int .i64))],[],[.i .i64],1,19⟩)]
def iE {ρ:Type} (v1:List Int) (v2:Int) (v3:Int) (fn: ((Unit×Int×Int×Unit)×(Unit)×((List Int)×Unit))→Option ρ) (fe: ((Int×Unit)×(Unit)×((List Int)×Unit))→Option ρ):Option ρ:=
 br (decide (v3 < (v1.length:Int))) (an (0≤v3∧v3 < (v1.length:Int)) ((v1[v3.toNat]?).bind fun _=>fn (((),(IntKind.wrap .i64 (v2+1)),(IntKind.wrap .i64 (v3+1)),()),(()),((v1.set v3.toNat v2),()))) none) (fe ((v2,()),(()),(v1,())))
def eb (s:dD.D):Option (dD.D⊕bu.D gU):=iE s.2.2.1 s.1.2.1 s.1.2.2.1 (fun s=>some (.inl s)) (fun e=>some (.inr e))
def qy:dD.D→Option (bu.D gU):=jm eb
theorem A0 {ρ:Type} (s:dD.D) (fn:dD.D→Option ρ) (fe:bu.D gU→Option ρ):iE s.2.2.1 s.1.2.1 s.1.2.2.1 fn fe=(eb s).bind (Sum.elim fn fe):=by
 simp only [eb,iE,ak,am,Option.bind_none,Option.bind_assoc,Option.bind_some,Sum.elim_inl,Sum.elim_inr]
abbrev u4:dp:=dy [] [0,1,5] dD gU qy
theorem zm (s:dD.D):eL Θ (aR yf) (aU []) lp (dD.mk' s) (dn [0,1,5] [1] fun x S=>some (x,S))=(eb s).bind (Sum.elim (fun s'=>some (.nor,dD.mk' s')) fun e=>some (bu.e gU e)):=
 Eq.trans (by kernel_rfl:_=iE s.2.2.1 s.1.2.1 s.1.2.2.1 (fun s'=>some (.nor,dD.mk' s')) (fun e=>some (bu.e gU e))) (A0 s _ _)
theorem zn:cf Tryz.prog lp u4:=bc aV tY af (by kernel_rfl) (dM (by kernel_rfl:_= []) ah) [] [0,1,5] [1] dD gU (by kernel_rfl) eb zm qy (gH eb) (aP eb)
def pA {ρ:Type} (a0:List Int) (a1:Int) (k: (List Int)×Int×Unit→Option ρ):Option ρ:=
 (qy (((),a1,0,()),(()),(a0,()))).bind fun e6=>k (e6.2.2.1,e6.1.1,())
def ec (a0:List Int) (a1:Int):Option ((List Int)×Int×Unit):=pA a0 a1 some
theorem D9 {ρ:Type} (a0:List Int) (a1:Int) (k: (List Int)×Int×Unit→Option ρ):pA a0 a1 k=(ec a0 a1).bind k:=by
 simp only [ec,pA,Option.bind_assoc,Option.bind_some]
abbrev n8:bF:=G1 (.i .i64) [.ty (.i .i64)] [.i .i64] fun l x=>ec l x.1
theorem qc:aH Tryz.prog (mX 21) n8:=
 sf (Λ:=aU [(b7 lp,u4)]) (fn:=Tryz.f21) aV tY af (by kernel_rfl) (aM (by kernel_rfl:_= [lp]) (aO (q:=b7 lp) rfl zn fun _ _ _=>by kernel_rfl)) (by kernel_rfl) (fun l x=>ec l x.1)
  (fun l x=>Eq.trans (by kernel_rfl:_=pA l x.1 (fun y=>G0 (.i .i64) [.i .i64] y fun v g=>some (v,g))) (D9 l x.1 _)) fun _ _ _ h=>h
abbrev u5:List (Nat×bF):= []
theorem rP:ax Tryz.prog (aR u5):=aj _
noncomputable abbrev jD:Code:=cm (cg Tryz.f26) 0
abbrev cO:eG:=⟨[(0, .cl (.own 0 (.st .entry))),(1, .cl (.int .i64)),(5, .cl (.int .i64))],[],[.st .entry],1,68⟩
abbrev fr:List (X×eG):= [(.ext 0,⟨[(1, .cl (.int .i64))],[],[.st .entry],1,68⟩)]
def fT {ρ:Type} (v1:List bh) (v2:Int) (v3:Int) (fn: ((Unit×Int×Int×Unit)×(Unit)×((List bh)×Unit))→Option ρ) (fe: ((Int×Unit)×(Unit)×((List bh)×Unit))→Option ρ):Option ρ:=
 br (decide (v3 < (v1.length:Int))) (an (0≤v3∧v3 < (v1.length:Int)) ((v1[v3.toNat]?).bind fun x4=>let z5:=v1.set v3.toNat (⟨v2,x4.op⟩:bh); an (0≤v3∧v3 < (z5.length:Int)) ((z5[v3.toNat]?).bind fun x6=>let z7:=z5.set v3.toNat (⟨x6.epoch,(⟨(IntKind.wrap .i64 (v2+1)),x6.op.seq,x6.op.kind,x6.op.object,x6.op.old,x6.op.value⟩:Op)⟩:bh); an (0≤v3∧v3 < (z7.length:Int)) ((z7[v3.toNat]?).bind fun x8=>let z9:=z7.set v3.toNat (⟨x8.epoch,(⟨x8.op.client,(IntKind.wrap .i64 ((IntKind.wrap .i64 (v2+1))+1)),x8.op.kind,x8.op.object,x8.op.old,x8.op.value⟩:Op)⟩:bh); an (0≤v3∧v3 < (z9.length:Int)) ((z9[v3.toNat]?).bind fun x10=>let z11:=z9.set v3.toNat (⟨x10.epoch,(⟨x10.op.client,x10.op.seq,(IntKind.wrap .i64 ((IntKind.wrap .i64 ((IntKind.wrap .i64 (v2+1))+1))+1)),x10.op.object,x10.op.old,x10.op.value⟩:Op)⟩:bh); an (0≤v3∧v3 < (z11.length:Int)) ((z11[v3.toNat]?).bind fun x12=>let z13:=z11.set v3.toNat (⟨x12.epoch,(⟨x12.op.client,x12.op.seq,x12.op.kind,(IntKind.wrap .i64 ((IntKind.wrap .i64 ((IntKind.wrap .i64 ((IntKind.wrap .i64 (v2+1))+1))+1))+1)),x12.op.old,x12.op.value⟩:Op)⟩:bh); an (0≤v3∧v3 < (z13.length:Int)) ((z13[v3.toNat]?).bind fun x14=>let z15:=z13.set v3.toNat (⟨x14.epoch,(⟨x14.op.client,x14.op.seq,x14.op.kind,x14.op.object,(IntKind.wrap .i64 ((IntKind.wrap .i64 ((IntKind.wrap .i64 ((IntKind.wrap .i64 ((IntKind.wrap .i64 (v2+1))+1))+1))+1))+1)),x14.op.value⟩:Op)⟩:bh); an (0≤v3∧v3 < (z15.length:Int)) ((z15[v3.toNat]?).bind fun x16=>fn (((),(IntKind.wrap .i64 ((IntKind.wrap .i64 ((IntKind.wrap .i64 ((IntKind.wrap .i64 ((IntKind.wrap .i64 ((IntKind.wrap .i64 ((IntKind.wrap .i64 (v2+1))+1))+1))+1))+1))+1))+1)),(IntKind.wrap .i64 (v3+1)),()),(()),((z15.set v3.toNat (⟨x16.epoch,(⟨x16.op.client,x16.op.seq,x16.op.kind,x16.op.object,x16.op.old,(IntKind.wrap .i64 ((IntKind.wrap .i64 ((IntKind.wrap .i64 ((IntKind.wrap .i64 ((IntKind.wrap .i64 ((IntKind.wrap .i64 (v2+1))+1))+1))+1))+1))+1))⟩:Op)⟩:bh)),()))) none) none) none) none) none) none) none) (fe ((v2,()),(()),(v1,())))
def dj (s:cO.D):Option (cO.D⊕bu.D fr):=fT s.2.2.1 s.1.2.1 s.1.2.2.1 (fun s=>some (.inl s)) (fun e=>some (.inr e))
def pB:cO.D→Option (bu.D fr):=jm dj
theorem xy {ρ:Type} (s:cO.D) (fn:cO.D→Option ρ) (fe:bu.D fr→Option ρ):fT s.2.2.1 s.1.2.1 s.1.2.2.1 fn fe=(dj s).bind (Sum.elim fn fe):=by
 simp only [dj,fT,ak,am,Option.bind_none,Option.bind_assoc,Option.bind_some,Sum.elim_inl,Sum.elim_inr]
abbrev sH:dp:=dy [] [0,1,5] cO fr pB
theorem wA (s:cO.D):eL Θ (aR u5) (aU []) jD (cO.mk' s) (dn [0,1,5] [1] fun x S=>some (x,S))=(dj s).bind (Sum.elim (fun s'=>some (.nor,cO.mk' s')) fun e=>some (bu.e fr e)):=
 Eq.trans (by kernel_rfl:_=fT s.2.2.1 s.1.2.1 s.1.2.2.1 (fun s'=>some (.nor,cO.mk' s')) (fun e=>some (bu.e fr e))) (xy s _ _)
theorem wB:cf Tryz.prog jD sH:=bc aV rP af (by kernel_rfl) (dM (by kernel_rfl:_= []) ah) [] [0,1,5] [1] cO fr (by kernel_rfl) dj wA pB (gH dj) (aP dj)
def nj {ρ:Type} (a0:List bh) (a1:Int) (k: (List bh)×Int×Unit→Option ρ):Option ρ:=
 (pB (((),a1,0,()),(()),(a0,()))).bind fun e18=>k (e18.2.2.1,e18.1.1,())
def fE (a0:List bh) (a1:Int):Option ((List bh)×Int×Unit):=nj a0 a1 some
theorem A1 {ρ:Type} (a0:List bh) (a1:Int) (k: (List bh)×Int×Unit→Option ρ):nj a0 a1 k=(fE a0 a1).bind k:=by
 simp only [fE,nj,Option.bind_assoc,Option.bind_some]
abbrev u6:bF:=G1 (.st .entry) [.ty (.i .i64)] [.i .i64] fun l x=>fE l x.1
theorem Ea:aH Tryz.prog (mX 26) u6:=
 sf (Λ:=aU [(b7 jD,sH)]) (fn:=Tryz.f26) aV rP af (by kernel_rfl) (aM (by kernel_rfl:_= [jD]) (aO (q:=b7 jD) rfl wB fun _ _ _=>by kernel_rfl)) (by kernel_rfl) (fun l x=>fE l x.1)
  (fun l x=>Eq.trans (by kernel_rfl:_=nj l x.1 (fun y=>G0 (.st .entry) [.i .i64] y fun v g=>some (v,g))) (A1 l x.1 _)) fun _ _ _ h=>h
abbrev tZ:List (Nat×bF):= [(mX 21,n8),(mX 26,u6)]
theorem qK:ax Tryz.prog (aR tZ):=ae qc <| ae Ea <| aj _
noncomputable abbrev i8:Code:=cm (cg Tryz.f76) 0
abbrev cB:eG:=⟨[(0, .cl (.own 0 (.st .server))),(1, .cl (.int .i64)),(5, .cl (.int .i64))],[],[.st .server],1,105⟩
abbrev eR:List (X×eG):= [(.ext 0,⟨[(1, .cl (.int .i64))],[],[.st .server],1,105⟩)]
def fA {ρ:Type} (v1:List aB) (v2:Int) (v3:Int) (fn: ((Unit×Int×Int×Unit)×(Unit)×((List aB)×Unit))→Option ρ) (fe: ((Int×Unit)×(Unit)×((List aB)×Unit))→Option ρ):Option ρ:=
 br (decide (v3 < (v1.length:Int))) (an (0≤v3∧v3 < (v1.length:Int)) ((v1[v3.toNat]?).bind fun x4=>let z5:=v1.set v3.toNat (⟨((Int.tmod v2 3)==0),x4.intact,x4.version,x4.epoch,x4.config,x4.first,x4.log,x4.commit,x4.learned⟩:aB); an (0≤v3∧v3 < (z5.length:Int)) ((z5[v3.toNat]?).bind fun x6=>let z7:=z5.set v3.toNat (⟨x6.up,((Int.tmod (IntKind.wrap .i64 (v2+1)) 3)==0),x6.version,x6.epoch,x6.config,x6.first,x6.log,x6.commit,x6.learned⟩:aB); an (0≤v3∧v3 < (z7.length:Int)) ((z7[v3.toNat]?).bind fun x8=>let z9:=z7.set v3.toNat (⟨x8.up,x8.intact,(IntKind.wrap .i64 ((IntKind.wrap .i64 (v2+1))+1)),x8.epoch,x8.config,x8.first,x8.log,x8.commit,x8.learned⟩:aB); an (0≤v3∧v3 < (z9.length:Int)) ((z9[v3.toNat]?).bind fun x10=>let z11:=z9.set v3.toNat (⟨x10.up,x10.intact,x10.version,(IntKind.wrap .i64 ((IntKind.wrap .i64 ((IntKind.wrap .i64 (v2+1))+1))+1)),x10.config,x10.first,x10.log,x10.commit,x10.learned⟩:aB); an (0≤v3∧v3 < (z11.length:Int)) ((z11[v3.toNat]?).bind fun x12=>let z13:=z11.set v3.toNat (⟨x12.up,x12.intact,x12.version,x12.epoch,(⟨(IntKind.wrap .i64 ((IntKind.wrap .i64 ((IntKind.wrap .i64 ((IntKind.wrap .i64 (v2+1))+1))+1))+1)),x12.config.primary,x12.config.replicas,x12.config.witnesses⟩:ai),x12.first,x12.log,x12.commit,x12.learned⟩:aB); an (0≤v3∧v3 < (z13.length:Int)) ((z13[v3.toNat]?).bind fun x14=>let z15:=z13.set v3.toNat (⟨x14.up,x14.intact,x14.version,x14.epoch,(⟨x14.config.epoch,(IntKind.wrap .i64 ((IntKind.wrap .i64 ((IntKind.wrap .i64 ((IntKind.wrap .i64 ((IntKind.wrap .i64 (v2+1))+1))+1))+1))+1)),x14.config.replicas,x14.config.witnesses⟩:ai),x14.first,x14.log,x14.commit,x14.learned⟩:aB); an (0≤v3∧v3 < (z15.length:Int)) ((z15[v3.toNat]?).bind fun x16=>(z15[v3.toNat]?).bind fun x17=>an ((0:Nat)=0∧x16.config.replicas.length=x17.config.replicas.length) ((ec x17.config.replicas (IntKind.wrap .i64 ((IntKind.wrap .i64 ((IntKind.wrap .i64 ((IntKind.wrap .i64 ((IntKind.wrap .i64 ((IntKind.wrap .i64 (v2+1))+1))+1))+1))+1))+1))).bind fun y18=>an (y18.1.length=x17.config.replicas.length) (let z19:=z15.set v3.toNat (⟨x17.up,x17.intact,x17.version,x17.epoch,(⟨x17.config.epoch,x17.config.primary,y18.1,x17.config.witnesses⟩:ai),x17.first,x17.log,x17.commit,x17.learned⟩:aB); an (0≤v3∧v3 < (z19.length:Int)) ((z19[v3.toNat]?).bind fun x20=>(z19[v3.toNat]?).bind fun x21=>an ((0:Nat)=0∧x20.config.witnesses.length=x21.config.witnesses.length) ((ec x21.config.witnesses y18.2.1).bind fun y22=>an (y22.1.length=x21.config.witnesses.length) (let z23:=z19.set v3.toNat (⟨x21.up,x21.intact,x21.version,x21.epoch,(⟨x21.config.epoch,x21.config.primary,x21.config.replicas,y22.1⟩:ai),x21.first,x21.log,x21.commit,x21.learned⟩:aB); an (0≤v3∧v3 < (z23.length:Int)) ((z23[v3.toNat]?).bind fun x24=>let z25:=z23.set v3.toNat (⟨x24.up,x24.intact,x24.version,x24.epoch,x24.config,y22.2.1,x24.log,x24.commit,x24.learned⟩:aB); an (0≤v3∧v3 < (z25.length:Int)) ((z25[v3.toNat]?).bind fun x26=>(z25[v3.toNat]?).bind fun x27=>an ((0:Nat)=0∧x26.log.length=x27.log.length) ((fE x27.log (IntKind.wrap .i64 (y22.2.1+1))).bind fun y28=>an (y28.1.length=x27.log.length) (let z29:=z25.set v3.toNat (⟨x27.up,x27.intact,x27.version,x27.epoch,x27.config,x27.first,y28.1,x27.commit,x27.learned⟩:aB); an (0≤v3∧v3 < (z29.length:Int)) ((z29[v3.toNat]?).bind fun x30=>let z31:=z29.set v3.toNat (⟨x30.up,x30.intact,x30.version,x30.epoch,x30.config,x30.first,x30.log,y28.2.1,x30.learned⟩:aB); an (0≤v3∧v3 < (z31.length:Int)) ((z31[v3.toNat]?).bind fun x32=>(z31[v3.toNat]?).bind fun x33=>an ((0:Nat)=0∧x32.learned.length=x33.learned.length) ((fE x33.learned (IntKind.wrap .i64 (y28.2.1+1))).bind fun y34=>an (y34.1.length=x33.learned.length) (fn (((),y34.2.1,(IntKind.wrap .i64 (v3+1)),()),(()),((z31.set v3.toNat (⟨x33.up,x33.intact,x33.version,x33.epoch,x33.config,x33.first,x33.log,x33.commit,y34.1⟩:aB)),()))) none) none) none) none) none) none) none) none) none) none) none) none) none) none) none) none) none) none) none) none) (fe ((v2,()),(()),(v1,())))
def cT (s:cB.D):Option (cB.D⊕bu.D eR):=fA s.2.2.1 s.1.2.1 s.1.2.2.1 (fun s=>some (.inl s)) (fun e=>some (.inr e))
def oA:cB.D→Option (bu.D eR):=jm cT
theorem wD {ρ:Type} (s:cB.D) (fn:cB.D→Option ρ) (fe:bu.D eR→Option ρ):fA s.2.2.1 s.1.2.1 s.1.2.2.1 fn fe=(cT s).bind (Sum.elim fn fe):=by
 simp only [cT,fA,ak,am,Option.bind_none,Option.bind_assoc,Option.bind_some,Sum.elim_inl,Sum.elim_inr]
abbrev rQ:dp:=dy [] [0,1,5] cB eR oA
theorem vl (s:cB.D):eL Θ (aR tZ) (aU []) i8 (cB.mk' s) (dn [0,1,5] [1] fun x S=>some (x,S))=(cT s).bind (Sum.elim (fun s'=>some (.nor,cB.mk' s')) fun e=>some (bu.e eR e)):=
 Eq.trans (by kernel_rfl:_=fA s.2.2.1 s.1.2.1 s.1.2.2.1 (fun s'=>some (.nor,cB.mk' s')) (fun e=>some (bu.e eR e))) (wD s _ _)
theorem vm:cf Tryz.prog i8 rQ:=bc aV qK af (by kernel_rfl) (dM (by kernel_rfl:_= []) ah) [] [0,1,5] [1] cB eR (by kernel_rfl) cT vl oA (gH cT) (aP cT)
def lL {ρ:Type} (a0:List aB) (a1:Int) (k: (List aB)×Int×Unit→Option ρ):Option ρ:=
 (oA (((),a1,0,()),(()),(a0,()))).bind fun e36=>k (e36.2.2.1,e36.1.1,())
def fU (a0:List aB) (a1:Int):Option ((List aB)×Int×Unit):=lL a0 a1 some
theorem zo {ρ:Type} (a0:List aB) (a1:Int) (k: (List aB)×Int×Unit→Option ρ):lL a0 a1 k=(fU a0 a1).bind k:=by
 simp only [fU,lL,Option.bind_assoc,Option.bind_some]
abbrev t4:bF:=G1 (.st .server) [.ty (.i .i64)] [.i .i64] fun l x=>fU l x.1
theorem Cj:aH Tryz.prog (mX 76) t4:=
 sf (Λ:=aU [(b7 i8,rQ)]) (fn:=Tryz.f76) aV qK af (by kernel_rfl) (aM (by kernel_rfl:_= [i8]) (aO (q:=b7 i8) rfl vm fun _ _ _=>by kernel_rfl)) (by kernel_rfl) (fun l x=>fU l x.1)
  (fun l x=>Eq.trans (by kernel_rfl:_=lL l x.1 (fun y=>G0 (.st .server) [.i .i64] y fun v g=>some (v,g))) (zo l x.1 _)) fun _ _ _ h=>h
abbrev t5:List (Nat×bF):= [(mX 21,n8)]
theorem qL:ax Tryz.prog (aR t5):=ae qc <| aj _
noncomputable abbrev i9:Code:=cm (cg Tryz.f152) 0
abbrev cD:eG:=⟨[(0, .cl (.own 0 (.st .config))),(1, .cl (.int .i64)),(5, .cl (.int .i64))],[],[.st .config],1,41⟩
abbrev eS:List (X×eG):= [(.ext 0,⟨[(1, .cl (.int .i64))],[],[.st .config],1,41⟩)]
def fB {ρ:Type} (v1:List ai) (v2:Int) (v3:Int) (fn: ((Unit×Int×Int×Unit)×(Unit)×((List ai)×Unit))→Option ρ) (fe: ((Int×Unit)×(Unit)×((List ai)×Unit))→Option ρ):Option ρ:=
 br (decide (v3 < (v1.length:Int))) (an (0≤v3∧v3 < (v1.length:Int)) ((v1[v3.toNat]?).bind fun x4=>let z5:=v1.set v3.toNat (⟨v2,x4.primary,x4.replicas,x4.witnesses⟩:ai); an (0≤v3∧v3 < (z5.length:Int)) ((z5[v3.toNat]?).bind fun x6=>let z7:=z5.set v3.toNat (⟨x6.epoch,(IntKind.wrap .i64 (v2+1)),x6.replicas,x6.witnesses⟩:ai); an (0≤v3∧v3 < (z7.length:Int)) ((z7[v3.toNat]?).bind fun x8=>(z7[v3.toNat]?).bind fun x9=>an ((0:Nat)=0∧x8.replicas.length=x9.replicas.length) ((ec x9.replicas (IntKind.wrap .i64 ((IntKind.wrap .i64 (v2+1))+1))).bind fun y10=>an (y10.1.length=x9.replicas.length) (let z11:=z7.set v3.toNat (⟨x9.epoch,x9.primary,y10.1,x9.witnesses⟩:ai); an (0≤v3∧v3 < (z11.length:Int)) ((z11[v3.toNat]?).bind fun x12=>(z11[v3.toNat]?).bind fun x13=>an ((0:Nat)=0∧x12.witnesses.length=x13.witnesses.length) ((ec x13.witnesses y10.2.1).bind fun y14=>an (y14.1.length=x13.witnesses.length) (fn (((),y14.2.1,(IntKind.wrap .i64 (v3+1)),()),(()),((z11.set v3.toNat (⟨x13.epoch,x13.primary,x13.replicas,y14.1⟩:ai)),()))) none) none) none) none) none) none) none) none) (fe ((v2,()),(()),(v1,())))
def cU (s:cD.D):Option (cD.D⊕bu.D eS):=fB s.2.2.1 s.1.2.1 s.1.2.2.1 (fun s=>some (.inl s)) (fun e=>some (.inr e))
def oB:cD.D→Option (bu.D eS):=jm cU
theorem wE {ρ:Type} (s:cD.D) (fn:cD.D→Option ρ) (fe:bu.D eS→Option ρ):fB s.2.2.1 s.1.2.1 s.1.2.2.1 fn fe=(cU s).bind (Sum.elim fn fe):=by
 simp only [cU,fB,ak,am,Option.bind_none,Option.bind_assoc,Option.bind_some,Sum.elim_inl,Sum.elim_inr]
abbrev rR:dp:=dy [] [0,1,5] cD eS oB
theorem vn (s:cD.D):eL Θ (aR t5) (aU []) i9 (cD.mk' s) (dn [0,1,5] [1] fun x S=>some (x,S))=(cU s).bind (Sum.elim (fun s'=>some (.nor,cD.mk' s')) fun e=>some (bu.e eS e)):=
 Eq.trans (by kernel_rfl:_=fB s.2.2.1 s.1.2.1 s.1.2.2.1 (fun s'=>some (.nor,cD.mk' s')) (fun e=>some (bu.e eS e))) (wE s _ _)
theorem vo:cf Tryz.prog i9 rR:=bc aV qL af (by kernel_rfl) (dM (by kernel_rfl:_= []) ah) [] [0,1,5] [1] cD eS (by kernel_rfl) cU vn oB (gH cU) (aP cU)
def lM {ρ:Type} (a0:List ai) (a1:Int) (k: (List ai)×Int×Unit→Option ρ):Option ρ:=
 (oB (((),a1,0,()),(()),(a0,()))).bind fun e16=>k (e16.2.2.1,e16.1.1,())
def fV (a0:List ai) (a1:Int):Option ((List ai)×Int×Unit):=lM a0 a1 some
theorem zp {ρ:Type} (a0:List ai) (a1:Int) (k: (List ai)×Int×Unit→Option ρ):lM a0 a1 k=(fV a0 a1).bind k:=by
 simp only [fV,lM,Option.bind_assoc,Option.bind_some]
abbrev t6:bF:=G1 (.st .config) [.ty (.i .i64)] [.i .i64] fun l x=>fV l x.1
theorem Ck:aH Tryz.prog (mX 152) t6:=
 sf (Λ:=aU [(b7 i9,rR)]) (fn:=Tryz.f152) aV qL af (by kernel_rfl) (aM (by kernel_rfl:_= [i9]) (aO (q:=b7 i9) rfl vo fun _ _ _=>by kernel_rfl)) (by kernel_rfl) (fun l x=>fV l x.1)
  (fun l x=>Eq.trans (by kernel_rfl:_=lM l x.1 (fun y=>G0 (.st .config) [.i .i64] y fun v g=>some (v,g))) (zp l x.1 _)) fun _ _ _ h=>h
abbrev zq:List (Nat×bF):= [(mX 152,t6)]
theorem vp:ax Tryz.prog (aR zq):=ae Ck <| aj _
def gY {ρ:Type} (a0:ay) (a1:Int) (k:ay×Int×Unit→Option ρ):Option ρ:=
 (fV a0.configs a1).bind fun y1=>an (y1.1.length=a0.configs.length) (k ((⟨y1.1,a0.activated⟩:ay),y1.2.1,())) none
def fW (a0:ay) (a1:Int):Option (ay×Int×Unit):=gY a0 a1 some
theorem wF {ρ:Type} (a0:ay) (a1:Int) (k:ay×Int×Unit→Option ρ):gY a0 a1 k=(fW a0 a1).bind k:=by
 simp only [fW,gY,am,Option.bind_none,Option.bind_assoc,Option.bind_some]
abbrev rS:bF:=SW (.st .masterLog) [.ty (.i .i64)] [.i .i64] fun l x=>fW l x.1
theorem zt:aH Tryz.prog (mX 77) rS:=
 Ot (Λ:=aU []) (fn:=Tryz.f77) aV vp af (by kernel_rfl) (aM (by kernel_rfl:_= []) ah) (by kernel_rfl) (fun l x=>fW l x.1)
  (fun l x=>Eq.trans (by kernel_rfl:_=gY l x.1 (fun y=>SU (.st .masterLog) [.i .i64] y fun v g=>some (v,g))) (wF l x.1 _)) fun _ _ _ h=>h
abbrev u7:List (Nat×bF):= []
theorem rT:ax Tryz.prog (aR u7):=aj _
noncomputable abbrev jE:Code:=cm (cg Tryz.f78) 0
abbrev cP:eG:=⟨[(0, .cl (.own 0 (.st .place))),(1, .cl (.int .i64)),(5, .cl (.int .i64))],[],[.st .place],1,34⟩
abbrev ft:List (X×eG):= [(.ext 0,⟨[(1, .cl (.int .i64))],[],[.st .place],1,34⟩)]
def fX {ρ:Type} (v1:List bz) (v2:Int) (v3:Int) (fn: ((Unit×Int×Int×Unit)×(Unit)×((List bz)×Unit))→Option ρ) (fe: ((Int×Unit)×(Unit)×((List bz)×Unit))→Option ρ):Option ρ:=
 br (decide (v3 < (v1.length:Int))) (an (0≤v3∧v3 < (v1.length:Int)) ((v1[v3.toNat]?).bind fun x4=>let z5:=v1.set v3.toNat (⟨v2,x4.capacity,x4.load⟩:bz); an (0≤v3∧v3 < (z5.length:Int)) ((z5[v3.toNat]?).bind fun x6=>let z7:=z5.set v3.toNat (⟨x6.rack,(IntKind.wrap .i64 (v2+1)),x6.load⟩:bz); an (0≤v3∧v3 < (z7.length:Int)) ((z7[v3.toNat]?).bind fun x8=>fn (((),(IntKind.wrap .i64 ((IntKind.wrap .i64 ((IntKind.wrap .i64 (v2+1))+1))+1)),(IntKind.wrap .i64 (v3+1)),()),(()),((z7.set v3.toNat (⟨x8.rack,x8.capacity,(IntKind.wrap .i64 ((IntKind.wrap .i64 (v2+1))+1))⟩:bz)),()))) none) none) none) (fe ((v2,()),(()),(v1,())))
def dk (s:cP.D):Option (cP.D⊕bu.D ft):=fX s.2.2.1 s.1.2.1 s.1.2.2.1 (fun s=>some (.inl s)) (fun e=>some (.inr e))
def pC:cP.D→Option (bu.D ft):=jm dk
theorem xz {ρ:Type} (s:cP.D) (fn:cP.D→Option ρ) (fe:bu.D ft→Option ρ):fX s.2.2.1 s.1.2.1 s.1.2.2.1 fn fe=(dk s).bind (Sum.elim fn fe):=by
 simp only [dk,fX,ak,am,Option.bind_none,Option.bind_assoc,Option.bind_some,Sum.elim_inl,Sum.elim_inr]
abbrev sI:dp:=dy [] [0,1,5] cP ft pC
theorem wG (s:cP.D):eL Θ (aR u7) (aU []) jE (cP.mk' s) (dn [0,1,5] [1] fun x S=>some (x,S))=(dk s).bind (Sum.elim (fun s'=>some (.nor,cP.mk' s')) fun e=>some (bu.e ft e)):=
 Eq.trans (by kernel_rfl:_=fX s.2.2.1 s.1.2.1 s.1.2.2.1 (fun s'=>some (.nor,cP.mk' s')) (fun e=>some (bu.e ft e))) (xz s _ _)
theorem wH:cf Tryz.prog jE sI:=bc aV rT af (by kernel_rfl) (dM (by kernel_rfl:_= []) ah) [] [0,1,5] [1] cP ft (by kernel_rfl) dk wG pC (gH dk) (aP dk)
def nk {ρ:Type} (a0:List bz) (a1:Int) (k: (List bz)×Int×Unit→Option ρ):Option ρ:=
 (pC (((),a1,0,()),(()),(a0,()))).bind fun e10=>k (e10.2.2.1,e10.1.1,())
def gV (a0:List bz) (a1:Int):Option ((List bz)×Int×Unit):=nk a0 a1 some
theorem A2 {ρ:Type} (a0:List bz) (a1:Int) (k: (List bz)×Int×Unit→Option ρ):nk a0 a1 k=(gV a0 a1).bind k:=by
 simp only [gV,nk,Option.bind_assoc,Option.bind_some]
abbrev u9:bF:=G1 (.st .place) [.ty (.i .i64)] [.i .i64] fun l x=>gV l x.1
theorem Eb:aH Tryz.prog (mX 78) u9:=
 sf (Λ:=aU [(b7 jE,sI)]) (fn:=Tryz.f78) aV rT af (by kernel_rfl) (aM (by kernel_rfl:_= [jE]) (aO (q:=b7 jE) rfl wH fun _ _ _=>by kernel_rfl)) (by kernel_rfl) (fun l x=>gV l x.1)
  (fun l x=>Eq.trans (by kernel_rfl:_=nk l x.1 (fun y=>G0 (.st .place) [.i .i64] y fun v g=>some (v,g))) (A2 l x.1 _)) fun _ _ _ h=>h
abbrev Cm:List (Nat×bF):= [(mX 76,t4),(mX 21,n8),(mX 77,rS),(mX 78,u9)]
theorem xA:ax Tryz.prog (aR Cm):=ae Cj <| ae qc <| ae zt <| ae Eb <| aj _
def jF {ρ:Type} (a0:aG) (a1:Int) (k:aG×Int×Unit→Option ρ):Option ρ:=
 (fU a0.servers a1).bind fun y1=>an (y1.1.length=a0.servers.length) ((ec a0.sides y1.2.1).bind fun y2=>an (y2.1.length=a0.sides.length) ((fW a0.master y2.2.1).bind fun y3=>an (y3.1.configs.length=a0.master.configs.length) ((gV a0.places y3.2.1).bind fun y4=>an (y4.1.length=a0.places.length) (k ((⟨a0.now,y1.1,y2.1,(⟨y3.1.configs,a0.master.activated⟩:ay),a0.masterUp,a0.lease,y4.1⟩:aG),y4.2.1,())) none) none) none) none
def fY (a0:aG) (a1:Int):Option (aG×Int×Unit):=jF a0 a1 some
theorem zu {ρ:Type} (a0:aG) (a1:Int) (k:aG×Int×Unit→Option ρ):jF a0 a1 k=(fY a0 a1).bind k:=by
 simp only [fY,jF,am,Option.bind_none,Option.bind_assoc,Option.bind_some]
abbrev t7:bF:=SW (.st .cluster) [.ty (.i .i64)] [.i .i64] fun l x=>fY l x.1
theorem Cn:aH Tryz.prog (mX 20) t7:=
 Ot (Λ:=aU []) (fn:=Tryz.f20) aV xA af (by kernel_rfl) (aM (by kernel_rfl:_= []) ah) (by kernel_rfl) (fun l x=>fY l x.1)
  (fun l x=>Eq.trans (by kernel_rfl:_=jF l x.1 (fun y=>SU (.st .cluster) [.i .i64] y fun v g=>some (v,g))) (zu l x.1 _)) fun _ _ _ h=>h
abbrev Gv:List (Nat×bF):= []
theorem yg:ax Tryz.prog (aR Gv):=aj _
noncomputable abbrev pD:Code:=cm (cg Tryz.f22) 0
abbrev fu:eG:=⟨[(0, .cl (.ro (.i .i64))),(1, .cl (.int .i64)),(5, .cl (.int .i64))],[],[],0,21⟩
abbrev kU:List (X×eG):= [(.ret,⟨[(1, .cl (.int .i64)),(4, .cl (.int .i64))],[],[],0,21⟩),(.ext 0,⟨[(1, .cl (.int .i64)),(4, .cl (.dead))],[],[],0,21⟩)]
def lC {ρ:Type} (v1:List Int) (v2:Int) (v3:Int) (fn: (((List Int)×Int×Int×Unit)×(Unit)×(Unit))→Option ρ) (fe: ((Int×Int×Unit)×(Unit)×(Unit))⊕((Int×Unit×Unit)×(Unit)×(Unit))→Option ρ):Option ρ:=
 br (decide (v3 < (v1.length:Int))) (an (0≤v3) ((v1[v3.toNat]?).bind fun x4=>br (!(x4==v2)) (fe (.inl ((v2,(-1),()),(()),(())))) (fn ((v1,(IntKind.wrap .i64 (v2+1)),(IntKind.wrap .i64 (v3+1)),()),(()),(())))) none) (fe (.inr ((v2,(),()),(()),(()))))
def gl (s:fu.D):Option (fu.D⊕bu.D kU):=lC s.1.1 s.1.2.1 s.1.2.2.1 (fun s=>some (.inl s)) (fun e=>some (.inr e))
def uD:fu.D→Option (bu.D kU):=jm gl
theorem Gw {ρ:Type} (s:fu.D) (fn:fu.D→Option ρ) (fe:bu.D kU→Option ρ):lC s.1.1 s.1.2.1 s.1.2.2.1 fn fe=(gl s).bind (Sum.elim fn fe):=by
 simp only [gl,lC,ak,am,Option.bind_none,Option.bind_assoc,Option.bind_some,Sum.elim_inl,Sum.elim_inr]
abbrev A3:dp:=dy [] [0,1,5] fu kU uD
theorem Ec (s:fu.D):eL Θ (aR Gv) (aU []) pD (fu.mk' s) (dn [0,1,5] [1,4] fun x S=>some (x,S))=(gl s).bind (Sum.elim (fun s'=>some (.nor,fu.mk' s')) fun e=>some (bu.e kU e)):=
 Eq.trans (by kernel_rfl:_=lC s.1.1 s.1.2.1 s.1.2.2.1 (fun s'=>some (.nor,fu.mk' s')) (fun e=>some (bu.e kU e))) (Gw s _ _)
theorem Ed:cf Tryz.prog pD A3:=bc aV yg af (by kernel_rfl) (dM (by kernel_rfl:_= []) ah) [] [0,1,5] [1,4] fu kU (by kernel_rfl) gl Ec uD (gH gl) (aP gl)
def sJ {ρ:Type} (a0:List Int) (a1:Int) (k:Int×Unit→Option ρ):Option ρ:=
 (uD ((a0,a1,0,()),(()),(()))).bind fun e5=>Sum.elim (fun e5_=>k (e5_.1.2.1,())) (fun e5_=>k (e5_.1.1,())) e5
def mT (a0:List Int) (a1:Int):Option (Int×Unit):=sJ a0 a1 some
theorem J6 {ρ:Type} (a0:List Int) (a1:Int) (k:Int×Unit→Option ρ):sJ a0 a1 k=(mT a0 a1).bind k:=by
 simp only [mT,sJ,co,Option.bind_assoc,Option.bind_some]
abbrev Gx:bF:=bV [.ty (.ls (.i .i64)), .ty (.i .i64)] [.i .i64] fun x=>mT x.1 x.2.1
theorem NP:aH Tryz.prog 22 Gx:=
 al (Λ:=aU [(b7 pD,A3)]) (fn:=Tryz.f22) aV yg af (by kernel_rfl) (aM (by kernel_rfl:_= [pD]) (aO (q:=b7 pD) rfl Ed fun _ _ _=>by kernel_rfl)) (by kernel_rfl) (fun x=>mT x.1 x.2.1)
  (fun x=>Eq.trans (by kernel_rfl:_=sJ x.1 x.2.1 (fun y=>ret (aI [.i .i64] y) fun v g=>some (v,g))) (J6 x.1 x.2.1 _)) fun _ _ h=>h
abbrev vq:List (Nat×bF):= [(12,CS),(14,CY),(17,wg),(18,wx),(19,AW),(16,Dc),(mX 20,t7),(mX 21,n8),(22,Gx)]
theorem s9:ax Tryz.prog (aR vq):=ae Lw <| ae LG <| ae FT <| ae Gi <| ae Gk <| ae Ml <| ae Cn <| ae qc <| ae NP <| aj _
def fv {ρ:Type} (a0:aG) (k:Bool×Unit→Option ρ):Option ρ:=
 (ic a0 1048576).bind fun y1=>br (decide (y1.1 < 0)) (k (true,())) ((ij a0).bind fun y2=>(iR y2.1).bind fun y3=>(ij a0).bind fun y4=>(gv y4.1).bind fun y5=>(ln y5.1 y3.1).bind fun y6=>br (!y6.1) (k (false,())) ((ij a0).bind fun y7=>(mR y4.1 y7.1).bind fun y8=>br (!y8.1) (k (false,())) ((fY y4.1 1).bind fun y9=>an (y9.1.servers.length=y4.1.servers.length) (an (y9.1.sides.length=y4.1.sides.length) (an (y9.1.master.configs.length=y4.1.master.configs.length) (an (y9.1.places.length=y4.1.places.length) (br (decide (y9.2.1 < 0)) (k (false,())) ((ln y5.1 y3.1).bind fun y10=>br (!y10.1) (k (false,())) ((ec y5.1 1).bind fun y11=>an (y11.1.length=y5.1.length) ((mT y11.1 1).bind fun y12=>br (decide (y12.1 < 0)) (k (false,())) (br (!(y12.1==y11.2.1)) (k (false,())) ((ij a0).bind fun y13=>(gv y13.1).bind fun y14=>(ln y14.1 y3.1).bind fun y15=>br (!y15.1) (k (false,())) ((mT y11.1 1).bind fun y16=>br (decide (y16.1 < 0)) (k (false,())) (br (!(y16.1==y11.2.1)) (k (false,())) (k (true,()))))))) none))) none) none) none) none)))
def en (a0:aG):Option (Bool×Unit):=fv a0 some
theorem t8 {ρ:Type} (a0:aG) (k:Bool×Unit→Option ρ):fv a0 k=(en a0).bind k:=by
 simp only [en,fv,ak,am,Option.bind_none,Option.bind_assoc,Option.bind_some]
abbrev vr:bF:=bV [.ty (.st .cluster)] [.b] fun x=>en x.1
theorem vt:aH Tryz.prog 4 vr:=
 al (Λ:=aU []) (fn:=Tryz.f4) aV s9 af (by kernel_rfl) (aM (by kernel_rfl:_= []) ah) (by kernel_rfl) (fun x=>en x.1)
  (fun x=>Eq.trans (by kernel_rfl:_=fv x.1 (fun y=>ret (aI [.b] y) fun v g=>some (v,g))) (t8 x.1 _)) fun _ _ h=>h
end
end Go.Proofs.YtkcgfceffffmoaaGreat.En
