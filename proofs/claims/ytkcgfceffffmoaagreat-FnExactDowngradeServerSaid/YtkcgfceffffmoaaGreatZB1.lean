/- Printed by a program: the walk. -/
import Derived.Test.YtkcgfceffffmoaaGreatZTh
namespace Go.Proofs.YtkcgfceffffmoaaGreat.En
open Go
noncomputable section
def YC:ByteArray:=⟨⟨[0,1,2,2,3,3,3,3,4,4,4,4,4,4,4,4,5,5,5,5,5,5,5,5,5,5,5,5,5,5,5,5,6,6,6,6,6,6,6,6,6,6,6,6,6,6,6,6,6,6,6,6,6,6,6,6,6,6,6,6,6,6,6,6,7,7,7,7,7,7,7,7,7,7,7,7,7,7,7,7,7,7,7,7,7,7,7,7,7,7,7,7,7,7,7,7,7,7,7,7,7,7,7,7,7,7,7,7,7,7,7,7,7,7,7,7,7,7,7,7,7,7,7,7,7,7,7,7,8,8,8,8,8,8,8,8,8,8,8,8,8,8,8,8,8,8,8,8,8,8,8,8,8,8,8,8,8,8,8,8,8,8,8,8,8,8,8,8,8,8,8,8,8,8,8,8,8,8,8,8,8,8,8,8,8,8,8,8,8,8,8,8,8,8,8,8,8,8,8,8,8,8,8,8,8,8,8,8,8,8,8,8,8,8,8,8,8,8,8,8,8,8,8,8,8,8,8,8,8,8,8,8,8,8,8,8,8,8,8,8,8,8,8,8,8,8,8,8,8,8,8,8,8,8,8,8]⟩⟩
theorem af:Tryz.prog.follows .mixedOrders=true:=by kernel_rfl
abbrev Ur:List (Nat×bm):= []
theorem N8:ar Tryz.prog (aL Ur):=ak _
def yQ {ρ:Type} (a0:List Int) (a1:Int) (k:Int×Unit→Option ρ):Option ρ:=
 br (decide ((IntKind.wrap .i64 (a1 - (a0.length:Int))) < 0)) (k ((-1),())) (k ((IntKind.wrap .i64 (a1 - (a0.length:Int))),()))
def pQ (a0:List Int) (a1:Int):Option (Int×Unit):=yQ a0 a1 some
theorem P6 {ρ:Type} (a0:List Int) (a1:Int) (k:Int×Unit→Option ρ):yQ a0 a1 k=(pQ a0 a1).bind k:=by
 simp only [pQ,yQ,am,Option.bind_some]
abbrev Hy:bm:=bD [.ty (.ls (.i .i64)), .ty (.i .i64)] [.i .i64] fun x=>pQ x.1 x.2.1
theorem N9:aA Tryz.prog 43 Hy:=
 al (Λ:=aK []) (fn:=Tryz.f43) aM N8 af (by kernel_rfl) (aG (by kernel_rfl:_= []) ah) (by kernel_rfl) (fun x=>pQ x.1 x.2.1)
  (fun x=>Eq.trans (by kernel_rfl:_=yQ x.1 x.2.1 (fun y=>ret (aD [.i .i64] y) fun v g=>some (v,g))) (P6 x.1 x.2.1 _)) fun _ _ h=>h
abbrev P7:List (Nat×bm):= [(43,Hy)]
theorem Jr:ar Tryz.prog (aL P7):=ae N9 <| ak _
def pw {ρ:Type} (a0:ai) (a1:Int) (k:Int×Unit→Option ρ):Option ρ:=
 (pQ a0.replicas a1).bind fun y1=>br (decide (y1.1 < 0)) (k ((-1),())) ((pQ a0.witnesses y1.1).bind fun y2=>br (decide (y2.1 < 0)) (k ((-1),())) (k (y2.1,())))
def ia (a0:ai) (a1:Int):Option (Int×Unit):=pw a0 a1 some
theorem LZ {ρ:Type} (a0:ai) (a1:Int) (k:Int×Unit→Option ρ):pw a0 a1 k=(ia a0 a1).bind k:=by
 simp only [ia,pw,am,Option.bind_assoc,Option.bind_some]
abbrev AA:bm:=bD [.ty (.st .config), .ty (.i .i64)] [.i .i64] fun x=>ia x.1 x.2.1
theorem Hz:aA Tryz.prog 206 AA:=
 al (Λ:=aK []) (fn:=Tryz.f206) aM Jr af (by kernel_rfl) (aG (by kernel_rfl:_= []) ah) (by kernel_rfl) (fun x=>ia x.1 x.2.1)
  (fun x=>Eq.trans (by kernel_rfl:_=pw x.1 x.2.1 (fun y=>ret (aD [.i .i64] y) fun v g=>some (v,g))) (LZ x.1 x.2.1 _)) fun _ _ h=>h
abbrev P8:List (Nat×bm):= []
theorem Js:ar Tryz.prog (aL P8):=ak _
def tL {ρ:Type} (a0:List az) (a1:Int) (k:Int×Unit→Option ρ):Option ρ:=
 br (decide ((IntKind.wrap .i64 (a1 - (a0.length:Int))) < 0)) (k ((-1),())) (k ((IntKind.wrap .i64 (a1 - (a0.length:Int))),()))
def mZ (a0:List az) (a1:Int):Option (Int×Unit):=tL a0 a1 some
theorem L0 {ρ:Type} (a0:List az) (a1:Int) (k:Int×Unit→Option ρ):tL a0 a1 k=(mZ a0 a1).bind k:=by
 simp only [mZ,tL,am,Option.bind_some]
abbrev HA:bm:=bD [.ty (.ls (.st .entry)), .ty (.i .i64)] [.i .i64] fun x=>mZ x.1 x.2.1
theorem P9:aA Tryz.prog 207 HA:=
 al (Λ:=aK []) (fn:=Tryz.f207) aM Js af (by kernel_rfl) (aG (by kernel_rfl:_= []) ah) (by kernel_rfl) (fun x=>mZ x.1 x.2.1)
  (fun x=>Eq.trans (by kernel_rfl:_=tL x.1 x.2.1 (fun y=>ret (aD [.i .i64] y) fun v g=>some (v,g))) (L0 x.1 x.2.1 _)) fun _ _ h=>h
abbrev Qa:List (Nat×bm):= [(206,AA),(207,HA)]
theorem Jt:ar Tryz.prog (aL Qa):=ae Hz <| ae P9 <| ak _
def pz {ρ:Type} (a0:aj) (a1:Int) (k:Int×Unit→Option ρ):Option ρ:=
 (ia a0.config a1).bind fun y1=>br (decide (y1.1 < 0)) (k ((-1),())) ((mZ a0.log y1.1).bind fun y2=>br (decide (y2.1 < 0)) (k ((-1),())) ((mZ a0.learned y2.1).bind fun y3=>br (decide (y3.1 < 0)) (k ((-1),())) (k (y3.1,()))))
def i9 (a0:aj) (a1:Int):Option (Int×Unit):=pz a0 a1 some
theorem L3 {ρ:Type} (a0:aj) (a1:Int) (k:Int×Unit→Option ρ):pz a0 a1 k=(i9 a0 a1).bind k:=by
 simp only [i9,pz,am,Option.bind_assoc,Option.bind_some]
abbrev HB:bm:=bD [.ty (.st .server), .ty (.i .i64)] [.i .i64] fun x=>i9 x.1 x.2.1
theorem Qb:aA Tryz.prog 118 HB:=
 al (Λ:=aK []) (fn:=Tryz.f118) aM Jt af (by kernel_rfl) (aG (by kernel_rfl:_= []) ah) (by kernel_rfl) (fun x=>i9 x.1 x.2.1)
  (fun x=>Eq.trans (by kernel_rfl:_=pz x.1 x.2.1 (fun y=>ret (aD [.i .i64] y) fun v g=>some (v,g))) (L3 x.1 x.2.1 _)) fun _ _ h=>h
abbrev EU:List (Nat×bm):= [(118,HB)]
theorem xt:ar Tryz.prog (aL EU):=ae Qb <| ak _
noncomputable abbrev oz:Code:=cb (b8 Tryz.f42) 0
abbrev eD:ep:=⟨[(0, .cl (.ro (.st .server))),(1, .cl (.int .i64)),(5, .cl (.int .i64))],[],[],0,27⟩
abbrev kb:List (X×ep):= [(.ret,⟨[(1, .cl (.int .i64)),(4, .cl (.int .i64))],[],[],0,27⟩),(.ext 0,⟨[(1, .cl (.int .i64)),(4, .cl (.dead))],[],[],0,27⟩)]
def pR {ρ:Type} (v1:List aj) (v2:Int) (v3:Int) (fn: (((List aj)×Int×Int×Unit)×(Unit)×(Unit))→Option ρ) (fe: ((Int×Int×Unit)×(Unit)×(Unit))⊕((Int×Unit×Unit)×(Unit)×(Unit))→Option ρ):Option ρ:=
 br (decide (v3 < (v1.length:Int))) (aq (0≤v3) ((v1[v3.toNat]?).bind fun x4=>(i9 x4 v2).bind fun y5=>br (decide (y5.1 < 0)) (fe (.inl ((y5.1,(-1),()),(()),(())))) (fn ((v1,y5.1,(IntKind.wrap .i64 (v3+1)),()),(()),(())))) none) (fe (.inr ((v2,(),()),(()),(()))))
def gF (s:eD.D):Option (eD.D⊕bh.D kb):=pR s.1.1 s.1.2.1 s.1.2.2.1 (fun s=>some (.inl s)) (fun e=>some (.inr e))
def uq:eD.D→Option (bh.D kb):=jB gF
theorem Fx {ρ:Type} (s:eD.D) (fn:eD.D→Option ρ) (fe:bh.D kb→Option ρ):pR s.1.1 s.1.2.1 s.1.2.2.1 fn fe=(gF s).bind (Sum.elim fn fe):=by
 simp only [gF,pR,am,ap,Option.bind_none,Option.bind_assoc,Option.bind_some,Sum.elim_inl,Sum.elim_inr]
abbrev zB:cU:=dh [] [0,1,5] eD kb uq
theorem Dw (s:eD.D):ev Θ (aL EU) (aK []) oz (eD.mk' s) (c6 [0,1,5] [1,4] fun x S=>some (x,S))=(gF s).bind (Sum.elim (fun s'=>some (.nor,eD.mk' s')) fun e=>some (bh.e kb e)):=
 Eq.trans (by kernel_rfl:_=pR s.1.1 s.1.2.1 s.1.2.2.1 (fun s'=>some (.nor,eD.mk' s')) (fun e=>some (bh.e kb e))) (Fx s _ _)
theorem Dx:b7 Tryz.prog oz zB:=ba aM xt af (by kernel_rfl) (dp (by kernel_rfl:_= []) ah) [] [0,1,5] [1,4] eD kb (by kernel_rfl) gF Dw uq (f9 gF) (aO gF)
def so {ρ:Type} (a0:List aj) (a1:Int) (k:Int×Unit→Option ρ):Option ρ:=
 br (decide ((IntKind.wrap .i64 (a1 - (a0.length:Int))) < 0)) (k ((-1),())) ((uq ((a0,(IntKind.wrap .i64 (a1 - (a0.length:Int))),0,()),(()),(()))).bind fun e6=>Sum.elim (fun e6_=>k (e6_.1.2.1,())) (fun e6_=>k (e6_.1.1,())) e6)
def m0 (a0:List aj) (a1:Int):Option (Int×Unit):=so a0 a1 some
theorem Ju {ρ:Type} (a0:List aj) (a1:Int) (k:Int×Unit→Option ρ):so a0 a1 k=(m0 a0 a1).bind k:=by
 simp only [m0,so,am,bR,Option.bind_assoc,Option.bind_some]
abbrev EV:bm:=bD [.ty (.ls (.st .server)), .ty (.i .i64)] [.i .i64] fun x=>m0 x.1 x.2.1
theorem Oa:aA Tryz.prog 42 EV:=
 al (Λ:=aK [(ce oz,zB)]) (fn:=Tryz.f42) aM xt af (by kernel_rfl) (aG (by kernel_rfl:_= [oz]) (aN (q:=ce oz) rfl Dx fun _ _ _=>by kernel_rfl)) (by kernel_rfl) (fun x=>m0 x.1 x.2.1)
  (fun x=>Eq.trans (by kernel_rfl:_=so x.1 x.2.1 (fun y=>ret (aD [.i .i64] y) fun v g=>some (v,g))) (Ju x.1 x.2.1 _)) fun _ _ h=>h
abbrev EW:List (Nat×bm):= [(206,AA)]
theorem xu:ar Tryz.prog (aL EW):=ae Hz <| ak _
noncomputable abbrev oA:Code:=cb (b8 Tryz.f119) 0
abbrev eE:ep:=⟨[(0, .cl (.ro (.st .config))),(1, .cl (.int .i64)),(5, .cl (.int .i64))],[],[],0,27⟩
abbrev ke:List (X×ep):= [(.ret,⟨[(1, .cl (.int .i64)),(4, .cl (.int .i64))],[],[],0,27⟩),(.ext 0,⟨[(1, .cl (.int .i64)),(4, .cl (.dead))],[],[],0,27⟩)]
def pS {ρ:Type} (v1:List ai) (v2:Int) (v3:Int) (fn: (((List ai)×Int×Int×Unit)×(Unit)×(Unit))→Option ρ) (fe: ((Int×Int×Unit)×(Unit)×(Unit))⊕((Int×Unit×Unit)×(Unit)×(Unit))→Option ρ):Option ρ:=
 br (decide (v3 < (v1.length:Int))) (aq (0≤v3) ((v1[v3.toNat]?).bind fun x4=>(ia x4 v2).bind fun y5=>br (decide (y5.1 < 0)) (fe (.inl ((y5.1,(-1),()),(()),(())))) (fn ((v1,y5.1,(IntKind.wrap .i64 (v3+1)),()),(()),(())))) none) (fe (.inr ((v2,(),()),(()),(()))))
def gG (s:eE.D):Option (eE.D⊕bh.D ke):=pS s.1.1 s.1.2.1 s.1.2.2.1 (fun s=>some (.inl s)) (fun e=>some (.inr e))
def ur:eE.D→Option (bh.D ke):=jB gG
theorem Fy {ρ:Type} (s:eE.D) (fn:eE.D→Option ρ) (fe:bh.D ke→Option ρ):pS s.1.1 s.1.2.1 s.1.2.2.1 fn fe=(gG s).bind (Sum.elim fn fe):=by
 simp only [gG,pS,am,ap,Option.bind_none,Option.bind_assoc,Option.bind_some,Sum.elim_inl,Sum.elim_inr]
abbrev zC:cU:=dh [] [0,1,5] eE ke ur
theorem Dy (s:eE.D):ev Θ (aL EW) (aK []) oA (eE.mk' s) (c6 [0,1,5] [1,4] fun x S=>some (x,S))=(gG s).bind (Sum.elim (fun s'=>some (.nor,eE.mk' s')) fun e=>some (bh.e ke e)):=
 Eq.trans (by kernel_rfl:_=pS s.1.1 s.1.2.1 s.1.2.2.1 (fun s'=>some (.nor,eE.mk' s')) (fun e=>some (bh.e ke e))) (Fy s _ _)
theorem Dz:b7 Tryz.prog oA zC:=ba aM xu af (by kernel_rfl) (dp (by kernel_rfl:_= []) ah) [] [0,1,5] [1,4] eE ke (by kernel_rfl) gG Dy ur (f9 gG) (aO gG)
def sq {ρ:Type} (a0:List ai) (a1:Int) (k:Int×Unit→Option ρ):Option ρ:=
 br (decide ((IntKind.wrap .i64 (a1 - (a0.length:Int))) < 0)) (k ((-1),())) ((ur ((a0,(IntKind.wrap .i64 (a1 - (a0.length:Int))),0,()),(()),(()))).bind fun e6=>Sum.elim (fun e6_=>k (e6_.1.2.1,())) (fun e6_=>k (e6_.1.1,())) e6)
def m8 (a0:List ai) (a1:Int):Option (Int×Unit):=sq a0 a1 some
theorem Jv {ρ:Type} (a0:List ai) (a1:Int) (k:Int×Unit→Option ρ):sq a0 a1 k=(m8 a0 a1).bind k:=by
 simp only [m8,sq,am,bR,Option.bind_assoc,Option.bind_some]
abbrev EX:bm:=bD [.ty (.ls (.st .config)), .ty (.i .i64)] [.i .i64] fun x=>m8 x.1 x.2.1
theorem Ob:aA Tryz.prog 119 EX:=
 al (Λ:=aK [(ce oA,zC)]) (fn:=Tryz.f119) aM xu af (by kernel_rfl) (aG (by kernel_rfl:_= [oA]) (aN (q:=ce oA) rfl Dz fun _ _ _=>by kernel_rfl)) (by kernel_rfl) (fun x=>m8 x.1 x.2.1)
  (fun x=>Eq.trans (by kernel_rfl:_=sq x.1 x.2.1 (fun y=>ret (aD [.i .i64] y) fun v g=>some (v,g))) (Jv x.1 x.2.1 _)) fun _ _ h=>h
abbrev Jw:List (Nat×bm):= [(119,EX)]
theorem DA:ar Tryz.prog (aL Jw):=ae Ob <| ak _
def kH {ρ:Type} (a0:an) (a1:Int) (k:Int×Unit→Option ρ):Option ρ:=
 (m8 a0.configs a1).bind fun y1=>br (decide (y1.1 < 0)) (k ((-1),())) (k (y1.1,()))
def gH (a0:an) (a1:Int):Option (Int×Unit):=kH a0 a1 some
theorem Fz {ρ:Type} (a0:an) (a1:Int) (k:Int×Unit→Option ρ):kH a0 a1 k=(gH a0 a1).bind k:=by
 simp only [gH,kH,am,Option.bind_assoc,Option.bind_some]
abbrev zD:bm:=bD [.ty (.st .masterLog), .ty (.i .i64)] [.i .i64] fun x=>gH x.1 x.2.1
theorem Jx:aA Tryz.prog 44 zD:=
 al (Λ:=aK []) (fn:=Tryz.f44) aM DA af (by kernel_rfl) (aG (by kernel_rfl:_= []) ah) (by kernel_rfl) (fun x=>gH x.1 x.2.1)
  (fun x=>Eq.trans (by kernel_rfl:_=kH x.1 x.2.1 (fun y=>ret (aD [.i .i64] y) fun v g=>some (v,g))) (Fz x.1 x.2.1 _)) fun _ _ h=>h
abbrev Qc:List (Nat×bm):= []
theorem Jy:ar Tryz.prog (aL Qc):=ak _
def tM {ρ:Type} (a0:List aU) (a1:Int) (k:Int×Unit→Option ρ):Option ρ:=
 br (decide ((IntKind.wrap .i64 (a1 - (a0.length:Int))) < 0)) (k ((-1),())) (k ((IntKind.wrap .i64 (a1 - (a0.length:Int))),()))
def o9 (a0:List aU) (a1:Int):Option (Int×Unit):=tM a0 a1 some
theorem L4 {ρ:Type} (a0:List aU) (a1:Int) (k:Int×Unit→Option ρ):tM a0 a1 k=(o9 a0 a1).bind k:=by
 simp only [o9,tM,am,Option.bind_some]
abbrev HC:bm:=bD [.ty (.ls (.st .place)), .ty (.i .i64)] [.i .i64] fun x=>o9 x.1 x.2.1
theorem Qd:aA Tryz.prog 45 HC:=
 al (Λ:=aK []) (fn:=Tryz.f45) aM Jy af (by kernel_rfl) (aG (by kernel_rfl:_= []) ah) (by kernel_rfl) (fun x=>o9 x.1 x.2.1)
  (fun x=>Eq.trans (by kernel_rfl:_=tM x.1 x.2.1 (fun y=>ret (aD [.i .i64] y) fun v g=>some (v,g))) (L4 x.1 x.2.1 _)) fun _ _ h=>h
abbrev Oc:List (Nat×bm):= [(42,EV),(43,Hy),(44,zD),(45,HC)]
theorem HD:ar Tryz.prog (aL Oc):=ae Oa <| ae N9 <| ae Jx <| ae Qd <| ak _
def n0 {ρ:Type} (a0:ao) (a1:Int) (k:Int×Unit→Option ρ):Option ρ:=
 (m0 a0.servers a1).bind fun y1=>br (decide (y1.1 < 0)) (k ((-1),())) ((pQ a0.sides y1.1).bind fun y2=>br (decide (y2.1 < 0)) (k ((-1),())) ((gH a0.master y2.1).bind fun y3=>br (decide (y3.1 < 0)) (k ((-1),())) ((o9 a0.places y3.1).bind fun y4=>br (decide (y4.1 < 0)) (k ((-1),())) (k (y4.1,())))))
def iy (a0:ao) (a1:Int):Option (Int×Unit):=n0 a0 a1 some
theorem Jz {ρ:Type} (a0:ao) (a1:Int) (k:Int×Unit→Option ρ):n0 a0 a1 k=(iy a0 a1).bind k:=by
 simp only [iy,n0,am,Option.bind_assoc,Option.bind_some]
abbrev EY:bm:=bD [.ty (.st .cluster), .ty (.i .i64)] [.i .i64] fun x=>iy x.1 x.2.1
theorem Od:aA Tryz.prog 12 EY:=
 al (Λ:=aK []) (fn:=Tryz.f12) aM HD af (by kernel_rfl) (aG (by kernel_rfl:_= []) ah) (by kernel_rfl) (fun x=>iy x.1 x.2.1)
  (fun x=>Eq.trans (by kernel_rfl:_=n0 x.1 x.2.1 (fun y=>ret (aD [.i .i64] y) fun v g=>some (v,g))) (Jz x.1 x.2.1 _)) fun _ _ h=>h
abbrev Oe:List (Nat×bm):= []
theorem EZ:ar Tryz.prog (aL Oe):=ak _
noncomputable abbrev sS:Code:=cb (b8 Tryz.f53) 0
abbrev ja:ep:=⟨[(0, .cl (.ro (.i .i64))),(3, .cl (.own 0 (.i .i64))),(4, .cl (.int .i64))],[],[.i .i64],0,22⟩
abbrev pa:List (X×ep):= [(.ext 0,⟨[(3, .cl (.own 0 (.i .i64)))],[],[.i .i64],0,22⟩)]
def tN {ρ:Type} (v1:List Int) (v2:List Int) (v3:Int) (fn: (((List Int)×Unit×Int×Unit)×(Unit)×((List Int)×Unit))→Option ρ) (fe: ((Unit×Unit)×(Unit)×((List Int)×Unit))→Option ρ):Option ρ:=
 br (decide (v3 < (v2.length:Int))) (aq (0≤v3) ((v2[v3.toNat]?).bind fun x4=>aq (0≤v3∧v3 < (v1.length:Int)) ((v1[v3.toNat]?).bind fun _=>fn ((v2,(),(IntKind.wrap .i64 (v3+1)),()),(()),((v1.set v3.toNat x4),()))) none) none) (fe (((),()),(()),(v1,())))
def m9 (s:ja.D):Option (ja.D⊕bh.D pa):=tN s.2.2.1 s.1.1 s.1.2.2.1 (fun s=>some (.inl s)) (fun e=>some (.inr e))
def AB:ja.D→Option (bh.D pa):=jB m9
theorem L5 {ρ:Type} (s:ja.D) (fn:ja.D→Option ρ) (fe:bh.D pa→Option ρ):tN s.2.2.1 s.1.1 s.1.2.2.1 fn fe=(m9 s).bind (Sum.elim fn fe):=by
 simp only [m9,tN,am,ap,Option.bind_none,Option.bind_assoc,Option.bind_some,Sum.elim_inl,Sum.elim_inr]
abbrev HE:cU:=dh [] [0,3,4] ja pa AB
theorem JA (s:ja.D):ev Θ (aL Oe) (aK []) sS (ja.mk' s) (c6 [0,3,4] [3] fun x S=>some (x,S))=(m9 s).bind (Sum.elim (fun s'=>some (.nor,ja.mk' s')) fun e=>some (bh.e pa e)):=
 Eq.trans (by kernel_rfl:_=tN s.2.2.1 s.1.1 s.1.2.2.1 (fun s'=>some (.nor,ja.mk' s')) (fun e=>some (bh.e pa e))) (L5 s _ _)
theorem JB:b7 Tryz.prog sS HE:=ba aM EZ af (by kernel_rfl) (dp (by kernel_rfl:_= []) ah) [] [0,3,4] [3] ja pa (by kernel_rfl) m9 JA AB (f9 m9) (aO m9)
def yR {ρ:Type} (a0:List Int) (k: (List Int)×Unit→Option ρ):Option ρ:=
 aq (0≤(a0.length:Int)∧(a0.length:Int)=(a0.length:Int)∧(a0.length:Int)*((8:Nat):Int)≤2 ^ 40) ((AB ((a0,(),0,()),(()),((List.replicate (a0.length:Int).toNat (0:Int)),()))).bind fun e7=>k (e7.2.2.1,())) none
def pT (a0:List Int):Option ((List Int)×Unit):=yR a0 some
theorem Qe {ρ:Type} (a0:List Int) (k: (List Int)×Unit→Option ρ):yR a0 k=(pT a0).bind k:=by
 simp only [pT,yR,ap,Option.bind_none,Option.bind_assoc,Option.bind_some]
abbrev HF:bm:=bD [.ty (.ls (.i .i64))] [.ls (.i .i64)] fun x=>pT x.1
theorem Of:aA Tryz.prog 53 HF:=
 al (Λ:=aK [(ce sS,HE)]) (fn:=Tryz.f53) aM EZ af (by kernel_rfl) (aG (by kernel_rfl:_= [sS]) (aN (q:=ce sS) rfl JB fun _ _ _=>by kernel_rfl)) (by kernel_rfl) (fun x=>pT x.1)
  (fun x=>Eq.trans (by kernel_rfl:_=yR x.1 (fun y=>ret (aD [.ls (.i .i64)] y) fun v g=>some (v,g))) (Qe x.1 _)) fun _ _ h=>h
abbrev Qf:List (Nat×bm):= [(53,HF)]
theorem JC:ar Tryz.prog (aL Qf):=ae Of <| ak _
def rr {ρ:Type} (a0:ai) (k:ai×Unit→Option ρ):Option ρ:=
 (pT a0.replicas).bind fun y1=>(pT a0.witnesses).bind fun y2=>k ((⟨a0.epoch,a0.primary,y1.1,y2.1⟩:ai),())
def lz (a0:ai):Option (ai×Unit):=rr a0 some
theorem L6 {ρ:Type} (a0:ai) (k:ai×Unit→Option ρ):rr a0 k=(lz a0).bind k:=by
 simp only [lz,rr,Option.bind_assoc,Option.bind_some]
abbrev AD:bm:=bD [.ty (.st .config)] [.st .config] fun x=>lz x.1
theorem HG:aA Tryz.prog 208 AD:=
 al (Λ:=aK []) (fn:=Tryz.f208) aM JC af (by kernel_rfl) (aG (by kernel_rfl:_= []) ah) (by kernel_rfl) (fun x=>lz x.1)
  (fun x=>Eq.trans (by kernel_rfl:_=rr x.1 (fun y=>ret (aD [.st .config] y) fun v g=>some (v,g))) (L6 x.1 _)) fun _ _ h=>h
abbrev W9:List (Nat×bm):= []
theorem Sc:ar Tryz.prog (aL W9):=ak _
def GC {ρ:Type} (a0:Op) (k:Op×Unit→Option ρ):Option ρ:=
 k (a0,())
def HH (a0:Op):Option (Op×Unit):=GC a0 some
theorem Us {ρ:Type} (a0:Op) (k:Op×Unit→Option ρ):GC a0 k=(HH a0).bind k:=by
 simp only [HH,GC,Option.bind_some]
abbrev Ut:bm:=bD [.ty (.st .op)] [.st .op] fun x=>HH x.1
theorem Xa:aA Tryz.prog 40 Ut:=
 al (Λ:=aK []) (fn:=Tryz.f40) aM Sc af (by kernel_rfl) (aG (by kernel_rfl:_= []) ah) (by kernel_rfl) (fun x=>HH x.1)
  (fun x=>Eq.trans (by kernel_rfl:_=GC x.1 (fun y=>ret (aD [.st .op] y) fun v g=>some (v,g))) (Us x.1 _)) fun _ _ h=>h
abbrev Sd:List (Nat×bm):= [(40,Ut)]
theorem L7:ar Tryz.prog (aL Sd):=ae Xa <| ak _
def vI {ρ:Type} (a0:az) (k:az×Unit→Option ρ):Option ρ:=
 (HH a0.op).bind fun y1=>k ((⟨a0.epoch,y1.1⟩:az),())
def sH (a0:az):Option (az×Unit):=vI a0 some
theorem Og {ρ:Type} (a0:az) (k:az×Unit→Option ρ):vI a0 k=(sH a0).bind k:=by
 simp only [sH,vI,Option.bind_assoc,Option.bind_some]
abbrev KO:bm:=bD [.ty (.st .entry)] [.st .entry] fun x=>sH x.1
theorem Se:aA Tryz.prog 265 KO:=
 al (Λ:=aK []) (fn:=Tryz.f265) aM L7 af (by kernel_rfl) (aG (by kernel_rfl:_= []) ah) (by kernel_rfl) (fun x=>sH x.1)
  (fun x=>Eq.trans (by kernel_rfl:_=vI x.1 (fun y=>ret (aD [.st .entry] y) fun v g=>some (v,g))) (Og x.1 _)) fun _ _ h=>h
abbrev HI:List (Nat×bm):= [(265,KO)]
theorem zE:ar Tryz.prog (aL HI):=ae Se <| ak _
noncomputable abbrev pU:Code:=cb (b8 Tryz.f209) 0
abbrev fv:ep:=⟨[(0, .cl (.ro (.st .entry))),(3, .cl (.own 0 (.st .entry))),(4, .cl (.int .i64))],[],[.st .entry],0,23⟩
abbrev lA:List (X×ep):= [(.ext 0,⟨[(3, .cl (.own 0 (.st .entry)))],[],[.st .entry],0,23⟩)]
def rf {ρ:Type} (v1:List az) (v2:List az) (v3:Int) (fn: (((List az)×Unit×Int×Unit)×(Unit)×((List az)×Unit))→Option ρ) (fe: ((Unit×Unit)×(Unit)×((List az)×Unit))→Option ρ):Option ρ:=
 br (decide (v3 < (v2.length:Int))) (aq (0≤v3) ((v2[v3.toNat]?).bind fun x4=>(sH x4).bind fun y5=>aq (0≤v3∧v3 < (v1.length:Int)) ((v1[v3.toNat]?).bind fun _=>fn ((v2,(),(IntKind.wrap .i64 (v3+1)),()),(()),((v1.set v3.toNat y5.1),()))) none) none) (fe (((),()),(()),(v1,())))
def jP (s:fv.D):Option (fv.D⊕bh.D lA):=rf s.2.2.1 s.1.1 s.1.2.2.1 (fun s=>some (.inl s)) (fun e=>some (.inr e))
def vJ:fv.D→Option (bh.D lA):=jB jP
theorem HJ {ρ:Type} (s:fv.D) (fn:fv.D→Option ρ) (fe:bh.D lA→Option ρ):rf s.2.2.1 s.1.1 s.1.2.2.1 fn fe=(jP s).bind (Sum.elim fn fe):=by
 simp only [jP,rf,am,ap,Option.bind_none,Option.bind_assoc,Option.bind_some,Sum.elim_inl,Sum.elim_inr]
abbrev BH:cU:=dh [] [0,3,4] fv lA vJ
theorem FA (s:fv.D):ev Θ (aL HI) (aK []) pU (fv.mk' s) (c6 [0,3,4] [3] fun x S=>some (x,S))=(jP s).bind (Sum.elim (fun s'=>some (.nor,fv.mk' s')) fun e=>some (bh.e lA e)):=
 Eq.trans (by kernel_rfl:_=rf s.2.2.1 s.1.1 s.1.2.2.1 (fun s'=>some (.nor,fv.mk' s')) (fun e=>some (bh.e lA e))) (HJ s _ _)
theorem FB:b7 Tryz.prog pU BH:=ba aM zE af (by kernel_rfl) (dp (by kernel_rfl:_= []) ah) [] [0,3,4] [3] fv lA (by kernel_rfl) jP FA vJ (f9 jP) (aO jP)
def tO {ρ:Type} (a0:List az) (k: (List az)×Unit→Option ρ):Option ρ:=
 aq (0≤(a0.length:Int)∧(a0.length:Int)=(a0.length:Int)∧(a0.length:Int)*((56:Nat):Int)≤2 ^ 40) ((vJ ((a0,(),0,()),(()),((List.replicate (a0.length:Int).toNat (⟨0,(⟨0,0,0,0,0,0⟩:Op)⟩:az)),()))).bind fun e8=>k (e8.2.2.1,())) none
def na (a0:List az):Option ((List az)×Unit):=tO a0 some
theorem L8 {ρ:Type} (a0:List az) (k: (List az)×Unit→Option ρ):tO a0 k=(na a0).bind k:=by
 simp only [na,tO,ap,Option.bind_none,Option.bind_assoc,Option.bind_some]
abbrev HK:bm:=bD [.ty (.ls (.st .entry))] [.ls (.st .entry)] fun x=>na x.1
theorem Qg:aA Tryz.prog 209 HK:=
 al (Λ:=aK [(ce pU,BH)]) (fn:=Tryz.f209) aM zE af (by kernel_rfl) (aG (by kernel_rfl:_= [pU]) (aN (q:=ce pU) rfl FB fun _ _ _=>by kernel_rfl)) (by kernel_rfl) (fun x=>na x.1)
  (fun x=>Eq.trans (by kernel_rfl:_=tO x.1 (fun y=>ret (aD [.ls (.st .entry)] y) fun v g=>some (v,g))) (L8 x.1 _)) fun _ _ h=>h
abbrev Qh:List (Nat×bm):= [(208,AD),(209,HK)]
theorem JD:ar Tryz.prog (aL Qh):=ae HG <| ae Qg <| ak _
def rt {ρ:Type} (a0:aj) (k:aj×Unit→Option ρ):Option ρ:=
 (lz a0.config).bind fun y1=>(na a0.log).bind fun y2=>(na a0.learned).bind fun y3=>k ((⟨a0.up,a0.intact,a0.version,a0.epoch,y1.1,a0.first,y2.1,a0.commit,y3.1⟩:aj),())
def nc (a0:aj):Option (aj×Unit):=rt a0 some
theorem L9 {ρ:Type} (a0:aj) (k:aj×Unit→Option ρ):rt a0 k=(nc a0).bind k:=by
 simp only [nc,rt,Option.bind_assoc,Option.bind_some]
abbrev HL:bm:=bD [.ty (.st .server)] [.st .server] fun x=>nc x.1
theorem Qi:aA Tryz.prog 132 HL:=
 al (Λ:=aK []) (fn:=Tryz.f132) aM JD af (by kernel_rfl) (aG (by kernel_rfl:_= []) ah) (by kernel_rfl) (fun x=>nc x.1)
  (fun x=>Eq.trans (by kernel_rfl:_=rt x.1 (fun y=>ret (aD [.st .server] y) fun v g=>some (v,g))) (L9 x.1 _)) fun _ _ h=>h
abbrev E0:List (Nat×bm):= [(132,HL)]
theorem xw:ar Tryz.prog (aL E0):=ae Qi <| ak _
noncomputable abbrev oB:Code:=cb (b8 Tryz.f52) 0
abbrev eF:ep:=⟨[(0, .cl (.ro (.st .server))),(3, .cl (.own 0 (.st .server))),(4, .cl (.int .i64))],[],[.st .server],0,23⟩
abbrev kf:List (X×ep):= [(.ext 0,⟨[(3, .cl (.own 0 (.st .server)))],[],[.st .server],0,23⟩)]
def pV {ρ:Type} (v1:List aj) (v2:List aj) (v3:Int) (fn: (((List aj)×Unit×Int×Unit)×(Unit)×((List aj)×Unit))→Option ρ) (fe: ((Unit×Unit)×(Unit)×((List aj)×Unit))→Option ρ):Option ρ:=
 br (decide (v3 < (v2.length:Int))) (aq (0≤v3) ((v2[v3.toNat]?).bind fun x4=>(nc x4).bind fun y5=>aq (0≤v3∧v3 < (v1.length:Int)) ((v1[v3.toNat]?).bind fun _=>fn ((v2,(),(IntKind.wrap .i64 (v3+1)),()),(()),((v1.set v3.toNat y5.1),()))) none) none) (fe (((),()),(()),(v1,())))
def iz (s:eF.D):Option (eF.D⊕bh.D kf):=pV s.2.2.1 s.1.1 s.1.2.2.1 (fun s=>some (.inl s)) (fun e=>some (.inr e))
def ut:eF.D→Option (bh.D kf):=jB iz
theorem FC {ρ:Type} (s:eF.D) (fn:eF.D→Option ρ) (fe:bh.D kf→Option ρ):pV s.2.2.1 s.1.1 s.1.2.2.1 fn fe=(iz s).bind (Sum.elim fn fe):=by
 simp only [iz,pV,am,ap,Option.bind_none,Option.bind_assoc,Option.bind_some,Sum.elim_inl,Sum.elim_inr]
abbrev zF:cU:=dh [] [0,3,4] eF kf ut
theorem DB (s:eF.D):ev Θ (aL E0) (aK []) oB (eF.mk' s) (c6 [0,3,4] [3] fun x S=>some (x,S))=(iz s).bind (Sum.elim (fun s'=>some (.nor,eF.mk' s')) fun e=>some (bh.e kf e)):=
 Eq.trans (by kernel_rfl:_=pV s.2.2.1 s.1.1 s.1.2.2.1 (fun s'=>some (.nor,eF.mk' s')) (fun e=>some (bh.e kf e))) (FC s _ _)
theorem DC:b7 Tryz.prog oB zF:=ba aM xw af (by kernel_rfl) (dp (by kernel_rfl:_= []) ah) [] [0,3,4] [3] eF kf (by kernel_rfl) iz DB ut (f9 iz) (aO iz)
def sr {ρ:Type} (a0:List aj) (k: (List aj)×Unit→Option ρ):Option ρ:=
 aq (0≤(a0.length:Int)∧(a0.length:Int)=(a0.length:Int)∧(a0.length:Int)*((152:Nat):Int)≤2 ^ 40) ((ut ((a0,(),0,()),(()),((List.replicate (a0.length:Int).toNat (⟨false,false,0,0,(⟨0,0,([]:List Int),([]:List Int)⟩:ai),0,([]:List az),0,([]:List az)⟩:aj)),()))).bind fun e8=>k (e8.2.2.1,())) none
def ne (a0:List aj):Option ((List aj)×Unit):=sr a0 some
theorem JE {ρ:Type} (a0:List aj) (k: (List aj)×Unit→Option ρ):sr a0 k=(ne a0).bind k:=by
 simp only [ne,sr,ap,Option.bind_none,Option.bind_assoc,Option.bind_some]
abbrev E1:bm:=bD [.ty (.ls (.st .server))] [.ls (.st .server)] fun x=>ne x.1
theorem Oh:aA Tryz.prog 52 E1:=
 al (Λ:=aK [(ce oB,zF)]) (fn:=Tryz.f52) aM xw af (by kernel_rfl) (aG (by kernel_rfl:_= [oB]) (aN (q:=ce oB) rfl DC fun _ _ _=>by kernel_rfl)) (by kernel_rfl) (fun x=>ne x.1)
  (fun x=>Eq.trans (by kernel_rfl:_=sr x.1 (fun y=>ret (aD [.ls (.st .server)] y) fun v g=>some (v,g))) (JE x.1 _)) fun _ _ h=>h
abbrev E2:List (Nat×bm):= [(208,AD)]
theorem xx:ar Tryz.prog (aL E2):=ae HG <| ak _
noncomputable abbrev oC:Code:=cb (b8 Tryz.f133) 0
abbrev eG:ep:=⟨[(0, .cl (.ro (.st .config))),(3, .cl (.own 0 (.st .config))),(4, .cl (.int .i64))],[],[.st .config],0,23⟩
abbrev kg:List (X×ep):= [(.ext 0,⟨[(3, .cl (.own 0 (.st .config)))],[],[.st .config],0,23⟩)]
def pW {ρ:Type} (v1:List ai) (v2:List ai) (v3:Int) (fn: (((List ai)×Unit×Int×Unit)×(Unit)×((List ai)×Unit))→Option ρ) (fe: ((Unit×Unit)×(Unit)×((List ai)×Unit))→Option ρ):Option ρ:=
 br (decide (v3 < (v2.length:Int))) (aq (0≤v3) ((v2[v3.toNat]?).bind fun x4=>(lz x4).bind fun y5=>aq (0≤v3∧v3 < (v1.length:Int)) ((v1[v3.toNat]?).bind fun _=>fn ((v2,(),(IntKind.wrap .i64 (v3+1)),()),(()),((v1.set v3.toNat y5.1),()))) none) none) (fe (((),()),(()),(v1,())))
def iA (s:eG.D):Option (eG.D⊕bh.D kg):=pW s.2.2.1 s.1.1 s.1.2.2.1 (fun s=>some (.inl s)) (fun e=>some (.inr e))
def uu:eG.D→Option (bh.D kg):=jB iA
theorem FD {ρ:Type} (s:eG.D) (fn:eG.D→Option ρ) (fe:bh.D kg→Option ρ):pW s.2.2.1 s.1.1 s.1.2.2.1 fn fe=(iA s).bind (Sum.elim fn fe):=by
 simp only [iA,pW,am,ap,Option.bind_none,Option.bind_assoc,Option.bind_some,Sum.elim_inl,Sum.elim_inr]
abbrev zG:cU:=dh [] [0,3,4] eG kg uu
theorem DD (s:eG.D):ev Θ (aL E2) (aK []) oC (eG.mk' s) (c6 [0,3,4] [3] fun x S=>some (x,S))=(iA s).bind (Sum.elim (fun s'=>some (.nor,eG.mk' s')) fun e=>some (bh.e kg e)):=
 Eq.trans (by kernel_rfl:_=pW s.2.2.1 s.1.1 s.1.2.2.1 (fun s'=>some (.nor,eG.mk' s')) (fun e=>some (bh.e kg e))) (FD s _ _)
theorem DE:b7 Tryz.prog oC zG:=ba aM xx af (by kernel_rfl) (dp (by kernel_rfl:_= []) ah) [] [0,3,4] [3] eG kg (by kernel_rfl) iA DD uu (f9 iA) (aO iA)
def su {ρ:Type} (a0:List ai) (k: (List ai)×Unit→Option ρ):Option ρ:=
 aq (0≤(a0.length:Int)∧(a0.length:Int)=(a0.length:Int)∧(a0.length:Int)*((64:Nat):Int)≤2 ^ 40) ((uu ((a0,(),0,()),(()),((List.replicate (a0.length:Int).toNat (⟨0,0,([]:List Int),([]:List Int)⟩:ai)),()))).bind fun e8=>k (e8.2.2.1,())) none
def nf (a0:List ai):Option ((List ai)×Unit):=su a0 some
theorem JF {ρ:Type} (a0:List ai) (k: (List ai)×Unit→Option ρ):su a0 k=(nf a0).bind k:=by
 simp only [nf,su,ap,Option.bind_none,Option.bind_assoc,Option.bind_some]
abbrev E3:bm:=bD [.ty (.ls (.st .config))] [.ls (.st .config)] fun x=>nf x.1
theorem Oi:aA Tryz.prog 133 E3:=
 al (Λ:=aK [(ce oC,zG)]) (fn:=Tryz.f133) aM xx af (by kernel_rfl) (aG (by kernel_rfl:_= [oC]) (aN (q:=ce oC) rfl DE fun _ _ _=>by kernel_rfl)) (by kernel_rfl) (fun x=>nf x.1)
  (fun x=>Eq.trans (by kernel_rfl:_=su x.1 (fun y=>ret (aD [.ls (.st .config)] y) fun v g=>some (v,g))) (JF x.1 _)) fun _ _ h=>h
abbrev JG:List (Nat×bm):= [(133,E3)]
theorem DF:ar Tryz.prog (aL JG):=ae Oi <| ak _
def nh {ρ:Type} (a0:an) (k:an×Unit→Option ρ):Option ρ:=
 (nf a0.configs).bind fun y1=>k ((⟨y1.1,a0.activated⟩:an),())
def kh (a0:an):Option (an×Unit):=nh a0 some
theorem FE {ρ:Type} (a0:an) (k:an×Unit→Option ρ):nh a0 k=(kh a0).bind k:=by
 simp only [kh,nh,Option.bind_assoc,Option.bind_some]
abbrev zH:bm:=bD [.ty (.st .masterLog)] [.st .masterLog] fun x=>kh x.1
theorem JH:aA Tryz.prog 54 zH:=
 al (Λ:=aK []) (fn:=Tryz.f54) aM DF af (by kernel_rfl) (aG (by kernel_rfl:_= []) ah) (by kernel_rfl) (fun x=>kh x.1)
  (fun x=>Eq.trans (by kernel_rfl:_=nh x.1 (fun y=>ret (aD [.st .masterLog] y) fun v g=>some (v,g))) (FE x.1 _)) fun _ _ h=>h
abbrev Sf:List (Nat×bm):= []
theorem Ma:ar Tryz.prog (aL Sf):=ak _
def vK {ρ:Type} (a0:jO) (k:jO×Unit→Option ρ):Option ρ:=
 k (a0,())
def sI (a0:jO):Option (jO×Unit):=vK a0 some
theorem Oj {ρ:Type} (a0:jO) (k:jO×Unit→Option ρ):vK a0 k=(sI a0).bind k:=by
 simp only [sI,vK,Option.bind_some]
abbrev KP:bm:=bD [.ty (.st .lease)] [.st .lease] fun x=>sI x.1
theorem Sg:aA Tryz.prog 55 KP:=
 al (Λ:=aK []) (fn:=Tryz.f55) aM Ma af (by kernel_rfl) (aG (by kernel_rfl:_= []) ah) (by kernel_rfl) (fun x=>sI x.1)
  (fun x=>Eq.trans (by kernel_rfl:_=vK x.1 (fun y=>ret (aD [.st .lease] y) fun v g=>some (v,g))) (Oj x.1 _)) fun _ _ h=>h
abbrev Si:List (Nat×bm):= []
theorem Mb:ar Tryz.prog (aL Si):=ak _
def vL {ρ:Type} (a0:aU) (k:aU×Unit→Option ρ):Option ρ:=
 k (a0,())
def sJ (a0:aU):Option (aU×Unit):=vL a0 some
theorem Ok {ρ:Type} (a0:aU) (k:aU×Unit→Option ρ):vL a0 k=(sJ a0).bind k:=by
 simp only [sJ,vL,Option.bind_some]
abbrev KQ:bm:=bD [.ty (.st .place)] [.st .place] fun x=>sJ x.1
theorem Sj:aA Tryz.prog 134 KQ:=
 al (Λ:=aK []) (fn:=Tryz.f134) aM Mb af (by kernel_rfl) (aG (by kernel_rfl:_= []) ah) (by kernel_rfl) (fun x=>sJ x.1)
  (fun x=>Eq.trans (by kernel_rfl:_=vL x.1 (fun y=>ret (aD [.st .place] y) fun v g=>some (v,g))) (Ok x.1 _)) fun _ _ h=>h
abbrev HM:List (Nat×bm):= [(134,KQ)]
theorem zI:ar Tryz.prog (aL HM):=ae Sj <| ak _
noncomputable abbrev pX:Code:=cb (b8 Tryz.f56) 0
abbrev fw:ep:=⟨[(0, .cl (.ro (.st .place))),(3, .cl (.own 0 (.st .place))),(4, .cl (.int .i64))],[],[.st .place],0,23⟩
abbrev lB:List (X×ep):= [(.ext 0,⟨[(3, .cl (.own 0 (.st .place)))],[],[.st .place],0,23⟩)]
def rg {ρ:Type} (v1:List aU) (v2:List aU) (v3:Int) (fn: (((List aU)×Unit×Int×Unit)×(Unit)×((List aU)×Unit))→Option ρ) (fe: ((Unit×Unit)×(Unit)×((List aU)×Unit))→Option ρ):Option ρ:=
 br (decide (v3 < (v2.length:Int))) (aq (0≤v3) ((v2[v3.toNat]?).bind fun x4=>(sJ x4).bind fun y5=>aq (0≤v3∧v3 < (v1.length:Int)) ((v1[v3.toNat]?).bind fun _=>fn ((v2,(),(IntKind.wrap .i64 (v3+1)),()),(()),((v1.set v3.toNat y5.1),()))) none) none) (fe (((),()),(()),(v1,())))
def jQ (s:fw.D):Option (fw.D⊕bh.D lB):=rg s.2.2.1 s.1.1 s.1.2.2.1 (fun s=>some (.inl s)) (fun e=>some (.inr e))
def vM:fw.D→Option (bh.D lB):=jB jQ
theorem HN {ρ:Type} (s:fw.D) (fn:fw.D→Option ρ) (fe:bh.D lB→Option ρ):rg s.2.2.1 s.1.1 s.1.2.2.1 fn fe=(jQ s).bind (Sum.elim fn fe):=by
 simp only [jQ,rg,am,ap,Option.bind_none,Option.bind_assoc,Option.bind_some,Sum.elim_inl,Sum.elim_inr]
abbrev BI:cU:=dh [] [0,3,4] fw lB vM
theorem FF (s:fw.D):ev Θ (aL HM) (aK []) pX (fw.mk' s) (c6 [0,3,4] [3] fun x S=>some (x,S))=(jQ s).bind (Sum.elim (fun s'=>some (.nor,fw.mk' s')) fun e=>some (bh.e lB e)):=
 Eq.trans (by kernel_rfl:_=rg s.2.2.1 s.1.1 s.1.2.2.1 (fun s'=>some (.nor,fw.mk' s')) (fun e=>some (bh.e lB e))) (HN s _ _)
theorem FG:b7 Tryz.prog pX BI:=ba aM zI af (by kernel_rfl) (dp (by kernel_rfl:_= []) ah) [] [0,3,4] [3] fw lB (by kernel_rfl) jQ FF vM (f9 jQ) (aO jQ)
def tP {ρ:Type} (a0:List aU) (k: (List aU)×Unit→Option ρ):Option ρ:=
 aq (0≤(a0.length:Int)∧(a0.length:Int)=(a0.length:Int)∧(a0.length:Int)*((24:Nat):Int)≤2 ^ 40) ((vM ((a0,(),0,()),(()),((List.replicate (a0.length:Int).toNat (⟨0,0,0⟩:aU)),()))).bind fun e8=>k (e8.2.2.1,())) none
def pb (a0:List aU):Option ((List aU)×Unit):=tP a0 some
theorem Mc {ρ:Type} (a0:List aU) (k: (List aU)×Unit→Option ρ):tP a0 k=(pb a0).bind k:=by
 simp only [pb,tP,ap,Option.bind_none,Option.bind_assoc,Option.bind_some]
abbrev HO:bm:=bD [.ty (.ls (.st .place))] [.ls (.st .place)] fun x=>pb x.1
theorem Qj:aA Tryz.prog 56 HO:=
 al (Λ:=aK [(ce pX,BI)]) (fn:=Tryz.f56) aM zI af (by kernel_rfl) (aG (by kernel_rfl:_= [pX]) (aN (q:=ce pX) rfl FG fun _ _ _=>by kernel_rfl)) (by kernel_rfl) (fun x=>pb x.1)
  (fun x=>Eq.trans (by kernel_rfl:_=tP x.1 (fun y=>ret (aD [.ls (.st .place)] y) fun v g=>some (v,g))) (Mc x.1 _)) fun _ _ h=>h
abbrev Ol:List (Nat×bm):= [(52,E1),(53,HF),(54,zH),(55,KP),(56,HO)]
theorem HP:ar Tryz.prog (aL Ol):=ae Oh <| ae Of <| ae JH <| ae Sg <| ae Qj <| ak _
def pY {ρ:Type} (a0:ao) (k:ao×Unit→Option ρ):Option ρ:=
 (ne a0.servers).bind fun y1=>(pT a0.sides).bind fun y2=>(kh a0.master).bind fun y3=>(sI a0.lease).bind fun y4=>(pb a0.places).bind fun y5=>k ((⟨a0.now,y1.1,y2.1,y3.1,a0.masterUp,y4.1,y5.1⟩:ao),())
def gO (a0:ao):Option (ao×Unit):=pY a0 some
theorem JI {ρ:Type} (a0:ao) (k:ao×Unit→Option ρ):pY a0 k=(gO a0).bind k:=by
 simp only [gO,pY,Option.bind_assoc,Option.bind_some]
abbrev E4:bm:=bD [.ty (.st .cluster)] [.st .cluster] fun x=>gO x.1
theorem Om:aA Tryz.prog 14 E4:=
 al (Λ:=aK []) (fn:=Tryz.f14) aM HP af (by kernel_rfl) (aG (by kernel_rfl:_= []) ah) (by kernel_rfl) (fun x=>gO x.1)
  (fun x=>Eq.trans (by kernel_rfl:_=pY x.1 (fun y=>ret (aD [.st .cluster] y) fun v g=>some (v,g))) (JI x.1 _)) fun _ _ h=>h
abbrev Uu:List (Nat×bm):= []
theorem Oo:ar Tryz.prog (aL Uu):=ak _
def sK {ρ:Type} (a0:ai) (k:ai×Unit→Option ρ):Option ρ:=
 aq ((([]:List Int)++a0.replicas).length*8≤2 ^ 40) (aq ((([]:List Int)++a0.witnesses).length*8≤2 ^ 40) (k ((⟨a0.epoch,a0.primary,(([]:List Int)++a0.replicas),(([]:List Int)++a0.witnesses)⟩:ai),())) none) none
def ni (a0:ai):Option (ai×Unit):=sK a0 some
theorem Qk {ρ:Type} (a0:ai) (k:ai×Unit→Option ρ):sK a0 k=(ni a0).bind k:=by
 simp only [ni,sK,ap,Option.bind_none,Option.bind_some]
abbrev BJ:bm:=bD [.ty (.st .config)] [.st .config] fun x=>ni x.1
theorem HQ:aA Tryz.prog 170 BJ:=
 al (Λ:=aK []) (fn:=Tryz.f170) aM Oo af (by kernel_rfl) (aG (by kernel_rfl:_= []) ah) (by kernel_rfl) (fun x=>ni x.1)
  (fun x=>Eq.trans (by kernel_rfl:_=sK x.1 (fun y=>ret (aD [.st .config] y) fun v g=>some (v,g))) (Qk x.1 _)) fun _ _ h=>h
abbrev Uv:List (Nat×bm):= []
theorem Oq:ar Tryz.prog (aL Uv):=ak _
def uV {ρ:Type} (a0:List az) (k: (List az)×Unit→Option ρ):Option ρ:=
 aq ((([]:List az)++a0).length*56≤2 ^ 40) (k ((([]:List az)++a0),())) none
def ru (a0:List az):Option ((List az)×Unit):=uV a0 some
theorem Ql {ρ:Type} (a0:List az) (k: (List az)×Unit→Option ρ):uV a0 k=(ru a0).bind k:=by
 simp only [ru,uV,ap,Option.bind_none,Option.bind_some]
abbrev Ot:bm:=bD [.ty (.ls (.st .entry))] [.ls (.st .entry)] fun x=>ru x.1
theorem Uw:aA Tryz.prog 79 Ot:=
 al (Λ:=aK []) (fn:=Tryz.f79) aM Oq af (by kernel_rfl) (aG (by kernel_rfl:_= []) ah) (by kernel_rfl) (fun x=>ru x.1)
  (fun x=>Eq.trans (by kernel_rfl:_=uV x.1 (fun y=>ret (aD [.ls (.st .entry)] y) fun v g=>some (v,g))) (Ql x.1 _)) fun _ _ h=>h
abbrev Sk:List (Nat×bm):= [(170,BJ),(79,Ot)]
theorem Md:ar Tryz.prog (aL Sk):=ae HQ <| ae Uw <| ak _
def sT {ρ:Type} (a0:aj) (k:aj×Unit→Option ρ):Option ρ:=
 (ni a0.config).bind fun y1=>(ru a0.log).bind fun y2=>(ru a0.learned).bind fun y3=>k ((⟨a0.up,a0.intact,a0.version,a0.epoch,y1.1,a0.first,y2.1,a0.commit,y3.1⟩:aj),())
def qP (a0:aj):Option (aj×Unit):=sT a0 some
theorem Ou {ρ:Type} (a0:aj) (k:aj×Unit→Option ρ):sT a0 k=(qP a0).bind k:=by
 simp only [qP,sT,Option.bind_assoc,Option.bind_some]
abbrev KR:bm:=bD [.ty (.st .server)] [.st .server] fun x=>qP x.1
theorem Sl:aA Tryz.prog 154 KR:=
 al (Λ:=aK []) (fn:=Tryz.f154) aM Md af (by kernel_rfl) (aG (by kernel_rfl:_= []) ah) (by kernel_rfl) (fun x=>qP x.1)
  (fun x=>Eq.trans (by kernel_rfl:_=sT x.1 (fun y=>ret (aD [.st .server] y) fun v g=>some (v,g))) (Ou x.1 _)) fun _ _ h=>h
abbrev KS:List (Nat×bm):= [(170,BJ)]
theorem BK:ar Tryz.prog (aL KS):=ae HQ <| ak _
noncomputable abbrev rv:Code:=cb (b8 Tryz.f155) 0
abbrev gP:ep:=⟨[(1, .cl (.ptr 0 0)),(2, .cl (.ptr 1 0)),(3, .cl (.ptr 2 0)),(4, .cl (.int .i64))],[[.ro (.st .config), .int .i64],[.em, .int .i64],[.own 0 (.st .config), .int .i64]],[.st .config],0,29⟩
abbrev nj:List (X×ep):= [(.ext 0,⟨[(2, .cl (.ptr 0 0)),(3, .cl (.ptr 1 0))],[[.em, .int .i64],[.own 0 (.st .config), .int .i64]],[.st .config],0,29⟩)]
def n5 {ρ:Type} (v8:List ai) (v9:Int) (v10:List ai) (v11:Int) (v12:Int) (v13:Int) (fn: ((Unit×Unit×Unit×Int×Unit)×(((List ai)×Int×Unit)×(Unit×Int×Unit)×(Unit×Int×Unit)×Unit)×((List ai)×Unit))→Option ρ) (fe: ((Unit×Unit×Unit)×((Unit×Int×Unit)×(Unit×Int×Unit)×Unit)×((List ai)×Unit))→Option ρ):Option ρ:=
 br (decide (v9 < (v10.length:Int))) (aq (0≤v9) ((v10[v9.toNat]?).bind fun x14=>(ni x14).bind fun y15=>aq ((v8++([y15.1]:List ai)).length*64≤2 ^ 40) (fn (((),(),(),(IntKind.wrap .i64 (v9+1)),()),((v10,v11,()),((),v12,()),((),v13,()),()),((v8++([y15.1]:List ai)),()))) none) none) (fe (((),(),()),(((),v12,()),((),v13,()),()),(v8,())))
def iB (s:gP.D):Option (gP.D⊕bh.D nj):=n5 s.2.2.1 s.1.2.2.2.1 s.2.1.1.1 s.2.1.1.2.1 s.2.1.2.1.2.1 s.2.1.2.2.1.2.1 (fun s=>some (.inl s)) (fun e=>some (.inr e))
def tQ:gP.D→Option (bh.D nj):=jB iB
theorem JJ {ρ:Type} (s:gP.D) (fn:gP.D→Option ρ) (fe:bh.D nj→Option ρ):n5 s.2.2.1 s.1.2.2.2.1 s.2.1.1.1 s.2.1.1.2.1 s.2.1.2.1.2.1 s.2.1.2.2.1.2.1 fn fe=(iB s).bind (Sum.elim fn fe):=by
 simp only [iB,n5,am,ap,Option.bind_none,Option.bind_assoc,Option.bind_some,Sum.elim_inl,Sum.elim_inr]
abbrev E5:cU:=dh [.b 2 0 (.st .config)] [1,2,3,4] gP nj tQ
theorem HS (s:gP.D):ev Θ (aL KS) (aK []) rv (gP.mk' s) (c6 [1,2,3,4] [2,3] fun x S=>some (x,S))=(iB s).bind (Sum.elim (fun s'=>some (.nor,gP.mk' s')) fun e=>some (bh.e nj e)):=
 Eq.trans (by kernel_rfl:_=n5 s.2.2.1 s.1.2.2.2.1 s.2.1.1.1 s.2.1.1.2.1 s.2.1.2.1.2.1 s.2.1.2.2.1.2.1 (fun s'=>some (.nor,gP.mk' s')) (fun e=>some (bh.e nj e))) (JJ s _ _)
theorem HT:b7 Tryz.prog rv E5:=ba aM BK af (by kernel_rfl) (dp (by kernel_rfl:_= []) ah) [.b 2 0 (.st .config)] [1,2,3,4] [2,3] gP nj (by kernel_rfl) iB HS tQ (f9 iB) (aO iB)
def sU {ρ:Type} (a0:an) (k:an×Unit→Option ρ):Option ρ:=
 (tQ (((),(),(),0,()),((a0.configs,a0.activated,()),((),0,()),((),a0.activated,()),()),(([]:List ai),()))).bind fun e16=>k ((⟨e16.2.2.1,e16.2.1.2.1.2.1⟩:an),())
def qQ (a0:an):Option (an×Unit):=sU a0 some
theorem Ov {ρ:Type} (a0:an) (k:an×Unit→Option ρ):sU a0 k=(qQ a0).bind k:=by
 simp only [qQ,sU,Option.bind_assoc,Option.bind_some]
abbrev KT:bm:=bD [.ty (.st .masterLog)] [.st .masterLog] fun x=>qQ x.1
theorem So:aA Tryz.prog 155 KT:=
 al (Λ:=aK [(ce rv,E5)]) (fn:=Tryz.f155) aM BK af (by kernel_rfl) (aG (by kernel_rfl:_= [rv]) (aN (q:=ce rv) rfl HT fun _ _ _=>by kernel_rfl)) (by kernel_rfl) (fun x=>qQ x.1)
  (fun x=>Eq.trans (by kernel_rfl:_=sU x.1 (fun y=>ret (aD [.st .masterLog] y) fun v g=>some (v,g))) (Ov x.1 _)) fun _ _ h=>h
abbrev KU:List (Nat×bm):= [(154,KR),(155,KT)]
theorem BL:ar Tryz.prog (aL KU):=ae Sl <| ae So <| ak _
noncomputable abbrev rx:Code:=cb (b8 Tryz.f82) 0
abbrev gQ:ep:=⟨[(1, .cl (.ptr 0 0)),(2, .cl (.ptr 1 0)),(3, .cl (.ptr 2 0)),(4, .cl (.int .i64))],[[.int .i64, .ro (.st .server), .ro (.i .i64), .ro (.st .config), .int .i64, .int .i64, .int .i64, .int .i64, .int .i64, .ro (.st .place)],[.int .i64, .em, .em, .em, .int .i64, .int .i64, .int .i64, .int .i64, .int .i64, .em],[.int .i64, .own 0 (.st .server), .ro (.i .i64), .ro (.st .config), .int .i64, .int .i64, .int .i64, .int .i64, .int .i64, .ro (.st .place)]],[.st .server],0,42⟩
abbrev nk:List (X×ep):= [(.ext 0,⟨[(1, .cl (.ptr 0 0)),(2, .cl (.ptr 1 0)),(3, .cl (.ptr 2 0))],[[.int .i64, .ro (.st .server), .ro (.i .i64), .ro (.st .config), .int .i64, .int .i64, .int .i64, .int .i64, .int .i64, .ro (.st .place)],[.int .i64, .em, .em, .em, .int .i64, .int .i64, .int .i64, .int .i64, .int .i64, .em],[.int .i64, .own 0 (.st .server), .ro (.i .i64), .ro (.st .config), .int .i64, .int .i64, .int .i64, .int .i64, .int .i64, .ro (.st .place)]],[.st .server],0,42⟩)]
def n6 {ρ:Type} (v29:List aj) (v30:Int) (v31:Int) (v32:List aj) (v33:List Int) (v34:List ai) (v35:Int) (v36:Int) (v37:Int) (v38:Int) (v39:Int) (v40:List aU) (v41:Int) (v42:Int) (v43:Int) (v44:Int) (v45:Int) (v46:Int) (v47:Int) (v48:List Int) (v49:List ai) (v50:Int) (v51:Int) (v52:Int) (v53:Int) (v54:Int) (v55:List aU) (fn: ((Unit×Unit×Unit×Int×Unit)×((Int×(List aj)×(List Int)×(List ai)×Int×Int×Int×Int×Int×(List aU)×Unit)×(Int×Unit×Unit×Unit×Int×Int×Int×Int×Int×Unit×Unit)×(Int×Unit×(List Int)×(List ai)×Int×Int×Int×Int×Int×(List aU)×Unit)×Unit)×((List aj)×Unit))→Option ρ) (fe: ((Unit×Unit×Unit×Unit)×((Int×(List aj)×(List Int)×(List ai)×Int×Int×Int×Int×Int×(List aU)×Unit)×(Int×Unit×Unit×Unit×Int×Int×Int×Int×Int×Unit×Unit)×(Int×Unit×(List Int)×(List ai)×Int×Int×Int×Int×Int×(List aU)×Unit)×Unit)×((List aj)×Unit))→Option ρ):Option ρ:=
 br (decide (v30 < (v32.length:Int))) (aq (0≤v30) ((v32[v30.toNat]?).bind fun x56=>(qP x56).bind fun y57=>aq ((v29++([y57.1]:List aj)).length*152≤2 ^ 40) (fn (((),(),(),(IntKind.wrap .i64 (v30+1)),()),((v31,v32,v33,v34,v35,v36,v37,v38,v39,v40,()),(v41,(),(),(),v42,v43,v44,v45,v46,(),()),(v47,(),v48,v49,v50,v51,v52,v53,v54,v55,()),()),((v29++([y57.1]:List aj)),()))) none) none) (fe (((),(),(),()),((v31,v32,v33,v34,v35,v36,v37,v38,v39,v40,()),(v41,(),(),(),v42,v43,v44,v45,v46,(),()),(v47,(),v48,v49,v50,v51,v52,v53,v54,v55,()),()),(v29,())))
def iC (s:gQ.D):Option (gQ.D⊕bh.D nk):=n6 s.2.2.1 s.1.2.2.2.1 s.2.1.1.1 s.2.1.1.2.1 s.2.1.1.2.2.1 s.2.1.1.2.2.2.1 s.2.1.1.2.2.2.2.1 s.2.1.1.2.2.2.2.2.1 s.2.1.1.2.2.2.2.2.2.1 s.2.1.1.2.2.2.2.2.2.2.1 s.2.1.1.2.2.2.2.2.2.2.2.1 s.2.1.1.2.2.2.2.2.2.2.2.2.1 s.2.1.2.1.1 s.2.1.2.1.2.2.2.2.1 s.2.1.2.1.2.2.2.2.2.1 s.2.1.2.1.2.2.2.2.2.2.1 s.2.1.2.1.2.2.2.2.2.2.2.1 s.2.1.2.1.2.2.2.2.2.2.2.2.1 s.2.1.2.2.1.1 s.2.1.2.2.1.2.2.1 s.2.1.2.2.1.2.2.2.1 s.2.1.2.2.1.2.2.2.2.1 s.2.1.2.2.1.2.2.2.2.2.1 s.2.1.2.2.1.2.2.2.2.2.2.1 s.2.1.2.2.1.2.2.2.2.2.2.2.1 s.2.1.2.2.1.2.2.2.2.2.2.2.2.1 s.2.1.2.2.1.2.2.2.2.2.2.2.2.2.1 (fun s=>some (.inl s)) (fun e=>some (.inr e))
def tR:gQ.D→Option (bh.D nk):=jB iC
theorem JK {ρ:Type} (s:gQ.D) (fn:gQ.D→Option ρ) (fe:bh.D nk→Option ρ):n6 s.2.2.1 s.1.2.2.2.1 s.2.1.1.1 s.2.1.1.2.1 s.2.1.1.2.2.1 s.2.1.1.2.2.2.1 s.2.1.1.2.2.2.2.1 s.2.1.1.2.2.2.2.2.1 s.2.1.1.2.2.2.2.2.2.1 s.2.1.1.2.2.2.2.2.2.2.1 s.2.1.1.2.2.2.2.2.2.2.2.1 s.2.1.1.2.2.2.2.2.2.2.2.2.1 s.2.1.2.1.1 s.2.1.2.1.2.2.2.2.1 s.2.1.2.1.2.2.2.2.2.1 s.2.1.2.1.2.2.2.2.2.2.1 s.2.1.2.1.2.2.2.2.2.2.2.1 s.2.1.2.1.2.2.2.2.2.2.2.2.1 s.2.1.2.2.1.1 s.2.1.2.2.1.2.2.1 s.2.1.2.2.1.2.2.2.1 s.2.1.2.2.1.2.2.2.2.1 s.2.1.2.2.1.2.2.2.2.2.1 s.2.1.2.2.1.2.2.2.2.2.2.1 s.2.1.2.2.1.2.2.2.2.2.2.2.1 s.2.1.2.2.1.2.2.2.2.2.2.2.2.1 s.2.1.2.2.1.2.2.2.2.2.2.2.2.2.1 fn fe=(iC s).bind (Sum.elim fn fe):=by
 simp only [iC,n6,am,ap,Option.bind_none,Option.bind_assoc,Option.bind_some,Sum.elim_inl,Sum.elim_inr]
abbrev E6:cU:=dh [.b 2 1 (.st .server)] [1,2,3,4] gQ nk tR
theorem HU (s:gQ.D):ev Θ (aL KU) (aK []) rx (gQ.mk' s) (c6 [1,2,3,4] [1,2,3] fun x S=>some (x,S))=(iC s).bind (Sum.elim (fun s'=>some (.nor,gQ.mk' s')) fun e=>some (bh.e nk e)):=
 Eq.trans (by kernel_rfl:_=n6 s.2.2.1 s.1.2.2.2.1 s.2.1.1.1 s.2.1.1.2.1 s.2.1.1.2.2.1 s.2.1.1.2.2.2.1 s.2.1.1.2.2.2.2.1 s.2.1.1.2.2.2.2.2.1 s.2.1.1.2.2.2.2.2.2.1 s.2.1.1.2.2.2.2.2.2.2.1 s.2.1.1.2.2.2.2.2.2.2.2.1 s.2.1.1.2.2.2.2.2.2.2.2.2.1 s.2.1.2.1.1 s.2.1.2.1.2.2.2.2.1 s.2.1.2.1.2.2.2.2.2.1 s.2.1.2.1.2.2.2.2.2.2.1 s.2.1.2.1.2.2.2.2.2.2.2.1 s.2.1.2.1.2.2.2.2.2.2.2.2.1 s.2.1.2.2.1.1 s.2.1.2.2.1.2.2.1 s.2.1.2.2.1.2.2.2.1 s.2.1.2.2.1.2.2.2.2.1 s.2.1.2.2.1.2.2.2.2.2.1 s.2.1.2.2.1.2.2.2.2.2.2.1 s.2.1.2.2.1.2.2.2.2.2.2.2.1 s.2.1.2.2.1.2.2.2.2.2.2.2.2.1 s.2.1.2.2.1.2.2.2.2.2.2.2.2.2.1 (fun s'=>some (.nor,gQ.mk' s')) (fun e=>some (bh.e nk e))) (JK s _ _)
theorem HV:b7 Tryz.prog rx E6:=ba aM BL af (by kernel_rfl) (dp (by kernel_rfl:_= []) ah) [.b 2 1 (.st .server)] [1,2,3,4] [1,2,3] gQ nk (by kernel_rfl) iC HU tR (f9 iC) (aO iC)
def sV {ρ:Type} (a0:ao) (k:ao×Unit→Option ρ):Option ρ:=
 (tR (((),(),(),0,()),((a0.now,a0.servers,a0.sides,a0.master.configs,a0.master.activated,a0.masterUp,a0.lease.epoch,a0.lease.holder,a0.lease.ends,a0.places,()),(0,(),(),(),0,0,0,0,0,(),()),(a0.now,(),a0.sides,a0.master.configs,a0.master.activated,a0.masterUp,a0.lease.epoch,a0.lease.holder,a0.lease.ends,a0.places,()),()),(([]:List aj),()))).bind fun e58=>aq ((([]:List Int)++e58.2.1.1.2.2.1).length*8≤2 ^ 40) ((qQ (⟨e58.2.1.1.2.2.2.1,e58.2.1.1.2.2.2.2.1⟩:an)).bind fun y59=>aq ((([]:List aU)++e58.2.1.1.2.2.2.2.2.2.2.2.2.1).length*24≤2 ^ 40) (k ((⟨e58.2.1.2.2.1.1,e58.2.2.1,(([]:List Int)++e58.2.1.1.2.2.1),y59.1,e58.2.1.2.2.1.2.2.2.2.2.1,(⟨e58.2.1.2.2.1.2.2.2.2.2.2.1,e58.2.1.2.2.1.2.2.2.2.2.2.2.1,e58.2.1.2.2.1.2.2.2.2.2.2.2.2.1⟩:jO),(([]:List aU)++e58.2.1.1.2.2.2.2.2.2.2.2.2.1)⟩:ao),())) none) none
def qR (a0:ao):Option (ao×Unit):=sV a0 some
theorem Ow {ρ:Type} (a0:ao) (k:ao×Unit→Option ρ):sV a0 k=(qR a0).bind k:=by
 simp only [qR,sV,ap,Option.bind_none,Option.bind_assoc,Option.bind_some]
abbrev KV:bm:=bD [.ty (.st .cluster)] [.st .cluster] fun x=>qR x.1
theorem Sq:aA Tryz.prog 82 KV:=
 al (Λ:=aK [(ce rx,E6)]) (fn:=Tryz.f82) aM BL af (by kernel_rfl) (aG (by kernel_rfl:_= [rx]) (aN (q:=ce rx) rfl HV fun _ _ _=>by kernel_rfl)) (by kernel_rfl) (fun x=>qR x.1)
  (fun x=>Eq.trans (by kernel_rfl:_=sV x.1 (fun y=>ret (aD [.st .cluster] y) fun v g=>some (v,g))) (Ow x.1 _)) fun _ _ h=>h
abbrev Xb:List (Nat×bm):= []
theorem Sr:ar Tryz.prog (aL Xb):=ak _
def BM {ρ:Type} (a0:Int) (a1:Int) (a2:Int) (k:Bool×Unit→Option ρ):Option ρ:=
 br (decide (a0≥a1)) (k ((decide (a0≤a2)),())) (k (false,()))
def eH (a0:Int) (a1:Int) (a2:Int):Option (Bool×Unit):=BM a0 a1 a2 some
theorem Ux {ρ:Type} (a0:Int) (a1:Int) (a2:Int) (k:Bool×Unit→Option ρ):BM a0 a1 a2 k=(eH a0 a1 a2).bind k:=by
 simp only [eH,BM,am,Option.bind_some]
abbrev qS:bm:=bD [.ty (.i .i64), .ty (.i .i64), .ty (.i .i64)] [.b] fun x=>eH x.1 x.2.1 x.2.2.1
theorem rN:aA Tryz.prog 120 qS:=
 al (Λ:=aK []) (fn:=Tryz.f120) aM Sr af (by kernel_rfl) (aG (by kernel_rfl:_= []) ah) (by kernel_rfl) (fun x=>eH x.1 x.2.1 x.2.2.1)
  (fun x=>Eq.trans (by kernel_rfl:_=BM x.1 x.2.1 x.2.2.1 (fun y=>ret (aD [.b] y) fun v g=>some (v,g))) (Ux x.1 x.2.1 x.2.2.1 _)) fun _ _ h=>h
abbrev HW:List (Nat×bm):= [(120,qS)]
theorem zJ:ar Tryz.prog (aL HW):=ae rN <| ak _
noncomputable abbrev pZ:Code:=cb (b8 Tryz.f121) 0
abbrev fx:ep:=⟨[(0, .cl (.ro (.i .i64))),(3, .cl (.int .i64))],[],[],0,19⟩
abbrev lC:List (X×ep):= [(.ret,⟨[(0, .cl (.ro (.i .i64))),(2, .cl (.bl))],[],[],0,19⟩),(.ext 0,⟨[(0, .cl (.ro (.i .i64))),(2, .cl (.dead))],[],[],0,19⟩)]
def me {ρ:Type} (v1:List Int) (v2:Int) (fn: (((List Int)×Int×Unit)×(Unit)×(Unit))→Option ρ) (fe: (((List Int)×Bool×Unit)×(Unit)×(Unit))⊕(((List Int)×Unit×Unit)×(Unit)×(Unit))→Option ρ):Option ρ:=
 br (decide (v2 < (v1.length:Int))) (aq (0≤v2) ((v1[v2.toNat]?).bind fun x3=>(eH x3 0 3).bind fun y4=>br (!y4.1) (fe (.inl ((v1,false,()),(()),(())))) (fn ((v1,(IntKind.wrap .i64 (v2+1)),()),(()),(())))) none) (fe (.inr ((v1,(),()),(()),(()))))
def gJ (s:fx.D):Option (fx.D⊕bh.D lC):=me s.1.1 s.1.2.1 (fun s=>some (.inl s)) (fun e=>some (.inr e))
def p6:fx.D→Option (bh.D lC):=jB gJ
theorem HX {ρ:Type} (s:fx.D) (fn:fx.D→Option ρ) (fe:bh.D lC→Option ρ):me s.1.1 s.1.2.1 fn fe=(gJ s).bind (Sum.elim fn fe):=by
 simp only [gJ,me,am,ap,Option.bind_none,Option.bind_assoc,Option.bind_some,Sum.elim_inl,Sum.elim_inr]
abbrev BN:cU:=dh [] [0,3] fx lC p6
theorem FH (s:fx.D):ev Θ (aL HW) (aK []) pZ (fx.mk' s) (c6 [0,3] [0,2] fun x S=>some (x,S))=(gJ s).bind (Sum.elim (fun s'=>some (.nor,fx.mk' s')) fun e=>some (bh.e lC e)):=
 Eq.trans (by kernel_rfl:_=me s.1.1 s.1.2.1 (fun s'=>some (.nor,fx.mk' s')) (fun e=>some (bh.e lC e))) (HX s _ _)
theorem FI:b7 Tryz.prog pZ BN:=ba aM zJ af (by kernel_rfl) (dp (by kernel_rfl:_= []) ah) [] [0,3] [0,2] fx lC (by kernel_rfl) gJ FH p6 (f9 gJ) (aO gJ)
def ry {ρ:Type} (a0:List Int) (k:Bool×Unit→Option ρ):Option ρ:=
 (p6 ((a0,0,()),(()),(()))).bind fun e5=>Sum.elim (fun e5_=>k (e5_.1.2.1,())) (fun e5_=>k (((e5_.1.1.length:Int)==5),())) e5
def nl (a0:List Int):Option (Bool×Unit):=ry a0 some
theorem Me {ρ:Type} (a0:List Int) (k:Bool×Unit→Option ρ):ry a0 k=(nl a0).bind k:=by
 simp only [nl,ry,bR,Option.bind_assoc,Option.bind_some]
abbrev HY:bm:=bD [.ty (.ls (.i .i64))] [.b] fun x=>nl x.1
theorem Qm:aA Tryz.prog 121 HY:=
 al (Λ:=aK [(ce pZ,BN)]) (fn:=Tryz.f121) aM zJ af (by kernel_rfl) (aG (by kernel_rfl:_= [pZ]) (aN (q:=ce pZ) rfl FI fun _ _ _=>by kernel_rfl)) (by kernel_rfl) (fun x=>nl x.1)
  (fun x=>Eq.trans (by kernel_rfl:_=ry x.1 (fun y=>ret (aD [.b] y) fun v g=>some (v,g))) (Me x.1 _)) fun _ _ h=>h
abbrev BO:List (Nat×bm):= [(120,qS)]
theorem wl:ar Tryz.prog (aL BO):=ae rN <| ak _
noncomputable abbrev nm:Code:=cb (b8 Tryz.f224) 0
abbrev dU:ep:=⟨[(0, .cl (.ro (.i .i64))),(3, .cl (.int .i64))],[],[],0,32⟩
abbrev jb:List (X×ep):= [(.ret,⟨[(2, .cl (.bl))],[],[],0,32⟩),(.ext 0,⟨[(2, .cl (.dead))],[],[],0,32⟩)]
def jC {ρ:Type} (v1:List Int) (v2:Int) (fn: (((List Int)×Int×Unit)×(Unit)×(Unit))→Option ρ) (fe: ((Bool×Unit)×(Unit)×(Unit))⊕((Unit×Unit)×(Unit)×(Unit))→Option ρ):Option ρ:=
 br (decide (v2 < (v1.length:Int))) (aq (0≤v2) ((v1[v2.toNat]?).bind fun x3=>(eH x3 0 4).bind fun y4=>br (!y4.1) (fe (.inl ((false,()),(()),(())))) (br (decide (v2 > 0)) (aq (0≤(IntKind.wrap .i64 (v2 - 1))) ((v1[(IntKind.wrap .i64 (v2 - 1)).toNat]?).bind fun x5=>aq (0≤v2) ((v1[v2.toNat]?).bind fun x6=>br (decide (x5≥x6)) (fe (.inl ((false,()),(()),(())))) (fn ((v1,(IntKind.wrap .i64 (v2+1)),()),(()),(())))) none) none) (fn ((v1,(IntKind.wrap .i64 (v2+1)),()),(()),(()))))) none) (fe (.inr (((),()),(()),(()))))
def eI (s:dU.D):Option (dU.D⊕bh.D jb):=jC s.1.1 s.1.2.1 (fun s=>some (.inl s)) (fun e=>some (.inr e))
def nn:dU.D→Option (bh.D jb):=jB eI
theorem DG {ρ:Type} (s:dU.D) (fn:dU.D→Option ρ) (fe:bh.D jb→Option ρ):jC s.1.1 s.1.2.1 fn fe=(eI s).bind (Sum.elim fn fe):=by
 simp only [eI,jC,am,ap,Option.bind_none,Option.bind_assoc,Option.bind_some,Sum.elim_inl,Sum.elim_inr]
abbrev xy:cU:=dh [] [0,3] dU jb nn
theorem BP (s:dU.D):ev Θ (aL BO) (aK []) nm (dU.mk' s) (c6 [0,3] [2] fun x S=>some (x,S))=(eI s).bind (Sum.elim (fun s'=>some (.nor,dU.mk' s')) fun e=>some (bh.e jb e)):=
 Eq.trans (by kernel_rfl:_=jC s.1.1 s.1.2.1 (fun s'=>some (.nor,dU.mk' s')) (fun e=>some (bh.e jb e))) (DG s _ _)
theorem BQ:b7 Tryz.prog nm xy:=ba aM wl af (by kernel_rfl) (dp (by kernel_rfl:_= []) ah) [] [0,3] [2] dU jb (by kernel_rfl) eI BP nn (f9 eI) (aO eI)
def oD {ρ:Type} (a0:List Int) (k:Bool×Unit→Option ρ):Option ρ:=
 (nn ((a0,0,()),(()),(()))).bind fun e7=>Sum.elim (fun e7_=>k (e7_.1.1,())) (fun e7_=>k (true,())) e7
def iu (a0:List Int):Option (Bool×Unit):=oD a0 some
theorem HZ {ρ:Type} (a0:List Int) (k:Bool×Unit→Option ρ):oD a0 k=(iu a0).bind k:=by
 simp only [iu,oD,bR,Option.bind_assoc,Option.bind_some]
abbrev BR:bm:=bD [.ty (.ls (.i .i64))] [.b] fun x=>iu x.1
theorem Mf:aA Tryz.prog 224 BR:=
 al (Λ:=aK [(ce nm,xy)]) (fn:=Tryz.f224) aM wl af (by kernel_rfl) (aG (by kernel_rfl:_= [nm]) (aN (q:=ce nm) rfl BQ fun _ _ _=>by kernel_rfl)) (by kernel_rfl) (fun x=>iu x.1)
  (fun x=>Eq.trans (by kernel_rfl:_=oD x.1 (fun y=>ret (aD [.b] y) fun v g=>some (v,g))) (HZ x.1 _)) fun _ _ h=>h
abbrev E7:List (Nat×bm):= []
theorem xz:ar Tryz.prog (aL E7):=ak _
noncomputable abbrev oE:Code:=cb (b8 Tryz.f51) 0
abbrev eJ:ep:=⟨[(0, .cl (.ro (.i .i64))),(1, .cl (.int .i64)),(5, .cl (.int .i64))],[],[],0,18⟩
abbrev ki:List (X×ep):= [(.ret,⟨[(4, .cl (.bl))],[],[],0,18⟩),(.ext 0,⟨[(4, .cl (.dead))],[],[],0,18⟩)]
def kJ {ρ:Type} (v1:List Int) (v2:Int) (v3:Int) (fn: (((List Int)×Int×Int×Unit)×(Unit)×(Unit))→Option ρ) (fe: ((Bool×Unit)×(Unit)×(Unit))⊕((Unit×Unit)×(Unit)×(Unit))→Option ρ):Option ρ:=
 br (decide (v3 < (v1.length:Int))) (aq (0≤v3) ((v1[v3.toNat]?).bind fun x4=>br (x4==v2) (fe (.inl ((true,()),(()),(())))) (fn ((v1,v2,(IntKind.wrap .i64 (v3+1)),()),(()),(())))) none) (fe (.inr (((),()),(()),(()))))
def fq (s:eJ.D):Option (eJ.D⊕bh.D ki):=kJ s.1.1 s.1.2.1 s.1.2.2.1 (fun s=>some (.inl s)) (fun e=>some (.inr e))
def oF:eJ.D→Option (bh.D ki):=jB fq
theorem FJ {ρ:Type} (s:eJ.D) (fn:eJ.D→Option ρ) (fe:bh.D ki→Option ρ):kJ s.1.1 s.1.2.1 s.1.2.2.1 fn fe=(fq s).bind (Sum.elim fn fe):=by
 simp only [fq,kJ,am,ap,Option.bind_none,Option.bind_assoc,Option.bind_some,Sum.elim_inl,Sum.elim_inr]
abbrev zK:cU:=dh [] [0,1,5] eJ ki oF
theorem DH (s:eJ.D):ev Θ (aL E7) (aK []) oE (eJ.mk' s) (c6 [0,1,5] [4] fun x S=>some (x,S))=(fq s).bind (Sum.elim (fun s'=>some (.nor,eJ.mk' s')) fun e=>some (bh.e ki e)):=
 Eq.trans (by kernel_rfl:_=kJ s.1.1 s.1.2.1 s.1.2.2.1 (fun s'=>some (.nor,eJ.mk' s')) (fun e=>some (bh.e ki e))) (FJ s _ _)
theorem DI:b7 Tryz.prog oE zK:=ba aM xz af (by kernel_rfl) (dp (by kernel_rfl:_= []) ah) [] [0,1,5] [4] eJ ki (by kernel_rfl) fq DH oF (f9 fq) (aO fq)
def p7 {ρ:Type} (a0:List Int) (a1:Int) (k:Bool×Unit→Option ρ):Option ρ:=
 (oF ((a0,a1,0,()),(()),(()))).bind fun e5=>Sum.elim (fun e5_=>k (e5_.1.1,())) (fun e5_=>k (false,())) e5
def iE (a0:List Int) (a1:Int):Option (Bool×Unit):=p7 a0 a1 some
theorem JL {ρ:Type} (a0:List Int) (a1:Int) (k:Bool×Unit→Option ρ):p7 a0 a1 k=(iE a0 a1).bind k:=by
 simp only [iE,p7,bR,Option.bind_assoc,Option.bind_some]
abbrev tS:bm:=bD [.ty (.ls (.i .i64)), .ty (.i .i64)] [.b] fun x=>iE x.1 x.2.1
theorem xA:aA Tryz.prog 51 tS:=
 al (Λ:=aK [(ce oE,zK)]) (fn:=Tryz.f51) aM xz af (by kernel_rfl) (aG (by kernel_rfl:_= [oE]) (aN (q:=ce oE) rfl DI fun _ _ _=>by kernel_rfl)) (by kernel_rfl) (fun x=>iE x.1 x.2.1)
  (fun x=>Eq.trans (by kernel_rfl:_=p7 x.1 x.2.1 (fun y=>ret (aD [.b] y) fun v g=>some (v,g))) (JL x.1 x.2.1 _)) fun _ _ h=>h
abbrev Rq:List (Nat×bm):= []
theorem H0:ar Tryz.prog (aL Rq):=ak _
noncomputable abbrev uW:Code:=cb (b8 Tryz.f148) 0
abbrev kK:ep:=⟨[(0, .cl (.ro (.i .i64))),(1, .cl (.int .i64)),(5, .cl (.int .i64))],[],[],0,47⟩
abbrev qT:List (X×ep):= [(.ext 0,⟨[(0, .cl (.ro (.i .i64))),(1, .cl (.int .i64)),(5, .cl (.int .i64))],[],[],0,47⟩)]
def qU {ρ:Type} (v1:List Int) (v2:Int) (v3:Int) (fn: (((List Int)×Int×Int×Unit)×(Unit)×(Unit))→Option ρ) (fe: (((List Int)×Int×Int×Unit)×(Unit)×(Unit))→Option ρ):Option ρ:=
 br (decide (v3 < (v1.length:Int))) (aq (0≤v3) ((v1[v3.toNat]?).bind fun x4=>br (decide (x4 < v2)) (fn ((v1,v2,(IntKind.wrap .i64 (v3+1)),()),(()),(()))) (fe ((v1,v2,v3,()),(()),(())))) none) (fe ((v1,v2,v3,()),(()),(())))
def mf (s:kK.D):Option (kK.D⊕bh.D qT):=qU s.1.1 s.1.2.1 s.1.2.2.1 (fun s=>some (.inl s)) (fun e=>some (.inr e))
def yS:kK.D→Option (bh.D qT):=jB mf
theorem Ox {ρ:Type} (s:kK.D) (fn:kK.D→Option ρ) (fe:bh.D qT→Option ρ):qU s.1.1 s.1.2.1 s.1.2.2.1 fn fe=(mf s).bind (Sum.elim fn fe):=by
 simp only [mf,qU,am,ap,Option.bind_none,Option.bind_assoc,Option.bind_some,Sum.elim_inl,Sum.elim_inr]
abbrev KW:cU:=dh [] [0,1,5] kK qT yS
theorem Mg (s:kK.D):ev Θ (aL Rq) (aK []) uW (kK.mk' s) (c6 [0,1,5] [0,1,5] fun x S=>some (x,S))=(mf s).bind (Sum.elim (fun s'=>some (.nor,kK.mk' s')) fun e=>some (bh.e qT e)):=
 Eq.trans (by kernel_rfl:_=qU s.1.1 s.1.2.1 s.1.2.2.1 (fun s'=>some (.nor,kK.mk' s')) (fun e=>some (bh.e qT e))) (Ox s _ _)
theorem Mh:b7 Tryz.prog uW KW:=ba aM H0 af (by kernel_rfl) (dp (by kernel_rfl:_= []) ah) [] [0,1,5] [0,1,5] kK qT (by kernel_rfl) mf Mg yS (f9 mf) (aO mf)
def xB {ρ:Type} (a0:List Int) (a1:Int) (k: (List Int)×Unit→Option ρ):Option ρ:=
 (yS ((a0,a1,0,()),(()),(()))).bind fun e5=>br (decide (e5.1.2.2.1 < (e5.1.1.length:Int))) (aq (0≤e5.1.2.2.1) ((e5.1.1[e5.1.2.2.1.toNat]?).bind fun x6=>br (x6==e5.1.2.1) (aq ((([]:List Int)++e5.1.1).length*8≤2 ^ 40) (k ((([]:List Int)++e5.1.1),())) none) (aq (0≤(0:Int)∧(0:Int)≤e5.1.2.2.1∧e5.1.2.2.1≤(e5.1.1.length:Int)) (aq ((([]:List Int)++((e5.1.1.drop (0:Int).toNat).take (e5.1.2.2.1.toNat - (0:Int).toNat))).length*8≤2 ^ 40) (aq (((([]:List Int)++((e5.1.1.drop (0:Int).toNat).take (e5.1.2.2.1.toNat - (0:Int).toNat)))++([e5.1.2.1]:List Int)).length*8≤2 ^ 40) (aq (0≤e5.1.2.2.1∧e5.1.2.2.1≤(e5.1.1.length:Int)∧(e5.1.1.length:Int)≤(e5.1.1.length:Int)) (aq ((((([]:List Int)++((e5.1.1.drop (0:Int).toNat).take (e5.1.2.2.1.toNat - (0:Int).toNat)))++([e5.1.2.1]:List Int))++((e5.1.1.drop e5.1.2.2.1.toNat).take ((e5.1.1.length:Int).toNat - e5.1.2.2.1.toNat))).length*8≤2 ^ 40) (k ((((([]:List Int)++((e5.1.1.drop (0:Int).toNat).take (e5.1.2.2.1.toNat - (0:Int).toNat)))++([e5.1.2.1]:List Int))++((e5.1.1.drop e5.1.2.2.1.toNat).take ((e5.1.1.length:Int).toNat - e5.1.2.2.1.toNat))),())) none) none) none) none) none)) none) (aq (0≤(0:Int)∧(0:Int)≤e5.1.2.2.1∧e5.1.2.2.1≤(e5.1.1.length:Int)) (aq ((([]:List Int)++((e5.1.1.drop (0:Int).toNat).take (e5.1.2.2.1.toNat - (0:Int).toNat))).length*8≤2 ^ 40) (aq (((([]:List Int)++((e5.1.1.drop (0:Int).toNat).take (e5.1.2.2.1.toNat - (0:Int).toNat)))++([e5.1.2.1]:List Int)).length*8≤2 ^ 40) (aq (0≤e5.1.2.2.1∧e5.1.2.2.1≤(e5.1.1.length:Int)∧(e5.1.1.length:Int)≤(e5.1.1.length:Int)) (aq ((((([]:List Int)++((e5.1.1.drop (0:Int).toNat).take (e5.1.2.2.1.toNat - (0:Int).toNat)))++([e5.1.2.1]:List Int))++((e5.1.1.drop e5.1.2.2.1.toNat).take ((e5.1.1.length:Int).toNat - e5.1.2.2.1.toNat))).length*8≤2 ^ 40) (k ((((([]:List Int)++((e5.1.1.drop (0:Int).toNat).take (e5.1.2.2.1.toNat - (0:Int).toNat)))++([e5.1.2.1]:List Int))++((e5.1.1.drop e5.1.2.2.1.toNat).take ((e5.1.1.length:Int).toNat - e5.1.2.2.1.toNat))),())) none) none) none) none) none)
def vN (a0:List Int) (a1:Int):Option ((List Int)×Unit):=xB a0 a1 some
theorem Ss {ρ:Type} (a0:List Int) (a1:Int) (k: (List Int)×Unit→Option ρ):xB a0 a1 k=(vN a0 a1).bind k:=by
 simp only [vN,xB,am,ap,Option.bind_none,Option.bind_assoc,Option.bind_some]
abbrev Rr:bm:=bD [.ty (.ls (.i .i64)), .ty (.i .i64)] [.ls (.i .i64)] fun x=>vN x.1 x.2.1
theorem VX:aA Tryz.prog 148 Rr:=
 al (Λ:=aK [(ce uW,KW)]) (fn:=Tryz.f148) aM H0 af (by kernel_rfl) (aG (by kernel_rfl:_= [uW]) (aN (q:=ce uW) rfl Mh fun _ _ _=>by kernel_rfl)) (by kernel_rfl) (fun x=>vN x.1 x.2.1)
  (fun x=>Eq.trans (by kernel_rfl:_=xB x.1 x.2.1 (fun y=>ret (aD [.ls (.i .i64)] y) fun v g=>some (v,g))) (Ss x.1 x.2.1 _)) fun _ _ h=>h
abbrev wm:List (Nat×bm):= [(51,tS),(148,Rr)]
theorem sW:ar Tryz.prog (aL wm):=ae xA <| ae VX <| ak _
noncomputable abbrev jR:Code:=cb (b8 Tryz.f128) 0
abbrev cX:ep:=⟨[(0, .cl (.ro (.i .i64))),(1, .cl (.ro (.i .i64))),(5, .cl (.own 0 (.i .i64))),(6, .cl (.int .i64))],[],[.i .i64],0,27⟩
abbrev fy:List (X×ep):= [(.ext 0,⟨[(5, .cl (.own 0 (.i .i64)))],[],[.i .i64],0,27⟩)]
def gf {ρ:Type} (v1:List Int) (v2:List Int) (v3:List Int) (v4:Int) (fn: (((List Int)×(List Int)×Unit×Int×Unit)×(Unit)×((List Int)×Unit))→Option ρ) (fe: ((Unit×Unit)×(Unit)×((List Int)×Unit))→Option ρ):Option ρ:=
 br (decide (v4 < (v2.length:Int))) (aq (0≤v4) ((v2[v4.toNat]?).bind fun x5=>(iE v3 x5).bind fun y6=>br y6.1 (aq (0≤v4) ((v2[v4.toNat]?).bind fun x7=>(vN v1 x7).bind fun y8=>fn ((v2,v3,(),(IntKind.wrap .i64 (v4+1)),()),(()),(y8.1,()))) none) (fn ((v2,v3,(),(IntKind.wrap .i64 (v4+1)),()),(()),(v1,())))) none) (fe (((),()),(()),(v1,())))
def dq (s:cX.D):Option (cX.D⊕bh.D fy):=gf s.2.2.1 s.1.1 s.1.2.1 s.1.2.2.2.1 (fun s=>some (.inl s)) (fun e=>some (.inr e))
def mA:cX.D→Option (bh.D fy):=jB dq
theorem za {ρ:Type} (s:cX.D) (fn:cX.D→Option ρ) (fe:bh.D fy→Option ρ):gf s.2.2.1 s.1.1 s.1.2.1 s.1.2.2.2.1 fn fe=(dq s).bind (Sum.elim fn fe):=by
 simp only [dq,gf,am,ap,Option.bind_none,Option.bind_assoc,Option.bind_some,Sum.elim_inl,Sum.elim_inr]
abbrev tT:cU:=dh [] [0,1,5,6] cX fy mA
theorem xC (s:cX.D):ev Θ (aL wm) (aK []) jR (cX.mk' s) (c6 [0,1,5,6] [5] fun x S=>some (x,S))=(dq s).bind (Sum.elim (fun s'=>some (.nor,cX.mk' s')) fun e=>some (bh.e fy e)):=
 Eq.trans (by kernel_rfl:_=gf s.2.2.1 s.1.1 s.1.2.1 s.1.2.2.2.1 (fun s'=>some (.nor,cX.mk' s')) (fun e=>some (bh.e fy e))) (za s _ _)
theorem xD:b7 Tryz.prog jR tT:=ba aM sW af (by kernel_rfl) (dp (by kernel_rfl:_= []) ah) [] [0,1,5,6] [5] cX fy (by kernel_rfl) dq xC mA (f9 dq) (aO dq)
def kL {ρ:Type} (a0:List Int) (a1:List Int) (k: (List Int)×Unit→Option ρ):Option ρ:=
 (mA ((a0,a1,(),0,()),(()),(([]:List Int),()))).bind fun e9=>k (e9.2.2.1,())
def ib (a0:List Int) (a1:List Int):Option ((List Int)×Unit):=kL a0 a1 some
theorem BS {ρ:Type} (a0:List Int) (a1:List Int) (k: (List Int)×Unit→Option ρ):kL a0 a1 k=(ib a0 a1).bind k:=by
 simp only [ib,kL,Option.bind_assoc,Option.bind_some]
abbrev wn:bm:=bD [.ty (.ls (.i .i64)), .ty (.ls (.i .i64))] [.ls (.i .i64)] fun x=>ib x.1 x.2.1
theorem FK:aA Tryz.prog 128 wn:=
 al (Λ:=aK [(ce jR,tT)]) (fn:=Tryz.f128) aM sW af (by kernel_rfl) (aG (by kernel_rfl:_= [jR]) (aN (q:=ce jR) rfl xD fun _ _ _=>by kernel_rfl)) (by kernel_rfl) (fun x=>ib x.1 x.2.1)
  (fun x=>Eq.trans (by kernel_rfl:_=kL x.1 x.2.1 (fun y=>ret (aD [.ls (.i .i64)] y) fun v g=>some (v,g))) (BS x.1 x.2.1 _)) fun _ _ h=>h
abbrev FL:List (Nat×bm):= [(120,qS),(224,BR),(51,tS),(128,wn)]
theorem AE:ar Tryz.prog (aL FL):=ae rN <| ae Mf <| ae xA <| ae FK <| ak _
def kM {ρ:Type} (a0:ai) (k:Bool×Unit→Option ρ):Option ρ:=
 (eH a0.epoch 1 20).bind fun y1=>br y1.1 ((iu a0.replicas).bind fun y2=>br y2.1 ((iu a0.witnesses).bind fun y3=>br y3.1 ((iE a0.replicas a0.primary).bind fun y4=>br y4.1 ((ib a0.replicas a0.witnesses).bind fun y5=>k (((y5.1.length:Int)==0),())) (k (false,()))) (k (false,()))) (k (false,()))) (k (false,()))
def fS (a0:ai):Option (Bool×Unit):=kM a0 some
theorem BT {ρ:Type} (a0:ai) (k:Bool×Unit→Option ρ):kM a0 k=(fS a0).bind k:=by
 simp only [fS,kM,am,Option.bind_assoc,Option.bind_some]
abbrev rO:bm:=bD [.ty (.st .config)] [.b] fun x=>fS x.1
theorem wo:aA Tryz.prog 169 rO:=
 al (Λ:=aK []) (fn:=Tryz.f169) aM AE af (by kernel_rfl) (aG (by kernel_rfl:_= []) ah) (by kernel_rfl) (fun x=>fS x.1)
  (fun x=>Eq.trans (by kernel_rfl:_=kM x.1 (fun y=>ret (aD [.b] y) fun v g=>some (v,g))) (BT x.1 _)) fun _ _ h=>h
abbrev zL:List (Nat×bm):= [(169,rO),(120,qS)]
theorem uX:ar Tryz.prog (aL zL):=ae wo <| ae rN <| ak _
noncomputable abbrev lP:Code:=cb (b8 Tryz.f122) 0
abbrev dy:ep:=⟨[(1, .cl (.ptr 0 0)),(3, .cl (.int .i64))],[[.ro (.st .config), .int .i64]],[],0,35⟩
abbrev ic:List (X×ep):= [(.ret,⟨[(1, .cl (.ptr 0 0)),(2, .cl (.bl))],[[.ro (.st .config), .int .i64]],[],0,35⟩),(.ext 0,⟨[(1, .cl (.ptr 0 0)),(2, .cl (.dead))],[[.ro (.st .config), .int .i64]],[],0,35⟩)]
def iT {ρ:Type} (v1:Int) (v2:List ai) (v3:Int) (fn: ((Unit×Int×Unit)×(((List ai)×Int×Unit)×Unit)×(Unit))→Option ρ) (fe: ((Unit×Bool×Unit)×(((List ai)×Int×Unit)×Unit)×(Unit))⊕((Unit×Unit×Unit)×(((List ai)×Int×Unit)×Unit)×(Unit))→Option ρ):Option ρ:=
 br (decide (v1 < (v2.length:Int))) (aq (0≤v1) ((v2[v1.toNat]?).bind fun x4=>(fS x4).bind fun y5=>br (!y5.1) (fe (.inl (((),false,()),((v2,v3,()),()),(())))) (aq (0≤v1) ((v2[v1.toNat]?).bind fun x6=>br (!(x6.epoch==(IntKind.wrap .i64 (v1+1)))) (fe (.inl (((),false,()),((v2,v3,()),()),(())))) (fn (((),(IntKind.wrap .i64 (v1+1)),()),((v2,v3,()),()),(())))) none)) none) (fe (.inr (((),(),()),((v2,v3,()),()),(()))))
def eh (s:dy.D):Option (dy.D⊕bh.D ic):=iT s.1.2.1 s.2.1.1.1 s.2.1.1.2.1 (fun s=>some (.inl s)) (fun e=>some (.inr e))
def lQ:dy.D→Option (bh.D ic):=jB eh
theorem BU {ρ:Type} (s:dy.D) (fn:dy.D→Option ρ) (fe:bh.D ic→Option ρ):iT s.1.2.1 s.2.1.1.1 s.2.1.1.2.1 fn fe=(eh s).bind (Sum.elim fn fe):=by
 simp only [eh,iT,am,ap,Option.bind_none,Option.bind_assoc,Option.bind_some,Sum.elim_inl,Sum.elim_inr]
abbrev wq:cU:=dh [] [1,3] dy ic lQ
theorem AF (s:dy.D):ev Θ (aL zL) (aK []) lP (dy.mk' s) (c6 [1,3] [1,2] fun x S=>some (x,S))=(eh s).bind (Sum.elim (fun s'=>some (.nor,dy.mk' s')) fun e=>some (bh.e ic e)):=
 Eq.trans (by kernel_rfl:_=iT s.1.2.1 s.2.1.1.1 s.2.1.1.2.1 (fun s'=>some (.nor,dy.mk' s')) (fun e=>some (bh.e ic e))) (BU s _ _)
theorem AG:b7 Tryz.prog lP wq:=ba aM uX af (by kernel_rfl) (dp (by kernel_rfl:_= []) ah) [] [1,3] [1,2] dy ic (by kernel_rfl) eh AF lQ (f9 eh) (aO eh)
def np {ρ:Type} (a0:an) (k:Bool×Unit→Option ρ):Option ρ:=
 (lQ (((),0,()),((a0.configs,a0.activated,()),()),(()))).bind fun e7=>Sum.elim (fun e7_=>k (e7_.1.2.1,())) (fun e7_=>(eH e7_.2.1.1.2.1 0 (e7_.2.1.1.1.length:Int)).bind fun y8=>k (y8.1,())) e7
def gK (a0:an):Option (Bool×Unit):=np a0 some
theorem FM {ρ:Type} (a0:an) (k:Bool×Unit→Option ρ):np a0 k=(gK a0).bind k:=by
 simp only [gK,np,bR,Option.bind_assoc,Option.bind_some]
abbrev uv:bm:=bD [.ty (.st .masterLog)] [.b] fun x=>gK x.1
theorem zM:aA Tryz.prog 122 uv:=
 al (Λ:=aK [(ce lP,wq)]) (fn:=Tryz.f122) aM uX af (by kernel_rfl) (aG (by kernel_rfl:_= [lP]) (aN (q:=ce lP) rfl AG fun _ _ _=>by kernel_rfl)) (by kernel_rfl) (fun x=>gK x.1)
  (fun x=>Eq.trans (by kernel_rfl:_=np x.1 (fun y=>ret (aD [.b] y) fun v g=>some (v,g))) (FM x.1 _)) fun _ _ h=>h
abbrev Su:List (Nat×bm):= [(120,qS)]
theorem Mi:ar Tryz.prog (aL Su):=ae rN <| ak _
def sX {ρ:Type} (a0:jO) (k:Bool×Unit→Option ρ):Option ρ:=
 br ((a0.epoch==0)&&((a0.holder==0)&&((a0.ends==0)&&true))) (k (true,())) ((eH a0.epoch 1 20).bind fun y1=>br y1.1 ((eH a0.holder 0 4).bind fun y2=>br y2.1 ((eH a0.ends 1 1049).bind fun y3=>k (y3.1,())) (k (false,()))) (k (false,())))
def pA (a0:jO):Option (Bool×Unit):=sX a0 some
theorem Oy {ρ:Type} (a0:jO) (k:Bool×Unit→Option ρ):sX a0 k=(pA a0).bind k:=by
 simp only [pA,sX,am,Option.bind_assoc,Option.bind_some]
abbrev KX:bm:=bD [.ty (.st .lease)] [.b] fun x=>pA x.1
theorem Sv:aA Tryz.prog 123 KX:=
 al (Λ:=aK []) (fn:=Tryz.f123) aM Mi af (by kernel_rfl) (aG (by kernel_rfl:_= []) ah) (by kernel_rfl) (fun x=>pA x.1)
  (fun x=>Eq.trans (by kernel_rfl:_=sX x.1 (fun y=>ret (aD [.b] y) fun v g=>some (v,g))) (Oy x.1 _)) fun _ _ h=>h
abbrev E8:List (Nat×bm):= [(120,qS)]
theorem xE:ar Tryz.prog (aL E8):=ae rN <| ak _
noncomputable abbrev oG:Code:=cb (b8 Tryz.f124) 0
abbrev eK:ep:=⟨[(0, .cl (.ro (.st .place))),(3, .cl (.int .i64))],[],[],0,38⟩
abbrev kj:List (X×ep):= [(.ret,⟨[(0, .cl (.ro (.st .place))),(2, .cl (.bl))],[],[],0,38⟩),(.ext 0,⟨[(0, .cl (.ro (.st .place))),(2, .cl (.dead))],[],[],0,38⟩)]
def kN {ρ:Type} (v1:List aU) (v2:Int) (fn: (((List aU)×Int×Unit)×(Unit)×(Unit))→Option ρ) (fe: (((List aU)×Bool×Unit)×(Unit)×(Unit))⊕(((List aU)×Unit×Unit)×(Unit)×(Unit))→Option ρ):Option ρ:=
 br (decide (v2 < (v1.length:Int))) (aq (0≤v2) ((v1[v2.toNat]?).bind fun x3=>(eH x3.rack 0 9).bind fun y4=>br (!y4.1) (fe (.inl ((v1,false,()),(()),(())))) (aq (0≤v2) ((v1[v2.toNat]?).bind fun x5=>(eH x5.capacity 0 9).bind fun y6=>br (!y6.1) (fe (.inl ((v1,false,()),(()),(())))) (aq (0≤v2) ((v1[v2.toNat]?).bind fun x7=>(eH x7.load 0 99).bind fun y8=>br (!y8.1) (fe (.inl ((v1,false,()),(()),(())))) (fn ((v1,(IntKind.wrap .i64 (v2+1)),()),(()),(())))) none)) none)) none) (fe (.inr ((v1,(),()),(()),(()))))
def fr (s:eK.D):Option (eK.D⊕bh.D kj):=kN s.1.1 s.1.2.1 (fun s=>some (.inl s)) (fun e=>some (.inr e))
def oH:eK.D→Option (bh.D kj):=jB fr
theorem FN {ρ:Type} (s:eK.D) (fn:eK.D→Option ρ) (fe:bh.D kj→Option ρ):kN s.1.1 s.1.2.1 fn fe=(fr s).bind (Sum.elim fn fe):=by
 simp only [fr,kN,am,ap,Option.bind_none,Option.bind_assoc,Option.bind_some,Sum.elim_inl,Sum.elim_inr]
abbrev zN:cU:=dh [] [0,3] eK kj oH
theorem DJ (s:eK.D):ev Θ (aL E8) (aK []) oG (eK.mk' s) (c6 [0,3] [0,2] fun x S=>some (x,S))=(fr s).bind (Sum.elim (fun s'=>some (.nor,eK.mk' s')) fun e=>some (bh.e kj e)):=
 Eq.trans (by kernel_rfl:_=kN s.1.1 s.1.2.1 (fun s'=>some (.nor,eK.mk' s')) (fun e=>some (bh.e kj e))) (FN s _ _)
theorem DK:b7 Tryz.prog oG zN:=ba aM xE af (by kernel_rfl) (dp (by kernel_rfl:_= []) ah) [] [0,3] [0,2] eK kj (by kernel_rfl) fr DJ oH (f9 fr) (aO fr)
def p8 {ρ:Type} (a0:List aU) (k:Bool×Unit→Option ρ):Option ρ:=
 (oH ((a0,0,()),(()),(()))).bind fun e9=>Sum.elim (fun e9_=>k (e9_.1.2.1,())) (fun e9_=>k (((e9_.1.1.length:Int)==5),())) e9
def lq (a0:List aU):Option (Bool×Unit):=p8 a0 some
theorem JM {ρ:Type} (a0:List aU) (k:Bool×Unit→Option ρ):p8 a0 k=(lq a0).bind k:=by
 simp only [lq,p8,bR,Option.bind_assoc,Option.bind_some]
abbrev E9:bm:=bD [.ty (.ls (.st .place))] [.b] fun x=>lq x.1
theorem Oz:aA Tryz.prog 124 E9:=
 al (Λ:=aK [(ce oG,zN)]) (fn:=Tryz.f124) aM xE af (by kernel_rfl) (aG (by kernel_rfl:_= [oG]) (aN (q:=ce oG) rfl DK fun _ _ _=>by kernel_rfl)) (by kernel_rfl) (fun x=>lq x.1)
  (fun x=>Eq.trans (by kernel_rfl:_=p8 x.1 (fun y=>ret (aD [.b] y) fun v g=>some (v,g))) (JM x.1 _)) fun _ _ h=>h
abbrev OA:List (Nat×bm):= [(120,qS)]
theorem H1:ar Tryz.prog (aL OA):=ae rN <| ak _
def p9 {ρ:Type} (a0:Op) (k:Bool×Unit→Option ρ):Option ρ:=
 (eH a0.client 0 2).bind fun y1=>br (!y1.1) (k (false,())) ((eH a0.seq 1 99).bind fun y2=>br (!y2.1) (k (false,())) ((eH a0.object 0 2).bind fun y3=>br (!y3.1) (k (false,())) ((eH a0.value 0 9).bind fun y4=>br (!y4.1) (k (false,())) (br (a0.kind==1) (br (a0.old==0) (k (true,())) (br (a0.kind==2) ((eH a0.old 0 9).bind fun y5=>k (y5.1,())) (k (false,())))) (br (a0.kind==2) ((eH a0.old 0 9).bind fun y6=>k (y6.1,())) (k (false,())))))))
def nq (a0:Op):Option (Bool×Unit):=p9 a0 some
theorem JN {ρ:Type} (a0:Op) (k:Bool×Unit→Option ρ):p9 a0 k=(nq a0).bind k:=by
 simp only [nq,p9,am,Option.bind_assoc,Option.bind_some]
abbrev Fa:bm:=bD [.ty (.st .op)] [.b] fun x=>nq x.1
theorem OB:aA Tryz.prog 225 Fa:=
 al (Λ:=aK []) (fn:=Tryz.f225) aM H1 af (by kernel_rfl) (aG (by kernel_rfl:_= []) ah) (by kernel_rfl) (fun x=>nq x.1)
  (fun x=>Eq.trans (by kernel_rfl:_=p9 x.1 (fun y=>ret (aD [.b] y) fun v g=>some (v,g))) (JN x.1 _)) fun _ _ h=>h
abbrev Rs:List (Nat×bm):= [(120,qS),(225,Fa)]
theorem H2:ar Tryz.prog (aL Rs):=ae rN <| ae OB <| ak _
noncomputable abbrev uY:Code:=cb (b8 Tryz.f172) 0
abbrev kO:ep:=⟨[(0, .cl (.ro (.st .entry))),(3, .cl (.int .i64))],[],[],0,47⟩
abbrev qV:List (X×ep):= [(.ret,⟨[(0, .cl (.ro (.st .entry))),(2, .cl (.bl))],[],[],0,47⟩),(.ext 0,⟨[(0, .cl (.ro (.st .entry))),(2, .cl (.dead))],[],[],0,47⟩)]
def qW {ρ:Type} (v1:List az) (v2:Int) (fn: (((List az)×Int×Unit)×(Unit)×(Unit))→Option ρ) (fe: (((List az)×Bool×Unit)×(Unit)×(Unit))⊕(((List az)×Unit×Unit)×(Unit)×(Unit))→Option ρ):Option ρ:=
 br (decide (v2 < (v1.length:Int))) (aq (0≤v2) ((v1[v2.toNat]?).bind fun x3=>(eH x3.epoch 1 20).bind fun y4=>br (!y4.1) (fe (.inl ((v1,false,()),(()),(())))) (aq (0≤v2) ((v1[v2.toNat]?).bind fun x5=>(nq x5.op).bind fun y6=>br (!y6.1) (fe (.inl ((v1,false,()),(()),(())))) (br (decide (v2 > 0)) (aq (0≤(IntKind.wrap .i64 (v2 - 1))) ((v1[(IntKind.wrap .i64 (v2 - 1)).toNat]?).bind fun x7=>aq (0≤v2) ((v1[v2.toNat]?).bind fun x8=>br (decide (x7.epoch > x8.epoch)) (fe (.inl ((v1,false,()),(()),(())))) (fn ((v1,(IntKind.wrap .i64 (v2+1)),()),(()),(())))) none) none) (fn ((v1,(IntKind.wrap .i64 (v2+1)),()),(()),(()))))) none)) none) (fe (.inr ((v1,(),()),(()),(()))))
def mg (s:kO.D):Option (kO.D⊕bh.D qV):=qW s.1.1 s.1.2.1 (fun s=>some (.inl s)) (fun e=>some (.inr e))
def uZ:kO.D→Option (bh.D qV):=jB mg
theorem OC {ρ:Type} (s:kO.D) (fn:kO.D→Option ρ) (fe:bh.D qV→Option ρ):qW s.1.1 s.1.2.1 fn fe=(mg s).bind (Sum.elim fn fe):=by
 simp only [mg,qW,am,ap,Option.bind_none,Option.bind_assoc,Option.bind_some,Sum.elim_inl,Sum.elim_inr]
abbrev KY:cU:=dh [] [0,3] kO qV uZ
theorem Mj (s:kO.D):ev Θ (aL Rs) (aK []) uY (kO.mk' s) (c6 [0,3] [0,2] fun x S=>some (x,S))=(mg s).bind (Sum.elim (fun s'=>some (.nor,kO.mk' s')) fun e=>some (bh.e qV e)):=
 Eq.trans (by kernel_rfl:_=qW s.1.1 s.1.2.1 (fun s'=>some (.nor,kO.mk' s')) (fun e=>some (bh.e qV e))) (OC s _ _)
theorem Ml:b7 Tryz.prog uY KY:=ba aM H2 af (by kernel_rfl) (dp (by kernel_rfl:_= []) ah) [] [0,3] [0,2] kO qV (by kernel_rfl) mg Mj uZ (f9 mg) (aO mg)
def xF {ρ:Type} (a0:List az) (k:Bool×Unit→Option ρ):Option ρ:=
 (uZ ((a0,0,()),(()),(()))).bind fun e9=>Sum.elim (fun e9_=>k (e9_.1.2.1,())) (fun e9_=>k ((decide ((e9_.1.1.length:Int)≤16)),())) e9
def sw (a0:List az):Option (Bool×Unit):=xF a0 some
theorem Sw {ρ:Type} (a0:List az) (k:Bool×Unit→Option ρ):xF a0 k=(sw a0).bind k:=by
 simp only [sw,xF,bR,Option.bind_assoc,Option.bind_some]
abbrev Rt:bm:=bD [.ty (.ls (.st .entry))] [.b] fun x=>sw x.1
theorem VY:aA Tryz.prog 172 Rt:=
 al (Λ:=aK [(ce uY,KY)]) (fn:=Tryz.f172) aM H2 af (by kernel_rfl) (aG (by kernel_rfl:_= [uY]) (aN (q:=ce uY) rfl Ml fun _ _ _=>by kernel_rfl)) (by kernel_rfl) (fun x=>sw x.1)
  (fun x=>Eq.trans (by kernel_rfl:_=xF x.1 (fun y=>ret (aD [.b] y) fun v g=>some (v,g))) (Sw x.1 _)) fun _ _ h=>h
abbrev xG:List (Nat×bm):= []
theorem tU:ar Tryz.prog (aL xG):=ak _
noncomputable abbrev kP:Code:=cb (b8 Tryz.f159) 0
abbrev dk:ep:=⟨[(0, .cl (.ro (.i .i64))),(1, .cl (.ro (.i .i64))),(5, .cl (.int .i64))],[],[],0,26⟩
abbrev gg:List (X×ep):= [(.ret,⟨[(4, .cl (.bl))],[],[],0,26⟩),(.ext 0,⟨[(4, .cl (.dead))],[],[],0,26⟩)]
def hM {ρ:Type} (v1:List Int) (v2:List Int) (v3:Int) (fn: (((List Int)×(List Int)×Int×Unit)×(Unit)×(Unit))→Option ρ) (fe: ((Bool×Unit)×(Unit)×(Unit))⊕((Unit×Unit)×(Unit)×(Unit))→Option ρ):Option ρ:=
 br (decide (v3 < (v1.length:Int))) (aq (0≤v3) ((v1[v3.toNat]?).bind fun x4=>aq (0≤v3) ((v2[v3.toNat]?).bind fun x5=>br (!(x4==x5)) (fe (.inl ((false,()),(()),(())))) (fn ((v1,v2,(IntKind.wrap .i64 (v3+1)),()),(()),(())))) none) none) (fe (.inr (((),()),(()),(()))))
def dG (s:dk.D):Option (dk.D⊕bh.D gg):=hM s.1.1 s.1.2.1 s.1.2.2.1 (fun s=>some (.inl s)) (fun e=>some (.inr e))
def kQ:dk.D→Option (bh.D gg):=jB dG
theorem AH {ρ:Type} (s:dk.D) (fn:dk.D→Option ρ) (fe:bh.D gg→Option ρ):hM s.1.1 s.1.2.1 s.1.2.2.1 fn fe=(dG s).bind (Sum.elim fn fe):=by
 simp only [dG,hM,am,ap,Option.bind_none,Option.bind_assoc,Option.bind_some,Sum.elim_inl,Sum.elim_inr]
abbrev u1:cU:=dh [] [0,1,5] dk gg kQ
theorem zb (s:dk.D):ev Θ (aL xG) (aK []) kP (dk.mk' s) (c6 [0,1,5] [4] fun x S=>some (x,S))=(dG s).bind (Sum.elim (fun s'=>some (.nor,dk.mk' s')) fun e=>some (bh.e gg e)):=
 Eq.trans (by kernel_rfl:_=hM s.1.1 s.1.2.1 s.1.2.2.1 (fun s'=>some (.nor,dk.mk' s')) (fun e=>some (bh.e gg e))) (AH s _ _)
theorem zd:b7 Tryz.prog kP u1:=ba aM tU af (by kernel_rfl) (dp (by kernel_rfl:_= []) ah) [] [0,1,5] [4] dk gg (by kernel_rfl) dG zb kQ (f9 dG) (aO dG)
def lR {ρ:Type} (a0:List Int) (a1:List Int) (k:Bool×Unit→Option ρ):Option ρ:=
 br (!((a0.length:Int)==(a1.length:Int))) (k (false,())) ((kQ ((a0,a1,0,()),(()),(()))).bind fun e6=>Sum.elim (fun e6_=>k (e6_.1.1,())) (fun e6_=>k (true,())) e6)
def gR (a0:List Int) (a1:List Int):Option (Bool×Unit):=lR a0 a1 some
theorem DL {ρ:Type} (a0:List Int) (a1:List Int) (k:Bool×Unit→Option ρ):lR a0 a1 k=(gR a0 a1).bind k:=by
 simp only [gR,lR,am,bR,Option.bind_assoc,Option.bind_some]
abbrev xH:bm:=bD [.ty (.ls (.i .i64)), .ty (.ls (.i .i64))] [.b] fun x=>gR x.1 x.2.1
theorem H3:aA Tryz.prog 159 xH:=
 al (Λ:=aK [(ce kP,u1)]) (fn:=Tryz.f159) aM tU af (by kernel_rfl) (aG (by kernel_rfl:_= [kP]) (aN (q:=ce kP) rfl zd fun _ _ _=>by kernel_rfl)) (by kernel_rfl) (fun x=>gR x.1 x.2.1)
  (fun x=>Eq.trans (by kernel_rfl:_=lR x.1 x.2.1 (fun y=>ret (aD [.b] y) fun v g=>some (v,g))) (DL x.1 x.2.1 _)) fun _ _ h=>h
abbrev H4:List (Nat×bm):= [(159,xH)]
theorem BV:ar Tryz.prog (aL H4):=ae H3 <| ak _
def lS {ρ:Type} (a0:ai) (a1:ai) (k:Bool×Unit→Option ρ):Option ρ:=
 br (a0.epoch==a1.epoch) (br (a0.primary==a1.primary) ((gR a0.replicas a1.replicas).bind fun y1=>br y1.1 ((gR a0.witnesses a1.witnesses).bind fun y2=>k (y2.1,())) (k (false,()))) (k (false,()))) (k (false,()))
def fA (a0:ai) (a1:ai):Option (Bool×Unit):=lS a0 a1 some
theorem DM {ρ:Type} (a0:ai) (a1:ai) (k:Bool×Unit→Option ρ):lS a0 a1 k=(fA a0 a1).bind k:=by
 simp only [fA,lS,am,Option.bind_assoc,Option.bind_some]
abbrev qa:bm:=bD [.ty (.st .config), .ty (.st .config)] [.b] fun x=>fA x.1 x.2.1
theorem sY:aA Tryz.prog 90 qa:=
 al (Λ:=aK []) (fn:=Tryz.f90) aM BV af (by kernel_rfl) (aG (by kernel_rfl:_= []) ah) (by kernel_rfl) (fun x=>fA x.1 x.2.1)
  (fun x=>Eq.trans (by kernel_rfl:_=lS x.1 x.2.1 (fun y=>ret (aD [.b] y) fun v g=>some (v,g))) (DM x.1 x.2.1 _)) fun _ _ h=>h
abbrev Sx:List (Nat×bm):= [(90,qa)]
theorem Mm:ar Tryz.prog (aL Sx):=ae sY <| ak _
def sZ {ρ:Type} (a0:ai) (k:Bool×Unit→Option ρ):Option ρ:=
 (fA a0 (⟨0,0,([]:List Int),([]:List Int)⟩:ai)).bind fun y1=>k (y1.1,())
def n7 (a0:ai):Option (Bool×Unit):=sZ a0 some
theorem OD {ρ:Type} (a0:ai) (k:Bool×Unit→Option ρ):sZ a0 k=(n7 a0).bind k:=by
 simp only [n7,sZ,Option.bind_assoc,Option.bind_some]
abbrev yT:bm:=bD [.ty (.st .config)] [.b] fun x=>n7 x.1
theorem DN:aA Tryz.prog 89 yT:=
 al (Λ:=aK []) (fn:=Tryz.f89) aM Mm af (by kernel_rfl) (aG (by kernel_rfl:_= []) ah) (by kernel_rfl) (fun x=>n7 x.1)
  (fun x=>Eq.trans (by kernel_rfl:_=sZ x.1 (fun y=>ret (aD [.b] y) fun v g=>some (v,g))) (OD x.1 _)) fun _ _ h=>h
abbrev Sy:List (Nat×bm):= []
theorem Mn:ar Tryz.prog (aL Sy):=ak _
def s3 {ρ:Type} (a0:List az) (k:Int×Unit→Option ρ):Option ρ:=
 br ((a0.length:Int)==0) (k (0,())) (aq (0≤(IntKind.wrap .i64 ((a0.length:Int) - 1))) ((a0[(IntKind.wrap .i64 ((a0.length:Int) - 1)).toNat]?).bind fun x1=>k (x1.epoch,())) none)
def pB (a0:List az):Option (Int×Unit):=s3 a0 some
theorem OE {ρ:Type} (a0:List az) (k:Int×Unit→Option ρ):s3 a0 k=(pB a0).bind k:=by
 simp only [pB,s3,am,ap,Option.bind_none,Option.bind_assoc,Option.bind_some]
abbrev DP:bm:=bD [.ty (.ls (.st .entry))] [.i .i64] fun x=>pB x.1
theorem KZ:aA Tryz.prog 126 DP:=
 al (Λ:=aK []) (fn:=Tryz.f126) aM Mn af (by kernel_rfl) (aG (by kernel_rfl:_= []) ah) (by kernel_rfl) (fun x=>pB x.1)
  (fun x=>Eq.trans (by kernel_rfl:_=s3 x.1 (fun y=>ret (aD [.i .i64] y) fun v g=>some (v,g))) (OE x.1 _)) fun _ _ h=>h
abbrev Uy:List (Nat×bm):= [(169,rO),(51,tS)]
theorem OF:ar Tryz.prog (aL Uy):=ae wo <| ae xA <| ak _
def u2 {ρ:Type} (a0:ai) (a1:Int) (k:Int×Unit→Option ρ):Option ρ:=
 (fS a0).bind fun y1=>br (!y1.1) (k (0,())) (br (a1==a0.primary) (k (1,())) ((iE a0.replicas a1).bind fun y2=>br y2.1 (k (2,())) ((iE a0.witnesses a1).bind fun y3=>br y3.1 (k (3,())) (k (0,())))))
def s4 (a0:ai) (a1:Int):Option (Int×Unit):=u2 a0 a1 some
theorem Qn {ρ:Type} (a0:ai) (a1:Int) (k:Int×Unit→Option ρ):u2 a0 a1 k=(s4 a0 a1).bind k:=by
 simp only [s4,u2,am,Option.bind_assoc,Option.bind_some]
abbrev OG:bm:=bD [.ty (.st .config), .ty (.i .i64)] [.i .i64] fun x=>s4 x.1 x.2.1
theorem Uz:aA Tryz.prog 171 OG:=
 al (Λ:=aK []) (fn:=Tryz.f171) aM OF af (by kernel_rfl) (aG (by kernel_rfl:_= []) ah) (by kernel_rfl) (fun x=>s4 x.1 x.2.1)
  (fun x=>Eq.trans (by kernel_rfl:_=u2 x.1 x.2.1 (fun y=>ret (aD [.i .i64] y) fun v g=>some (v,g))) (Qn x.1 x.2.1 _)) fun _ _ h=>h
abbrev FO:List (Nat×bm):= [(120,qS),(172,Rt),(89,yT),(126,DP),(171,OG)]
theorem AI:ar Tryz.prog (aL FO):=ae rN <| ae VY <| ae DN <| ae KZ <| ae Uz <| ak _
def iU {ρ:Type} (a0:aj) (a1:Int) (k:Bool×Unit→Option ρ):Option ρ:=
 (eH a0.version 1 2).bind fun y1=>br (!y1.1) (k (false,())) ((eH a0.epoch 0 20).bind fun y2=>br (!y2.1) (k (false,())) ((sw a0.log).bind fun y3=>br (!y3.1) (k (false,())) ((sw a0.learned).bind fun y4=>br (!y4.1) (k (false,())) ((eH a0.first 0 16).bind fun y5=>br (!y5.1) (k (false,())) ((eH (IntKind.wrap .i64 (a0.first+(a0.log.length:Int))) 0 16).bind fun y6=>br (!y6.1) (k (false,())) ((eH a0.commit 0 (IntKind.wrap .i64 (a0.first+(a0.log.length:Int)))).bind fun y7=>br (!y7.1) (k (false,())) ((n7 a0.config).bind fun y8=>br y8.1 (br (a0.first==0) (br ((a0.log.length:Int)==0) (k ((a0.commit==0),())) (k (false,()))) (k (false,()))) (br (!a0.intact) (k (false,())) (br (decide (a0.epoch < a0.config.epoch)) (k (false,())) ((pB a0.log).bind fun y9=>br (decide (y9.1 > a0.config.epoch)) (k (false,())) ((s4 a0.config a1).bind fun y10=>br (y10.1==0) (k (false,())) (br (y10.1==3) (br (decide ((a0.log.length:Int)≤3)) (br ((a0.log.length:Int)==3) (k (true,())) (k ((a0.first==0),()))) (k (false,()))) (k ((a0.first==0),()))))))))))))))
def dz (a0:aj) (a1:Int):Option (Bool×Unit):=iU a0 a1 some
theorem BW {ρ:Type} (a0:aj) (a1:Int) (k:Bool×Unit→Option ρ):iU a0 a1 k=(dz a0 a1).bind k:=by
 simp only [dz,iU,am,Option.bind_assoc,Option.bind_some]
abbrev wr:bm:=bD [.ty (.st .server), .ty (.i .i64)] [.b] fun x=>dz x.1 x.2.1
theorem FP:aA Tryz.prog 125 wr:=
 al (Λ:=aK []) (fn:=Tryz.f125) aM AI af (by kernel_rfl) (aG (by kernel_rfl:_= []) ah) (by kernel_rfl) (fun x=>dz x.1 x.2.1)
  (fun x=>Eq.trans (by kernel_rfl:_=iU x.1 x.2.1 (fun y=>ret (aD [.b] y) fun v g=>some (v,g))) (BW x.1 x.2.1 _)) fun _ _ h=>h
abbrev Qo:List (Nat×bm):= [(122,uv),(120,qS),(170,BJ)]
theorem JO:ar Tryz.prog (aL Qo):=ae zM <| ae rN <| ae HQ <| ak _
def rz {ρ:Type} (a0:an) (a1:Int) (k:ai×Bool×Unit→Option ρ):Option ρ:=
 (gK a0).bind fun y1=>br (!y1.1) (k ((⟨0,0,([]:List Int),([]:List Int)⟩:ai),false,())) ((eH a1 1 (a0.configs.length:Int)).bind fun y2=>br (!y2.1) (k ((⟨0,0,([]:List Int),([]:List Int)⟩:ai),false,())) (aq (0≤(IntKind.wrap .i64 (a1 - 1))) ((a0.configs[(IntKind.wrap .i64 (a1 - 1)).toNat]?).bind fun x3=>(ni x3).bind fun y4=>k (y4.1,true,())) none))
def pc (a0:an) (a1:Int):Option (ai×Bool×Unit):=rz a0 a1 some
theorem Mo {ρ:Type} (a0:an) (a1:Int) (k:ai×Bool×Unit→Option ρ):rz a0 a1 k=(pc a0 a1).bind k:=by
 simp only [pc,rz,am,ap,Option.bind_none,Option.bind_assoc,Option.bind_some]
abbrev H5:bm:=bD [.ty (.st .masterLog), .ty (.i .i64)] [.st .config, .b] fun x=>pc x.1 x.2.1
theorem Qp:aA Tryz.prog 127 H5:=
 al (Λ:=aK []) (fn:=Tryz.f127) aM JO af (by kernel_rfl) (aG (by kernel_rfl:_= []) ah) (by kernel_rfl) (fun x=>pc x.1 x.2.1)
  (fun x=>Eq.trans (by kernel_rfl:_=rz x.1 x.2.1 (fun y=>ret (aD [.st .config, .b] y) fun v g=>some (v,g))) (Mo x.1 x.2.1 _)) fun _ _ h=>h
abbrev u3:List (Nat×bm):= [(120,qS),(121,HY),(122,uv),(123,KX),(124,E9),(125,wr),(126,DP),(127,H5),(89,yT),(90,qa)]
theorem rY:ar Tryz.prog (aL u3):=ae rN <| ae Qm <| ae zM <| ae Sv <| ae Oz <| ae FP <| ae KZ <| ae Qp <| ae DN <| ae sY <| ak _
noncomputable abbrev jc:Code:=cb (b8 Tryz.f46) 0
abbrev cI:ep:=⟨[(1, .cl (.ptr 0 0)),(3, .cl (.int .i64))],[[.int .i64, .ro (.st .server), .ro (.i .i64), .ro (.st .config), .int .i64, .int .i64, .int .i64, .int .i64, .int .i64, .ro (.st .place)]],[],0,123⟩
abbrev fa:List (X×ep):= [(.ret,⟨[(2, .cl (.bl))],[],[],0,123⟩),(.ext 0,⟨[(2, .cl (.dead))],[],[],0,123⟩)]
def dj {ρ:Type} (v7:Int) (v8:Int) (v9:List aj) (v10:List Int) (v11:List ai) (v12:Int) (v13:Int) (v14:Int) (v15:Int) (v16:Int) (v17:List aU) (fn: ((Unit×Int×Unit)×((Int×(List aj)×(List Int)×(List ai)×Int×Int×Int×Int×Int×(List aU)×Unit)×Unit)×(Unit))→Option ρ) (fe: ((Bool×Unit)×(Unit)×(Unit))⊕((Unit×Unit)×(Unit)×(Unit))→Option ρ):Option ρ:=
 br (decide (v7 < (v9.length:Int))) (aq (0≤v7) ((v9[v7.toNat]?).bind fun x18=>(dz x18 v7).bind fun y19=>br (!y19.1) (fe (.inl ((false,()),(()),(())))) (br (decide (x18.epoch > (v11.length:Int))) (fe (.inl ((false,()),(()),(())))) ((pB x18.learned).bind fun y20=>br (decide (y20.1 > v12)) (fe (.inl ((false,()),(()),(())))) ((pc (⟨v11,v12⟩:an) x18.config.epoch).bind fun y21=>(n7 x18.config).bind fun y22=>br (!y22.1) (br (!y21.2.1) (fe (.inl ((false,()),(()),(())))) ((fA y21.1 x18.config).bind fun y23=>br (!y23.1) (fe (.inl ((false,()),(()),(())))) (br (decide (x18.config.epoch > v12)) (fe (.inl ((false,()),(()),(())))) (fn (((),(IntKind.wrap .i64 (v7+1)),()),((v8,v9,v10,v11,v12,v13,v14,v15,v16,v17,()),()),(())))))) (fn (((),(IntKind.wrap .i64 (v7+1)),()),((v8,v9,v10,v11,v12,v13,v14,v15,v16,v17,()),()),(()))))))) none) (fe (.inr (((),()),(()),(()))))
def bn (s:cI.D):Option (cI.D⊕bh.D fa):=dj s.1.2.1 s.2.1.1.1 s.2.1.1.2.1 s.2.1.1.2.2.1 s.2.1.1.2.2.2.1 s.2.1.1.2.2.2.2.1 s.2.1.1.2.2.2.2.2.1 s.2.1.1.2.2.2.2.2.2.1 s.2.1.1.2.2.2.2.2.2.2.1 s.2.1.1.2.2.2.2.2.2.2.2.1 s.2.1.1.2.2.2.2.2.2.2.2.2.1 (fun s=>some (.inl s)) (fun e=>some (.inr e))
def gi:cI.D→Option (bh.D fa):=jB bn
theorem xI {ρ:Type} (s:cI.D) (fn:cI.D→Option ρ) (fe:bh.D fa→Option ρ):dj s.1.2.1 s.2.1.1.1 s.2.1.1.2.1 s.2.1.1.2.2.1 s.2.1.1.2.2.2.1 s.2.1.1.2.2.2.2.1 s.2.1.1.2.2.2.2.2.1 s.2.1.1.2.2.2.2.2.2.1 s.2.1.1.2.2.2.2.2.2.2.1 s.2.1.1.2.2.2.2.2.2.2.2.1 s.2.1.1.2.2.2.2.2.2.2.2.2.1 fn fe=(bn s).bind (Sum.elim fn fe):=by
 simp only [bn,dj,am,ap,Option.bind_none,Option.bind_assoc,Option.bind_some,Sum.elim_inl,Sum.elim_inr]
abbrev s5:cU:=dh [] [1,3] cI fa gi
theorem wR (s:cI.D):ev Θ (aL u3) (aK []) jc (cI.mk' s) (c6 [1,3] [2] fun x S=>some (x,S))=(bn s).bind (Sum.elim (fun s'=>some (.nor,cI.mk' s')) fun e=>some (bh.e fa e)):=
 Eq.trans (by kernel_rfl:_=dj s.1.2.1 s.2.1.1.1 s.2.1.1.2.1 s.2.1.1.2.2.1 s.2.1.1.2.2.2.1 s.2.1.1.2.2.2.2.1 s.2.1.1.2.2.2.2.2.1 s.2.1.1.2.2.2.2.2.2.1 s.2.1.1.2.2.2.2.2.2.2.1 s.2.1.1.2.2.2.2.2.2.2.2.1 s.2.1.1.2.2.2.2.2.2.2.2.2.1 (fun s'=>some (.nor,cI.mk' s')) (fun e=>some (bh.e fa e))) (xI s _ _)
theorem wT:b7 Tryz.prog jc s5:=ba aM rY af (by kernel_rfl) (dp (by kernel_rfl:_= []) ah) [] [1,3] [2] cI fa (by kernel_rfl) bn wR gi (f9 bn) (aO bn)
def hO {ρ:Type} (a0:ao) (k:Bool×Unit→Option ρ):Option ρ:=
 (eH a0.now 0 999).bind fun y1=>br (!y1.1) (k (false,())) (br (!((a0.servers.length:Int)==5)) (k (false,())) ((nl a0.sides).bind fun y2=>br (!y2.1) (k (false,())) ((gK a0.master).bind fun y3=>br (!y3.1) (k (false,())) ((eH a0.masterUp 0 3).bind fun y4=>br (!y4.1) (k (false,())) ((pA a0.lease).bind fun y5=>br (!y5.1) (k (false,())) ((lq a0.places).bind fun y6=>br (!y6.1) (k (false,())) (br (decide (a0.lease.epoch > a0.master.activated)) (k (false,())) ((gi (((),0,()),((a0.now,a0.servers,a0.sides,a0.master.configs,a0.master.activated,a0.masterUp,a0.lease.epoch,a0.lease.holder,a0.lease.ends,a0.places,()),()),(()))).bind fun e24=>Sum.elim (fun e24_=>k (e24_.1.1,())) (fun e24_=>k (true,())) e24))))))))
def dH (a0:ao):Option (Bool×Unit):=hO a0 some
theorem AJ {ρ:Type} (a0:ao) (k:Bool×Unit→Option ρ):hO a0 k=(dH a0).bind k:=by
 simp only [dH,hO,am,bR,Option.bind_assoc,Option.bind_some]
abbrev u4:bm:=bD [.ty (.st .cluster)] [.b] fun x=>dH x.1
theorem DQ:aA Tryz.prog 46 u4:=
 al (Λ:=aK [(ce jc,s5)]) (fn:=Tryz.f46) aM rY af (by kernel_rfl) (aG (by kernel_rfl:_= [jc]) (aN (q:=ce jc) rfl wT fun _ _ _=>by kernel_rfl)) (by kernel_rfl) (fun x=>dH x.1)
  (fun x=>Eq.trans (by kernel_rfl:_=hO x.1 (fun y=>ret (aD [.b] y) fun v g=>some (v,g))) (AJ x.1 _)) fun _ _ h=>h
abbrev Sz:List (Nat×bm):= [(46,u4),(120,qS)]
theorem Mp:ar Tryz.prog (aL Sz):=ae DQ <| ae rN <| ak _
def s6 {ρ:Type} (a0:ao) (a1:Int) (k:Bool×Unit→Option ρ):Option ρ:=
 (dH a0).bind fun y1=>br y1.1 ((eH a1 0 4).bind fun y2=>k (y2.1,())) (k (false,()))
def qX (a0:ao) (a1:Int):Option (Bool×Unit):=s6 a0 a1 some
theorem OH {ρ:Type} (a0:ao) (a1:Int) (k:Bool×Unit→Option ρ):s6 a0 a1 k=(qX a0 a1).bind k:=by
 simp only [qX,s6,am,Option.bind_assoc,Option.bind_some]
abbrev K0:bm:=bD [.ty (.st .cluster), .ty (.i .i64)] [.b] fun x=>qX x.1 x.2.1
theorem SA:aA Tryz.prog 83 K0:=
 al (Λ:=aK []) (fn:=Tryz.f83) aM Mp af (by kernel_rfl) (aG (by kernel_rfl:_= []) ah) (by kernel_rfl) (fun x=>qX x.1 x.2.1)
  (fun x=>Eq.trans (by kernel_rfl:_=s6 x.1 x.2.1 (fun y=>ret (aD [.b] y) fun v g=>some (v,g))) (OH x.1 x.2.1 _)) fun _ _ h=>h
abbrev JP:List (Nat×bm):= []
theorem DR:ar Tryz.prog (aL JP):=ak _
def kR {ρ:Type} (a0:Op) (k:Bool×Unit→Option ρ):Option ρ:=
 k ((a0.kind==2),())
def kk (a0:Op):Option (Bool×Unit):=kR a0 some
theorem FQ {ρ:Type} (a0:Op) (k:Bool×Unit→Option ρ):kR a0 k=(kk a0).bind k:=by
 simp only [kk,kR,Option.bind_some]
abbrev zO:bm:=bD [.ty (.st .op)] [.b] fun x=>kk x.1
theorem JQ:aA Tryz.prog 218 zO:=
 al (Λ:=aK []) (fn:=Tryz.f218) aM DR af (by kernel_rfl) (aG (by kernel_rfl:_= []) ah) (by kernel_rfl) (fun x=>kk x.1)
  (fun x=>Eq.trans (by kernel_rfl:_=kR x.1 (fun y=>ret (aD [.b] y) fun v g=>some (v,g))) (FQ x.1 _)) fun _ _ h=>h
abbrev xJ:List (Nat×bm):= [(218,zO)]
theorem tV:ar Tryz.prog (aL xJ):=ae JQ <| ak _
noncomputable abbrev kT:Code:=cb (b8 Tryz.f158) 0
abbrev dl:ep:=⟨[(0, .cl (.ro (.st .entry))),(3, .cl (.int .i64))],[],[],0,16⟩
abbrev gk:List (X×ep):= [(.ret,⟨[(2, .cl (.bl))],[],[],0,16⟩),(.ext 0,⟨[(2, .cl (.dead))],[],[],0,16⟩)]
def ez {ρ:Type} (v1:List az) (v2:Int) (fn: (((List az)×Int×Unit)×(Unit)×(Unit))→Option ρ) (fe: ((Bool×Unit)×(Unit)×(Unit))⊕((Unit×Unit)×(Unit)×(Unit))→Option ρ):Option ρ:=
 br (decide (v2 < (v1.length:Int))) (aq (0≤v2) ((v1[v2.toNat]?).bind fun x3=>(kk x3.op).bind fun y4=>br y4.1 (fe (.inl ((true,()),(()),(())))) (fn ((v1,(IntKind.wrap .i64 (v2+1)),()),(()),(())))) none) (fe (.inr (((),()),(()),(()))))
def cF (s:dl.D):Option (dl.D⊕bh.D gk):=ez s.1.1 s.1.2.1 (fun s=>some (.inl s)) (fun e=>some (.inr e))
def gl:dl.D→Option (bh.D gk):=jB cF
theorem AK {ρ:Type} (s:dl.D) (fn:dl.D→Option ρ) (fe:bh.D gk→Option ρ):ez s.1.1 s.1.2.1 fn fe=(cF s).bind (Sum.elim fn fe):=by
 simp only [cF,ez,am,ap,Option.bind_none,Option.bind_assoc,Option.bind_some,Sum.elim_inl,Sum.elim_inr]
abbrev u5:cU:=dh [] [0,3] dl gk gl
theorem zf (s:dl.D):ev Θ (aL xJ) (aK []) kT (dl.mk' s) (c6 [0,3] [2] fun x S=>some (x,S))=(cF s).bind (Sum.elim (fun s'=>some (.nor,dl.mk' s')) fun e=>some (bh.e gk e)):=
 Eq.trans (by kernel_rfl:_=ez s.1.1 s.1.2.1 (fun s'=>some (.nor,dl.mk' s')) (fun e=>some (bh.e gk e))) (AK s _ _)
theorem zg:b7 Tryz.prog kT u5:=ba aM tV af (by kernel_rfl) (dp (by kernel_rfl:_= []) ah) [] [0,3] [2] dl gk (by kernel_rfl) cF zf gl (f9 cF) (aO cF)
def jD {ρ:Type} (a0:List az) (k:Bool×Unit→Option ρ):Option ρ:=
 (gl ((a0,0,()),(()),(()))).bind fun e5=>Sum.elim (fun e5_=>k (e5_.1.1,())) (fun e5_=>k (false,())) e5
def jd (a0:List az):Option (Bool×Unit):=jD a0 some
theorem DS {ρ:Type} (a0:List az) (k:Bool×Unit→Option ρ):jD a0 k=(jd a0).bind k:=by
 simp only [jd,jD,bR,Option.bind_assoc,Option.bind_some]
abbrev xK:bm:=bD [.ty (.ls (.st .entry))] [.b] fun x=>jd x.1
theorem H6:aA Tryz.prog 158 xK:=
 al (Λ:=aK [(ce kT,u5)]) (fn:=Tryz.f158) aM tV af (by kernel_rfl) (aG (by kernel_rfl:_= [kT]) (aN (q:=ce kT) rfl zg fun _ _ _=>by kernel_rfl)) (by kernel_rfl) (fun x=>jd x.1)
  (fun x=>Eq.trans (by kernel_rfl:_=jD x.1 (fun y=>ret (aD [.b] y) fun v g=>some (v,g))) (DS x.1 _)) fun _ _ h=>h
abbrev H7:List (Nat×bm):= [(158,xK)]
theorem BX:ar Tryz.prog (aL H7):=ae H6 <| ak _
def jE {ρ:Type} (a0:List az) (k:Bool×Unit→Option ρ):Option ρ:=
 (jd a0).bind fun y1=>k (y1.1,())
def dV (a0:List az):Option (Bool×Unit):=jE a0 some
theorem DT {ρ:Type} (a0:List az) (k:Bool×Unit→Option ρ):jE a0 k=(dV a0).bind k:=by
 simp only [dV,jE,Option.bind_assoc,Option.bind_some]
abbrev xL:bm:=bD [.ty (.ls (.st .entry))] [.b] fun x=>dV x.1
theorem H8:aA Tryz.prog 88 xL:=
 al (Λ:=aK []) (fn:=Tryz.f88) aM BX af (by kernel_rfl) (aG (by kernel_rfl:_= []) ah) (by kernel_rfl) (fun x=>dV x.1)
  (fun x=>Eq.trans (by kernel_rfl:_=jE x.1 (fun y=>ret (aD [.b] y) fun v g=>some (v,g))) (DT x.1 _)) fun _ _ h=>h
abbrev tW:List (Nat×bm):= [(82,KV),(83,K0),(88,xL),(89,yT),(90,qa)]
theorem rA:ar Tryz.prog (aL tW):=ae Sq <| ae SA <| ae H8 <| ae DN <| ae sY <| ak _
noncomputable abbrev gT:Code:=cb (b8 Tryz.f31) 0
abbrev ch:ep:=⟨[(1, .cl (.int .i64)),(2, .cl (.ptr 0 0)),(4, .cl (.ptr 1 0)),(6, .cl (.ptr 2 0)),(7, .cl (.ptr 3 0)),(8, .cl (.int .i64))],[[.int .i64, .ro (.st .server), .ro (.i .i64), .ro (.st .config), .int .i64, .int .i64, .int .i64, .int .i64, .int .i64, .ro (.st .place)],[.int .i64, .em, .em, .em, .int .i64, .int .i64, .int .i64, .int .i64, .int .i64, .em],[.int .i64, .own 0 (.st .server), .own 1 (.i .i64), .own 2 (.st .config), .int .i64, .int .i64, .int .i64, .int .i64, .int .i64, .own 3 (.st .place)],[.bl, .bl, .int .i64, .int .i64, .int .i64, .int .i64, .ro (.i .i64), .ro (.i .i64), .int .i64, .ro (.st .entry), .int .i64, .ro (.st .entry)]],[.st .server, .i .i64, .st .config, .st .place],0,80⟩
abbrev dW:List (X×ep):= [(.ret,⟨[(1, .cl (.int .i64)),(4, .cl (.ptr 0 0)),(5, .cl (.int .i64)),(6, .cl (.ptr 1 0))],[[.int .i64, .own 0 (.st .server), .own 1 (.i .i64), .own 2 (.st .config), .int .i64, .int .i64, .int .i64, .int .i64, .int .i64, .own 3 (.st .place)],[.int .i64, .own 0 (.st .server), .own 1 (.i .i64), .own 2 (.st .config), .int .i64, .int .i64, .int .i64, .int .i64, .int .i64, .own 3 (.st .place)]],[.st .server, .i .i64, .st .config, .st .place],0,80⟩),(.ext 0,⟨[(1, .cl (.int .i64)),(4, .cl (.ptr 0 0)),(5, .cl (.dead)),(6, .cl (.ptr 1 0))],[[.int .i64, .em, .em, .em, .int .i64, .int .i64, .int .i64, .int .i64, .int .i64, .em],[.int .i64, .own 0 (.st .server), .own 1 (.i .i64), .own 2 (.st .config), .int .i64, .int .i64, .int .i64, .int .i64, .int .i64, .own 3 (.st .place)]],[.st .server, .i .i64, .st .config, .st .place],0,80⟩)]
def dP {ρ:Type} (v7:List aj) (v8:List Int) (v9:List ai) (v10:List aU) (v11:Int) (v12:Int) (v13:Int) (v14:List aj) (v15:List Int) (v16:List ai) (v17:Int) (v18:Int) (v19:Int) (v20:Int) (v21:Int) (v22:List aU) (v23:Int) (v24:Int) (v25:Int) (v26:Int) (v27:Int) (v28:Int) (v29:Int) (v30:Int) (v31:Int) (v32:Int) (v33:Int) (v34:Int) (v35:Bool) (v36:Bool) (v37:Int) (v38:Int) (v39:Int) (v40:Int) (v41:List Int) (v42:List Int) (v43:Int) (v44:List az) (v45:Int) (v46:List az) (fn: ((Int×Unit×Unit×Unit×Unit×Int×Unit)×((Int×(List aj)×(List Int)×(List ai)×Int×Int×Int×Int×Int×(List aU)×Unit)×(Int×Unit×Unit×Unit×Int×Int×Int×Int×Int×Unit×Unit)×(Int×Unit×Unit×Unit×Int×Int×Int×Int×Int×Unit×Unit)×(Bool×Bool×Int×Int×Int×Int×(List Int)×(List Int)×Int×(List az)×Int×(List az)×Unit)×Unit)×((List aj)×(List Int)×(List ai)×(List aU)×Unit))→Option ρ) (fe: ((Int×Unit×Int×Unit×Unit)×((Int×Unit×Unit×Unit×Int×Int×Int×Int×Int×Unit×Unit)×(Int×Unit×Unit×Unit×Int×Int×Int×Int×Int×Unit×Unit)×Unit)×((List aj)×(List Int)×(List ai)×(List aU)×Unit))⊕((Int×Unit×Unit×Unit×Unit)×((Int×Unit×Unit×Unit×Int×Int×Int×Int×Int×Unit×Unit)×(Int×Unit×Unit×Unit×Int×Int×Int×Int×Int×Unit×Unit)×Unit)×((List aj)×(List Int)×(List ai)×(List aU)×Unit))→Option ρ):Option ρ:=
 br (decide (v12 < (v14.length:Int))) ((n7 (⟨v39,v40,v41,v42⟩:ai)).bind fun y47=>br (!y47.1) (aq (0≤v12) ((v14[v12.toNat]?).bind fun x48=>(fA x48.config (⟨v39,v40,v41,v42⟩:ai)).bind fun y49=>br y49.1 (aq (0≤v12) ((v14[v12.toNat]?).bind fun x50=>(dV x50.log).bind fun y51=>br y51.1 (fe (.inl ((v11,(),6,(),()),((v29,(),(),(),v30,v31,v32,v33,v34,(),()),(v29,(),(),(),v30,v31,v32,v33,v34,(),()),()),(v7,v8,v9,v10,())))) (fn ((v11,(),(),(),(),(IntKind.wrap .i64 (v12+1)),()),((v13,v14,v15,v16,v17,v18,v19,v20,v21,v22,()),(v23,(),(),(),v24,v25,v26,v27,v28,(),()),(v29,(),(),(),v30,v31,v32,v33,v34,(),()),(v35,v36,v37,v38,v39,v40,v41,v42,v43,v44,v45,v46,()),()),(v7,v8,v9,v10,())))) none) (fn ((v11,(),(),(),(),(IntKind.wrap .i64 (v12+1)),()),((v13,v14,v15,v16,v17,v18,v19,v20,v21,v22,()),(v23,(),(),(),v24,v25,v26,v27,v28,(),()),(v29,(),(),(),v30,v31,v32,v33,v34,(),()),(v35,v36,v37,v38,v39,v40,v41,v42,v43,v44,v45,v46,()),()),(v7,v8,v9,v10,())))) none) (fe (.inr ((v11,(),(),(),()),((v23,(),(),(),v24,v25,v26,v27,v28,(),()),(v29,(),(),(),v30,v31,v32,v33,v34,(),()),()),(v7,v8,v9,v10,()))))) (fe (.inr ((v11,(),(),(),()),((v23,(),(),(),v24,v25,v26,v27,v28,(),()),(v29,(),(),(),v30,v31,v32,v33,v34,(),()),()),(v7,v8,v9,v10,()))))
def ci (s:ch.D):Option (ch.D⊕bh.D dW):=dP s.2.2.1 s.2.2.2.1 s.2.2.2.2.1 s.2.2.2.2.2.1 s.1.1 s.1.2.2.2.2.2.1 s.2.1.1.1 s.2.1.1.2.1 s.2.1.1.2.2.1 s.2.1.1.2.2.2.1 s.2.1.1.2.2.2.2.1 s.2.1.1.2.2.2.2.2.1 s.2.1.1.2.2.2.2.2.2.1 s.2.1.1.2.2.2.2.2.2.2.1 s.2.1.1.2.2.2.2.2.2.2.2.1 s.2.1.1.2.2.2.2.2.2.2.2.2.1 s.2.1.2.1.1 s.2.1.2.1.2.2.2.2.1 s.2.1.2.1.2.2.2.2.2.1 s.2.1.2.1.2.2.2.2.2.2.1 s.2.1.2.1.2.2.2.2.2.2.2.1 s.2.1.2.1.2.2.2.2.2.2.2.2.1 s.2.1.2.2.1.1 s.2.1.2.2.1.2.2.2.2.1 s.2.1.2.2.1.2.2.2.2.2.1 s.2.1.2.2.1.2.2.2.2.2.2.1 s.2.1.2.2.1.2.2.2.2.2.2.2.1 s.2.1.2.2.1.2.2.2.2.2.2.2.2.1 s.2.1.2.2.2.1.1 s.2.1.2.2.2.1.2.1 s.2.1.2.2.2.1.2.2.1 s.2.1.2.2.2.1.2.2.2.1 s.2.1.2.2.2.1.2.2.2.2.1 s.2.1.2.2.2.1.2.2.2.2.2.1 s.2.1.2.2.2.1.2.2.2.2.2.2.1 s.2.1.2.2.2.1.2.2.2.2.2.2.2.1 s.2.1.2.2.2.1.2.2.2.2.2.2.2.2.1 s.2.1.2.2.2.1.2.2.2.2.2.2.2.2.2.1 s.2.1.2.2.2.1.2.2.2.2.2.2.2.2.2.2.1 s.2.1.2.2.2.1.2.2.2.2.2.2.2.2.2.2.2.1 (fun s=>some (.inl s)) (fun e=>some (.inr e))
def fi:ch.D→Option (bh.D dW):=jB ci
theorem vO {ρ:Type} (s:ch.D) (fn:ch.D→Option ρ) (fe:bh.D dW→Option ρ):dP s.2.2.1 s.2.2.2.1 s.2.2.2.2.1 s.2.2.2.2.2.1 s.1.1 s.1.2.2.2.2.2.1 s.2.1.1.1 s.2.1.1.2.1 s.2.1.1.2.2.1 s.2.1.1.2.2.2.1 s.2.1.1.2.2.2.2.1 s.2.1.1.2.2.2.2.2.1 s.2.1.1.2.2.2.2.2.2.1 s.2.1.1.2.2.2.2.2.2.2.1 s.2.1.1.2.2.2.2.2.2.2.2.1 s.2.1.1.2.2.2.2.2.2.2.2.2.1 s.2.1.2.1.1 s.2.1.2.1.2.2.2.2.1 s.2.1.2.1.2.2.2.2.2.1 s.2.1.2.1.2.2.2.2.2.2.1 s.2.1.2.1.2.2.2.2.2.2.2.1 s.2.1.2.1.2.2.2.2.2.2.2.2.1 s.2.1.2.2.1.1 s.2.1.2.2.1.2.2.2.2.1 s.2.1.2.2.1.2.2.2.2.2.1 s.2.1.2.2.1.2.2.2.2.2.2.1 s.2.1.2.2.1.2.2.2.2.2.2.2.1 s.2.1.2.2.1.2.2.2.2.2.2.2.2.1 s.2.1.2.2.2.1.1 s.2.1.2.2.2.1.2.1 s.2.1.2.2.2.1.2.2.1 s.2.1.2.2.2.1.2.2.2.1 s.2.1.2.2.2.1.2.2.2.2.1 s.2.1.2.2.2.1.2.2.2.2.2.1 s.2.1.2.2.2.1.2.2.2.2.2.2.1 s.2.1.2.2.2.1.2.2.2.2.2.2.2.1 s.2.1.2.2.2.1.2.2.2.2.2.2.2.2.1 s.2.1.2.2.2.1.2.2.2.2.2.2.2.2.2.1 s.2.1.2.2.2.1.2.2.2.2.2.2.2.2.2.2.1 s.2.1.2.2.2.1.2.2.2.2.2.2.2.2.2.2.2.1 fn fe=(ci s).bind (Sum.elim fn fe):=by
 simp only [ci,dP,am,ap,Option.bind_none,Option.bind_assoc,Option.bind_some,Sum.elim_inl,Sum.elim_inr]
abbrev rB:cU:=dh [] [1,2,4,6,7,8] ch dW fi
theorem u6 (s:ch.D):ev Θ (aL tW) (aK []) gT (ch.mk' s) (c6 [1,2,4,6,7,8] [1,4,5,6] fun x S=>some (x,S))=(ci s).bind (Sum.elim (fun s'=>some (.nor,ch.mk' s')) fun e=>some (bh.e dW e)):=
 Eq.trans (by kernel_rfl:_=dP s.2.2.1 s.2.2.2.1 s.2.2.2.2.1 s.2.2.2.2.2.1 s.1.1 s.1.2.2.2.2.2.1 s.2.1.1.1 s.2.1.1.2.1 s.2.1.1.2.2.1 s.2.1.1.2.2.2.1 s.2.1.1.2.2.2.2.1 s.2.1.1.2.2.2.2.2.1 s.2.1.1.2.2.2.2.2.2.1 s.2.1.1.2.2.2.2.2.2.2.1 s.2.1.1.2.2.2.2.2.2.2.2.1 s.2.1.1.2.2.2.2.2.2.2.2.2.1 s.2.1.2.1.1 s.2.1.2.1.2.2.2.2.1 s.2.1.2.1.2.2.2.2.2.1 s.2.1.2.1.2.2.2.2.2.2.1 s.2.1.2.1.2.2.2.2.2.2.2.1 s.2.1.2.1.2.2.2.2.2.2.2.2.1 s.2.1.2.2.1.1 s.2.1.2.2.1.2.2.2.2.1 s.2.1.2.2.1.2.2.2.2.2.1 s.2.1.2.2.1.2.2.2.2.2.2.1 s.2.1.2.2.1.2.2.2.2.2.2.2.1 s.2.1.2.2.1.2.2.2.2.2.2.2.2.1 s.2.1.2.2.2.1.1 s.2.1.2.2.2.1.2.1 s.2.1.2.2.2.1.2.2.1 s.2.1.2.2.2.1.2.2.2.1 s.2.1.2.2.2.1.2.2.2.2.1 s.2.1.2.2.2.1.2.2.2.2.2.1 s.2.1.2.2.2.1.2.2.2.2.2.2.1 s.2.1.2.2.2.1.2.2.2.2.2.2.2.1 s.2.1.2.2.2.1.2.2.2.2.2.2.2.2.1 s.2.1.2.2.2.1.2.2.2.2.2.2.2.2.2.1 s.2.1.2.2.2.1.2.2.2.2.2.2.2.2.2.2.1 s.2.1.2.2.2.1.2.2.2.2.2.2.2.2.2.2.2.1 (fun s'=>some (.nor,ch.mk' s')) (fun e=>some (bh.e dW e))) (vO s _ _)
theorem u7:b7 Tryz.prog gT rB:=ba aM rA af (by kernel_rfl) (dp (by kernel_rfl:_= []) ah) [] [1,2,4,6,7,8] [1,4,5,6] ch dW (by kernel_rfl) ci u6 fi (f9 ci) (aO ci)
def je {ρ:Type} (a0:ao) (a1:Int) (k:ao×Int×Unit→Option ρ):Option ρ:=
 (qR a0).bind fun y1=>(qX a0 a1).bind fun y2=>br (!y2.1) (k (y1.1,1,())) (aq (0≤a1) ((a0.servers[a1.toNat]?).bind fun x3=>br (x3.version==1) (k (y1.1,1,())) (aq (0≤a1) ((a0.servers[a1.toNat]?).bind fun x4=>br (!x4.up) (k (y1.1,2,())) (aq (0≤a1) ((a0.servers[a1.toNat]?).bind fun x5=>(dV x5.learned).bind fun y6=>br y6.1 (k (y1.1,6,())) ((fi ((a1,(),(),(),(),0,()),((a0.now,a0.servers,a0.sides,a0.master.configs,a0.master.activated,a0.masterUp,a0.lease.epoch,a0.lease.holder,a0.lease.ends,a0.places,()),(0,(),(),(),0,0,0,0,0,(),()),(y1.1.now,(),(),(),y1.1.master.activated,y1.1.masterUp,y1.1.lease.epoch,y1.1.lease.holder,y1.1.lease.ends,(),()),(x5.up,x5.intact,x5.version,x5.epoch,x5.config.epoch,x5.config.primary,x5.config.replicas,x5.config.witnesses,x5.first,x5.log,x5.commit,x5.learned,()),()),(y1.1.servers,y1.1.sides,y1.1.master.configs,y1.1.places,()))).bind fun e52=>Sum.elim (fun e52_=>k ((⟨e52_.2.1.1.1,e52_.2.2.1,e52_.2.2.2.1,(⟨e52_.2.2.2.2.1,e52_.2.1.1.2.2.2.2.1⟩:an),e52_.2.1.1.2.2.2.2.2.1,(⟨e52_.2.1.1.2.2.2.2.2.2.1,e52_.2.1.1.2.2.2.2.2.2.2.1,e52_.2.1.1.2.2.2.2.2.2.2.2.1⟩:jO),e52_.2.2.2.2.2.1⟩:ao),e52_.1.2.2.1,())) (fun e52_=>aq (0≤e52_.1.1∧e52_.1.1 < (e52_.2.2.1.length:Int)) ((e52_.2.2.1[e52_.1.1.toNat]?).bind fun x53=>k ((⟨e52_.2.1.2.1.1,(e52_.2.2.1.set e52_.1.1.toNat (⟨x53.up,x53.intact,1,x53.epoch,x53.config,x53.first,x53.log,x53.commit,x53.learned⟩:aj)),e52_.2.2.2.1,(⟨e52_.2.2.2.2.1,e52_.2.1.2.1.2.2.2.2.1⟩:an),e52_.2.1.2.1.2.2.2.2.2.1,(⟨e52_.2.1.2.1.2.2.2.2.2.2.1,e52_.2.1.2.1.2.2.2.2.2.2.2.1,e52_.2.1.2.1.2.2.2.2.2.2.2.2.1⟩:jO),e52_.2.2.2.2.2.1⟩:ao),0,())) none) e52)) none)) none)) none)
def fB (a0:ao) (a1:Int):Option (ao×Int×Unit):=je a0 a1 some
theorem zh {ρ:Type} (a0:ao) (a1:Int) (k:ao×Int×Unit→Option ρ):je a0 a1 k=(fB a0 a1).bind k:=by
 simp only [fB,je,am,ap,Option.bind_none,bR,Option.bind_assoc,Option.bind_some]
abbrev tX:bm:=bD [.ty (.st .cluster), .ty (.i .i64)] [.st .cluster, .i .i64] fun x=>fB x.1 x.2.1
theorem BZ:aA Tryz.prog 31 tX:=
 al (Λ:=aK [(ce gT,rB)]) (fn:=Tryz.f31) aM rA af (by kernel_rfl) (aG (by kernel_rfl:_= [gT]) (aN (q:=ce gT) rfl u7 fun _ _ _=>by kernel_rfl)) (by kernel_rfl) (fun x=>fB x.1 x.2.1)
  (fun x=>Eq.trans (by kernel_rfl:_=je x.1 x.2.1 (fun y=>ret (aD [.st .cluster, .i .i64] y) fun v g=>some (v,g))) (zh x.1 x.2.1 _)) fun _ _ h=>h
abbrev Mq:List (Nat×bm):= []
theorem FR:ar Tryz.prog (aL Mq):=ak _
def mh {ρ:Type} (a0:ai) (k:ai×Unit→Option ρ):Option ρ:=
 aq ((([]:List Int)++a0.replicas).length*8≤2 ^ 40) (aq ((([]:List Int)++a0.witnesses).length*8≤2 ^ 40) (k ((⟨a0.epoch,a0.primary,(([]:List Int)++a0.replicas),(([]:List Int)++a0.witnesses)⟩:ai),())) none) none
def fC (a0:ai):Option (ai×Unit):=mh a0 some
theorem H9 {ρ:Type} (a0:ai) (k:ai×Unit→Option ρ):mh a0 k=(fC a0).bind k:=by
 simp only [fC,mh,ap,Option.bind_none,Option.bind_some]
abbrev sx:bm:=bD [.ty (.st .config)] [.st .config] fun x=>fC x.1
theorem vP:aA Tryz.prog 177 sx:=
 al (Λ:=aK []) (fn:=Tryz.f177) aM FR af (by kernel_rfl) (aG (by kernel_rfl:_= []) ah) (by kernel_rfl) (fun x=>fC x.1)
  (fun x=>Eq.trans (by kernel_rfl:_=mh x.1 (fun y=>ret (aD [.st .config] y) fun v g=>some (v,g))) (H9 x.1 _)) fun _ _ h=>h
abbrev Ia:List (Nat×bm):= []
theorem B0:ar Tryz.prog (aL Ia):=ak _
def wt {ρ:Type} (a0:List az) (k: (List az)×Unit→Option ρ):Option ρ:=
 aq (a0.length*56≤2 ^ 40) (k (a0,())) none
def kU (a0:List az):Option ((List az)×Unit):=wt a0 some
abbrev xM:bm:=bD [.ty (.ls (.st .entry))] [.ls (.st .entry)] fun x=>kU x.1
abbrev qb (y: (List az)×Unit):Option (V×List b6):=ret (aD [.ls (.st .entry)] y) fun v g=>some (v,g)
theorem Ib:aA Tryz.prog 80 xM:=
 al (Λ:=aK []) (fn:=Tryz.f80) aM B0 af (by kernel_rfl) (aG (by kernel_rfl:_= []) ah) (by kernel_rfl) (fun x=>kU x.1)
  (fun x=>Eq.trans (by kernel_rfl:_=Tz x.1 (Tx (qb ([],())) (aq ((([]:List az)++x.1).length*56≤2 ^ 40) (qb (([]:List az)++x.1,())) none) none) (aq ((([]:List az)++x.1).length*56≤2 ^ 40) (qb (([]:List az)++x.1,())) none)) (LX x.1 56 qb)) fun _ _ h=>h
abbrev Mr:List (Nat×bm):= [(177,sx),(80,xM)]
theorem FS:ar Tryz.prog (aL Mr):=ae vP <| ae Ib <| ak _
def oI {ρ:Type} (a0:aj) (k:aj×Unit→Option ρ):Option ρ:=
 (fC a0.config).bind fun y1=>(kU a0.log).bind fun y2=>(kU a0.learned).bind fun y3=>k ((⟨a0.up,a0.intact,a0.version,a0.epoch,y1.1,a0.first,y2.1,a0.commit,y3.1⟩:aj),())
def lD (a0:aj):Option (aj×Unit):=oI a0 some
theorem Ic {ρ:Type} (a0:aj) (k:aj×Unit→Option ρ):oI a0 k=(lD a0).bind k:=by
 simp only [lD,oI,Option.bind_assoc,Option.bind_some]
abbrev B3:bm:=bD [.ty (.st .server)] [.st .server] fun x=>lD x.1
theorem Ms:aA Tryz.prog 163 B3:=
 al (Λ:=aK []) (fn:=Tryz.f163) aM FS af (by kernel_rfl) (aG (by kernel_rfl:_= []) ah) (by kernel_rfl) (fun x=>lD x.1)
  (fun x=>Eq.trans (by kernel_rfl:_=oI x.1 (fun y=>ret (aD [.st .server] y) fun v g=>some (v,g))) (Ic x.1 _)) fun _ _ h=>h
abbrev Mt:List (Nat×bm):= []
theorem FT:ar Tryz.prog (aL Mt):=ak _
def uw {ρ:Type} (a0:List Int) (k: (List Int)×Unit→Option ρ):Option ρ:=
 aq (a0.length*8≤2 ^ 40) (k (a0,())) none
def lE (a0:List Int):Option ((List Int)×Unit):=uw a0 some
abbrev vQ:bm:=bD [.ty (.ls (.i .i64))] [.ls (.i .i64)] fun x=>lE x.1
abbrev sy (y: (List Int)×Unit):Option (V×List b6):=ret (aD [.ls (.i .i64)] y) fun v g=>some (v,g)
theorem B4:aA Tryz.prog 164 vQ:=
 al (Λ:=aK []) (fn:=Tryz.f164) aM FT af (by kernel_rfl) (aG (by kernel_rfl:_= []) ah) (by kernel_rfl) (fun x=>lE x.1)
  (fun x=>Eq.trans (by kernel_rfl:_=Tz x.1 (Tx (sy ([],())) (aq ((([]:List Int)++x.1).length*8≤2 ^ 40) (sy (([]:List Int)++x.1,())) none) none) (aq ((([]:List Int)++x.1).length*8≤2 ^ 40) (sy (([]:List Int)++x.1,())) none)) (LX x.1 8 sy)) fun _ _ h=>h
abbrev B5:List (Nat×bm):= [(177,sx)]
theorem wu:ar Tryz.prog (aL B5):=ae vP <| ak _
noncomputable abbrev nr:Code:=cb (b8 Tryz.f165) 0
abbrev dX:ep:=⟨[(2, .cl (.ptr 0 0)),(3, .cl (.ptr 1 0)),(10, .cl (.ro (.st .config))),(11, .cl (.int .i64)),(12, .cl (.int .i64))],[[.em, .int .i64],[.own 0 (.st .config), .int .i64]],[.st .config],0,25⟩
abbrev jf:List (X×ep):= [(.ext 0,⟨[(2, .cl (.ptr 0 0)),(3, .cl (.ptr 1 0))],[[.em, .int .i64],[.own 0 (.st .config), .int .i64]],[.st .config],0,25⟩)]
def jF {ρ:Type} (v8:List ai) (v9:List ai) (v10:Int) (v11:Int) (v12:Int) (v13:Int) (fn: ((Unit×Unit×(List ai)×Int×Int×Unit)×((Unit×Int×Unit)×(Unit×Int×Unit)×Unit)×((List ai)×Unit))→Option ρ) (fe: ((Unit×Unit×Unit)×((Unit×Int×Unit)×(Unit×Int×Unit)×Unit)×((List ai)×Unit))→Option ρ):Option ρ:=
 br (decide (v11 < v10)) (aq (0≤v11) ((v9[v11.toNat]?).bind fun x14=>(fC x14).bind fun y15=>aq ((v8++([y15.1]:List ai)).length*64≤2 ^ 40) (fn (((),(),v9,v10,(IntKind.wrap .i64 (v11+1)),()),(((),v12,()),((),v13,()),()),((v8++([y15.1]:List ai)),()))) none) none) (fe (((),(),()),(((),v12,()),((),v13,()),()),(v8,())))
def eL (s:dX.D):Option (dX.D⊕bh.D jf):=jF s.2.2.1 s.1.2.2.1 s.1.2.2.2.1 s.1.2.2.2.2.1 s.2.1.1.2.1 s.2.1.2.1.2.1 (fun s=>some (.inl s)) (fun e=>some (.inr e))
def qc:dX.D→Option (bh.D jf):=jB eL
theorem DU {ρ:Type} (s:dX.D) (fn:dX.D→Option ρ) (fe:bh.D jf→Option ρ):jF s.2.2.1 s.1.2.2.1 s.1.2.2.2.1 s.1.2.2.2.2.1 s.2.1.1.2.1 s.2.1.2.1.2.1 fn fe=(eL s).bind (Sum.elim fn fe):=by
 simp only [eL,jF,am,ap,Option.bind_none,Option.bind_assoc,Option.bind_some,Sum.elim_inl,Sum.elim_inr]
abbrev xN:cU:=dh [.b 2 0 (.st .config)] [2,3,10,11,12] dX jf qc
theorem B6 (s:dX.D):ev Θ (aL B5) (aK []) nr (dX.mk' s) (c6 [2,3,10,11,12] [2,3] fun x S=>some (x,S))=(eL s).bind (Sum.elim (fun s'=>some (.nor,dX.mk' s')) fun e=>some (bh.e jf e)):=
 Eq.trans (by kernel_rfl:_=jF s.2.2.1 s.1.2.2.1 s.1.2.2.2.1 s.1.2.2.2.2.1 s.2.1.1.2.1 s.2.1.2.1.2.1 (fun s'=>some (.nor,dX.mk' s')) (fun e=>some (bh.e jf e))) (DU s _ _)
theorem B7:b7 Tryz.prog nr xN:=ba aM wu af (by kernel_rfl) (dp (by kernel_rfl:_= []) ah) [.b 2 0 (.st .config)] [2,3,10,11,12] [2,3] dX jf (by kernel_rfl) eL B6 qc (f9 eL) (aO eL)
def oJ {ρ:Type} (a0:an) (k:an×Unit→Option ρ):Option ρ:=
 (qc (((),(),a0.configs,(a0.configs.length:Int),0,()),(((),0,()),((),a0.activated,()),()),(([]:List ai),()))).bind fun e16=>k ((⟨e16.2.2.1,e16.2.1.2.1.2.1⟩:an),())
def lF (a0:an):Option (an×Unit):=oJ a0 some
theorem Ie {ρ:Type} (a0:an) (k:an×Unit→Option ρ):oJ a0 k=(lF a0).bind k:=by
 simp only [lF,oJ,Option.bind_assoc,Option.bind_some]
abbrev B8:bm:=bD [.ty (.st .masterLog)] [.st .masterLog] fun x=>lF x.1
theorem Mu:aA Tryz.prog 165 B8:=
 al (Λ:=aK [(ce nr,xN)]) (fn:=Tryz.f165) aM wu af (by kernel_rfl) (aG (by kernel_rfl:_= [nr]) (aN (q:=ce nr) rfl B7 fun _ _ _=>by kernel_rfl)) (by kernel_rfl) (fun x=>lF x.1)
  (fun x=>Eq.trans (by kernel_rfl:_=oJ x.1 (fun y=>ret (aD [.st .masterLog] y) fun v g=>some (v,g))) (Ie x.1 _)) fun _ _ h=>h
abbrev Ig:List (Nat×bm):= []
theorem B9:ar Tryz.prog (aL Ig):=ak _
def wv {ρ:Type} (a0:List aU) (k: (List aU)×Unit→Option ρ):Option ρ:=
 aq (a0.length*24≤2 ^ 40) (k (a0,())) none
def ns (a0:List aU):Option ((List aU)×Unit):=wv a0 some
abbrev xO:bm:=bD [.ty (.ls (.st .place))] [.ls (.st .place)] fun x=>ns x.1
abbrev qd (y: (List aU)×Unit):Option (V×List b6):=ret (aD [.ls (.st .place)] y) fun v g=>some (v,g)
theorem Ih:aA Tryz.prog 166 xO:=
 al (Λ:=aK []) (fn:=Tryz.f166) aM B9 af (by kernel_rfl) (aG (by kernel_rfl:_= []) ah) (by kernel_rfl) (fun x=>ns x.1)
  (fun x=>Eq.trans (by kernel_rfl:_=Tz x.1 (Tx (qd ([],())) (aq ((([]:List aU)++x.1).length*24≤2 ^ 40) (qd (([]:List aU)++x.1,())) none) none) (aq ((([]:List aU)++x.1).length*24≤2 ^ 40) (qd (([]:List aU)++x.1,())) none)) (LX x.1 24 qd)) fun _ _ h=>h
abbrev zP:List (Nat×bm):= [(163,B3),(164,vQ),(165,B8),(166,xO)]
theorem u9:ar Tryz.prog (aL zP):=ae Ms <| ae B4 <| ae Mu <| ae Ih <| ak _
noncomputable abbrev lT:Code:=cb (b8 Tryz.f95) 0
abbrev dA:ep:=⟨[(1, .cl (.ptr 0 0)),(2, .cl (.ptr 1 0)),(3, .cl (.ptr 2 0)),(9, .cl (.ro (.st .server))),(10, .cl (.int .i64)),(11, .cl (.int .i64))],[[.int .i64, .ro (.st .server), .ro (.i .i64), .ro (.st .config), .int .i64, .int .i64, .int .i64, .int .i64, .int .i64, .ro (.st .place)],[.int .i64, .em, .em, .em, .int .i64, .int .i64, .int .i64, .int .i64, .int .i64, .em],[.int .i64, .own 0 (.st .server), .ro (.i .i64), .ro (.st .config), .int .i64, .int .i64, .int .i64, .int .i64, .int .i64, .ro (.st .place)]],[.st .server],0,36⟩
abbrev ig:List (X×ep):= [(.ext 0,⟨[(1, .cl (.ptr 0 0)),(2, .cl (.ptr 1 0)),(3, .cl (.ptr 2 0))],[[.int .i64, .ro (.st .server), .ro (.i .i64), .ro (.st .config), .int .i64, .int .i64, .int .i64, .int .i64, .int .i64, .ro (.st .place)],[.int .i64, .em, .em, .em, .int .i64, .int .i64, .int .i64, .int .i64, .int .i64, .em],[.int .i64, .own 0 (.st .server), .ro (.i .i64), .ro (.st .config), .int .i64, .int .i64, .int .i64, .int .i64, .int .i64, .ro (.st .place)]],[.st .server],0,36⟩)]
def iV {ρ:Type} (v31:List aj) (v32:List aj) (v33:Int) (v34:Int) (v35:Int) (v36:List aj) (v37:List Int) (v38:List ai) (v39:Int) (v40:Int) (v41:Int) (v42:Int) (v43:Int) (v44:List aU) (v45:Int) (v46:Int) (v47:Int) (v48:Int) (v49:Int) (v50:Int) (v51:Int) (v52:List Int) (v53:List ai) (v54:Int) (v55:Int) (v56:Int) (v57:Int) (v58:Int) (v59:List aU) (fn: ((Unit×Unit×Unit×(List aj)×Int×Int×Unit)×((Int×(List aj)×(List Int)×(List ai)×Int×Int×Int×Int×Int×(List aU)×Unit)×(Int×Unit×Unit×Unit×Int×Int×Int×Int×Int×Unit×Unit)×(Int×Unit×(List Int)×(List ai)×Int×Int×Int×Int×Int×(List aU)×Unit)×Unit)×((List aj)×Unit))→Option ρ) (fe: ((Unit×Unit×Unit×Unit)×((Int×(List aj)×(List Int)×(List ai)×Int×Int×Int×Int×Int×(List aU)×Unit)×(Int×Unit×Unit×Unit×Int×Int×Int×Int×Int×Unit×Unit)×(Int×Unit×(List Int)×(List ai)×Int×Int×Int×Int×Int×(List aU)×Unit)×Unit)×((List aj)×Unit))→Option ρ):Option ρ:=
 br (decide (v34 < v33)) (aq (0≤v34) ((v32[v34.toNat]?).bind fun x60=>(lD x60).bind fun y61=>aq ((v31++([y61.1]:List aj)).length*152≤2 ^ 40) (fn (((),(),(),v32,v33,(IntKind.wrap .i64 (v34+1)),()),((v35,v36,v37,v38,v39,v40,v41,v42,v43,v44,()),(v45,(),(),(),v46,v47,v48,v49,v50,(),()),(v51,(),v52,v53,v54,v55,v56,v57,v58,v59,()),()),((v31++([y61.1]:List aj)),()))) none) none) (fe (((),(),(),()),((v35,v36,v37,v38,v39,v40,v41,v42,v43,v44,()),(v45,(),(),(),v46,v47,v48,v49,v50,(),()),(v51,(),v52,v53,v54,v55,v56,v57,v58,v59,()),()),(v31,())))
def ei (s:dA.D):Option (dA.D⊕bh.D ig):=iV s.2.2.1 s.1.2.2.2.1 s.1.2.2.2.2.1 s.1.2.2.2.2.2.1 s.2.1.1.1 s.2.1.1.2.1 s.2.1.1.2.2.1 s.2.1.1.2.2.2.1 s.2.1.1.2.2.2.2.1 s.2.1.1.2.2.2.2.2.1 s.2.1.1.2.2.2.2.2.2.1 s.2.1.1.2.2.2.2.2.2.2.1 s.2.1.1.2.2.2.2.2.2.2.2.1 s.2.1.1.2.2.2.2.2.2.2.2.2.1 s.2.1.2.1.1 s.2.1.2.1.2.2.2.2.1 s.2.1.2.1.2.2.2.2.2.1 s.2.1.2.1.2.2.2.2.2.2.1 s.2.1.2.1.2.2.2.2.2.2.2.1 s.2.1.2.1.2.2.2.2.2.2.2.2.1 s.2.1.2.2.1.1 s.2.1.2.2.1.2.2.1 s.2.1.2.2.1.2.2.2.1 s.2.1.2.2.1.2.2.2.2.1 s.2.1.2.2.1.2.2.2.2.2.1 s.2.1.2.2.1.2.2.2.2.2.2.1 s.2.1.2.2.1.2.2.2.2.2.2.2.1 s.2.1.2.2.1.2.2.2.2.2.2.2.2.1 s.2.1.2.2.1.2.2.2.2.2.2.2.2.2.1 (fun s=>some (.inl s)) (fun e=>some (.inr e))
def o6:dA.D→Option (bh.D ig):=jB ei
theorem Ca {ρ:Type} (s:dA.D) (fn:dA.D→Option ρ) (fe:bh.D ig→Option ρ):iV s.2.2.1 s.1.2.2.2.1 s.1.2.2.2.2.1 s.1.2.2.2.2.2.1 s.2.1.1.1 s.2.1.1.2.1 s.2.1.1.2.2.1 s.2.1.1.2.2.2.1 s.2.1.1.2.2.2.2.1 s.2.1.1.2.2.2.2.2.1 s.2.1.1.2.2.2.2.2.2.1 s.2.1.1.2.2.2.2.2.2.2.1 s.2.1.1.2.2.2.2.2.2.2.2.1 s.2.1.1.2.2.2.2.2.2.2.2.2.1 s.2.1.2.1.1 s.2.1.2.1.2.2.2.2.1 s.2.1.2.1.2.2.2.2.2.1 s.2.1.2.1.2.2.2.2.2.2.1 s.2.1.2.1.2.2.2.2.2.2.2.1 s.2.1.2.1.2.2.2.2.2.2.2.2.1 s.2.1.2.2.1.1 s.2.1.2.2.1.2.2.1 s.2.1.2.2.1.2.2.2.1 s.2.1.2.2.1.2.2.2.2.1 s.2.1.2.2.1.2.2.2.2.2.1 s.2.1.2.2.1.2.2.2.2.2.2.1 s.2.1.2.2.1.2.2.2.2.2.2.2.1 s.2.1.2.2.1.2.2.2.2.2.2.2.2.1 s.2.1.2.2.1.2.2.2.2.2.2.2.2.2.1 fn fe=(ei s).bind (Sum.elim fn fe):=by
 simp only [ei,iV,am,ap,Option.bind_none,Option.bind_assoc,Option.bind_some,Sum.elim_inl,Sum.elim_inr]
abbrev ww:cU:=dh [.b 2 1 (.st .server)] [1,2,3,9,10,11] dA ig o6
theorem AL (s:dA.D):ev Θ (aL zP) (aK []) lT (dA.mk' s) (c6 [1,2,3,9,10,11] [1,2,3] fun x S=>some (x,S))=(ei s).bind (Sum.elim (fun s'=>some (.nor,dA.mk' s')) fun e=>some (bh.e ig e)):=
 Eq.trans (by kernel_rfl:_=iV s.2.2.1 s.1.2.2.2.1 s.1.2.2.2.2.1 s.1.2.2.2.2.2.1 s.2.1.1.1 s.2.1.1.2.1 s.2.1.1.2.2.1 s.2.1.1.2.2.2.1 s.2.1.1.2.2.2.2.1 s.2.1.1.2.2.2.2.2.1 s.2.1.1.2.2.2.2.2.2.1 s.2.1.1.2.2.2.2.2.2.2.1 s.2.1.1.2.2.2.2.2.2.2.2.1 s.2.1.1.2.2.2.2.2.2.2.2.2.1 s.2.1.2.1.1 s.2.1.2.1.2.2.2.2.1 s.2.1.2.1.2.2.2.2.2.1 s.2.1.2.1.2.2.2.2.2.2.1 s.2.1.2.1.2.2.2.2.2.2.2.1 s.2.1.2.1.2.2.2.2.2.2.2.2.1 s.2.1.2.2.1.1 s.2.1.2.2.1.2.2.1 s.2.1.2.2.1.2.2.2.1 s.2.1.2.2.1.2.2.2.2.1 s.2.1.2.2.1.2.2.2.2.2.1 s.2.1.2.2.1.2.2.2.2.2.2.1 s.2.1.2.2.1.2.2.2.2.2.2.2.1 s.2.1.2.2.1.2.2.2.2.2.2.2.2.1 s.2.1.2.2.1.2.2.2.2.2.2.2.2.2.1 (fun s'=>some (.nor,dA.mk' s')) (fun e=>some (bh.e ig e))) (Ca s _ _)
theorem AM:b7 Tryz.prog lT ww:=ba aM u9 af (by kernel_rfl) (dp (by kernel_rfl:_= []) ah) [.b 2 1 (.st .server)] [1,2,3,9,10,11] [1,2,3] dA ig (by kernel_rfl) ei AL o6 (f9 ei) (aO ei)
def nu {ρ:Type} (a0:ao) (k:ao×Unit→Option ρ):Option ρ:=
 (o6 (((),(),(),a0.servers,(a0.servers.length:Int),0,()),((a0.now,a0.servers,a0.sides,a0.master.configs,a0.master.activated,a0.masterUp,a0.lease.epoch,a0.lease.holder,a0.lease.ends,a0.places,()),(0,(),(),(),0,0,0,0,0,(),()),(a0.now,(),a0.sides,a0.master.configs,a0.master.activated,a0.masterUp,a0.lease.epoch,a0.lease.holder,a0.lease.ends,a0.places,()),()),(([]:List aj),()))).bind fun e62=>(lE e62.2.1.1.2.2.1).bind fun y63=>(lF (⟨e62.2.1.1.2.2.2.1,e62.2.1.1.2.2.2.2.1⟩:an)).bind fun y64=>(ns e62.2.1.1.2.2.2.2.2.2.2.2.2.1).bind fun y65=>k ((⟨e62.2.1.2.2.1.1,e62.2.2.1,y63.1,y64.1,e62.2.1.2.2.1.2.2.2.2.2.1,(⟨e62.2.1.2.2.1.2.2.2.2.2.2.1,e62.2.1.2.2.1.2.2.2.2.2.2.2.1,e62.2.1.2.2.1.2.2.2.2.2.2.2.2.1⟩:jO),y65.1⟩:ao),())
def ft (a0:ao):Option (ao×Unit):=nu a0 some
theorem FU {ρ:Type} (a0:ao) (k:ao×Unit→Option ρ):nu a0 k=(ft a0).bind k:=by
 simp only [ft,nu,Option.bind_assoc,Option.bind_some]
abbrev ux:bm:=bD [.ty (.st .cluster)] [.st .cluster] fun x=>ft x.1
theorem zQ:aA Tryz.prog 95 ux:=
 al (Λ:=aK [(ce lT,ww)]) (fn:=Tryz.f95) aM u9 af (by kernel_rfl) (aG (by kernel_rfl:_= [lT]) (aN (q:=ce lT) rfl AM fun _ _ _=>by kernel_rfl)) (by kernel_rfl) (fun x=>ft x.1)
  (fun x=>Eq.trans (by kernel_rfl:_=nu x.1 (fun y=>ret (aD [.st .cluster] y) fun v g=>some (v,g))) (FU x.1 _)) fun _ _ h=>h
abbrev UA:List (Nat×bm):= []
theorem OI:ar Tryz.prog (aL UA):=ak _
def va {ρ:Type} (a0:Int) (a1:Int) (a2:Int) (k:Bool×Unit→Option ρ):Option ρ:=
 br (decide (a1≤a0)) (k ((decide (a0≤a2)),())) (k (false,()))
def cE (a0:Int) (a1:Int) (a2:Int):Option (Bool×Unit):=va a0 a1 a2 some
theorem Qq {ρ:Type} (a0:Int) (a1:Int) (a2:Int) (k:Bool×Unit→Option ρ):va a0 a1 a2 k=(cE a0 a1 a2).bind k:=by
 simp only [cE,va,am,Option.bind_some]
abbrev jS:bm:=bD [.ty (.i .i64), .ty (.i .i64), .ty (.i .i64)] [.b] fun x=>cE x.1 x.2.1 x.2.2.1
theorem kV:aA Tryz.prog 135 jS:=
 al (Λ:=aK []) (fn:=Tryz.f135) aM OI af (by kernel_rfl) (aG (by kernel_rfl:_= []) ah) (by kernel_rfl) (fun x=>cE x.1 x.2.1 x.2.2.1)
  (fun x=>Eq.trans (by kernel_rfl:_=va x.1 x.2.1 x.2.2.1 (fun y=>ret (aD [.b] y) fun v g=>some (v,g))) (Qq x.1 x.2.1 x.2.2.1 _)) fun _ _ h=>h
abbrev JR:List (Nat×bm):= [(135,jS)]
theorem DV:ar Tryz.prog (aL JR):=ae kV <| ak _
def nv {ρ:Type} (a0:Int) (k:Bool×Unit→Option ρ):Option ρ:=
 (cE a0 0 3).bind fun y1=>k ((!y1.1),())
def mi (a0:Int):Option (Bool×Unit):=nv a0 some
theorem FV {ρ:Type} (a0:Int) (k:Bool×Unit→Option ρ):nv a0 k=(mi a0).bind k:=by
 simp only [mi,nv,Option.bind_assoc,Option.bind_some]
abbrev zR:bm:=bD [.ty (.i .i64)] [.b] fun x=>mi x.1
theorem JS:aA Tryz.prog 210 zR:=
 al (Λ:=aK []) (fn:=Tryz.f210) aM DV af (by kernel_rfl) (aG (by kernel_rfl:_= []) ah) (by kernel_rfl) (fun x=>mi x.1)
  (fun x=>Eq.trans (by kernel_rfl:_=nv x.1 (fun y=>ret (aD [.b] y) fun v g=>some (v,g))) (FV x.1 _)) fun _ _ h=>h
abbrev lr:List (Nat×bm):= [(210,zR)]
theorem jT:ar Tryz.prog (aL lr):=ae JS <| ak _
noncomputable abbrev dc:Code:=cb (b8 Tryz.f143) 0
abbrev aZ:ep:=⟨[(0, .cl (.ro (.i .i64))),(1, .cl (.fc 210)),(7, .cl (.int .i64)),(8, .cl (.int .i64))],[],[],0,19⟩
abbrev bV:List (X×ep):= [(.ret,⟨[(4, .cl (.int .i64))],[],[],0,19⟩),(.ext 0,⟨[(4, .cl (.dead))],[],[],0,19⟩)]
def cq {ρ:Type} (v1:List Int) (v2:Int) (v3:Int) (fn: (((List Int)×Unit×Int×Int×Unit)×(Unit)×(Unit))→Option ρ) (fe: ((Int×Unit)×(Unit)×(Unit))⊕((Unit×Unit)×(Unit)×(Unit))→Option ρ):Option ρ:=
 br (decide (v3 < v2)) (aq (0≤v3) ((v1[v3.toNat]?).bind fun x4=>(mi x4).bind fun y5=>br y5.1 (fe (.inl ((v3,()),(()),(())))) (fn ((v1,(),v2,(IntKind.wrap .i64 (v3+1)),()),(()),(())))) none) (fe (.inr (((),()),(()),(()))))
def be (s:aZ.D):Option (aZ.D⊕bh.D bV):=cq s.1.1 s.1.2.2.1 s.1.2.2.2.1 (fun s=>some (.inl s)) (fun e=>some (.inr e))
def de:aZ.D→Option (bh.D bV):=jB be
theorem pG {ρ:Type} (s:aZ.D) (fn:aZ.D→Option ρ) (fe:bh.D bV→Option ρ):cq s.1.1 s.1.2.2.1 s.1.2.2.2.1 fn fe=(be s).bind (Sum.elim fn fe):=by
 simp only [be,cq,am,ap,Option.bind_none,Option.bind_assoc,Option.bind_some,Sum.elim_inl,Sum.elim_inr]
abbrev kv:cU:=dh [] [0,1,7,8] aZ bV de
theorem pd (s:aZ.D):ev Θ (aL lr) (aK []) dc (aZ.mk' s) (c6 [0,1,7,8] [4] fun x S=>some (x,S))=(be s).bind (Sum.elim (fun s'=>some (.nor,aZ.mk' s')) fun e=>some (bh.e bV e)):=
 Eq.trans (by kernel_rfl:_=cq s.1.1 s.1.2.2.1 s.1.2.2.2.1 (fun s'=>some (.nor,aZ.mk' s')) (fun e=>some (bh.e bV e))) (pG s _ _)
theorem pe:b7 Tryz.prog dc kv:=ba aM jT af (by kernel_rfl) (dp (by kernel_rfl:_= []) ah) [] [0,1,7,8] [4] aZ bV (by kernel_rfl) be pd de (f9 be) (aO be)
def dn {ρ:Type} (a0:List Int) (k:Int×Unit→Option ρ):Option ρ:=
 (de ((a0,(),(a0.length:Int),0,()),(()),(()))).bind fun e6=>Sum.elim (fun e6_=>k (e6_.1.1,())) (fun e6_=>k ((-1),())) e6
def cP (a0:List Int):Option (Int×Unit):=dn a0 some
theorem qH {ρ:Type} (a0:List Int) (k:Int×Unit→Option ρ):dn a0 k=(cP a0).bind k:=by
 simp only [cP,dn,bR,Option.bind_assoc,Option.bind_some]
abbrev lu:bm:=bD [.ty (.ls (.i .i64)), .fc 210] [.i .i64] fun x=>cP x.1
theorem rC:aA Tryz.prog 143 lu:=
 al (Λ:=aK [(ce dc,kv)]) (fn:=Tryz.f143) aM jT af (by kernel_rfl) (aG (by kernel_rfl:_= [dc]) (aN (q:=ce dc) rfl pe fun _ _ _=>by kernel_rfl)) (by kernel_rfl) (fun x=>cP x.1)
  (fun x=>Eq.trans (by kernel_rfl:_=dn x.1 (fun y=>ret (aD [.i .i64] y) fun v g=>some (v,g))) (qH x.1 _)) fun _ _ h=>h
abbrev qe:List (Nat×bm):= [(143,lu)]
theorem oK:ar Tryz.prog (aL qe):=ae rC <| ak _
def cR {ρ:Type} (a0:List Int) (k:Bool×Unit→Option ρ):Option ρ:=
 (cP a0).bind fun y1=>k ((decide (y1.1≥0)),())
def cr (a0:List Int):Option (Bool×Unit):=cR a0 some
theorem pf {ρ:Type} (a0:List Int) (k:Bool×Unit→Option ρ):cR a0 k=(cr a0).bind k:=by
 simp only [cr,cR,Option.bind_assoc,Option.bind_some]
abbrev jU:bm:=bD [.ty (.ls (.i .i64)), .fc 210] [.b] fun x=>cr x.1
theorem qf:aA Tryz.prog 61 jU:=
 al (Λ:=aK []) (fn:=Tryz.f61) aM oK af (by kernel_rfl) (aG (by kernel_rfl:_= []) ah) (by kernel_rfl) (fun x=>cr x.1)
  (fun x=>Eq.trans (by kernel_rfl:_=cR x.1 (fun y=>ret (aD [.b] y) fun v g=>some (v,g))) (pf x.1 _)) fun _ _ h=>h
abbrev Qr:List (Nat×bm):= [(61,jU)]
theorem JT:ar Tryz.prog (aL Qr):=ae qf <| ak _
def rD {ρ:Type} (a0:List Int) (k:Bool×Unit→Option ρ):Option ρ:=
 br ((a0.length:Int)==5) ((cr a0).bind fun y1=>k ((!y1.1),())) (k (false,()))
def pg (a0:List Int):Option (Bool×Unit):=rD a0 some
theorem Mv {ρ:Type} (a0:List Int) (k:Bool×Unit→Option ρ):rD a0 k=(pg a0).bind k:=by
 simp only [pg,rD,am,Option.bind_assoc,Option.bind_some]
abbrev Ii:bm:=bD [.ty (.ls (.i .i64))] [.b] fun x=>pg x.1
theorem Qs:aA Tryz.prog 136 Ii:=
 al (Λ:=aK []) (fn:=Tryz.f136) aM JT af (by kernel_rfl) (aG (by kernel_rfl:_= []) ah) (by kernel_rfl) (fun x=>pg x.1)
  (fun x=>Eq.trans (by kernel_rfl:_=rD x.1 (fun y=>ret (aD [.b] y) fun v g=>some (v,g))) (Mv x.1 _)) fun _ _ h=>h
abbrev Cb:List (Nat×bm):= [(135,jS)]
theorem wx:ar Tryz.prog (aL Cb):=ae kV <| ak _
noncomputable abbrev nw:Code:=cb (b8 Tryz.f227) 0
abbrev dY:ep:=⟨[(0, .cl (.ro (.i .i64))),(5, .cl (.ro (.i .i64))),(6, .cl (.int .i64)),(7, .cl (.int .i64))],[],[],0,29⟩
abbrev jg:List (X×ep):= [(.ret,⟨[(2, .cl (.bl))],[],[],0,29⟩),(.ext 0,⟨[(2, .cl (.dead))],[],[],0,29⟩)]
def jG {ρ:Type} (v1:List Int) (v2:List Int) (v3:Int) (v4:Int) (fn: (((List Int)×(List Int)×Int×Int×Unit)×(Unit)×(Unit))→Option ρ) (fe: ((Bool×Unit)×(Unit)×(Unit))⊕((Unit×Unit)×(Unit)×(Unit))→Option ρ):Option ρ:=
 br (decide (v4 < v3)) (aq (0≤v4) ((v2[v4.toNat]?).bind fun x5=>(cE x5 0 4).bind fun y6=>br (!y6.1) (fe (.inl ((false,()),(()),(())))) (br (decide (v4 > 0)) (aq (0≤(IntKind.wrap .i64 (v4 - 1))) ((v1[(IntKind.wrap .i64 (v4 - 1)).toNat]?).bind fun x7=>br (decide (x5≤x7)) (fe (.inl ((false,()),(()),(())))) (fn ((v1,v2,v3,(IntKind.wrap .i64 (v4+1)),()),(()),(())))) none) (fn ((v1,v2,v3,(IntKind.wrap .i64 (v4+1)),()),(()),(()))))) none) (fe (.inr (((),()),(()),(()))))
def eM (s:dY.D):Option (dY.D⊕bh.D jg):=jG s.1.1 s.1.2.1 s.1.2.2.1 s.1.2.2.2.1 (fun s=>some (.inl s)) (fun e=>some (.inr e))
def nx:dY.D→Option (bh.D jg):=jB eM
theorem DW {ρ:Type} (s:dY.D) (fn:dY.D→Option ρ) (fe:bh.D jg→Option ρ):jG s.1.1 s.1.2.1 s.1.2.2.1 s.1.2.2.2.1 fn fe=(eM s).bind (Sum.elim fn fe):=by
 simp only [eM,jG,am,ap,Option.bind_none,Option.bind_assoc,Option.bind_some,Sum.elim_inl,Sum.elim_inr]
abbrev xP:cU:=dh [] [0,5,6,7] dY jg nx
theorem Cc (s:dY.D):ev Θ (aL Cb) (aK []) nw (dY.mk' s) (c6 [0,5,6,7] [2] fun x S=>some (x,S))=(eM s).bind (Sum.elim (fun s'=>some (.nor,dY.mk' s')) fun e=>some (bh.e jg e)):=
 Eq.trans (by kernel_rfl:_=jG s.1.1 s.1.2.1 s.1.2.2.1 s.1.2.2.2.1 (fun s'=>some (.nor,dY.mk' s')) (fun e=>some (bh.e jg e))) (DW s _ _)
theorem Cd:b7 Tryz.prog nw xP:=ba aM wx af (by kernel_rfl) (dp (by kernel_rfl:_= []) ah) [] [0,5,6,7] [2] dY jg (by kernel_rfl) eM Cc nx (f9 eM) (aO eM)
def oL {ρ:Type} (a0:List Int) (k:Bool×Unit→Option ρ):Option ρ:=
 (nx ((a0,a0,(a0.length:Int),0,()),(()),(()))).bind fun e8=>Sum.elim (fun e8_=>k (e8_.1.1,())) (fun e8_=>k (true,())) e8
def iv (a0:List Int):Option (Bool×Unit):=oL a0 some
theorem Ij {ρ:Type} (a0:List Int) (k:Bool×Unit→Option ρ):oL a0 k=(iv a0).bind k:=by
 simp only [iv,oL,bR,Option.bind_assoc,Option.bind_some]
abbrev Ce:bm:=bD [.ty (.ls (.i .i64))] [.b] fun x=>iv x.1
theorem Mw:aA Tryz.prog 227 Ce:=
 al (Λ:=aK [(ce nw,xP)]) (fn:=Tryz.f227) aM wx af (by kernel_rfl) (aG (by kernel_rfl:_= [nw]) (aN (q:=ce nw) rfl Cd fun _ _ _=>by kernel_rfl)) (by kernel_rfl) (fun x=>iv x.1)
  (fun x=>Eq.trans (by kernel_rfl:_=oL x.1 (fun y=>ret (aD [.b] y) fun v g=>some (v,g))) (Ij x.1 _)) fun _ _ h=>h
abbrev Cf:List (Nat×bm):= []
theorem wy:ar Tryz.prog (aL Cf):=ak _
noncomputable abbrev ny:Code:=cb (b8 Tryz.f214) 0
abbrev dZ:ep:=⟨[(0, .cl (.ro (.i .i64))),(1, .cl (.int .i64)),(7, .cl (.int .i64)),(8, .cl (.int .i64))],[],[],0,19⟩
abbrev jh:List (X×ep):= [(.ret,⟨[(4, .cl (.int .i64))],[],[],0,19⟩),(.ext 0,⟨[(4, .cl (.dead))],[],[],0,19⟩)]
def jH {ρ:Type} (v1:List Int) (v2:Int) (v3:Int) (v4:Int) (fn: (((List Int)×Int×Int×Int×Unit)×(Unit)×(Unit))→Option ρ) (fe: ((Int×Unit)×(Unit)×(Unit))⊕((Unit×Unit)×(Unit)×(Unit))→Option ρ):Option ρ:=
 br (decide (v4 < v3)) (aq (0≤v4) ((v1[v4.toNat]?).bind fun x5=>br (v2==x5) (fe (.inl ((v4,()),(()),(())))) (fn ((v1,v2,v3,(IntKind.wrap .i64 (v4+1)),()),(()),(())))) none) (fe (.inr (((),()),(()),(()))))
def eN (s:dZ.D):Option (dZ.D⊕bh.D jh):=jH s.1.1 s.1.2.1 s.1.2.2.1 s.1.2.2.2.1 (fun s=>some (.inl s)) (fun e=>some (.inr e))
def nz:dZ.D→Option (bh.D jh):=jB eN
theorem DX {ρ:Type} (s:dZ.D) (fn:dZ.D→Option ρ) (fe:bh.D jh→Option ρ):jH s.1.1 s.1.2.1 s.1.2.2.1 s.1.2.2.2.1 fn fe=(eN s).bind (Sum.elim fn fe):=by
 simp only [eN,jH,am,ap,Option.bind_none,Option.bind_assoc,Option.bind_some,Sum.elim_inl,Sum.elim_inr]
abbrev xQ:cU:=dh [] [0,1,7,8] dZ jh nz
theorem Cg (s:dZ.D):ev Θ (aL Cf) (aK []) ny (dZ.mk' s) (c6 [0,1,7,8] [4] fun x S=>some (x,S))=(eN s).bind (Sum.elim (fun s'=>some (.nor,dZ.mk' s')) fun e=>some (bh.e jh e)):=
 Eq.trans (by kernel_rfl:_=jH s.1.1 s.1.2.1 s.1.2.2.1 s.1.2.2.2.1 (fun s'=>some (.nor,dZ.mk' s')) (fun e=>some (bh.e jh e))) (DX s _ _)
theorem Ch:b7 Tryz.prog ny xQ:=ba aM wy af (by kernel_rfl) (dp (by kernel_rfl:_= []) ah) [] [0,1,7,8] [4] dZ jh (by kernel_rfl) eN Cg nz (f9 eN) (aO eN)
def oM {ρ:Type} (a0:List Int) (a1:Int) (k:Int×Unit→Option ρ):Option ρ:=
 (nz ((a0,a1,(a0.length:Int),0,()),(()),(()))).bind fun e6=>Sum.elim (fun e6_=>k (e6_.1.1,())) (fun e6_=>k ((-1),())) e6
def n8 (a0:List Int) (a1:Int):Option (Int×Unit):=oM a0 a1 some
theorem Ik {ρ:Type} (a0:List Int) (a1:Int) (k:Int×Unit→Option ρ):oM a0 a1 k=(n8 a0 a1).bind k:=by
 simp only [n8,oM,bR,Option.bind_assoc,Option.bind_some]
abbrev Ci:bm:=bD [.ty (.ls (.i .i64)), .ty (.i .i64)] [.i .i64] fun x=>n8 x.1 x.2.1
theorem Mx:aA Tryz.prog 214 Ci:=
 al (Λ:=aK [(ce ny,xQ)]) (fn:=Tryz.f214) aM wy af (by kernel_rfl) (aG (by kernel_rfl:_= [ny]) (aN (q:=ce ny) rfl Ch fun _ _ _=>by kernel_rfl)) (by kernel_rfl) (fun x=>n8 x.1 x.2.1)
  (fun x=>Eq.trans (by kernel_rfl:_=oM x.1 x.2.1 (fun y=>ret (aD [.i .i64] y) fun v g=>some (v,g))) (Ik x.1 x.2.1 _)) fun _ _ h=>h
abbrev FW:List (Nat×bm):= [(214,Ci)]
theorem AN:ar Tryz.prog (aL FW):=ae Mx <| ak _
def kW {ρ:Type} (a0:List Int) (a1:Int) (k:Bool×Unit→Option ρ):Option ρ:=
 (n8 a0 a1).bind fun y1=>k ((decide (y1.1≥0)),())
def jI (a0:List Int) (a1:Int):Option (Bool×Unit):=kW a0 a1 some
theorem Cj {ρ:Type} (a0:List Int) (a1:Int) (k:Bool×Unit→Option ρ):kW a0 a1 k=(jI a0 a1).bind k:=by
 simp only [jI,kW,Option.bind_assoc,Option.bind_some]
abbrev wz:bm:=bD [.ty (.ls (.i .i64)), .ty (.i .i64)] [.b] fun x=>jI x.1 x.2.1
theorem FX:aA Tryz.prog 144 wz:=
 al (Λ:=aK []) (fn:=Tryz.f144) aM AN af (by kernel_rfl) (aG (by kernel_rfl:_= []) ah) (by kernel_rfl) (fun x=>jI x.1 x.2.1)
  (fun x=>Eq.trans (by kernel_rfl:_=kW x.1 x.2.1 (fun y=>ret (aD [.b] y) fun v g=>some (v,g))) (Cj x.1 x.2.1 _)) fun _ _ h=>h
abbrev OJ:List (Nat×bm):= [(144,wz)]
theorem Il:ar Tryz.prog (aL OJ):=ae FX <| ak _
def qg {ρ:Type} (a0:List Int) (a1:Int) (k:Bool×Unit→Option ρ):Option ρ:=
 (jI a0 a1).bind fun y1=>k (y1.1,())
def iG (a0:List Int) (a1:Int):Option (Bool×Unit):=qg a0 a1 some
theorem JU {ρ:Type} (a0:List Int) (a1:Int) (k:Bool×Unit→Option ρ):qg a0 a1 k=(iG a0 a1).bind k:=by
 simp only [iG,qg,Option.bind_assoc,Option.bind_some]
abbrev tY:bm:=bD [.ty (.ls (.i .i64)), .ty (.i .i64)] [.b] fun x=>iG x.1 x.2.1
theorem xR:aA Tryz.prog 66 tY:=
 al (Λ:=aK []) (fn:=Tryz.f66) aM Il af (by kernel_rfl) (aG (by kernel_rfl:_= []) ah) (by kernel_rfl) (fun x=>iG x.1 x.2.1)
  (fun x=>Eq.trans (by kernel_rfl:_=qg x.1 x.2.1 (fun y=>ret (aD [.b] y) fun v g=>some (v,g))) (JU x.1 x.2.1 _)) fun _ _ h=>h
abbrev Qt:List (Nat×bm):= []
theorem JV:ar Tryz.prog (aL Qt):=ak _
def tZ {ρ:Type} (a0:Int) (k:Int×Unit→Option ρ):Option ρ:=
 br (decide (a0≥4294967296)) (none) (br (decide (a0≥65536)) (none) (br (decide (a0≥256)) (none) (aq (0≤(IntKind.wrap .u8 a0)) ((YC[(IntKind.wrap .u8 a0).toNat]?).bind fun x1=>k ((IntKind.wrap .i64 (0+(IntKind.wrap .i64 (x1.toNat:Int)))),())) none)))
def s7 (a0:Int):Option (Int×Unit):=tZ a0 some
theorem My {ρ:Type} (a0:Int) (k:Int×Unit→Option ρ):tZ a0 k=(s7 a0).bind k:=by
 simp only [s7,tZ,am,ap,Option.bind_none,Option.bind_assoc,Option.bind_some]
abbrev Im:bm:=bD [.ty (.i .u64)] [.i .i64] fun x=>s7 x.1
theorem Qu:aA Tryz.prog 298 Im:=
 al (Λ:=aK []) (fn:=Tryz.f298) aM JV af (by kernel_rfl) (aG (by kernel_rfl:_= []) ah) (by kernel_rfl) (fun x=>s7 x.1)
  (fun x=>Eq.trans (by kernel_rfl:_=tZ x.1 (fun y=>ret (aD [.i .i64] y) fun v g=>some (v,g))) (My x.1 _)) fun _ _ h=>h
abbrev UB:List (Nat×bm):= [(298,Im)]
theorem OK:ar Tryz.prog (aL UB):=ae Qu <| ak _
def yU {ρ:Type} (a0:Int) (k:Int×Unit→Option ρ):Option ρ:=
 (s7 a0).bind fun y1=>k (y1.1,())
def vb (a0:Int):Option (Int×Unit):=yU a0 some
theorem Qv {ρ:Type} (a0:Int) (k:Int×Unit→Option ρ):yU a0 k=(vb a0).bind k:=by
 simp only [vb,yU,Option.bind_assoc,Option.bind_some]
abbrev OL:bm:=bD [.ty (.i .u64)] [.i .i64] fun x=>vb x.1
theorem UC:aA Tryz.prog 268 OL:=
 al (Λ:=aK []) (fn:=Tryz.f268) aM OK af (by kernel_rfl) (aG (by kernel_rfl:_= []) ah) (by kernel_rfl) (fun x=>vb x.1)
  (fun x=>Eq.trans (by kernel_rfl:_=yU x.1 (fun y=>ret (aD [.i .i64] y) fun v g=>some (v,g))) (Qv x.1 _)) fun _ _ h=>h
abbrev JW:List (Nat×bm):= []
theorem DY:ar Tryz.prog (aL JW):=ak _
def nA {ρ:Type} (a0:Int) (k:Bool×Unit→Option ρ):Option ρ:=
 k ((!(a0==a0)),())
def km (a0:Int):Option (Bool×Unit):=nA a0 some
theorem FY {ρ:Type} (a0:Int) (k:Bool×Unit→Option ρ):nA a0 k=(km a0).bind k:=by
 simp only [km,nA,Option.bind_some]
abbrev zS:bm:=bD [.ty (.i .i64)] [.b] fun x=>km x.1
theorem JX:aA Tryz.prog 314 zS:=
 al (Λ:=aK []) (fn:=Tryz.f314) aM DY af (by kernel_rfl) (aG (by kernel_rfl:_= []) ah) (by kernel_rfl) (fun x=>km x.1)
  (fun x=>Eq.trans (by kernel_rfl:_=nA x.1 (fun y=>ret (aD [.b] y) fun v g=>some (v,g))) (FY x.1 _)) fun _ _ h=>h
abbrev Mz:List (Nat×bm):= [(314,zS)]
theorem FZ:ar Tryz.prog (aL Mz):=ae JX <| ak _
def oO {ρ:Type} (a0:Int) (a1:Int) (k:Bool×Unit→Option ρ):Option ρ:=
 (km a0).bind fun y1=>br y1.1 ((km a1).bind fun y2=>br (!y2.1) (k (true,())) (k ((decide (a0 < a1)),()))) (k ((decide (a0 < a1)),()))
def lG (a0:Int) (a1:Int):Option (Bool×Unit):=oO a0 a1 some
theorem Io {ρ:Type} (a0:Int) (a1:Int) (k:Bool×Unit→Option ρ):oO a0 a1 k=(lG a0 a1).bind k:=by
 simp only [lG,oO,am,Option.bind_assoc,Option.bind_some]
abbrev Ck:bm:=bD [.ty (.i .i64), .ty (.i .i64)] [.b] fun x=>lG x.1 x.2.1
theorem MA:aA Tryz.prog 294 Ck:=
 al (Λ:=aK []) (fn:=Tryz.f294) aM FZ af (by kernel_rfl) (aG (by kernel_rfl:_= []) ah) (by kernel_rfl) (fun x=>lG x.1 x.2.1)
  (fun x=>Eq.trans (by kernel_rfl:_=oO x.1 x.2.1 (fun y=>ret (aD [.b] y) fun v g=>some (v,g))) (Io x.1 x.2.1 _)) fun _ _ h=>h
abbrev gm:List (Nat×bm):= [(294,Ck)]
theorem fp:ar Tryz.prog (aL gm):=ae MA <| ak _
noncomputable abbrev ct:Code:=cb (b8 Tryz.f288) 0
noncomputable abbrev cY:Code:=cb ct 0
abbrev aW:ep:=⟨[(0, .cl (.own 0 (.i .i64))),(1, .cl (.int .i64)),(2, .cl (.int .i64)),(6, .cl (.int .i64)),(7, .cl (.int .i64))],[],[.i .i64],1,49⟩
abbrev bP:List (X×ep):= [(.ext 2,⟨[(0, .cl (.own 0 (.i .i64))),(1, .cl (.int .i64)),(2, .cl (.int .i64)),(6, .cl (.int .i64))],[],[.i .i64],1,49⟩)]
def cS {ρ:Type} (v5:List Int) (v6:Int) (v7:Int) (v8:Int) (v9:Int) (fn: ((Unit×Int×Int×Int×Int×Unit)×(Unit)×((List Int)×Unit))→Option ρ) (fe: ((Unit×Int×Int×Int×Unit)×(Unit)×((List Int)×Unit))→Option ρ):Option ρ:=
 br (decide (v9 > v6)) (aq (0≤v9∧v9 < (v5.length:Int)) ((v5[v9.toNat]?).bind fun x10=>aq (0≤(IntKind.wrap .i64 (v9 - 1))∧(IntKind.wrap .i64 (v9 - 1)) < (v5.length:Int)) ((v5[(IntKind.wrap .i64 (v9 - 1)).toNat]?).bind fun x11=>(lG x10 x11).bind fun y12=>br y12.1 (aq (0≤(IntKind.wrap .i64 (v9 - 1))∧(IntKind.wrap .i64 (v9 - 1)) < (v5.length:Int)) ((v5[(IntKind.wrap .i64 (v9 - 1)).toNat]?).bind fun x13=>aq (0≤v9∧v9 < (v5.length:Int)) ((v5[v9.toNat]?).bind fun x14=>aq (0≤v9∧v9 < (v5.length:Int)) (aq (0≤(IntKind.wrap .i64 (v9 - 1))∧(IntKind.wrap .i64 (v9 - 1)) < (v5.length:Int)) ((v5[v9.toNat]?).bind fun _=>let z16:=v5.set v9.toNat x13; (z16[(IntKind.wrap .i64 (v9 - 1)).toNat]?).bind fun _=>fn (((),v6,v7,v8,(IntKind.wrap .i64 (v9 - 1)),()),(()),((z16.set ((IntKind.wrap .i64 (v9 - 1)).toNat) x14),()))) none) none) none) none) (fe (((),v6,v7,v8,()),(()),(v5,())))) none) none) (fe (((),v6,v7,v8,()),(()),(v5,())))
def bC (s:aW.D):Option (aW.D⊕bh.D bP):=cS s.2.2.1 s.1.2.1 s.1.2.2.1 s.1.2.2.2.1 s.1.2.2.2.2.1 (fun s=>some (.inl s)) (fun e=>some (.inr e))
def dQ:aW.D→Option (bh.D bP):=jB bC
theorem ph {ρ:Type} (s:aW.D) (fn:aW.D→Option ρ) (fe:bh.D bP→Option ρ):cS s.2.2.1 s.1.2.1 s.1.2.2.1 s.1.2.2.2.1 s.1.2.2.2.2.1 fn fe=(bC s).bind (Sum.elim fn fe):=by
 simp only [bC,cS,am,ap,Option.bind_none,Option.bind_assoc,Option.bind_some,Sum.elim_inl,Sum.elim_inr]
abbrev jV:cU:=dh [] [0,1,2,6,7] aW bP dQ
theorem oP (s:aW.D):ev Θ (aL gm) (aK []) cY (aW.mk' s) (c6 [0,1,2,6,7] [0,1,2,6] fun x S=>some (x,S))=(bC s).bind (Sum.elim (fun s'=>some (.nor,aW.mk' s')) fun e=>some (bh.e bP e)):=
 Eq.trans (by kernel_rfl:_=cS s.2.2.1 s.1.2.1 s.1.2.2.1 s.1.2.2.2.1 s.1.2.2.2.2.1 (fun s'=>some (.nor,aW.mk' s')) (fun e=>some (bh.e bP e))) (ph s _ _)
theorem oQ:b7 Tryz.prog cY jV:=ba aM fp af (by kernel_rfl) (dp (by kernel_rfl:_= []) ah) [] [0,1,2,6,7] [0,1,2,6] aW bP (by kernel_rfl) bC oP dQ (f9 bC) (aO bC)
abbrev aX:ep:=⟨[(0, .cl (.own 0 (.i .i64))),(1, .cl (.int .i64)),(2, .cl (.int .i64)),(6, .cl (.int .i64))],[],[.i .i64],1,49⟩
abbrev bQ:List (X×ep):= [(.ext 0,⟨[],[],[.i .i64],1,49⟩)]
def cf {ρ:Type} (v1:List Int) (v2:Int) (v3:Int) (v4:Int) (fn: ((Unit×Int×Int×Int×Unit)×(Unit)×((List Int)×Unit))→Option ρ) (fe: ((Unit)×(Unit)×((List Int)×Unit))→Option ρ):Option ρ:=
 br (decide (v4 < v3)) ((dQ (((),v2,v3,v4,v4,()),(()),(v1,()))).bind fun e19=>fn (((),e19.1.2.1,e19.1.2.2.1,(IntKind.wrap .i64 (e19.1.2.2.2.1+1)),()),(()),(e19.2.2.1,()))) (fe ((()),(()),(v1,())))
def bc (s:aX.D):Option (aX.D⊕bh.D bQ):=cf s.2.2.1 s.1.2.1 s.1.2.2.1 s.1.2.2.2.1 (fun s=>some (.inl s)) (fun e=>some (.inr e))
def dR:aX.D→Option (bh.D bQ):=jB bc
theorem pi {ρ:Type} (s:aX.D) (fn:aX.D→Option ρ) (fe:bh.D bQ→Option ρ):cf s.2.2.1 s.1.2.1 s.1.2.2.1 s.1.2.2.2.1 fn fe=(bc s).bind (Sum.elim fn fe):=by
 simp only [bc,cf,am,Option.bind_assoc,Option.bind_some,Sum.elim_inl,Sum.elim_inr]
abbrev jW:cU:=dh [] [0,1,2,6] aX bQ dR
theorem oS (s:aX.D):ev Θ (aL gm) (aK [(ce cY,jV)]) ct (aX.mk' s) (c6 [0,1,2,6] [] fun x S=>some (x,S))=(bc s).bind (Sum.elim (fun s'=>some (.nor,aX.mk' s')) fun e=>some (bh.e bQ e)):=
 Eq.trans (by kernel_rfl:_=cf s.2.2.1 s.1.2.1 s.1.2.2.1 s.1.2.2.2.1 (fun s'=>some (.nor,aX.mk' s')) (fun e=>some (bh.e bQ e))) (pi s _ _)
theorem oT:b7 Tryz.prog ct jW:=ba aM fp af (by kernel_rfl) (dp (by kernel_rfl:_= [cY]) (aN (q:=ce cY) rfl oQ fun _ _ _=>by kernel_rfl)) [] [0,1,2,6] [] aX bQ (by kernel_rfl) bc oS dR (f9 bc) (aO bc)
def df {ρ:Type} (a0:List Int) (a1:Int) (a2:Int) (k: (List Int)×Unit→Option ρ):Option ρ:=
 (dR (((),a1,a2,(IntKind.wrap .i64 (a1+1)),()),(()),(a0,()))).bind fun e20=>k (e20.2.2.1,())
def cc (a0:List Int) (a1:Int) (a2:Int):Option ((List Int)×Unit):=df a0 a1 a2 some
theorem qh {ρ:Type} (a0:List Int) (a1:Int) (a2:Int) (k: (List Int)×Unit→Option ρ):df a0 a1 a2 k=(cc a0 a1 a2).bind k:=by
 simp only [cc,df,Option.bind_assoc,Option.bind_some]
abbrev kX:bm:=Jq (.i .i64) [.ty (.i .i64), .ty (.i .i64)] [] fun l x=>cc l x.1 x.2.1
theorem qY:aA Tryz.prog (oo 288) kX:=
 tK (Λ:=aK [(ce ct,jW)]) (fn:=Tryz.f288) aM fp af (by kernel_rfl) (aG (by kernel_rfl:_= [ct]) (aN (q:=ce ct) rfl oT fun _ _ _=>by kernel_rfl)) (by kernel_rfl) (fun l x=>cc l x.1 x.2.1)
  (fun l x=>Eq.trans (by kernel_rfl:_=df l x.1 x.2.1 (fun y=>Jp (.i .i64) [] y fun v g=>some (v,g))) (qh l x.1 x.2.1 _)) fun _ _ _ h=>h
abbrev oU:List (Nat×bm):= [(oo 288,kX)]
theorem mB:ar Tryz.prog (aL oU):=ae qY <| ak _
noncomputable abbrev ea:Code:=cb (b8 Tryz.f267) 0
abbrev bo:ep:=⟨[(0, .cl (.own 0 (.i .i64))),(1, .cl (.int .i64)),(2, .cl (.int .i64)),(3, .cl (.int .i64)),(8, .cl (.bl)),(9, .cl (.bl))],[],[.i .i64],1,134⟩
abbrev cJ:List (X×ep):= [(.ret,⟨[],[],[.i .i64],1,134⟩)]
def dS {ρ:Type} (v1:List Int) (v2:Int) (v3:Int) (v4:Int) (v5:Bool) (_v6:Bool) (fn: ((Unit×Int×Int×Int×Bool×Bool×Unit)×(Unit)×((List Int)×Unit))→Option ρ) (fe: ((Unit)×(Unit)×((List Int)×Unit))→Option ρ):Option ρ:=
 br (decide ((IntKind.wrap .i64 (v3 - v2))≤12)) ((cc v1 v2 v3).bind fun y7=>aq (y7.1.length=v1.length) (fe ((()),(()),(y7.1,()))) none) (br (v4==0) (none) (br (!v5) (none) (none)))
def cj (s:bo.D):Option (bo.D⊕bh.D cJ):=dS s.2.2.1 s.1.2.1 s.1.2.2.1 s.1.2.2.2.1 s.1.2.2.2.2.1 s.1.2.2.2.2.2.1 (fun s=>some (.inl s)) (fun e=>some (.inr e))
def fD:bo.D→Option (bh.D cJ):=jB cj
theorem rP {ρ:Type} (s:bo.D) (fn:bo.D→Option ρ) (fe:bh.D cJ→Option ρ):dS s.2.2.1 s.1.2.1 s.1.2.2.1 s.1.2.2.2.1 s.1.2.2.2.2.1 s.1.2.2.2.2.2.1 fn fe=(cj s).bind (Sum.elim fn fe):=by
 simp only [cj,dS,am,ap,Option.bind_none,Option.bind_assoc,Option.bind_some,Sum.elim_inr]
abbrev nB:cU:=dh [] [0,1,2,3,8,9] bo cJ fD
theorem rE (s:bo.D):ev Θ (aL oU) (aK []) ea (bo.mk' s) (c6 [0,1,2,3,8,9] [] fun x S=>some (x,S))=(cj s).bind (Sum.elim (fun s'=>some (.nor,bo.mk' s')) fun e=>some (bh.e cJ e)):=
 Eq.trans (by kernel_rfl:_=dS s.2.2.1 s.1.2.1 s.1.2.2.1 s.1.2.2.2.1 s.1.2.2.2.2.1 s.1.2.2.2.2.2.1 (fun s'=>some (.nor,bo.mk' s')) (fun e=>some (bh.e cJ e))) (rP s _ _)
theorem rF:b7 Tryz.prog ea nB:=ba aM mB af (by kernel_rfl) (dp (by kernel_rfl:_= []) ah) [] [0,1,2,3,8,9] [] bo cJ (by kernel_rfl) cj rE fD (f9 cj) (aO cj)
def ew {ρ:Type} (a0:List Int) (a1:Int) (a2:Int) (a3:Int) (k: (List Int)×Unit→Option ρ):Option ρ:=
 (fD (((),a1,a2,a3,true,true,()),(()),(a0,()))).bind fun e8=>k (e8.2.2.1,())
def c7 (a0:List Int) (a1:Int) (a2:Int) (a3:Int):Option ((List Int)×Unit):=ew a0 a1 a2 a3 some
theorem s8 {ρ:Type} (a0:List Int) (a1:Int) (a2:Int) (a3:Int) (k: (List Int)×Unit→Option ρ):ew a0 a1 a2 a3 k=(c7 a0 a1 a2 a3).bind k:=by
 simp only [c7,ew,Option.bind_assoc,Option.bind_some]
abbrev oV:bm:=Jq (.i .i64) [.ty (.i .i64), .ty (.i .i64), .ty (.i .i64)] [] fun l x=>c7 l x.1 x.2.1 x.2.2.1
theorem uy:aA Tryz.prog (oo 267) oV:=
 tK (Λ:=aK [(ce ea,nB)]) (fn:=Tryz.f267) aM mB af (by kernel_rfl) (aG (by kernel_rfl:_= [ea]) (aN (q:=ce ea) rfl rF fun _ _ _=>by kernel_rfl)) (by kernel_rfl) (fun l x=>c7 l x.1 x.2.1 x.2.2.1)
  (fun l x=>Eq.trans (by kernel_rfl:_=ew l x.1 x.2.1 x.2.2.1 (fun y=>Jp (.i .i64) [] y fun v g=>some (v,g))) (s8 l x.1 x.2.1 x.2.2.1 _)) fun _ _ _ h=>h
abbrev Ip:List (Nat×bm):= [(268,OL),(oo 267,oV)]
theorem Cm:ar Tryz.prog (aL Ip):=ae UC <| ae uy <| ak _
def lU {ρ:Type} (a0:List Int) (k: (List Int)×Unit→Option ρ):Option ρ:=
 (vb (IntKind.wrap .u64 (a0.length:Int))).bind fun y1=>(c7 a0 0 (a0.length:Int) y1.1).bind fun y2=>aq (y2.1.length=a0.length) (k (y2.1,())) none
def ji (a0:List Int):Option ((List Int)×Unit):=lU a0 some
theorem DZ {ρ:Type} (a0:List Int) (k: (List Int)×Unit→Option ρ):lU a0 k=(ji a0).bind k:=by
 simp only [ji,lU,ap,Option.bind_none,Option.bind_assoc,Option.bind_some]
abbrev xS:bm:=Jq (.i .i64) [] [] fun l _=>ji l
theorem Iq:aA Tryz.prog (oo 216) xS:=
 tK (Λ:=aK []) (fn:=Tryz.f216) aM Cm af (by kernel_rfl) (aG (by kernel_rfl:_= []) ah) (by kernel_rfl) (fun l _=>ji l)
  (fun l _=>Eq.trans (by kernel_rfl:_=lU l (fun y=>Jp (.i .i64) [] y fun v g=>some (v,g))) (DZ l _)) fun _ _ _ h=>h
abbrev t4:List (Nat×bm):= []
theorem rG:ar Tryz.prog (aL t4):=ak _
noncomputable abbrev fO:Code:=cb (b8 Tryz.f217) 0
noncomputable abbrev rZ:Code:=cb fO 0
abbrev cz:ep:=⟨[(0, .cl (.own 0 (.i .i64))),(3, .cl (.int .i64))],[],[.i .i64],0,61⟩
abbrev ey:List (X×ep):= [(.ext 0,⟨[(0, .cl (.own 0 (.i .i64))),(2, .cl (.dead))],[],[.i .i64],0,61⟩)]
def fj {ρ:Type} (v1:List Int) (v2:Int) (fn: ((Unit×Int×Unit)×(Unit)×((List Int)×Unit))→Option ρ) (fe: ((Unit×Unit×Unit)×(Unit)×((List Int)×Unit))→Option ρ):Option ρ:=
 br (decide (v2 < (v1.length:Int))) (aq (0≤v2∧v2 < (v1.length:Int)) ((v1[v2.toNat]?).bind fun x3=>aq (0≤(IntKind.wrap .i64 (v2 - 1))∧(IntKind.wrap .i64 (v2 - 1)) < (v1.length:Int)) ((v1[(IntKind.wrap .i64 (v2 - 1)).toNat]?).bind fun x4=>br (x3==x4) (aq (0≤v2∧v2≤(v1.length:Int)∧(v1.length:Int)≤((v1.length:Nat):Int)) (none) none) (fn (((),(IntKind.wrap .i64 (v2+1)),()),(()),(v1,())))) none) none) (fe (((),(),()),(()),(v1,())))
def cQ (s:cz.D):Option (cz.D⊕bh.D ey):=fj s.2.2.1 s.1.2.1 (fun s=>some (.inl s)) (fun e=>some (.inr e))
def kA:cz.D→Option (bh.D ey):=jB cQ
theorem wU {ρ:Type} (s:cz.D) (fn:cz.D→Option ρ) (fe:bh.D ey→Option ρ):fj s.2.2.1 s.1.2.1 fn fe=(cQ s).bind (Sum.elim fn fe):=by
 simp only [cQ,fj,am,ap,Option.bind_none,Option.bind_assoc,Option.bind_some,Sum.elim_inl,Sum.elim_inr]
abbrev sa:cU:=dh [] [0,3] cz ey kA
theorem vR (s:cz.D):ev Θ (aL t4) (aK []) fO (cz.mk' s) (c6 [0,3] [0,2] fun x S=>some (x,S))=(cQ s).bind (Sum.elim (fun s'=>some (.nor,cz.mk' s')) fun e=>some (bh.e ey e)):=
 Eq.trans (by kernel_rfl:_=fj s.2.2.1 s.1.2.1 (fun s'=>some (.nor,cz.mk' s')) (fun e=>some (bh.e ey e))) (wU s _ _)
theorem vS:b7 Tryz.prog fO sa:=ba aM rG af (by kernel_rfl) (dp (by kernel_rfl:_= [rZ]) (Ul (q:=ce rZ) rfl fun _ _ _=>by kernel_rfl)) [] [0,3] [0,2] cz ey (by kernel_rfl) cQ vR kA (f9 cQ) (aO cQ)
def jj {ρ:Type} (a0:List Int) (k: (List Int)×Unit→Option ρ):Option ρ:=
 br (decide ((a0.length:Int) < 2)) (k (a0,())) ((kA (((),1,()),(()),(a0,()))).bind fun e5=>k (e5.2.2.1,()))
def fE (a0:List Int):Option ((List Int)×Unit):=jj a0 some
theorem zi {ρ:Type} (a0:List Int) (k: (List Int)×Unit→Option ρ):jj a0 k=(fE a0).bind k:=by
 simp only [fE,jj,am,Option.bind_assoc,Option.bind_some]
abbrev t5:bm:=VS (.i .i64) [] [.ls (.i .i64)] fun l _=>fE l
theorem Cn:aA Tryz.prog (Hd 217) t5:=
 Rl (Λ:=aK [(ce fO,sa)]) (fn:=Tryz.f217) aM rG af (by kernel_rfl) (aG (by kernel_rfl:_= [fO]) (aN (q:=ce fO) rfl vS fun _ _ _=>by kernel_rfl)) (fun l _=>fE l)
  (fun l _=>Eq.trans (by kernel_rfl:_=jj l (fun y=>ret (aD [.ls (.i .i64)] y) fun v g=>some (v,g))) (zi l _)) fun _ _ _ h=>h
abbrev OM:List (Nat×bm):= [(164,vQ),(oo 216,xS),(Hd 217,t5)]
theorem Ir:ar Tryz.prog (aL OM):=ae B4 <| ae Iq <| ae Cn <| ak _
def qi {ρ:Type} (a0:List Int) (k: (List Int)×Unit→Option ρ):Option ρ:=
 (lE a0).bind fun y1=>(ji y1.1).bind fun y2=>aq (y2.1.length=y1.1.length) ((fE y2.1).bind fun y3=>k (y3.1,())) none
def nC (a0:List Int):Option ((List Int)×Unit):=qi a0 some
theorem JY {ρ:Type} (a0:List Int) (k: (List Int)×Unit→Option ρ):qi a0 k=(nC a0).bind k:=by
 simp only [nC,qi,ap,Option.bind_none,Option.bind_assoc,Option.bind_some]
abbrev Fb:bm:=bD [.ty (.ls (.i .i64))] [.ls (.i .i64)] fun x=>nC x.1
theorem OO:aA Tryz.prog 150 Fb:=
 al (Λ:=aK []) (fn:=Tryz.f150) aM Ir af (by kernel_rfl) (aG (by kernel_rfl:_= []) ah) (by kernel_rfl) (fun x=>nC x.1)
  (fun x=>Eq.trans (by kernel_rfl:_=qi x.1 (fun y=>ret (aD [.ls (.i .i64)] y) fun v g=>some (v,g))) (JY x.1 _)) fun _ _ h=>h
abbrev zj:List (Nat×bm):= [(66,tY)]
theorem vT:ar Tryz.prog (aL zj):=ae xR <| ak _
def gU {ρ:Type} (a0:Int) (a1:List Int) (k:Bool×Unit→Option ρ):Option ρ:=
 (iG a1 a0).bind fun y1=>k (y1.1,())
def dK (a0:Int) (a1:List Int):Option (Bool×Unit):=gU a0 a1 some
theorem wV {ρ:Type} (a0:Int) (a1:List Int) (k:Bool×Unit→Option ρ):gU a0 a1 k=(dK a0 a1).bind k:=by
 simp only [dK,gU,Option.bind_assoc,Option.bind_some]
abbrev ot:bm:=bD [.ty (.i .i64), .pr (.ls (.i .i64))] [.b] fun x=>dK x.1 x.2.1
theorem sb:aA Tryz.prog 151 ot:=
 al (Λ:=aK []) (fn:=Tryz.f151) aM vT af (by kernel_rfl) (aG (by kernel_rfl:_= []) ah) (by kernel_rfl) (fun x=>dK x.1 x.2.1)
  (fun x=>Eq.trans (by kernel_rfl:_=gU x.1 x.2.1 (fun y=>ret (aD [.b] y) fun v g=>some (v,g))) (wV x.1 x.2.1 _)) fun _ _ h=>h
abbrev iH:List (Nat×bm):= [(151,ot)]
theorem gV:ar Tryz.prog (aL iH):=ae sb <| ak _
noncomputable abbrev cu:Code:=cb (b8 Tryz.f143) 0
abbrev aI:ep:=⟨[(0, .cl (.ro (.i .i64))),(1, .fn 151 [.pro (.ls (.i .i64))]),(7, .cl (.int .i64)),(8, .cl (.int .i64))],[],[],0,19⟩
abbrev bu:List (X×ep):= [(.ret,⟨[(4, .cl (.int .i64))],[],[],0,19⟩),(.ext 0,⟨[(4, .cl (.dead))],[],[],0,19⟩)]
def bI {ρ:Type} (v1:List Int) (v2:List Int) (v3:Int) (v4:Int) (fn: (((List Int)×((List Int)×Unit)×Int×Int×Unit)×(Unit)×(Unit))→Option ρ) (fe: ((Int×Unit)×(Unit)×(Unit))⊕((Unit×Unit)×(Unit)×(Unit))→Option ρ):Option ρ:=
 br (decide (v4 < v3)) (aq (0≤v4) ((v1[v4.toNat]?).bind fun x5=>(dK x5 v2).bind fun y6=>br y6.1 (fe (.inl ((v4,()),(()),(())))) (fn ((v1,(v2,()),v3,(IntKind.wrap .i64 (v4+1)),()),(()),(())))) none) (fe (.inr (((),()),(()),(()))))
def aP (s:aI.D):Option (aI.D⊕bh.D bu):=bI s.1.1 s.1.2.1.1 s.1.2.2.1 s.1.2.2.2.1 (fun s=>some (.inl s)) (fun e=>some (.inr e))
def cv:aI.D→Option (bh.D bu):=jB aP
theorem mH {ρ:Type} (s:aI.D) (fn:aI.D→Option ρ) (fe:bh.D bu→Option ρ):bI s.1.1 s.1.2.1.1 s.1.2.2.1 s.1.2.2.2.1 fn fe=(aP s).bind (Sum.elim fn fe):=by
 simp only [aP,bI,am,ap,Option.bind_none,Option.bind_assoc,Option.bind_some,Sum.elim_inl,Sum.elim_inr]
abbrev hQ:cU:=dh [] [0,1,7,8] aI bu cv
theorem mp (s:aI.D):ev Θ (aL iH) (aK []) cu (aI.mk' s) (c6 [0,1,7,8] [4] fun x S=>some (x,S))=(aP s).bind (Sum.elim (fun s'=>some (.nor,aI.mk' s')) fun e=>some (bh.e bu e)):=
 Eq.trans (by kernel_rfl:_=bI s.1.1 s.1.2.1.1 s.1.2.2.1 s.1.2.2.2.1 (fun s'=>some (.nor,aI.mk' s')) (fun e=>some (bh.e bu e))) (mH s _ _)
theorem mq:b7 Tryz.prog cu hQ:=ba aM gV af (by kernel_rfl) (dp (by kernel_rfl:_= []) ah) [] [0,1,7,8] [4] aI bu (by kernel_rfl) aP mp cv (f9 aP) (aO aP)
def cA {ρ:Type} (a0:List Int) (a1_0:List Int) (k:Int×Unit→Option ρ):Option ρ:=
 (cv ((a0,(a1_0,()),(a0.length:Int),0,()),(()),(()))).bind fun e7=>Sum.elim (fun e7_=>k (e7_.1.1,())) (fun e7_=>k ((-1),())) e7
def bW (a0:List Int) (a1_0:List Int):Option (Int×Unit):=cA a0 a1_0 some
theorem n9 {ρ:Type} (a0:List Int) (a1_0:List Int) (k:Int×Unit→Option ρ):cA a0 a1_0 k=(bW a0 a1_0).bind k:=by
 simp only [bW,cA,bR,Option.bind_assoc,Option.bind_some]
abbrev iI:bm:=bD [.ty (.ls (.i .i64)), .fn 151 [.ls (.i .i64)]] [.i .i64] fun x=>bW x.1 x.2.1.1
theorem oW:aA Tryz.prog 143 iI:=
 al (Λ:=aK [(ce cu,hQ)]) (fn:=Tryz.f143) aM gV af (by kernel_rfl) (aG (by kernel_rfl:_= [cu]) (aN (q:=ce cu) rfl mq fun _ _ _=>by kernel_rfl)) (by kernel_rfl) (fun x=>bW x.1 x.2.1.1)
  (fun x=>Eq.trans (by kernel_rfl:_=cA x.1 x.2.1.1 (fun y=>ret (aD [.i .i64] y) fun v g=>some (v,g))) (n9 x.1 x.2.1.1 _)) fun _ _ h=>h
abbrev gy:List (Nat×bm):= [(143,iI),(151,ot)]
theorem fF:ar Tryz.prog (aL gy):=ae oW <| ae sb <| ak _
noncomputable abbrev bS:Code:=cb (b8 Tryz.f74) 0
abbrev aw:ep:=⟨[(0, .cl (.own 0 (.i .i64))),(1, .fn 151 [.pro (.ls (.i .i64))]),(5, .cl (.int .i64)),(6, .cl (.int .i64))],[],[.i .i64],0,42⟩
abbrev bf:List (X×ep):= [(.ext 0,⟨[(0, .cl (.own 0 (.i .i64))),(5, .cl (.int .i64))],[],[.i .i64],0,42⟩)]
def bw {ρ:Type} (v2:List Int) (v3:List Int) (v4:Int) (v5:Int) (fn: ((Unit×((List Int)×Unit)×Int×Int×Unit)×(Unit)×((List Int)×Unit))→Option ρ) (fe: ((Unit×Int×Unit)×(Unit)×((List Int)×Unit))→Option ρ):Option ρ:=
 br (decide (v5 < (v2.length:Int))) (aq (0≤v5∧v5 < (v2.length:Int)) ((v2[v5.toNat]?).bind fun x6=>(dK x6 v3).bind fun y7=>br (!y7.1) (aq (0≤v4∧v4 < (v2.length:Int)) ((v2[v4.toNat]?).bind fun _=>fn (((),(v3,()),(IntKind.wrap .i64 (v4+1)),(IntKind.wrap .i64 (v5+1)),()),(()),((v2.set v4.toNat x6),()))) none) (fn (((),(v3,()),v4,(IntKind.wrap .i64 (v5+1)),()),(()),(v2,())))) none) (fe (((),v4,()),(()),(v2,())))
def aE (s:aw.D):Option (aw.D⊕bh.D bf):=bw s.2.2.1 s.1.2.1.1 s.1.2.2.1 s.1.2.2.2.1 (fun s=>some (.inl s)) (fun e=>some (.inr e))
def cH:aw.D→Option (bh.D bf):=jB aE
theorem ln {ρ:Type} (s:aw.D) (fn:aw.D→Option ρ) (fe:bh.D bf→Option ρ):bw s.2.2.1 s.1.2.1.1 s.1.2.2.1 s.1.2.2.2.1 fn fe=(aE s).bind (Sum.elim fn fe):=by
 simp only [aE,bw,am,ap,Option.bind_none,Option.bind_assoc,Option.bind_some,Sum.elim_inl,Sum.elim_inr]
abbrev fT:cU:=dh [] [0,1,5,6] aw bf cH
theorem kY (s:aw.D):ev Θ (aL gy) (aK []) bS (aw.mk' s) (c6 [0,1,5,6] [0,5] fun x S=>some (x,S))=(aE s).bind (Sum.elim (fun s'=>some (.nor,aw.mk' s')) fun e=>some (bh.e bf e)):=
 Eq.trans (by kernel_rfl:_=bw s.2.2.1 s.1.2.1.1 s.1.2.2.1 s.1.2.2.2.1 (fun s'=>some (.nor,aw.mk' s')) (fun e=>some (bh.e bf e))) (ln s _ _)
theorem kZ:b7 Tryz.prog bS fT:=ba aM fF af (by kernel_rfl) (dp (by kernel_rfl:_= []) ah) [] [0,1,5,6] [0,5] aw bf (by kernel_rfl) aE kY cH (f9 aE) (aO aE)
def b9 {ρ:Type} (a0:List Int) (a1_0:List Int) (k: (List Int)×Unit→Option ρ):Option ρ:=
 (bW a0 a1_0).bind fun y1=>br (y1.1==(-1)) (k (a0,())) ((cH (((),(a1_0,()),y1.1,(IntKind.wrap .i64 (y1.1+1)),()),(()),(a0,()))).bind fun e10=>aq (0≤e10.1.2.1∧e10.1.2.1≤(e10.2.2.1.length:Int)∧(e10.2.2.1.length:Int)≤((e10.2.2.1.length:Nat):Int)) (aq ((0+e10.1.2.1.toNat)+((e10.2.2.1.length:Int).toNat - e10.1.2.1.toNat)≤e10.2.2.1.length) (aq (0≤(0:Int)∧(0:Int)≤e10.1.2.1∧e10.1.2.1≤((e10.2.2.1.length:Nat):Int)) (aq ((0+(0:Int).toNat)=0∧(e10.1.2.1.toNat - (0:Int).toNat)≤(e10.2.2.1.take (0+e10.1.2.1.toNat)++List.replicate ((e10.2.2.1.length:Int).toNat - e10.1.2.1.toNat) (0:Int)++e10.2.2.1.drop ((0+e10.1.2.1.toNat)+((e10.2.2.1.length:Int).toNat - e10.1.2.1.toNat))).length) (k (((e10.2.2.1.take (0+e10.1.2.1.toNat)++List.replicate ((e10.2.2.1.length:Int).toNat - e10.1.2.1.toNat) (0:Int)++e10.2.2.1.drop ((0+e10.1.2.1.toNat)+((e10.2.2.1.length:Int).toNat - e10.1.2.1.toNat))).take (e10.1.2.1.toNat - (0:Int).toNat)),())) none) none) none) none)
def bi (a0:List Int) (a1_0:List Int):Option ((List Int)×Unit):=b9 a0 a1_0 some
theorem lV {ρ:Type} (a0:List Int) (a1_0:List Int) (k: (List Int)×Unit→Option ρ):b9 a0 a1_0 k=(bi a0 a1_0).bind k:=by
 simp only [bi,b9,am,ap,Option.bind_none,Option.bind_assoc,Option.bind_some]
abbrev gz:bm:=VS (.i .i64) [.fn 151 [.ls (.i .i64)]] [.ls (.i .i64)] fun l x=>bi l x.1.1
theorem mJ:aA Tryz.prog (Hd 74) gz:=
 Rl (Λ:=aK [(ce bS,fT)]) (fn:=Tryz.f74) aM fF af (by kernel_rfl) (aG (by kernel_rfl:_= [bS]) (aN (q:=ce bS) rfl kZ fun _ _ _=>by kernel_rfl)) (fun l x=>bi l x.1.1)
  (fun l x=>Eq.trans (by kernel_rfl:_=b9 l x.1.1 (fun y=>ret (aD [.ls (.i .i64)] y) fun v g=>some (v,g))) (lV l x.1.1 _)) fun _ _ _ h=>h
abbrev D0:List (Nat×bm):= [(150,Fb),(Hd 74,gz)]
theorem zk:ar Tryz.prog (aL D0):=ae OO <| ae mJ <| ak _
def jX {ρ:Type} (a0:List Int) (a1:List Int) (k: (List Int)×Unit→Option ρ):Option ρ:=
 (nC a0).bind fun y1=>(bi y1.1 a1).bind fun y2=>k (y2.1,())
def fk (a0:List Int) (a1:List Int):Option ((List Int)×Unit):=jX a0 a1 some
theorem AO {ρ:Type} (a0:List Int) (a1:List Int) (k: (List Int)×Unit→Option ρ):jX a0 a1 k=(fk a0 a1).bind k:=by
 simp only [fk,jX,Option.bind_assoc,Option.bind_some]
abbrev vd:bm:=bD [.ty (.ls (.i .i64)), .ty (.ls (.i .i64))] [.ls (.i .i64)] fun x=>fk x.1 x.2.1
theorem D3:aA Tryz.prog 73 vd:=
 al (Λ:=aK []) (fn:=Tryz.f73) aM zk af (by kernel_rfl) (aG (by kernel_rfl:_= []) ah) (by kernel_rfl) (fun x=>fk x.1 x.2.1)
  (fun x=>Eq.trans (by kernel_rfl:_=jX x.1 x.2.1 (fun y=>ret (aD [.ls (.i .i64)] y) fun v g=>some (v,g))) (AO x.1 x.2.1 _)) fun _ _ h=>h
abbrev F0:List (Nat×bm):= [(73,vd)]
theorem AP:ar Tryz.prog (aL F0):=ae D3 <| ak _
def k9 {ρ:Type} (a0:List Int) (a1:List Int) (k: (List Int)×Unit→Option ρ):Option ρ:=
 (fk a0 a1).bind fun y1=>(fk a0 y1.1).bind fun y2=>k (y2.1,())
def ii (a0:List Int) (a1:List Int):Option ((List Int)×Unit):=k9 a0 a1 some
theorem Co {ρ:Type} (a0:List Int) (a1:List Int) (k: (List Int)×Unit→Option ρ):k9 a0 a1 k=(ii a0 a1).bind k:=by
 simp only [ii,k9,Option.bind_assoc,Option.bind_some]
abbrev wA:bm:=bD [.ty (.ls (.i .i64)), .ty (.ls (.i .i64))] [.ls (.i .i64)] fun x=>ii x.1 x.2.1
theorem F1:aA Tryz.prog 228 wA:=
 al (Λ:=aK []) (fn:=Tryz.f228) aM AP af (by kernel_rfl) (aG (by kernel_rfl:_= []) ah) (by kernel_rfl) (fun x=>ii x.1 x.2.1)
  (fun x=>Eq.trans (by kernel_rfl:_=k9 x.1 x.2.1 (fun y=>ret (aD [.ls (.i .i64)] y) fun v g=>some (v,g))) (Co x.1 x.2.1 _)) fun _ _ h=>h
abbrev F2:List (Nat×bm):= [(135,jS),(227,Ce),(66,tY),(228,wA)]
theorem AQ:ar Tryz.prog (aL F2):=ae kV <| ae Mw <| ae xR <| ae F1 <| ak _
def la {ρ:Type} (a0:ai) (k:Bool×Unit→Option ρ):Option ρ:=
 (cE a0.epoch 1 20).bind fun y1=>br y1.1 ((iv a0.replicas).bind fun y2=>br y2.1 ((iv a0.witnesses).bind fun y3=>br y3.1 ((iG a0.replicas a0.primary).bind fun y4=>br y4.1 ((ii a0.replicas a0.witnesses).bind fun y5=>k (((y5.1.length:Int)==0),())) (k (false,()))) (k (false,()))) (k (false,()))) (k (false,()))
def fU (a0:ai):Option (Bool×Unit):=la a0 some
theorem Cp {ρ:Type} (a0:ai) (k:Bool×Unit→Option ρ):la a0 k=(fU a0).bind k:=by
 simp only [fU,la,am,Option.bind_assoc,Option.bind_some]
abbrev rQ:bm:=bD [.ty (.st .config)] [.b] fun x=>fU x.1
theorem wB:aA Tryz.prog 176 rQ:=
 al (Λ:=aK []) (fn:=Tryz.f176) aM AQ af (by kernel_rfl) (aG (by kernel_rfl:_= []) ah) (by kernel_rfl) (fun x=>fU x.1)
  (fun x=>Eq.trans (by kernel_rfl:_=la x.1 (fun y=>ret (aD [.b] y) fun v g=>some (v,g))) (Cp x.1 _)) fun _ _ h=>h
abbrev zT:List (Nat×bm):= [(176,rQ),(135,jS)]
theorem ve:ar Tryz.prog (aL zT):=ae wB <| ae kV <| ak _
noncomputable abbrev lW:Code:=cb (b8 Tryz.f137) 0
abbrev dB:ep:=⟨[(1, .cl (.ptr 0 0)),(6, .cl (.ro (.st .config))),(7, .cl (.int .i64)),(8, .cl (.int .i64))],[[.ro (.st .config), .int .i64]],[],0,30⟩
abbrev ij:List (X×ep):= [(.ret,⟨[(1, .cl (.ptr 0 0)),(2, .cl (.bl))],[[.ro (.st .config), .int .i64]],[],0,30⟩),(.ext 0,⟨[(1, .cl (.ptr 0 0)),(2, .cl (.dead))],[[.ro (.st .config), .int .i64]],[],0,30⟩)]
def iW {ρ:Type} (v1:List ai) (v2:Int) (v3:Int) (v4:List ai) (v5:Int) (fn: ((Unit×(List ai)×Int×Int×Unit)×(((List ai)×Int×Unit)×Unit)×(Unit))→Option ρ) (fe: ((Unit×Bool×Unit)×(((List ai)×Int×Unit)×Unit)×(Unit))⊕((Unit×Unit×Unit)×(((List ai)×Int×Unit)×Unit)×(Unit))→Option ρ):Option ρ:=
 br (decide (v3 < v2)) (aq (0≤v3) ((v1[v3.toNat]?).bind fun x6=>(fU x6).bind fun y7=>br (!y7.1) (fe (.inl (((),false,()),((v4,v5,()),()),(())))) (br (!(x6.epoch==(IntKind.wrap .i64 (v3+1)))) (fe (.inl (((),false,()),((v4,v5,()),()),(())))) (fn (((),v1,v2,(IntKind.wrap .i64 (v3+1)),()),((v4,v5,()),()),(()))))) none) (fe (.inr (((),(),()),((v4,v5,()),()),(()))))
def ej (s:dB.D):Option (dB.D⊕bh.D ij):=iW s.1.2.1 s.1.2.2.1 s.1.2.2.2.1 s.2.1.1.1 s.2.1.1.2.1 (fun s=>some (.inl s)) (fun e=>some (.inr e))
def lX:dB.D→Option (bh.D ij):=jB ej
theorem Cq {ρ:Type} (s:dB.D) (fn:dB.D→Option ρ) (fe:bh.D ij→Option ρ):iW s.1.2.1 s.1.2.2.1 s.1.2.2.2.1 s.2.1.1.1 s.2.1.1.2.1 fn fe=(ej s).bind (Sum.elim fn fe):=by
 simp only [ej,iW,am,ap,Option.bind_none,Option.bind_assoc,Option.bind_some,Sum.elim_inl,Sum.elim_inr]
abbrev wD:cU:=dh [] [1,6,7,8] dB ij lX
theorem AR (s:dB.D):ev Θ (aL zT) (aK []) lW (dB.mk' s) (c6 [1,6,7,8] [1,2] fun x S=>some (x,S))=(ej s).bind (Sum.elim (fun s'=>some (.nor,dB.mk' s')) fun e=>some (bh.e ij e)):=
 Eq.trans (by kernel_rfl:_=iW s.1.2.1 s.1.2.2.1 s.1.2.2.2.1 s.2.1.1.1 s.2.1.1.2.1 (fun s'=>some (.nor,dB.mk' s')) (fun e=>some (bh.e ij e))) (Cq s _ _)
theorem AU:b7 Tryz.prog lW wD:=ba aM ve af (by kernel_rfl) (dp (by kernel_rfl:_= []) ah) [] [1,6,7,8] [1,2] dB ij (by kernel_rfl) ej AR lX (f9 ej) (aO ej)
def nD {ρ:Type} (a0:an) (k:Bool×Unit→Option ρ):Option ρ:=
 (lX (((),a0.configs,(a0.configs.length:Int),0,()),((a0.configs,a0.activated,()),()),(()))).bind fun e8=>Sum.elim (fun e8_=>k (e8_.1.2.1,())) (fun e8_=>(cE e8_.2.1.1.2.1 0 (e8_.2.1.1.1.length:Int)).bind fun y9=>k (y9.1,())) e8
def iJ (a0:an):Option (Bool×Unit):=nD a0 some
theorem F3 {ρ:Type} (a0:an) (k:Bool×Unit→Option ρ):nD a0 k=(iJ a0).bind k:=by
 simp only [iJ,nD,bR,Option.bind_assoc,Option.bind_some]
abbrev uz:bm:=bD [.ty (.st .masterLog)] [.b] fun x=>iJ x.1
theorem zU:aA Tryz.prog 137 uz:=
 al (Λ:=aK [(ce lW,wD)]) (fn:=Tryz.f137) aM ve af (by kernel_rfl) (aG (by kernel_rfl:_= [lW]) (aN (q:=ce lW) rfl AU fun _ _ _=>by kernel_rfl)) (by kernel_rfl) (fun x=>iJ x.1)
  (fun x=>Eq.trans (by kernel_rfl:_=nD x.1 (fun y=>ret (aD [.b] y) fun v g=>some (v,g))) (F3 x.1 _)) fun _ _ h=>h
abbrev SB:List (Nat×bm):= [(135,jS)]
theorem MB:ar Tryz.prog (aL SB):=ae kV <| ak _
def s9 {ρ:Type} (a0:jO) (k:Bool×Unit→Option ρ):Option ρ:=
 br ((a0.epoch==0)&&((a0.holder==0)&&((a0.ends==0)&&true))) (k (true,())) ((cE a0.epoch 1 20).bind fun y1=>br y1.1 ((cE a0.holder 0 4).bind fun y2=>br y2.1 ((cE a0.ends 1 1049).bind fun y3=>k (y3.1,())) (k (false,()))) (k (false,())))
def qZ (a0:jO):Option (Bool×Unit):=s9 a0 some
theorem OP {ρ:Type} (a0:jO) (k:Bool×Unit→Option ρ):s9 a0 k=(qZ a0).bind k:=by
 simp only [qZ,s9,am,Option.bind_assoc,Option.bind_some]
abbrev K1:bm:=bD [.ty (.st .lease)] [.b] fun x=>qZ x.1
theorem SC:aA Tryz.prog 138 K1:=
 al (Λ:=aK []) (fn:=Tryz.f138) aM MB af (by kernel_rfl) (aG (by kernel_rfl:_= []) ah) (by kernel_rfl) (fun x=>qZ x.1)
  (fun x=>Eq.trans (by kernel_rfl:_=s9 x.1 (fun y=>ret (aD [.b] y) fun v g=>some (v,g))) (OP x.1 _)) fun _ _ h=>h
abbrev It:List (Nat×bm):= [(135,jS)]
theorem Cr:ar Tryz.prog (aL It):=ae kV <| ak _
def lY {ρ:Type} (a0:aU) (k:Bool×Unit→Option ρ):Option ρ:=
 (cE a0.rack 0 9).bind fun y1=>br (!y1.1) (k (true,())) ((cE a0.capacity 0 9).bind fun y2=>br (!y2.1) (k (true,())) ((cE a0.load 0 99).bind fun y3=>k ((!y3.1),())))
def lb (a0:aU):Option (Bool×Unit):=lY a0 some
theorem D4 {ρ:Type} (a0:aU) (k:Bool×Unit→Option ρ):lY a0 k=(lb a0).bind k:=by
 simp only [lb,lY,am,Option.bind_assoc,Option.bind_some]
abbrev xT:bm:=bD [.ty (.st .place)] [.b] fun x=>lb x.1
theorem Iu:aA Tryz.prog 212 xT:=
 al (Λ:=aK []) (fn:=Tryz.f212) aM Cr af (by kernel_rfl) (aG (by kernel_rfl:_= []) ah) (by kernel_rfl) (fun x=>lb x.1)
  (fun x=>Eq.trans (by kernel_rfl:_=lY x.1 (fun y=>ret (aD [.b] y) fun v g=>some (v,g))) (D4 x.1 _)) fun _ _ h=>h
abbrev jY:List (Nat×bm):= [(212,xT)]
theorem iK:ar Tryz.prog (aL jY):=ae Iu <| ak _
noncomputable abbrev cK:Code:=cb (b8 Tryz.f266) 0
abbrev aR:ep:=⟨[(0, .cl (.ro (.st .place))),(1, .cl (.fc 212)),(7, .cl (.int .i64)),(8, .cl (.int .i64))],[],[],0,19⟩
abbrev bH:List (X×ep):= [(.ret,⟨[(4, .cl (.int .i64))],[],[],0,19⟩),(.ext 0,⟨[(4, .cl (.dead))],[],[],0,19⟩)]
def bX {ρ:Type} (v1:List aU) (v2:Int) (v3:Int) (fn: (((List aU)×Unit×Int×Int×Unit)×(Unit)×(Unit))→Option ρ) (fe: ((Int×Unit)×(Unit)×(Unit))⊕((Unit×Unit)×(Unit)×(Unit))→Option ρ):Option ρ:=
 br (decide (v3 < v2)) (aq (0≤v3) ((v1[v3.toNat]?).bind fun x4=>(lb x4).bind fun y5=>br y5.1 (fe (.inl ((v3,()),(()),(())))) (fn ((v1,(),v2,(IntKind.wrap .i64 (v3+1)),()),(()),(())))) none) (fe (.inr (((),()),(()),(()))))
def aY (s:aR.D):Option (aR.D⊕bh.D bH):=bX s.1.1 s.1.2.2.1 s.1.2.2.2.1 (fun s=>some (.inl s)) (fun e=>some (.inr e))
def cL:aR.D→Option (bh.D bH):=jB aY
theorem ou {ρ:Type} (s:aR.D) (fn:aR.D→Option ρ) (fe:bh.D bH→Option ρ):bX s.1.1 s.1.2.2.1 s.1.2.2.2.1 fn fe=(aY s).bind (Sum.elim fn fe):=by
 simp only [aY,bX,am,ap,Option.bind_none,Option.bind_assoc,Option.bind_some,Sum.elim_inl,Sum.elim_inr]
abbrev jk:cU:=dh [] [0,1,7,8] aR bH cL
theorem oa (s:aR.D):ev Θ (aL jY) (aK []) cK (aR.mk' s) (c6 [0,1,7,8] [4] fun x S=>some (x,S))=(aY s).bind (Sum.elim (fun s'=>some (.nor,aR.mk' s')) fun e=>some (bh.e bH e)):=
 Eq.trans (by kernel_rfl:_=bX s.1.1 s.1.2.2.1 s.1.2.2.2.1 (fun s'=>some (.nor,aR.mk' s')) (fun e=>some (bh.e bH e))) (ou s _ _)
theorem ob:b7 Tryz.prog cK jk:=ba aM iK af (by kernel_rfl) (dp (by kernel_rfl:_= []) ah) [] [0,1,7,8] [4] aR bH (by kernel_rfl) aY oa cL (f9 aY) (aO aY)
def cT {ρ:Type} (a0:List aU) (k:Int×Unit→Option ρ):Option ρ:=
 (cL ((a0,(),(a0.length:Int),0,()),(()),(()))).bind fun e6=>Sum.elim (fun e6_=>k (e6_.1.1,())) (fun e6_=>k ((-1),())) e6
def cw (a0:List aU):Option (Int×Unit):=cT a0 some
theorem pj {ρ:Type} (a0:List aU) (k:Int×Unit→Option ρ):cT a0 k=(cw a0).bind k:=by
 simp only [cw,cT,bR,Option.bind_assoc,Option.bind_some]
abbrev jZ:bm:=bD [.ty (.ls (.st .place)), .fc 212] [.i .i64] fun x=>cw x.1
theorem qj:aA Tryz.prog 266 jZ:=
 al (Λ:=aK [(ce cK,jk)]) (fn:=Tryz.f266) aM iK af (by kernel_rfl) (aG (by kernel_rfl:_= [cK]) (aN (q:=ce cK) rfl ob fun _ _ _=>by kernel_rfl)) (by kernel_rfl) (fun x=>cw x.1)
  (fun x=>Eq.trans (by kernel_rfl:_=cT x.1 (fun y=>ret (aD [.i .i64] y) fun v g=>some (v,g))) (pj x.1 _)) fun _ _ h=>h
abbrev oX:List (Nat×bm):= [(266,jZ)]
theorem nE:ar Tryz.prog (aL oX):=ae qj <| ak _
def cB {ρ:Type} (a0:List aU) (k:Bool×Unit→Option ρ):Option ρ:=
 (cw a0).bind fun y1=>k ((decide (y1.1≥0)),())
def bZ (a0:List aU):Option (Bool×Unit):=cB a0 some
theorem oc {ρ:Type} (a0:List aU) (k:Bool×Unit→Option ρ):cB a0 k=(bZ a0).bind k:=by
 simp only [bZ,cB,Option.bind_assoc,Option.bind_some]
abbrev iL:bm:=bD [.ty (.ls (.st .place)), .fc 212] [.b] fun x=>bZ x.1
theorem oY:aA Tryz.prog 211 iL:=
 al (Λ:=aK []) (fn:=Tryz.f211) aM nE af (by kernel_rfl) (aG (by kernel_rfl:_= []) ah) (by kernel_rfl) (fun x=>bZ x.1)
  (fun x=>Eq.trans (by kernel_rfl:_=cB x.1 (fun y=>ret (aD [.b] y) fun v g=>some (v,g))) (oc x.1 _)) fun _ _ h=>h
abbrev OQ:List (Nat×bm):= [(211,iL)]
theorem Iv:ar Tryz.prog (aL OQ):=ae oY <| ak _
def qk {ρ:Type} (a0:List aU) (k:Bool×Unit→Option ρ):Option ρ:=
 br ((a0.length:Int)==5) ((bZ a0).bind fun y1=>k ((!y1.1),())) (k (false,()))
def nF (a0:List aU):Option (Bool×Unit):=qk a0 some
theorem JZ {ρ:Type} (a0:List aU) (k:Bool×Unit→Option ρ):qk a0 k=(nF a0).bind k:=by
 simp only [nF,qk,am,Option.bind_assoc,Option.bind_some]
abbrev Fc:bm:=bD [.ty (.ls (.st .place))] [.b] fun x=>nF x.1
theorem OS:aA Tryz.prog 139 Fc:=
 al (Λ:=aK []) (fn:=Tryz.f139) aM Iv af (by kernel_rfl) (aG (by kernel_rfl:_= []) ah) (by kernel_rfl) (fun x=>nF x.1)
  (fun x=>Eq.trans (by kernel_rfl:_=qk x.1 (fun y=>ret (aD [.b] y) fun v g=>some (v,g))) (JZ x.1 _)) fun _ _ h=>h
abbrev OT:List (Nat×bm):= [(135,jS)]
theorem Iw:ar Tryz.prog (aL OT):=ae kV <| ak _
def qm {ρ:Type} (a0:Op) (k:Bool×Unit→Option ρ):Option ρ:=
 (cE a0.client 0 2).bind fun y1=>br (!y1.1) (k (false,())) ((cE a0.seq 1 99).bind fun y2=>br (!y2.1) (k (false,())) ((cE a0.object 0 2).bind fun y3=>br (!y3.1) (k (false,())) ((cE a0.value 0 9).bind fun y4=>br (!y4.1) (k (false,())) (br (a0.kind==1) (br (a0.old==0) (k (true,())) (br (a0.kind==2) ((cE a0.old 0 9).bind fun y5=>k (y5.1,())) (k (false,())))) (br (a0.kind==2) ((cE a0.old 0 9).bind fun y6=>k (y6.1,())) (k (false,())))))))
def lw (a0:Op):Option (Bool×Unit):=qm a0 some
theorem J0 {ρ:Type} (a0:Op) (k:Bool×Unit→Option ρ):qm a0 k=(lw a0).bind k:=by
 simp only [lw,qm,am,Option.bind_assoc,Option.bind_some]
abbrev Fd:bm:=bD [.ty (.st .op)] [.b] fun x=>lw x.1
theorem OU:aA Tryz.prog 229 Fd:=
 al (Λ:=aK []) (fn:=Tryz.f229) aM Iw af (by kernel_rfl) (aG (by kernel_rfl:_= []) ah) (by kernel_rfl) (fun x=>lw x.1)
  (fun x=>Eq.trans (by kernel_rfl:_=qm x.1 (fun y=>ret (aD [.b] y) fun v g=>some (v,g))) (J0 x.1 _)) fun _ _ h=>h
abbrev Ru:List (Nat×bm):= [(135,jS),(229,Fd)]
theorem Ix:ar Tryz.prog (aL Ru):=ae kV <| ae OU <| ak _
noncomputable abbrev vf:Code:=cb (b8 Tryz.f179) 0
abbrev lc:ep:=⟨[(0, .cl (.ro (.st .entry))),(5, .cl (.ro (.st .entry))),(6, .cl (.int .i64)),(7, .cl (.int .i64))],[],[],0,41⟩
abbrev q7:List (X×ep):= [(.ret,⟨[(0, .cl (.ro (.st .entry))),(2, .cl (.bl))],[],[],0,41⟩),(.ext 0,⟨[(0, .cl (.ro (.st .entry))),(2, .cl (.dead))],[],[],0,41⟩)]
def q8 {ρ:Type} (v1:List az) (v2:List az) (v3:Int) (v4:Int) (fn: (((List az)×(List az)×Int×Int×Unit)×(Unit)×(Unit))→Option ρ) (fe: (((List az)×Bool×Unit)×(Unit)×(Unit))⊕(((List az)×Unit×Unit)×(Unit)×(Unit))→Option ρ):Option ρ:=
 br (decide (v4 < v3)) (aq (0≤v4) ((v2[v4.toNat]?).bind fun x5=>(cE x5.epoch 1 20).bind fun y6=>br (!y6.1) (fe (.inl ((v1,false,()),(()),(())))) (br (decide (v4 > 0)) (aq (0≤(IntKind.wrap .i64 (v4 - 1))) ((v1[(IntKind.wrap .i64 (v4 - 1)).toNat]?).bind fun x7=>br (decide (x5.epoch < x7.epoch)) (fe (.inl ((v1,false,()),(()),(())))) ((lw x5.op).bind fun y8=>br (!y8.1) (fe (.inl ((v1,false,()),(()),(())))) (fn ((v1,v2,v3,(IntKind.wrap .i64 (v4+1)),()),(()),(()))))) none) ((lw x5.op).bind fun y9=>br (!y9.1) (fe (.inl ((v1,false,()),(()),(())))) (fn ((v1,v2,v3,(IntKind.wrap .i64 (v4+1)),()),(()),(())))))) none) (fe (.inr ((v1,(),()),(()),(()))))
def mm (s:lc.D):Option (lc.D⊕bh.D q7):=q8 s.1.1 s.1.2.1 s.1.2.2.1 s.1.2.2.2.1 (fun s=>some (.inl s)) (fun e=>some (.inr e))
def vg:lc.D→Option (bh.D q7):=jB mm
theorem OV {ρ:Type} (s:lc.D) (fn:lc.D→Option ρ) (fe:bh.D q7→Option ρ):q8 s.1.1 s.1.2.1 s.1.2.2.1 s.1.2.2.2.1 fn fe=(mm s).bind (Sum.elim fn fe):=by
 simp only [mm,q8,am,ap,Option.bind_none,Option.bind_assoc,Option.bind_some,Sum.elim_inl,Sum.elim_inr]
abbrev K2:cU:=dh [] [0,5,6,7] lc q7 vg
theorem MC (s:lc.D):ev Θ (aL Ru) (aK []) vf (lc.mk' s) (c6 [0,5,6,7] [0,2] fun x S=>some (x,S))=(mm s).bind (Sum.elim (fun s'=>some (.nor,lc.mk' s')) fun e=>some (bh.e q7 e)):=
 Eq.trans (by kernel_rfl:_=q8 s.1.1 s.1.2.1 s.1.2.2.1 s.1.2.2.2.1 (fun s'=>some (.nor,lc.mk' s')) (fun e=>some (bh.e q7 e))) (OV s _ _)
theorem MD:b7 Tryz.prog vf K2:=ba aM Ix af (by kernel_rfl) (dp (by kernel_rfl:_= []) ah) [] [0,5,6,7] [0,2] lc q7 (by kernel_rfl) mm MC vg (f9 mm) (aO mm)
def xU {ρ:Type} (a0:List az) (k:Bool×Unit→Option ρ):Option ρ:=
 (vg ((a0,a0,(a0.length:Int),0,()),(()),(()))).bind fun e10=>Sum.elim (fun e10_=>k (e10_.1.2.1,())) (fun e10_=>k ((decide ((e10_.1.1.length:Int)≤16)),())) e10
def rh (a0:List az):Option (Bool×Unit):=xU a0 some
theorem SD {ρ:Type} (a0:List az) (k:Bool×Unit→Option ρ):xU a0 k=(rh a0).bind k:=by
 simp only [rh,xU,bR,Option.bind_assoc,Option.bind_some]
abbrev ME:bm:=bD [.ty (.ls (.st .entry))] [.b] fun x=>rh x.1
theorem Rv:aA Tryz.prog 179 ME:=
 al (Λ:=aK [(ce vf,K2)]) (fn:=Tryz.f179) aM Ix af (by kernel_rfl) (aG (by kernel_rfl:_= [vf]) (aN (q:=ce vf) rfl MD fun _ _ _=>by kernel_rfl)) (by kernel_rfl) (fun x=>rh x.1)
  (fun x=>Eq.trans (by kernel_rfl:_=xU x.1 (fun y=>ret (aD [.b] y) fun v g=>some (v,g))) (SD x.1 _)) fun _ _ h=>h
abbrev Ct:List (Nat×bm):= []
theorem wE:ar Tryz.prog (aL Ct):=ak _
noncomputable abbrev nG:Code:=cb (b8 Tryz.f219) 0
abbrev eb:ep:=⟨[(0, .cl (.ro (.i .i64))),(1, .cl (.ro (.i .i64))),(12, .cl (.int .i64)),(13, .cl (.int .i64))],[],[],0,26⟩
abbrev jl:List (X×ep):= [(.ret,⟨[(4, .cl (.bl))],[],[],0,26⟩),(.ext 0,⟨[(4, .cl (.dead))],[],[],0,26⟩)]
def jJ {ρ:Type} (v1:List Int) (v2:List Int) (v3:Int) (v4:Int) (fn: (((List Int)×(List Int)×Int×Int×Unit)×(Unit)×(Unit))→Option ρ) (fe: ((Bool×Unit)×(Unit)×(Unit))⊕((Unit×Unit)×(Unit)×(Unit))→Option ρ):Option ρ:=
 br (decide (v4 < v3)) (aq (0≤v4) ((v1[v4.toNat]?).bind fun x5=>aq (0≤v4) ((v2[v4.toNat]?).bind fun x6=>br (!(x5==x6)) (fe (.inl ((false,()),(()),(())))) (fn ((v1,v2,v3,(IntKind.wrap .i64 (v4+1)),()),(()),(())))) none) none) (fe (.inr (((),()),(()),(()))))
def eO (s:eb.D):Option (eb.D⊕bh.D jl):=jJ s.1.1 s.1.2.1 s.1.2.2.1 s.1.2.2.2.1 (fun s=>some (.inl s)) (fun e=>some (.inr e))
def nH:eb.D→Option (bh.D jl):=jB eO
theorem D5 {ρ:Type} (s:eb.D) (fn:eb.D→Option ρ) (fe:bh.D jl→Option ρ):jJ s.1.1 s.1.2.1 s.1.2.2.1 s.1.2.2.2.1 fn fe=(eO s).bind (Sum.elim fn fe):=by
 simp only [eO,jJ,am,ap,Option.bind_none,Option.bind_assoc,Option.bind_some,Sum.elim_inl,Sum.elim_inr]
abbrev xV:cU:=dh [] [0,1,12,13] eb jl nH
theorem Cu (s:eb.D):ev Θ (aL Ct) (aK []) nG (eb.mk' s) (c6 [0,1,12,13] [4] fun x S=>some (x,S))=(eO s).bind (Sum.elim (fun s'=>some (.nor,eb.mk' s')) fun e=>some (bh.e jl e)):=
 Eq.trans (by kernel_rfl:_=jJ s.1.1 s.1.2.1 s.1.2.2.1 s.1.2.2.2.1 (fun s'=>some (.nor,eb.mk' s')) (fun e=>some (bh.e jl e))) (D5 s _ _)
theorem Cv:b7 Tryz.prog nG xV:=ba aM wE af (by kernel_rfl) (dp (by kernel_rfl:_= []) ah) [] [0,1,12,13] [4] eb jl (by kernel_rfl) eO Cu nH (f9 eO) (aO eO)
def oZ {ρ:Type} (a0:List Int) (a1:List Int) (k:Bool×Unit→Option ρ):Option ρ:=
 br (!((a0.length:Int)==(a1.length:Int))) (k (false,())) ((nH ((a0,a1,(a0.length:Int),0,()),(()),(()))).bind fun e7=>Sum.elim (fun e7_=>k (e7_.1.1,())) (fun e7_=>k (true,())) e7)
def od (a0:List Int) (a1:List Int):Option (Bool×Unit):=oZ a0 a1 some
theorem Iy {ρ:Type} (a0:List Int) (a1:List Int) (k:Bool×Unit→Option ρ):oZ a0 a1 k=(od a0 a1).bind k:=by
 simp only [od,oZ,am,bR,Option.bind_assoc,Option.bind_some]
abbrev Cw:bm:=bD [.ty (.ls (.i .i64)), .ty (.ls (.i .i64))] [.b] fun x=>od x.1 x.2.1
theorem MF:aA Tryz.prog 219 Cw:=
 al (Λ:=aK [(ce nG,xV)]) (fn:=Tryz.f219) aM wE af (by kernel_rfl) (aG (by kernel_rfl:_= [nG]) (aN (q:=ce nG) rfl Cv fun _ _ _=>by kernel_rfl)) (by kernel_rfl) (fun x=>od x.1 x.2.1)
  (fun x=>Eq.trans (by kernel_rfl:_=oZ x.1 x.2.1 (fun y=>ret (aD [.b] y) fun v g=>some (v,g))) (Iy x.1 x.2.1 _)) fun _ _ h=>h
abbrev Iz:List (Nat×bm):= [(219,Cw)]
theorem Cx:ar Tryz.prog (aL Iz):=ae MF <| ak _
def lZ {ρ:Type} (a0:List Int) (a1:List Int) (k:Bool×Unit→Option ρ):Option ρ:=
 (od a0 a1).bind fun y1=>k (y1.1,())
def gW (a0:List Int) (a1:List Int):Option (Bool×Unit):=lZ a0 a1 some
theorem D6 {ρ:Type} (a0:List Int) (a1:List Int) (k:Bool×Unit→Option ρ):lZ a0 a1 k=(gW a0 a1).bind k:=by
 simp only [gW,lZ,Option.bind_assoc,Option.bind_some]
abbrev xW:bm:=bD [.ty (.ls (.i .i64)), .ty (.ls (.i .i64))] [.b] fun x=>gW x.1 x.2.1
theorem IA:aA Tryz.prog 160 xW:=
 al (Λ:=aK []) (fn:=Tryz.f160) aM Cx af (by kernel_rfl) (aG (by kernel_rfl:_= []) ah) (by kernel_rfl) (fun x=>gW x.1 x.2.1)
  (fun x=>Eq.trans (by kernel_rfl:_=lZ x.1 x.2.1 (fun y=>ret (aD [.b] y) fun v g=>some (v,g))) (D6 x.1 x.2.1 _)) fun _ _ h=>h
abbrev IB:List (Nat×bm):= [(160,xW)]
theorem Cy:ar Tryz.prog (aL IB):=ae IA <| ak _
def l4 {ρ:Type} (a0:ai) (a1:ai) (k:Bool×Unit→Option ρ):Option ρ:=
 br (a0.epoch==a1.epoch) (br (a0.primary==a1.primary) ((gW a0.replicas a1.replicas).bind fun y1=>br y1.1 ((gW a0.witnesses a1.witnesses).bind fun y2=>k (y2.1,())) (k (false,()))) (k (false,()))) (k (false,()))
def ed (a0:ai) (a1:ai):Option (Bool×Unit):=l4 a0 a1 some
theorem D7 {ρ:Type} (a0:ai) (a1:ai) (k:Bool×Unit→Option ρ):l4 a0 a1 k=(ed a0 a1).bind k:=by
 simp only [ed,l4,am,Option.bind_assoc,Option.bind_some]
abbrev nI:bm:=bD [.ty (.st .config), .ty (.st .config)] [.b] fun x=>ed x.1 x.2.1
theorem qn:aA Tryz.prog 91 nI:=
 al (Λ:=aK []) (fn:=Tryz.f91) aM Cy af (by kernel_rfl) (aG (by kernel_rfl:_= []) ah) (by kernel_rfl) (fun x=>ed x.1 x.2.1)
  (fun x=>Eq.trans (by kernel_rfl:_=l4 x.1 x.2.1 (fun y=>ret (aD [.b] y) fun v g=>some (v,g))) (D7 x.1 x.2.1 _)) fun _ _ h=>h
abbrev OW:List (Nat×bm):= []
theorem IC:ar Tryz.prog (aL OW):=ak _
def qo {ρ:Type} (a0:List az) (k:Int×Unit→Option ρ):Option ρ:=
 br ((a0.length:Int)==0) (k (0,())) (aq (0≤(IntKind.wrap .i64 ((a0.length:Int) - 1))) ((a0[(IntKind.wrap .i64 ((a0.length:Int) - 1)).toNat]?).bind fun x1=>k (x1.epoch,())) none)
def lx (a0:List az):Option (Int×Unit):=qo a0 some
theorem J1 {ρ:Type} (a0:List az) (k:Int×Unit→Option ρ):qo a0 k=(lx a0).bind k:=by
 simp only [lx,qo,am,ap,Option.bind_none,Option.bind_assoc,Option.bind_some]
abbrev xX:bm:=bD [.ty (.ls (.st .entry))] [.i .i64] fun x=>lx x.1
theorem Fe:aA Tryz.prog 141 xX:=
 al (Λ:=aK []) (fn:=Tryz.f141) aM IC af (by kernel_rfl) (aG (by kernel_rfl:_= []) ah) (by kernel_rfl) (fun x=>lx x.1)
  (fun x=>Eq.trans (by kernel_rfl:_=qo x.1 (fun y=>ret (aD [.i .i64] y) fun v g=>some (v,g))) (J1 x.1 _)) fun _ _ h=>h
abbrev UD:List (Nat×bm):= [(176,rQ),(66,tY)]
theorem OX:ar Tryz.prog (aL UD):=ae wB <| ae xR <| ak _
def vh {ρ:Type} (a0:ai) (a1:Int) (k:Int×Unit→Option ρ):Option ρ:=
 (fU a0).bind fun y1=>br (!y1.1) (k (0,())) (br (a1==a0.primary) (k (1,())) ((iG a0.replicas a1).bind fun y2=>br y2.1 (k (2,())) ((iG a0.witnesses a1).bind fun y3=>br y3.1 (k (3,())) (k (0,())))))
def ta (a0:ai) (a1:Int):Option (Int×Unit):=vh a0 a1 some
theorem Qw {ρ:Type} (a0:ai) (a1:Int) (k:Int×Unit→Option ρ):vh a0 a1 k=(ta a0 a1).bind k:=by
 simp only [ta,vh,am,Option.bind_assoc,Option.bind_some]
abbrev OY:bm:=bD [.ty (.st .config), .ty (.i .i64)] [.i .i64] fun x=>ta x.1 x.2.1
theorem UE:aA Tryz.prog 178 OY:=
 al (Λ:=aK []) (fn:=Tryz.f178) aM OX af (by kernel_rfl) (aG (by kernel_rfl:_= []) ah) (by kernel_rfl) (fun x=>ta x.1 x.2.1)
  (fun x=>Eq.trans (by kernel_rfl:_=vh x.1 x.2.1 (fun y=>ret (aD [.i .i64] y) fun v g=>some (v,g))) (Qw x.1 x.2.1 _)) fun _ _ h=>h
abbrev UF:List (Nat×bm):= [(179,ME),(135,jS)]
theorem OZ:ar Tryz.prog (aL UF):=ae Rv <| ae kV <| ak _
def vi {ρ:Type} (a0:Int) (a1:List az) (k:Bool×Unit→Option ρ):Option ρ:=
 (rh a1).bind fun y1=>br y1.1 (br (decide ((a1.length:Int)≤3)) ((cE a0 0 (IntKind.wrap .i64 (16 - (a1.length:Int)))).bind fun y2=>br y2.1 (br (a0==0) (k (true,())) (k (((a1.length:Int)==3),()))) (k (false,()))) (k (false,()))) (k (false,()))
def tb (a0:Int) (a1:List az):Option (Bool×Unit):=vi a0 a1 some
theorem Qx {ρ:Type} (a0:Int) (a1:List az) (k:Bool×Unit→Option ρ):vi a0 a1 k=(tb a0 a1).bind k:=by
 simp only [tb,vi,am,Option.bind_assoc,Option.bind_some]
abbrev O0:bm:=bD [.ty (.i .i64), .ty (.ls (.st .entry))] [.b] fun x=>tb x.1 x.2.1
theorem UG:aA Tryz.prog 213 O0:=
 al (Λ:=aK []) (fn:=Tryz.f213) aM OZ af (by kernel_rfl) (aG (by kernel_rfl:_= []) ah) (by kernel_rfl) (fun x=>tb x.1 x.2.1)
  (fun x=>Eq.trans (by kernel_rfl:_=vi x.1 x.2.1 (fun y=>ret (aD [.b] y) fun v g=>some (v,g))) (Qx x.1 x.2.1 _)) fun _ _ h=>h
abbrev F4:List (Nat×bm):= [(135,jS),(179,ME),(91,nI),(141,xX),(178,OY),(213,O0)]
theorem AW:ar Tryz.prog (aL F4):=ae kV <| ae Rv <| ae qn <| ae Fe <| ae UE <| ae UG <| ak _
def ld {ρ:Type} (a0:aj) (a1:Int) (k:Bool×Unit→Option ρ):Option ρ:=
 (cE a0.version 1 2).bind fun y1=>br (!y1.1) (k (false,())) ((cE a0.epoch 0 20).bind fun y2=>br (!y2.1) (k (false,())) ((rh a0.log).bind fun y3=>br (!y3.1) (k (false,())) ((rh a0.learned).bind fun y4=>br (!y4.1) (k (false,())) ((cE a0.first 0 16).bind fun y5=>br (!y5.1) (k (false,())) (br (decide ((IntKind.wrap .i64 (a0.first+(a0.log.length:Int))) > 16)) (k (false,())) ((cE a0.commit 0 (IntKind.wrap .i64 (a0.first+(a0.log.length:Int)))).bind fun y6=>br (!y6.1) (k (false,())) ((ed a0.config (⟨0,0,([]:List Int),([]:List Int)⟩:ai)).bind fun y7=>br y7.1 (br (a0.first==0) (br (a0.commit==0) (k (((a0.log.length:Int)==0),())) (k (false,()))) (k (false,()))) (br (!a0.intact) (k (false,())) (br (decide (a0.epoch < a0.config.epoch)) (k (false,())) ((lx a0.log).bind fun y8=>br (decide (y8.1 > a0.config.epoch)) (k (false,())) ((ta a0.config a1).bind fun y9=>br (y9.1==1) (k ((a0.first==0),())) (br (y9.1==2) (k ((a0.first==0),())) (br (y9.1==3) ((tb a0.first a0.log).bind fun y10=>k (y10.1,())) (k (false,())))))))))))))))
def ik (a0:aj) (a1:Int):Option (Bool×Unit):=ld a0 a1 some
theorem Cz {ρ:Type} (a0:aj) (a1:Int) (k:Bool×Unit→Option ρ):ld a0 a1 k=(ik a0 a1).bind k:=by
 simp only [ik,ld,am,Option.bind_assoc,Option.bind_some]
abbrev wF:bm:=bD [.ty (.st .server), .ty (.i .i64)] [.b] fun x=>ik x.1 x.2.1
theorem F5:aA Tryz.prog 140 wF:=
 al (Λ:=aK []) (fn:=Tryz.f140) aM AW af (by kernel_rfl) (aG (by kernel_rfl:_= []) ah) (by kernel_rfl) (fun x=>ik x.1 x.2.1)
  (fun x=>Eq.trans (by kernel_rfl:_=ld x.1 x.2.1 (fun y=>ret (aD [.b] y) fun v g=>some (v,g))) (Cz x.1 x.2.1 _)) fun _ _ h=>h
abbrev Qy:List (Nat×bm):= [(137,uz),(135,jS),(177,sx)]
theorem J2:ar Tryz.prog (aL Qy):=ae zU <| ae kV <| ae vP <| ak _
def rH {ρ:Type} (a0:an) (a1:Int) (k:ai×Bool×Unit→Option ρ):Option ρ:=
 (iJ a0).bind fun y1=>br (!y1.1) (k ((⟨0,0,([]:List Int),([]:List Int)⟩:ai),false,())) ((cE a1 1 (a0.configs.length:Int)).bind fun y2=>br (!y2.1) (k ((⟨0,0,([]:List Int),([]:List Int)⟩:ai),false,())) (aq (0≤(IntKind.wrap .i64 (a1 - 1))) ((a0.configs[(IntKind.wrap .i64 (a1 - 1)).toNat]?).bind fun x3=>(fC x3).bind fun y4=>k (y4.1,true,())) none))
def pk (a0:an) (a1:Int):Option (ai×Bool×Unit):=rH a0 a1 some
theorem MG {ρ:Type} (a0:an) (a1:Int) (k:ai×Bool×Unit→Option ρ):rH a0 a1 k=(pk a0 a1).bind k:=by
 simp only [pk,rH,am,ap,Option.bind_none,Option.bind_assoc,Option.bind_some]
abbrev IE:bm:=bD [.ty (.st .masterLog), .ty (.i .i64)] [.st .config, .b] fun x=>pk x.1 x.2.1
theorem Qz:aA Tryz.prog 142 IE:=
 al (Λ:=aK []) (fn:=Tryz.f142) aM J2 af (by kernel_rfl) (aG (by kernel_rfl:_= []) ah) (by kernel_rfl) (fun x=>pk x.1 x.2.1)
  (fun x=>Eq.trans (by kernel_rfl:_=rH x.1 x.2.1 (fun y=>ret (aD [.st .config, .b] y) fun v g=>some (v,g))) (MG x.1 x.2.1 _)) fun _ _ h=>h
abbrev vj:List (Nat×bm):= [(135,jS),(136,Ii),(137,uz),(138,K1),(139,Fc),(140,wF),(141,xX),(91,nI),(142,IE)]
theorem sd:ar Tryz.prog (aL vj):=ae kV <| ae Qs <| ae zU <| ae SC <| ae OS <| ae F5 <| ae Fe <| ae qn <| ae Qz <| ak _
noncomputable abbrev jm:Code:=cb (b8 Tryz.f57) 0
abbrev cM:ep:=⟨[(1, .cl (.ptr 0 0)),(57, .cl (.ro (.st .server))),(58, .cl (.int .i64)),(59, .cl (.int .i64))],[[.int .i64, .ro (.st .server), .ro (.i .i64), .ro (.st .config), .int .i64, .int .i64, .int .i64, .int .i64, .int .i64, .ro (.st .place)]],[],0,118⟩
abbrev fb:List (X×ep):= [(.ret,⟨[(2, .cl (.bl))],[],[],0,118⟩),(.ext 0,⟨[(2, .cl (.dead))],[],[],0,118⟩)]
def fP {ρ:Type} (v7:List aj) (v8:Int) (v9:Int) (v10:Int) (v11:List aj) (v12:List Int) (v13:List ai) (v14:Int) (v15:Int) (v16:Int) (v17:Int) (v18:Int) (v19:List aU) (fn: ((Unit×(List aj)×Int×Int×Unit)×((Int×(List aj)×(List Int)×(List ai)×Int×Int×Int×Int×Int×(List aU)×Unit)×Unit)×(Unit))→Option ρ) (fe: ((Bool×Unit)×(Unit)×(Unit))⊕((Unit×Unit)×(Unit)×(Unit))→Option ρ):Option ρ:=
 br (decide (v9 < v8)) (aq (0≤v9) ((v7[v9.toNat]?).bind fun x20=>(ik x20 v9).bind fun y21=>br (!y21.1) (fe (.inl ((false,()),(()),(())))) (br (decide (x20.epoch > (v13.length:Int))) (fe (.inl ((false,()),(()),(())))) ((lx x20.learned).bind fun y22=>br (decide (y22.1 > v14)) (fe (.inl ((false,()),(()),(())))) ((ed x20.config (⟨0,0,([]:List Int),([]:List Int)⟩:ai)).bind fun y23=>br y23.1 (fn (((),v7,v8,(IntKind.wrap .i64 (v9+1)),()),((v10,v11,v12,v13,v14,v15,v16,v17,v18,v19,()),()),(()))) ((pk (⟨v13,v14⟩:an) x20.config.epoch).bind fun y24=>br (!y24.2.1) (fe (.inl ((false,()),(()),(())))) ((ed y24.1 x20.config).bind fun y25=>br (!y25.1) (fe (.inl ((false,()),(()),(())))) (br (decide (x20.config.epoch > v14)) (fe (.inl ((false,()),(()),(())))) (fn (((),v7,v8,(IntKind.wrap .i64 (v9+1)),()),((v10,v11,v12,v13,v14,v15,v16,v17,v18,v19,()),()),(())))))))))) none) (fe (.inr (((),()),(()),(()))))
def c8 (s:cM.D):Option (cM.D⊕bh.D fb):=fP s.1.2.1 s.1.2.2.1 s.1.2.2.2.1 s.2.1.1.1 s.2.1.1.2.1 s.2.1.1.2.2.1 s.2.1.1.2.2.2.1 s.2.1.1.2.2.2.2.1 s.2.1.1.2.2.2.2.2.1 s.2.1.1.2.2.2.2.2.2.1 s.2.1.1.2.2.2.2.2.2.2.1 s.2.1.1.2.2.2.2.2.2.2.2.1 s.2.1.1.2.2.2.2.2.2.2.2.2.1 (fun s=>some (.inl s)) (fun e=>some (.inr e))
def jn:cM.D→Option (bh.D fb):=jB c8
theorem xY {ρ:Type} (s:cM.D) (fn:cM.D→Option ρ) (fe:bh.D fb→Option ρ):fP s.1.2.1 s.1.2.2.1 s.1.2.2.2.1 s.2.1.1.1 s.2.1.1.2.1 s.2.1.1.2.2.1 s.2.1.1.2.2.2.1 s.2.1.1.2.2.2.2.1 s.2.1.1.2.2.2.2.2.1 s.2.1.1.2.2.2.2.2.2.1 s.2.1.1.2.2.2.2.2.2.2.1 s.2.1.1.2.2.2.2.2.2.2.2.1 s.2.1.1.2.2.2.2.2.2.2.2.2.1 fn fe=(c8 s).bind (Sum.elim fn fe):=by
 simp only [c8,fP,am,ap,Option.bind_none,Option.bind_assoc,Option.bind_some,Sum.elim_inl,Sum.elim_inr]
abbrev tc:cU:=dh [] [1,57,58,59] cM fb jn
theorem wW (s:cM.D):ev Θ (aL vj) (aK []) jm (cM.mk' s) (c6 [1,57,58,59] [2] fun x S=>some (x,S))=(c8 s).bind (Sum.elim (fun s'=>some (.nor,cM.mk' s')) fun e=>some (bh.e fb e)):=
 Eq.trans (by kernel_rfl:_=fP s.1.2.1 s.1.2.2.1 s.1.2.2.2.1 s.2.1.1.1 s.2.1.1.2.1 s.2.1.1.2.2.1 s.2.1.1.2.2.2.1 s.2.1.1.2.2.2.2.1 s.2.1.1.2.2.2.2.2.1 s.2.1.1.2.2.2.2.2.2.1 s.2.1.1.2.2.2.2.2.2.2.1 s.2.1.1.2.2.2.2.2.2.2.2.1 s.2.1.1.2.2.2.2.2.2.2.2.2.1 (fun s'=>some (.nor,cM.mk' s')) (fun e=>some (bh.e fb e))) (xY s _ _)
theorem wX:b7 Tryz.prog jm tc:=ba aM sd af (by kernel_rfl) (dp (by kernel_rfl:_= []) ah) [] [1,57,58,59] [2] cM fb (by kernel_rfl) c8 wW jn (f9 c8) (aO c8)
def j4 {ρ:Type} (a0:ao) (k:Bool×Unit→Option ρ):Option ρ:=
 (cE a0.now 0 999).bind fun y1=>br (!y1.1) (k (false,())) (br (!((a0.servers.length:Int)==5)) (k (false,())) ((pg a0.sides).bind fun y2=>br (!y2.1) (k (false,())) ((iJ a0.master).bind fun y3=>br (!y3.1) (k (false,())) ((qZ a0.lease).bind fun y4=>br (!y4.1) (k (false,())) ((nF a0.places).bind fun y5=>br (!y5.1) (k (false,())) ((cE a0.masterUp 0 3).bind fun y6=>br (!y6.1) (k (false,())) (br (decide (a0.lease.epoch > a0.master.activated)) (k (false,())) ((jn (((),a0.servers,(a0.servers.length:Int),0,()),((a0.now,a0.servers,a0.sides,a0.master.configs,a0.master.activated,a0.masterUp,a0.lease.epoch,a0.lease.holder,a0.lease.ends,a0.places,()),()),(()))).bind fun e26=>Sum.elim (fun e26_=>k (e26_.1.1,())) (fun e26_=>k (true,())) e26))))))))
def gn (a0:ao):Option (Bool×Unit):=j4 a0 some
theorem AX {ρ:Type} (a0:ao) (k:Bool×Unit→Option ρ):j4 a0 k=(gn a0).bind k:=by
 simp only [gn,j4,am,bR,Option.bind_assoc,Option.bind_some]
abbrev vk:bm:=bD [.ty (.st .cluster)] [.b] fun x=>gn x.1
theorem D8:aA Tryz.prog 57 vk:=
 al (Λ:=aK [(ce jm,tc)]) (fn:=Tryz.f57) aM sd af (by kernel_rfl) (aG (by kernel_rfl:_= [jm]) (aN (q:=ce jm) rfl wX fun _ _ _=>by kernel_rfl)) (by kernel_rfl) (fun x=>gn x.1)
  (fun x=>Eq.trans (by kernel_rfl:_=j4 x.1 (fun y=>ret (aD [.b] y) fun v g=>some (v,g))) (AX x.1 _)) fun _ _ h=>h
abbrev J3:List (Nat×bm):= [(57,vk),(135,jS)]
theorem D9:ar Tryz.prog (aL J3):=ae D8 <| ae kV <| ak _
def nJ {ρ:Type} (a0:ao) (a1:Int) (k:Bool×Unit→Option ρ):Option ρ:=
 (gn a0).bind fun y1=>br y1.1 ((cE a1 0 4).bind fun y2=>k (y2.1,())) (k (false,()))
def kn (a0:ao) (a1:Int):Option (Bool×Unit):=nJ a0 a1 some
theorem F6 {ρ:Type} (a0:ao) (a1:Int) (k:Bool×Unit→Option ρ):nJ a0 a1 k=(kn a0 a1).bind k:=by
 simp only [kn,nJ,am,Option.bind_assoc,Option.bind_some]
abbrev zV:bm:=bD [.ty (.st .cluster), .ty (.i .i64)] [.b] fun x=>kn x.1 x.2.1
theorem J4:aA Tryz.prog 156 zV:=
 al (Λ:=aK []) (fn:=Tryz.f156) aM D9 af (by kernel_rfl) (aG (by kernel_rfl:_= []) ah) (by kernel_rfl) (fun x=>kn x.1 x.2.1)
  (fun x=>Eq.trans (by kernel_rfl:_=nJ x.1 x.2.1 (fun y=>ret (aD [.b] y) fun v g=>some (v,g))) (F6 x.1 x.2.1 _)) fun _ _ h=>h
abbrev O1:List (Nat×bm):= [(95,ux),(156,zV)]
theorem IG:ar Tryz.prog (aL O1):=ae zQ <| ae J4 <| ak _
def qp {ρ:Type} (a0:ao) (a1:Int) (a2:Int) (k:ao×Int×Unit→Option ρ):Option ρ:=
 (ft a0).bind fun y1=>(kn a0 a1).bind fun y2=>br (!y2.1) (k (y1.1,1,())) (aq (0≤a1) ((a0.servers[a1.toNat]?).bind fun x3=>br (!(x3.version==a2)) (k (y1.1,1,())) (aq (0≤a1) ((a0.servers[a1.toNat]?).bind fun x4=>br (!x4.up) (k (y1.1,2,())) (aq (0≤a1∧a1 < (y1.1.servers.length:Int)) ((y1.1.servers[a1.toNat]?).bind fun x5=>k ((⟨y1.1.now,(y1.1.servers.set a1.toNat (⟨x5.up,x5.intact,(IntKind.wrap .i64 (3 - a2)),x5.epoch,x5.config,x5.first,x5.log,x5.commit,x5.learned⟩:aj)),y1.1.sides,y1.1.master,y1.1.masterUp,y1.1.lease,y1.1.places⟩:ao),0,())) none)) none)) none)
def pC (a0:ao) (a1:Int) (a2:Int):Option (ao×Int×Unit):=qp a0 a1 a2 some
theorem J5 {ρ:Type} (a0:ao) (a1:Int) (a2:Int) (k:ao×Int×Unit→Option ρ):qp a0 a1 a2 k=(pC a0 a1 a2).bind k:=by
 simp only [pC,qp,am,ap,Option.bind_none,Option.bind_assoc,Option.bind_some]
abbrev Ff:bm:=bD [.ty (.st .cluster), .ty (.i .i64), .ty (.i .i64)] [.st .cluster, .i .i64] fun x=>pC x.1 x.2.1 x.2.2.1
theorem O2:aA Tryz.prog 84 Ff:=
 al (Λ:=aK []) (fn:=Tryz.f84) aM IG af (by kernel_rfl) (aG (by kernel_rfl:_= []) ah) (by kernel_rfl) (fun x=>pC x.1 x.2.1 x.2.2.1)
  (fun x=>Eq.trans (by kernel_rfl:_=qp x.1 x.2.1 x.2.2.1 (fun y=>ret (aD [.st .cluster, .i .i64] y) fun v g=>some (v,g))) (J5 x.1 x.2.1 x.2.2.1 _)) fun _ _ h=>h
abbrev J6:List (Nat×bm):= []
theorem Ea:ar Tryz.prog (aL J6):=ak _
def nK {ρ:Type} (a0:Op) (k:Bool×Unit→Option ρ):Option ρ:=
 k ((a0.kind==2),())
def mn (a0:Op):Option (Bool×Unit):=nK a0 some
theorem F7 {ρ:Type} (a0:Op) (k:Bool×Unit→Option ρ):nK a0 k=(mn a0).bind k:=by
 simp only [mn,nK,Option.bind_some]
abbrev zW:bm:=bD [.ty (.st .op)] [.b] fun x=>mn x.1
theorem J7:aA Tryz.prog 222 zW:=
 al (Λ:=aK []) (fn:=Tryz.f222) aM Ea af (by kernel_rfl) (aG (by kernel_rfl:_= []) ah) (by kernel_rfl) (fun x=>mn x.1)
  (fun x=>Eq.trans (by kernel_rfl:_=nK x.1 (fun y=>ret (aD [.b] y) fun v g=>some (v,g))) (F7 x.1 _)) fun _ _ h=>h
abbrev CA:List (Nat×bm):= [(222,zW)]
theorem xZ:ar Tryz.prog (aL CA):=ae J7 <| ak _
def jo {ρ:Type} (a0:az) (k:Bool×Unit→Option ρ):Option ρ:=
 (mn a0.op).bind fun y1=>k (y1.1,())
def hU (a0:az):Option (Bool×Unit):=jo a0 some
theorem zl {ρ:Type} (a0:az) (k:Bool×Unit→Option ρ):jo a0 k=(hU a0).bind k:=by
 simp only [hU,jo,Option.bind_assoc,Option.bind_some]
abbrev t6:bm:=bD [.ty (.st .entry)] [.b] fun x=>hU x.1
theorem CB:aA Tryz.prog 221 t6:=
 al (Λ:=aK []) (fn:=Tryz.f221) aM xZ af (by kernel_rfl) (aG (by kernel_rfl:_= []) ah) (by kernel_rfl) (fun x=>hU x.1)
  (fun x=>Eq.trans (by kernel_rfl:_=jo x.1 (fun y=>ret (aD [.b] y) fun v g=>some (v,g))) (zl x.1 _)) fun _ _ h=>h
abbrev iM:List (Nat×bm):= [(221,t6)]
theorem gX:ar Tryz.prog (aL iM):=ae CB <| ak _
noncomputable abbrev cx:Code:=cb (b8 Tryz.f262) 0
abbrev aJ:ep:=⟨[(0, .cl (.ro (.st .entry))),(1, .cl (.fc 221)),(7, .cl (.int .i64)),(8, .cl (.int .i64))],[],[],0,19⟩
abbrev bz:List (X×ep):= [(.ret,⟨[(4, .cl (.int .i64))],[],[],0,19⟩),(.ext 0,⟨[(4, .cl (.dead))],[],[],0,19⟩)]
def bJ {ρ:Type} (v1:List az) (v2:Int) (v3:Int) (fn: (((List az)×Unit×Int×Int×Unit)×(Unit)×(Unit))→Option ρ) (fe: ((Int×Unit)×(Unit)×(Unit))⊕((Unit×Unit)×(Unit)×(Unit))→Option ρ):Option ρ:=
 br (decide (v3 < v2)) (aq (0≤v3) ((v1[v3.toNat]?).bind fun x4=>(hU x4).bind fun y5=>br y5.1 (fe (.inl ((v3,()),(()),(())))) (fn ((v1,(),v2,(IntKind.wrap .i64 (v3+1)),()),(()),(())))) none) (fe (.inr (((),()),(()),(()))))
def aQ (s:aJ.D):Option (aJ.D⊕bh.D bz):=bJ s.1.1 s.1.2.2.1 s.1.2.2.2.1 (fun s=>some (.inl s)) (fun e=>some (.inr e))
def cy:aJ.D→Option (bh.D bz):=jB aQ
theorem mL {ρ:Type} (s:aJ.D) (fn:aJ.D→Option ρ) (fe:bh.D bz→Option ρ):bJ s.1.1 s.1.2.2.1 s.1.2.2.2.1 fn fe=(aQ s).bind (Sum.elim fn fe):=by
 simp only [aQ,bJ,am,ap,Option.bind_none,Option.bind_assoc,Option.bind_some,Sum.elim_inl,Sum.elim_inr]
abbrev hZ:cU:=dh [] [0,1,7,8] aJ bz cy
theorem mr (s:aJ.D):ev Θ (aL iM) (aK []) cx (aJ.mk' s) (c6 [0,1,7,8] [4] fun x S=>some (x,S))=(aQ s).bind (Sum.elim (fun s'=>some (.nor,aJ.mk' s')) fun e=>some (bh.e bz e)):=
 Eq.trans (by kernel_rfl:_=bJ s.1.1 s.1.2.2.1 s.1.2.2.2.1 (fun s'=>some (.nor,aJ.mk' s')) (fun e=>some (bh.e bz e))) (mL s _ _)
theorem mt:b7 Tryz.prog cx hZ:=ba aM gX af (by kernel_rfl) (dp (by kernel_rfl:_= []) ah) [] [0,1,7,8] [4] aJ bz (by kernel_rfl) aQ mr cy (f9 aQ) (aO aQ)
def cD {ρ:Type} (a0:List az) (k:Int×Unit→Option ρ):Option ρ:=
 (cy ((a0,(),(a0.length:Int),0,()),(()),(()))).bind fun e6=>Sum.elim (fun e6_=>k (e6_.1.1,())) (fun e6_=>k ((-1),())) e6
def b0 (a0:List az):Option (Int×Unit):=cD a0 some
theorem oe {ρ:Type} (a0:List az) (k:Int×Unit→Option ρ):cD a0 k=(b0 a0).bind k:=by
 simp only [b0,cD,bR,Option.bind_assoc,Option.bind_some]
abbrev iO:bm:=bD [.ty (.ls (.st .entry)), .fc 221] [.i .i64] fun x=>b0 x.1
theorem o0:aA Tryz.prog 262 iO:=
 al (Λ:=aK [(ce cx,hZ)]) (fn:=Tryz.f262) aM gX af (by kernel_rfl) (aG (by kernel_rfl:_= [cx]) (aN (q:=ce cx) rfl mt fun _ _ _=>by kernel_rfl)) (by kernel_rfl) (fun x=>b0 x.1)
  (fun x=>Eq.trans (by kernel_rfl:_=cD x.1 (fun y=>ret (aD [.i .i64] y) fun v g=>some (v,g))) (oe x.1 _)) fun _ _ h=>h
abbrev nM:List (Nat×bm):= [(262,iO)]
theorem l5:ar Tryz.prog (aL nM):=ae o0 <| ak _
def cd {ρ:Type} (a0:List az) (k:Bool×Unit→Option ρ):Option ρ:=
 (b0 a0).bind fun y1=>k ((decide (y1.1≥0)),())
def bK (a0:List az):Option (Bool×Unit):=cd a0 some
theorem mu {ρ:Type} (a0:List az) (k:Bool×Unit→Option ρ):cd a0 k=(bK a0).bind k:=by
 simp only [bK,cd,Option.bind_assoc,Option.bind_some]
abbrev gY:bm:=bD [.ty (.ls (.st .entry)), .fc 221] [.b] fun x=>bK x.1
theorem nN:aA Tryz.prog 220 gY:=
 al (Λ:=aK []) (fn:=Tryz.f220) aM l5 af (by kernel_rfl) (aG (by kernel_rfl:_= []) ah) (by kernel_rfl) (fun x=>bK x.1)
  (fun x=>Eq.trans (by kernel_rfl:_=cd x.1 (fun y=>ret (aD [.b] y) fun v g=>some (v,g))) (mu x.1 _)) fun _ _ h=>h
abbrev IH:List (Nat×bm):= [(220,gY)]
theorem CC:ar Tryz.prog (aL IH):=ae nN <| ak _
def l6 {ρ:Type} (a0:List az) (k:Bool×Unit→Option ρ):Option ρ:=
 (bK a0).bind fun y1=>k (y1.1,())
def lf (a0:List az):Option (Bool×Unit):=l6 a0 some
theorem Eb {ρ:Type} (a0:List az) (k:Bool×Unit→Option ρ):l6 a0 k=(lf a0).bind k:=by
 simp only [lf,l6,Option.bind_assoc,Option.bind_some]
abbrev x0:bm:=bD [.ty (.ls (.st .entry))] [.b] fun x=>lf x.1
theorem II:aA Tryz.prog 162 x0:=
 al (Λ:=aK []) (fn:=Tryz.f162) aM CC af (by kernel_rfl) (aG (by kernel_rfl:_= []) ah) (by kernel_rfl) (fun x=>lf x.1)
  (fun x=>Eq.trans (by kernel_rfl:_=l6 x.1 (fun y=>ret (aD [.b] y) fun v g=>some (v,g))) (Eb x.1 _)) fun _ _ h=>h
abbrev IJ:List (Nat×bm):= [(162,x0)]
theorem CD:ar Tryz.prog (aL IJ):=ae II <| ak _
def l7 {ρ:Type} (a0:List az) (k:Bool×Unit→Option ρ):Option ρ:=
 (lf a0).bind fun y1=>k (y1.1,())
def eP (a0:List az):Option (Bool×Unit):=l7 a0 some
theorem Ec {ρ:Type} (a0:List az) (k:Bool×Unit→Option ρ):l7 a0 k=(eP a0).bind k:=by
 simp only [eP,l7,Option.bind_assoc,Option.bind_some]
abbrev td:bm:=bD [.ty (.ls (.st .entry))] [.b] fun x=>eP x.1
theorem ya:aA Tryz.prog 94 td:=
 al (Λ:=aK []) (fn:=Tryz.f94) aM CD af (by kernel_rfl) (aG (by kernel_rfl:_= []) ah) (by kernel_rfl) (fun x=>eP x.1)
  (fun x=>Eq.trans (by kernel_rfl:_=l7 x.1 (fun y=>ret (aD [.b] y) fun v g=>some (v,g))) (Ec x.1 _)) fun _ _ h=>h
abbrev yb:List (Nat×bm):= [(91,nI),(94,td)]
theorem vl:ar Tryz.prog (aL yb):=ae qn <| ae ya <| ak _
def ga {ρ:Type} (a0:aj) (a1:aj) (k:Bool×Unit→Option ρ):Option ρ:=
 (ed a0.config a1.config).bind fun y1=>br y1.1 ((eP a0.log).bind fun y2=>k (y2.1,())) (k (false,()))
def fm (a0:aj) (a1:aj):Option (Bool×Unit):=ga a0 a1 some
theorem vU {ρ:Type} (a0:aj) (a1:aj) (k:Bool×Unit→Option ρ):ga a0 a1 k=(fm a0 a1).bind k:=by
 simp only [fm,ga,am,Option.bind_assoc,Option.bind_some]
abbrev rI:bm:=bD [.ty (.st .server), .pr (.st .server)] [.b] fun x=>fm x.1 x.2.1
theorem yc:aA Tryz.prog 93 rI:=
 al (Λ:=aK []) (fn:=Tryz.f93) aM vl af (by kernel_rfl) (aG (by kernel_rfl:_= []) ah) (by kernel_rfl) (fun x=>fm x.1 x.2.1)
  (fun x=>Eq.trans (by kernel_rfl:_=ga x.1 x.2.1 (fun y=>ret (aD [.b] y) fun v g=>some (v,g))) (vU x.1 x.2.1 _)) fun _ _ h=>h
abbrev gA:List (Nat×bm):= [(93,rI)]
theorem fG:ar Tryz.prog (aL gA):=ae yc <| ak _
noncomputable abbrev bT:Code:=cb (b8 Tryz.f161) 0
abbrev ax:ep:=⟨[(0, .cl (.ro (.st .server))),(1, .fn 93 [.pro (.st .server)]),(7, .cl (.int .i64)),(8, .cl (.int .i64))],[],[],0,19⟩
abbrev bg:List (X×ep):= [(.ret,⟨[(4, .cl (.int .i64))],[],[],0,19⟩),(.ext 0,⟨[(4, .cl (.dead))],[],[],0,19⟩)]
def bA {ρ:Type} (v1:List aj) (v2:aj) (v3:Int) (v4:Int) (fn: (((List aj)×(aj×Unit)×Int×Int×Unit)×(Unit)×(Unit))→Option ρ) (fe: ((Int×Unit)×(Unit)×(Unit))⊕((Unit×Unit)×(Unit)×(Unit))→Option ρ):Option ρ:=
 br (decide (v4 < v3)) (aq (0≤v4) ((v1[v4.toNat]?).bind fun x5=>(fm x5 v2).bind fun y6=>br y6.1 (fe (.inl ((v4,()),(()),(())))) (fn ((v1,(v2,()),v3,(IntKind.wrap .i64 (v4+1)),()),(()),(())))) none) (fe (.inr (((),()),(()),(()))))
def aF (s:ax.D):Option (ax.D⊕bh.D bg):=bA s.1.1 s.1.2.1.1 s.1.2.2.1 s.1.2.2.2.1 (fun s=>some (.inl s)) (fun e=>some (.inr e))
def bU:ax.D→Option (bh.D bg):=jB aF
theorem lp {ρ:Type} (s:ax.D) (fn:ax.D→Option ρ) (fe:bh.D bg→Option ρ):bA s.1.1 s.1.2.1.1 s.1.2.2.1 s.1.2.2.2.1 fn fe=(aF s).bind (Sum.elim fn fe):=by
 simp only [aF,bA,am,ap,Option.bind_none,Option.bind_assoc,Option.bind_some,Sum.elim_inl,Sum.elim_inr]
abbrev fV:cU:=dh [] [0,1,7,8] ax bg bU
theorem lg (s:ax.D):ev Θ (aL gA) (aK []) bT (ax.mk' s) (c6 [0,1,7,8] [4] fun x S=>some (x,S))=(aF s).bind (Sum.elim (fun s'=>some (.nor,ax.mk' s')) fun e=>some (bh.e bg e)):=
 Eq.trans (by kernel_rfl:_=bA s.1.1 s.1.2.1.1 s.1.2.2.1 s.1.2.2.2.1 (fun s'=>some (.nor,ax.mk' s')) (fun e=>some (bh.e bg e))) (lp s _ _)
theorem lh:b7 Tryz.prog bT fV:=ba aM fG af (by kernel_rfl) (dp (by kernel_rfl:_= []) ah) [] [0,1,7,8] [4] ax bg (by kernel_rfl) aF lg bU (f9 aF) (aO aF)
def ca {ρ:Type} (a0:List aj) (a1_0:aj) (k:Int×Unit→Option ρ):Option ρ:=
 (bU ((a0,(a1_0,()),(a0.length:Int),0,()),(()),(()))).bind fun e7=>Sum.elim (fun e7_=>k (e7_.1.1,())) (fun e7_=>k ((-1),())) e7
def bF (a0:List aj) (a1_0:aj):Option (Int×Unit):=ca a0 a1_0 some
theorem l8 {ρ:Type} (a0:List aj) (a1_0:aj) (k:Int×Unit→Option ρ):ca a0 a1_0 k=(bF a0 a1_0).bind k:=by
 simp only [bF,ca,bR,Option.bind_assoc,Option.bind_some]
abbrev gC:bm:=bD [.ty (.ls (.st .server)), .fn 93 [.st .server]] [.i .i64] fun x=>bF x.1 x.2.1.1
theorem mM:aA Tryz.prog 161 gC:=
 al (Λ:=aK [(ce bT,fV)]) (fn:=Tryz.f161) aM fG af (by kernel_rfl) (aG (by kernel_rfl:_= [bT]) (aN (q:=ce bT) rfl lh fun _ _ _=>by kernel_rfl)) (by kernel_rfl) (fun x=>bF x.1 x.2.1.1)
  (fun x=>Eq.trans (by kernel_rfl:_=ca x.1 x.2.1.1 (fun y=>ret (aD [.i .i64] y) fun v g=>some (v,g))) (l8 x.1 x.2.1.1 _)) fun _ _ h=>h
abbrev lH:List (Nat×bm):= [(161,gC)]
theorem kx:ar Tryz.prog (aL lH):=ae mM <| ak _
def bM {ρ:Type} (a0:List aj) (a1_0:aj) (k:Bool×Unit→Option ρ):Option ρ:=
 (bF a0 a1_0).bind fun y1=>k ((decide (y1.1≥0)),())
def bB (a0:List aj) (a1_0:aj):Option (Bool×Unit):=bM a0 a1_0 some
theorem li {ρ:Type} (a0:List aj) (a1_0:aj) (k:Bool×Unit→Option ρ):bM a0 a1_0 k=(bB a0 a1_0).bind k:=by
 simp only [bB,bM,Option.bind_assoc,Option.bind_some]
abbrev fH:bm:=bD [.ty (.ls (.st .server)), .fn 93 [.st .server]] [.b] fun x=>bB x.1 x.2.1.1
theorem lI:aA Tryz.prog 92 fH:=
 al (Λ:=aK []) (fn:=Tryz.f92) aM kx af (by kernel_rfl) (aG (by kernel_rfl:_= []) ah) (by kernel_rfl) (fun x=>bB x.1 x.2.1.1)
  (fun x=>Eq.trans (by kernel_rfl:_=bM x.1 x.2.1.1 (fun y=>ret (aD [.b] y) fun v g=>some (v,g))) (li x.1 x.2.1.1 _)) fun _ _ h=>h
abbrev CE:List (Nat×bm):= [(84,Ff),(91,nI),(92,fH),(95,ux),(94,td)]
theorem yd:ar Tryz.prog (aL CE):=ae O2 <| ae qn <| ae lI <| ae zQ <| ae ya <| ak _
def jq {ρ:Type} (a0:ao) (a1:Int) (k:ao×Int×Unit→Option ρ):Option ρ:=
 (pC a0 a1 2).bind fun y1=>br (!(y1.2.1==0)) (k (y1.1,y1.2.1,())) (aq (0≤a1) ((a0.servers[a1.toNat]?).bind fun x2=>(ed x2.config (⟨0,0,([]:List Int),([]:List Int)⟩:ai)).bind fun y3=>br (!y3.1) ((bB a0.servers x2).bind fun y4=>br y4.1 ((ft a0).bind fun y5=>k (y5.1,6,())) ((eP x2.learned).bind fun y6=>br y6.1 ((ft a0).bind fun y7=>k (y7.1,6,())) (k (y1.1,0,())))) ((eP x2.learned).bind fun y8=>br y8.1 ((ft a0).bind fun y9=>k (y9.1,6,())) (k (y1.1,0,())))) none)
def eA (a0:ao) (a1:Int):Option (ao×Int×Unit):=jq a0 a1 some
theorem zm {ρ:Type} (a0:ao) (a1:Int) (k:ao×Int×Unit→Option ρ):jq a0 a1 k=(eA a0 a1).bind k:=by
 simp only [eA,jq,am,ap,Option.bind_none,Option.bind_assoc,Option.bind_some]
abbrev t7:bm:=bD [.ty (.st .cluster), .ty (.i .i64)] [.st .cluster, .i .i64] fun x=>eA x.1 x.2.1
theorem CF:aA Tryz.prog 32 t7:=
 al (Λ:=aK []) (fn:=Tryz.f32) aM yd af (by kernel_rfl) (aG (by kernel_rfl:_= []) ah) (by kernel_rfl) (fun x=>eA x.1 x.2.1)
  (fun x=>Eq.trans (by kernel_rfl:_=jq x.1 x.2.1 (fun y=>ret (aD [.st .cluster, .i .i64] y) fun v g=>some (v,g))) (zm x.1 x.2.1 _)) fun _ _ h=>h
abbrev O3:List (Nat×bm):= []
theorem Fg:ar Tryz.prog (aL O3):=ak _
noncomputable abbrev te:Code:=cb (b8 Tryz.f19) 0
abbrev jr:ep:=⟨[(0, .cl (.ro (.i .i64))),(1, .cl (.ro (.i .i64))),(5, .cl (.int .i64))],[],[],0,26⟩
abbrev pm:List (X×ep):= [(.ret,⟨[(4, .cl (.bl))],[],[],0,26⟩),(.ext 0,⟨[(4, .cl (.dead))],[],[],0,26⟩)]
def t8 {ρ:Type} (v1:List Int) (v2:List Int) (v3:Int) (fn: (((List Int)×(List Int)×Int×Unit)×(Unit)×(Unit))→Option ρ) (fe: ((Bool×Unit)×(Unit)×(Unit))⊕((Unit×Unit)×(Unit)×(Unit))→Option ρ):Option ρ:=
 br (decide (v3 < (v1.length:Int))) (aq (0≤v3) ((v1[v3.toNat]?).bind fun x4=>aq (0≤v3) ((v2[v3.toNat]?).bind fun x5=>br (!(x4==x5)) (fe (.inl ((false,()),(()),(())))) (fn ((v1,v2,(IntKind.wrap .i64 (v3+1)),()),(()),(())))) none) none) (fe (.inr (((),()),(()),(()))))
def nP (s:jr.D):Option (jr.D⊕bh.D pm):=t8 s.1.1 s.1.2.1 s.1.2.2.1 (fun s=>some (.inl s)) (fun e=>some (.inr e))
def AY:jr.D→Option (bh.D pm):=jB nP
theorem MH {ρ:Type} (s:jr.D) (fn:jr.D→Option ρ) (fe:bh.D pm→Option ρ):t8 s.1.1 s.1.2.1 s.1.2.2.1 fn fe=(nP s).bind (Sum.elim fn fe):=by
 simp only [nP,t8,am,ap,Option.bind_none,Option.bind_assoc,Option.bind_some,Sum.elim_inl,Sum.elim_inr]
abbrev IK:cU:=dh [] [0,1,5] jr pm AY
theorem J8 (s:jr.D):ev Θ (aL O3) (aK []) te (jr.mk' s) (c6 [0,1,5] [4] fun x S=>some (x,S))=(nP s).bind (Sum.elim (fun s'=>some (.nor,jr.mk' s')) fun e=>some (bh.e pm e)):=
 Eq.trans (by kernel_rfl:_=t8 s.1.1 s.1.2.1 s.1.2.2.1 (fun s'=>some (.nor,jr.mk' s')) (fun e=>some (bh.e pm e))) (MH s _ _)
theorem J9:b7 Tryz.prog te IK:=ba aM Fg af (by kernel_rfl) (dp (by kernel_rfl:_= []) ah) [] [0,1,5] [4] jr pm (by kernel_rfl) nP J8 AY (f9 nP) (aO nP)
def yV {ρ:Type} (a0:List Int) (a1:List Int) (k:Bool×Unit→Option ρ):Option ρ:=
 br (!((a0.length:Int)==(a1.length:Int))) (k (false,())) ((AY ((a0,a1,0,()),(()),(()))).bind fun e6=>Sum.elim (fun e6_=>k (e6_.1.1,())) (fun e6_=>k (true,())) e6)
def qq (a0:List Int) (a1:List Int):Option (Bool×Unit):=yV a0 a1 some
theorem QA {ρ:Type} (a0:List Int) (a1:List Int) (k:Bool×Unit→Option ρ):yV a0 a1 k=(qq a0 a1).bind k:=by
 simp only [qq,yV,am,bR,Option.bind_assoc,Option.bind_some]
abbrev IL:bm:=bD [.ty (.ls (.i .i64)), .ty (.ls (.i .i64))] [.b] fun x=>qq x.1 x.2.1
theorem O4:aA Tryz.prog 19 IL:=
 al (Λ:=aK [(ce te,IK)]) (fn:=Tryz.f19) aM Fg af (by kernel_rfl) (aG (by kernel_rfl:_= [te]) (aN (q:=ce te) rfl J9 fun _ _ _=>by kernel_rfl)) (by kernel_rfl) (fun x=>qq x.1 x.2.1)
  (fun x=>Eq.trans (by kernel_rfl:_=yV x.1 x.2.1 (fun y=>ret (aD [.b] y) fun v g=>some (v,g))) (QA x.1 x.2.1 _)) fun _ _ h=>h
abbrev QB:List (Nat×bm):= [(19,IL)]
theorem Ka:ar Tryz.prog (aL QB):=ae O4 <| ak _
def rJ {ρ:Type} (a0:ai) (a1:ai) (k:Bool×Unit→Option ρ):Option ρ:=
 br (!(a0.epoch==a1.epoch)) (k (false,())) (br (!(a0.primary==a1.primary)) (k (false,())) ((qq a0.replicas a1.replicas).bind fun y1=>br (!y1.1) (k (false,())) ((qq a0.witnesses a1.witnesses).bind fun y2=>br (!y2.1) (k (false,())) (k (true,())))))
def lJ (a0:ai) (a1:ai):Option (Bool×Unit):=rJ a0 a1 some
theorem MI {ρ:Type} (a0:ai) (a1:ai) (k:Bool×Unit→Option ρ):rJ a0 a1 k=(lJ a0 a1).bind k:=by
 simp only [lJ,rJ,am,Option.bind_assoc,Option.bind_some]
abbrev AZ:bm:=bD [.ty (.st .config), .ty (.st .config)] [.b] fun x=>lJ x.1 x.2.1
theorem IM:aA Tryz.prog 215 AZ:=
 al (Λ:=aK []) (fn:=Tryz.f215) aM Ka af (by kernel_rfl) (aG (by kernel_rfl:_= []) ah) (by kernel_rfl) (fun x=>lJ x.1 x.2.1)
  (fun x=>Eq.trans (by kernel_rfl:_=rJ x.1 x.2.1 (fun y=>ret (aD [.b] y) fun v g=>some (v,g))) (MI x.1 x.2.1 _)) fun _ _ h=>h
abbrev Xc:List (Nat×bm):= []
theorem SE:ar Tryz.prog (aL Xc):=ak _
def CG {ρ:Type} (a0:Op) (a1:Op) (k:Bool×Unit→Option ρ):Option ρ:=
 br (!(a0.client==a1.client)) (k (false,())) (br (!(a0.seq==a1.seq)) (k (false,())) (br (!(a0.kind==a1.kind)) (k (false,())) (br (!(a0.object==a1.object)) (k (false,())) (br (!(a0.old==a1.old)) (k (false,())) (br (!(a0.value==a1.value)) (k (false,())) (k (true,())))))))
def A0 (a0:Op) (a1:Op):Option (Bool×Unit):=CG a0 a1 some
theorem UH {ρ:Type} (a0:Op) (a1:Op) (k:Bool×Unit→Option ρ):CG a0 a1 k=(A0 a0 a1).bind k:=by
 simp only [A0,CG,am,Option.bind_some]
abbrev UI:bm:=bD [.ty (.st .op), .ty (.st .op)] [.b] fun x=>A0 x.1 x.2.1
theorem Xd:aA Tryz.prog 153 UI:=
 al (Λ:=aK []) (fn:=Tryz.f153) aM SE af (by kernel_rfl) (aG (by kernel_rfl:_= []) ah) (by kernel_rfl) (fun x=>A0 x.1 x.2.1)
  (fun x=>Eq.trans (by kernel_rfl:_=CG x.1 x.2.1 (fun y=>ret (aD [.b] y) fun v g=>some (v,g))) (UH x.1 x.2.1 _)) fun _ _ h=>h
abbrev SF:List (Nat×bm):= [(153,UI)]
theorem MJ:ar Tryz.prog (aL SF):=ae Xd <| ak _
def tf {ρ:Type} (a0:az) (a1:az) (k:Bool×Unit→Option ρ):Option ρ:=
 br (!(a0.epoch==a1.epoch)) (k (false,())) ((A0 a0.op a1.op).bind fun y1=>br (!y1.1) (k (false,())) (k (true,())))
def pD (a0:az) (a1:az):Option (Bool×Unit):=tf a0 a1 some
theorem O5 {ρ:Type} (a0:az) (a1:az) (k:Bool×Unit→Option ρ):tf a0 a1 k=(pD a0 a1).bind k:=by
 simp only [pD,tf,am,Option.bind_assoc,Option.bind_some]
abbrev K3:bm:=bD [.ty (.st .entry), .ty (.st .entry)] [.b] fun x=>pD x.1 x.2.1
theorem SG:aA Tryz.prog 81 K3:=
 al (Λ:=aK []) (fn:=Tryz.f81) aM MJ af (by kernel_rfl) (aG (by kernel_rfl:_= []) ah) (by kernel_rfl) (fun x=>pD x.1 x.2.1)
  (fun x=>Eq.trans (by kernel_rfl:_=tf x.1 x.2.1 (fun y=>ret (aD [.b] y) fun v g=>some (v,g))) (O5 x.1 x.2.1 _)) fun _ _ h=>h
abbrev IP:List (Nat×bm):= [(81,K3)]
theorem zX:ar Tryz.prog (aL IP):=ae SG <| ak _
noncomputable abbrev qs:Code:=cb (b8 Tryz.f25) 0
abbrev fI:ep:=⟨[(0, .cl (.ro (.st .entry))),(1, .cl (.ro (.st .entry))),(5, .cl (.int .i64))],[],[],0,27⟩
abbrev lK:List (X×ep):= [(.ret,⟨[(4, .cl (.bl))],[],[],0,27⟩),(.ext 0,⟨[(4, .cl (.dead))],[],[],0,27⟩)]
def ri {ρ:Type} (v1:List az) (v2:List az) (v3:Int) (fn: (((List az)×(List az)×Int×Unit)×(Unit)×(Unit))→Option ρ) (fe: ((Bool×Unit)×(Unit)×(Unit))⊕((Unit×Unit)×(Unit)×(Unit))→Option ρ):Option ρ:=
 br (decide (v3 < (v1.length:Int))) (aq (0≤v3) ((v1[v3.toNat]?).bind fun x4=>aq (0≤v3) ((v2[v3.toNat]?).bind fun x5=>(pD x4 x5).bind fun y6=>br (!y6.1) (fe (.inl ((false,()),(()),(())))) (fn ((v1,v2,(IntKind.wrap .i64 (v3+1)),()),(()),(())))) none) none) (fe (.inr (((),()),(()),(()))))
def j5 (s:fI.D):Option (fI.D⊕bh.D lK):=ri s.1.1 s.1.2.1 s.1.2.2.1 (fun s=>some (.inl s)) (fun e=>some (.inr e))
def vV:fI.D→Option (bh.D lK):=jB j5
theorem IQ {ρ:Type} (s:fI.D) (fn:fI.D→Option ρ) (fe:bh.D lK→Option ρ):ri s.1.1 s.1.2.1 s.1.2.2.1 fn fe=(j5 s).bind (Sum.elim fn fe):=by
 simp only [j5,ri,am,ap,Option.bind_none,Option.bind_assoc,Option.bind_some,Sum.elim_inl,Sum.elim_inr]
abbrev CH:cU:=dh [] [0,1,5] fI lK vV
theorem F8 (s:fI.D):ev Θ (aL IP) (aK []) qs (fI.mk' s) (c6 [0,1,5] [4] fun x S=>some (x,S))=(j5 s).bind (Sum.elim (fun s'=>some (.nor,fI.mk' s')) fun e=>some (bh.e lK e)):=
 Eq.trans (by kernel_rfl:_=ri s.1.1 s.1.2.1 s.1.2.2.1 (fun s'=>some (.nor,fI.mk' s')) (fun e=>some (bh.e lK e))) (IQ s _ _)
theorem F9:b7 Tryz.prog qs CH:=ba aM zX af (by kernel_rfl) (dp (by kernel_rfl:_= []) ah) [] [0,1,5] [4] fI lK (by kernel_rfl) j5 F8 vV (f9 j5) (aO j5)
def t9 {ρ:Type} (a0:List az) (a1:List az) (k:Bool×Unit→Option ρ):Option ρ:=
 br (!((a0.length:Int)==(a1.length:Int))) (k (false,())) ((vV ((a0,a1,0,()),(()),(()))).bind fun e7=>Sum.elim (fun e7_=>k (e7_.1.1,())) (fun e7_=>k (true,())) e7)
def nQ (a0:List az) (a1:List az):Option (Bool×Unit):=t9 a0 a1 some
theorem ML {ρ:Type} (a0:List az) (a1:List az) (k:Bool×Unit→Option ρ):t9 a0 a1 k=(nQ a0 a1).bind k:=by
 simp only [nQ,t9,am,bR,Option.bind_assoc,Option.bind_some]
abbrev IR:bm:=bD [.ty (.ls (.st .entry)), .ty (.ls (.st .entry))] [.b] fun x=>nQ x.1 x.2.1
theorem QC:aA Tryz.prog 25 IR:=
 al (Λ:=aK [(ce qs,CH)]) (fn:=Tryz.f25) aM zX af (by kernel_rfl) (aG (by kernel_rfl:_= [qs]) (aN (q:=ce qs) rfl F9 fun _ _ _=>by kernel_rfl)) (by kernel_rfl) (fun x=>nQ x.1 x.2.1)
  (fun x=>Eq.trans (by kernel_rfl:_=t9 x.1 x.2.1 (fun y=>ret (aD [.b] y) fun v g=>some (v,g))) (ML x.1 x.2.1 _)) fun _ _ h=>h
abbrev QD:List (Nat×bm):= [(215,AZ),(25,IR)]
theorem Kb:ar Tryz.prog (aL QD):=ae IM <| ae QC <| ak _
def rK {ρ:Type} (a0:aj) (a1:aj) (k:Bool×Unit→Option ρ):Option ρ:=
 br (!(a0.up==a1.up)) (k (false,())) (br (!(a0.intact==a1.intact)) (k (false,())) (br (!(a0.version==a1.version)) (k (false,())) (br (!(a0.epoch==a1.epoch)) (k (false,())) ((lJ a0.config a1.config).bind fun y1=>br (!y1.1) (k (false,())) (br (!(a0.first==a1.first)) (k (false,())) ((nQ a0.log a1.log).bind fun y2=>br (!y2.1) (k (false,())) (br (!(a0.commit==a1.commit)) (k (false,())) ((nQ a0.learned a1.learned).bind fun y3=>br (!y3.1) (k (false,())) (k (true,()))))))))))
def nR (a0:aj) (a1:aj):Option (Bool×Unit):=rK a0 a1 some
theorem MM {ρ:Type} (a0:aj) (a1:aj) (k:Bool×Unit→Option ρ):rK a0 a1 k=(nR a0 a1).bind k:=by
 simp only [nR,rK,am,Option.bind_assoc,Option.bind_some]
abbrev IT:bm:=bD [.ty (.st .server), .ty (.st .server)] [.b] fun x=>nR x.1 x.2.1
theorem QE:aA Tryz.prog 145 IT:=
 al (Λ:=aK []) (fn:=Tryz.f145) aM Kb af (by kernel_rfl) (aG (by kernel_rfl:_= []) ah) (by kernel_rfl) (fun x=>nR x.1 x.2.1)
  (fun x=>Eq.trans (by kernel_rfl:_=rK x.1 x.2.1 (fun y=>ret (aD [.b] y) fun v g=>some (v,g))) (MM x.1 x.2.1 _)) fun _ _ h=>h
abbrev Fh:List (Nat×bm):= [(145,IT)]
theorem ye:ar Tryz.prog (aL Fh):=ae QE <| ak _
noncomputable abbrev o1:Code:=cb (b8 Tryz.f67) 0
abbrev eR:ep:=⟨[(0, .cl (.ro (.st .server))),(1, .cl (.ro (.st .server))),(5, .cl (.int .i64))],[],[],0,27⟩
abbrev ko:List (X×ep):= [(.ret,⟨[(4, .cl (.bl))],[],[],0,27⟩),(.ext 0,⟨[(4, .cl (.dead))],[],[],0,27⟩)]
def qt {ρ:Type} (v1:List aj) (v2:List aj) (v3:Int) (fn: (((List aj)×(List aj)×Int×Unit)×(Unit)×(Unit))→Option ρ) (fe: ((Bool×Unit)×(Unit)×(Unit))⊕((Unit×Unit)×(Unit)×(Unit))→Option ρ):Option ρ:=
 br (decide (v3 < (v1.length:Int))) (aq (0≤v3) ((v1[v3.toNat]?).bind fun x4=>aq (0≤v3) ((v2[v3.toNat]?).bind fun x5=>(nR x4 x5).bind fun y6=>br (!y6.1) (fe (.inl ((false,()),(()),(())))) (fn ((v1,v2,(IntKind.wrap .i64 (v3+1)),()),(()),(())))) none) none) (fe (.inr (((),()),(()),(()))))
def iP (s:eR.D):Option (eR.D⊕bh.D ko):=qt s.1.1 s.1.2.1 s.1.2.2.1 (fun s=>some (.inl s)) (fun e=>some (.inr e))
def uA:eR.D→Option (bh.D ko):=jB iP
theorem Ga {ρ:Type} (s:eR.D) (fn:eR.D→Option ρ) (fe:bh.D ko→Option ρ):qt s.1.1 s.1.2.1 s.1.2.2.1 fn fe=(iP s).bind (Sum.elim fn fe):=by
 simp only [iP,qt,am,ap,Option.bind_none,Option.bind_assoc,Option.bind_some,Sum.elim_inl,Sum.elim_inr]
abbrev zY:cU:=dh [] [0,1,5] eR ko uA
theorem Ed (s:eR.D):ev Θ (aL Fh) (aK []) o1 (eR.mk' s) (c6 [0,1,5] [4] fun x S=>some (x,S))=(iP s).bind (Sum.elim (fun s'=>some (.nor,eR.mk' s')) fun e=>some (bh.e ko e)):=
 Eq.trans (by kernel_rfl:_=qt s.1.1 s.1.2.1 s.1.2.2.1 (fun s'=>some (.nor,eR.mk' s')) (fun e=>some (bh.e ko e))) (Ga s _ _)
theorem Ee:b7 Tryz.prog o1 zY:=ba aM ye af (by kernel_rfl) (dp (by kernel_rfl:_= []) ah) [] [0,1,5] [4] eR ko (by kernel_rfl) iP Ed uA (f9 iP) (aO iP)
def sA {ρ:Type} (a0:List aj) (a1:List aj) (k:Bool×Unit→Option ρ):Option ρ:=
 br (!((a0.length:Int)==(a1.length:Int))) (k (false,())) ((uA ((a0,a1,0,()),(()),(()))).bind fun e7=>Sum.elim (fun e7_=>k (e7_.1.1,())) (fun e7_=>k (true,())) e7)
def nS (a0:List aj) (a1:List aj):Option (Bool×Unit):=sA a0 a1 some
theorem Kd {ρ:Type} (a0:List aj) (a1:List aj) (k:Bool×Unit→Option ρ):sA a0 a1 k=(nS a0 a1).bind k:=by
 simp only [nS,sA,am,bR,Option.bind_assoc,Option.bind_some]
abbrev Fi:bm:=bD [.ty (.ls (.st .server)), .ty (.ls (.st .server))] [.b] fun x=>nS x.1 x.2.1
theorem O6:aA Tryz.prog 67 Fi:=
 al (Λ:=aK [(ce o1,zY)]) (fn:=Tryz.f67) aM ye af (by kernel_rfl) (aG (by kernel_rfl:_= [o1]) (aN (q:=ce o1) rfl Ee fun _ _ _=>by kernel_rfl)) (by kernel_rfl) (fun x=>nS x.1 x.2.1)
  (fun x=>Eq.trans (by kernel_rfl:_=sA x.1 x.2.1 (fun y=>ret (aD [.b] y) fun v g=>some (v,g))) (Kd x.1 x.2.1 _)) fun _ _ h=>h
abbrev Fj:List (Nat×bm):= [(215,AZ)]
theorem yf:ar Tryz.prog (aL Fj):=ae IM <| ak _
noncomputable abbrev o2:Code:=cb (b8 Tryz.f146) 0
abbrev eS:ep:=⟨[(0, .cl (.ro (.st .config))),(1, .cl (.ro (.st .config))),(5, .cl (.int .i64))],[],[],0,27⟩
abbrev kp:List (X×ep):= [(.ret,⟨[(4, .cl (.bl))],[],[],0,27⟩),(.ext 0,⟨[(4, .cl (.dead))],[],[],0,27⟩)]
def qu {ρ:Type} (v1:List ai) (v2:List ai) (v3:Int) (fn: (((List ai)×(List ai)×Int×Unit)×(Unit)×(Unit))→Option ρ) (fe: ((Bool×Unit)×(Unit)×(Unit))⊕((Unit×Unit)×(Unit)×(Unit))→Option ρ):Option ρ:=
 br (decide (v3 < (v1.length:Int))) (aq (0≤v3) ((v1[v3.toNat]?).bind fun x4=>aq (0≤v3) ((v2[v3.toNat]?).bind fun x5=>(lJ x4 x5).bind fun y6=>br (!y6.1) (fe (.inl ((false,()),(()),(())))) (fn ((v1,v2,(IntKind.wrap .i64 (v3+1)),()),(()),(())))) none) none) (fe (.inr (((),()),(()),(()))))
def iQ (s:eS.D):Option (eS.D⊕bh.D kp):=qu s.1.1 s.1.2.1 s.1.2.2.1 (fun s=>some (.inl s)) (fun e=>some (.inr e))
def uB:eS.D→Option (bh.D kp):=jB iQ
theorem Gb {ρ:Type} (s:eS.D) (fn:eS.D→Option ρ) (fe:bh.D kp→Option ρ):qu s.1.1 s.1.2.1 s.1.2.2.1 fn fe=(iQ s).bind (Sum.elim fn fe):=by
 simp only [iQ,qu,am,ap,Option.bind_none,Option.bind_assoc,Option.bind_some,Sum.elim_inl,Sum.elim_inr]
abbrev zZ:cU:=dh [] [0,1,5] eS kp uB
theorem Ef (s:eS.D):ev Θ (aL Fj) (aK []) o2 (eS.mk' s) (c6 [0,1,5] [4] fun x S=>some (x,S))=(iQ s).bind (Sum.elim (fun s'=>some (.nor,eS.mk' s')) fun e=>some (bh.e kp e)):=
 Eq.trans (by kernel_rfl:_=qu s.1.1 s.1.2.1 s.1.2.2.1 (fun s'=>some (.nor,eS.mk' s')) (fun e=>some (bh.e kp e))) (Gb s _ _)
theorem Eg:b7 Tryz.prog o2 zZ:=ba aM yf af (by kernel_rfl) (dp (by kernel_rfl:_= []) ah) [] [0,1,5] [4] eS kp (by kernel_rfl) iQ Ef uB (f9 iQ) (aO iQ)
def sB {ρ:Type} (a0:List ai) (a1:List ai) (k:Bool×Unit→Option ρ):Option ρ:=
 br (!((a0.length:Int)==(a1.length:Int))) (k (false,())) ((uB ((a0,a1,0,()),(()),(()))).bind fun e7=>Sum.elim (fun e7_=>k (e7_.1.1,())) (fun e7_=>k (true,())) e7)
def nT (a0:List ai) (a1:List ai):Option (Bool×Unit):=sB a0 a1 some
theorem Ke {ρ:Type} (a0:List ai) (a1:List ai) (k:Bool×Unit→Option ρ):sB a0 a1 k=(nT a0 a1).bind k:=by
 simp only [nT,sB,am,bR,Option.bind_assoc,Option.bind_some]
abbrev Fk:bm:=bD [.ty (.ls (.st .config)), .ty (.ls (.st .config))] [.b] fun x=>nT x.1 x.2.1
theorem O7:aA Tryz.prog 146 Fk:=
 al (Λ:=aK [(ce o2,zZ)]) (fn:=Tryz.f146) aM yf af (by kernel_rfl) (aG (by kernel_rfl:_= [o2]) (aN (q:=ce o2) rfl Eg fun _ _ _=>by kernel_rfl)) (by kernel_rfl) (fun x=>nT x.1 x.2.1)
  (fun x=>Eq.trans (by kernel_rfl:_=sB x.1 x.2.1 (fun y=>ret (aD [.b] y) fun v g=>some (v,g))) (Ke x.1 x.2.1 _)) fun _ _ h=>h
abbrev Kf:List (Nat×bm):= [(146,Fk)]
theorem Eh:ar Tryz.prog (aL Kf):=ae O7 <| ak _
def nU {ρ:Type} (a0:an) (a1:an) (k:Bool×Unit→Option ρ):Option ρ:=
 (nT a0.configs a1.configs).bind fun y1=>br (!y1.1) (k (false,())) (br (!(a0.activated==a1.activated)) (k (false,())) (k (true,())))
def kq (a0:an) (a1:an):Option (Bool×Unit):=nU a0 a1 some
theorem Gc {ρ:Type} (a0:an) (a1:an) (k:Bool×Unit→Option ρ):nU a0 a1 k=(kq a0 a1).bind k:=by
 simp only [kq,nU,am,Option.bind_assoc,Option.bind_some]
abbrev z0:bm:=bD [.ty (.st .masterLog), .ty (.st .masterLog)] [.b] fun x=>kq x.1 x.2.1
theorem Kg:aA Tryz.prog 68 z0:=
 al (Λ:=aK []) (fn:=Tryz.f68) aM Eh af (by kernel_rfl) (aG (by kernel_rfl:_= []) ah) (by kernel_rfl) (fun x=>kq x.1 x.2.1)
  (fun x=>Eq.trans (by kernel_rfl:_=nU x.1 x.2.1 (fun y=>ret (aD [.b] y) fun v g=>some (v,g))) (Gc x.1 x.2.1 _)) fun _ _ h=>h
abbrev SH:List (Nat×bm):= []
theorem MN:ar Tryz.prog (aL SH):=ak _
def tg {ρ:Type} (a0:jO) (a1:jO) (k:Bool×Unit→Option ρ):Option ρ:=
 br (!(a0.epoch==a1.epoch)) (k (false,())) (br (!(a0.holder==a1.holder)) (k (false,())) (br (!(a0.ends==a1.ends)) (k (false,())) (k (true,()))))
def q9 (a0:jO) (a1:jO):Option (Bool×Unit):=tg a0 a1 some
theorem O8 {ρ:Type} (a0:jO) (a1:jO) (k:Bool×Unit→Option ρ):tg a0 a1 k=(q9 a0 a1).bind k:=by
 simp only [q9,tg,am,Option.bind_some]
abbrev K4:bm:=bD [.ty (.st .lease), .ty (.st .lease)] [.b] fun x=>q9 x.1 x.2.1
theorem SJ:aA Tryz.prog 69 K4:=
 al (Λ:=aK []) (fn:=Tryz.f69) aM MN af (by kernel_rfl) (aG (by kernel_rfl:_= []) ah) (by kernel_rfl) (fun x=>q9 x.1 x.2.1)
  (fun x=>Eq.trans (by kernel_rfl:_=tg x.1 x.2.1 (fun y=>ret (aD [.b] y) fun v g=>some (v,g))) (O8 x.1 x.2.1 _)) fun _ _ h=>h
abbrev SK:List (Nat×bm):= []
theorem MO:ar Tryz.prog (aL SK):=ak _
def th {ρ:Type} (a0:aU) (a1:aU) (k:Bool×Unit→Option ρ):Option ρ:=
 br (!(a0.rack==a1.rack)) (k (false,())) (br (!(a0.capacity==a1.capacity)) (k (false,())) (br (!(a0.load==a1.load)) (k (false,())) (k (true,()))))
def pE (a0:aU) (a1:aU):Option (Bool×Unit):=th a0 a1 some
theorem O9 {ρ:Type} (a0:aU) (a1:aU) (k:Bool×Unit→Option ρ):th a0 a1 k=(pE a0 a1).bind k:=by
 simp only [pE,th,am,Option.bind_some]
abbrev K5:bm:=bD [.ty (.st .place), .ty (.st .place)] [.b] fun x=>pE x.1 x.2.1
theorem SL:aA Tryz.prog 147 K5:=
 al (Λ:=aK []) (fn:=Tryz.f147) aM MO af (by kernel_rfl) (aG (by kernel_rfl:_= []) ah) (by kernel_rfl) (fun x=>pE x.1 x.2.1)
  (fun x=>Eq.trans (by kernel_rfl:_=th x.1 x.2.1 (fun y=>ret (aD [.b] y) fun v g=>some (v,g))) (O9 x.1 x.2.1 _)) fun _ _ h=>h
abbrev IU:List (Nat×bm):= [(147,K5)]
theorem z6:ar Tryz.prog (aL IU):=ae SL <| ak _
noncomputable abbrev qv:Code:=cb (b8 Tryz.f70) 0
abbrev fJ:ep:=⟨[(0, .cl (.ro (.st .place))),(1, .cl (.ro (.st .place))),(5, .cl (.int .i64))],[],[],0,27⟩
abbrev lL:List (X×ep):= [(.ret,⟨[(4, .cl (.bl))],[],[],0,27⟩),(.ext 0,⟨[(4, .cl (.dead))],[],[],0,27⟩)]
def rj {ρ:Type} (v1:List aU) (v2:List aU) (v3:Int) (fn: (((List aU)×(List aU)×Int×Unit)×(Unit)×(Unit))→Option ρ) (fe: ((Bool×Unit)×(Unit)×(Unit))⊕((Unit×Unit)×(Unit)×(Unit))→Option ρ):Option ρ:=
 br (decide (v3 < (v1.length:Int))) (aq (0≤v3) ((v1[v3.toNat]?).bind fun x4=>aq (0≤v3) ((v2[v3.toNat]?).bind fun x5=>(pE x4 x5).bind fun y6=>br (!y6.1) (fe (.inl ((false,()),(()),(())))) (fn ((v1,v2,(IntKind.wrap .i64 (v3+1)),()),(()),(())))) none) none) (fe (.inr (((),()),(()),(()))))
def j6 (s:fJ.D):Option (fJ.D⊕bh.D lL):=rj s.1.1 s.1.2.1 s.1.2.2.1 (fun s=>some (.inl s)) (fun e=>some (.inr e))
def vW:fJ.D→Option (bh.D lL):=jB j6
theorem IV {ρ:Type} (s:fJ.D) (fn:fJ.D→Option ρ) (fe:bh.D lL→Option ρ):rj s.1.1 s.1.2.1 s.1.2.2.1 fn fe=(j6 s).bind (Sum.elim fn fe):=by
 simp only [j6,rj,am,ap,Option.bind_none,Option.bind_assoc,Option.bind_some,Sum.elim_inl,Sum.elim_inr]
abbrev CI:cU:=dh [] [0,1,5] fJ lL vW
theorem Gd (s:fJ.D):ev Θ (aL IU) (aK []) qv (fJ.mk' s) (c6 [0,1,5] [4] fun x S=>some (x,S))=(j6 s).bind (Sum.elim (fun s'=>some (.nor,fJ.mk' s')) fun e=>some (bh.e lL e)):=
 Eq.trans (by kernel_rfl:_=rj s.1.1 s.1.2.1 s.1.2.2.1 (fun s'=>some (.nor,fJ.mk' s')) (fun e=>some (bh.e lL e))) (IV s _ _)
theorem Ge:b7 Tryz.prog qv CI:=ba aM z6 af (by kernel_rfl) (dp (by kernel_rfl:_= []) ah) [] [0,1,5] [4] fJ lL (by kernel_rfl) j6 Gd vW (f9 j6) (aO j6)
def ua {ρ:Type} (a0:List aU) (a1:List aU) (k:Bool×Unit→Option ρ):Option ρ:=
 br (!((a0.length:Int)==(a1.length:Int))) (k (false,())) ((vW ((a0,a1,0,()),(()),(()))).bind fun e7=>Sum.elim (fun e7_=>k (e7_.1.1,())) (fun e7_=>k (true,())) e7)
def pn (a0:List aU) (a1:List aU):Option (Bool×Unit):=ua a0 a1 some
theorem MP {ρ:Type} (a0:List aU) (a1:List aU) (k:Bool×Unit→Option ρ):ua a0 a1 k=(pn a0 a1).bind k:=by
 simp only [pn,ua,am,bR,Option.bind_assoc,Option.bind_some]
abbrev IW:bm:=bD [.ty (.ls (.st .place)), .ty (.ls (.st .place))] [.b] fun x=>pn x.1 x.2.1
theorem QF:aA Tryz.prog 70 IW:=
 al (Λ:=aK [(ce qv,CI)]) (fn:=Tryz.f70) aM z6 af (by kernel_rfl) (aG (by kernel_rfl:_= [qv]) (aN (q:=ce qv) rfl Ge fun _ _ _=>by kernel_rfl)) (by kernel_rfl) (fun x=>pn x.1 x.2.1)
  (fun x=>Eq.trans (by kernel_rfl:_=ua x.1 x.2.1 (fun y=>ret (aD [.b] y) fun v g=>some (v,g))) (MP x.1 x.2.1 _)) fun _ _ h=>h
abbrev Pa:List (Nat×bm):= [(67,Fi),(19,IL),(68,z0),(69,K4),(70,IW)]
theorem IX:ar Tryz.prog (aL Pa):=ae O6 <| ae O4 <| ae Kg <| ae SJ <| ae QF <| ak _
def qw {ρ:Type} (a0:ao) (a1:ao) (k:Bool×Unit→Option ρ):Option ρ:=
 br (!(a0.now==a1.now)) (k (false,())) ((nS a0.servers a1.servers).bind fun y1=>br (!y1.1) (k (false,())) ((qq a0.sides a1.sides).bind fun y2=>br (!y2.1) (k (false,())) ((kq a0.master a1.master).bind fun y3=>br (!y3.1) (k (false,())) (br (!(a0.masterUp==a1.masterUp)) (k (false,())) ((q9 a0.lease a1.lease).bind fun y4=>br (!y4.1) (k (false,())) ((pn a0.places a1.places).bind fun y5=>br (!y5.1) (k (false,())) (k (true,()))))))))
def eB (a0:ao) (a1:ao):Option (Bool×Unit):=qw a0 a1 some
theorem Kh {ρ:Type} (a0:ao) (a1:ao) (k:Bool×Unit→Option ρ):qw a0 a1 k=(eB a0 a1).bind k:=by
 simp only [eB,qw,am,Option.bind_assoc,Option.bind_some]
abbrev Fl:bm:=bD [.ty (.st .cluster), .ty (.st .cluster)] [.b] fun x=>eB x.1 x.2.1
theorem Pb:aA Tryz.prog 16 Fl:=
 al (Λ:=aK []) (fn:=Tryz.f16) aM IX af (by kernel_rfl) (aG (by kernel_rfl:_= []) ah) (by kernel_rfl) (fun x=>eB x.1 x.2.1)
  (fun x=>Eq.trans (by kernel_rfl:_=qw x.1 x.2.1 (fun y=>ret (aD [.b] y) fun v g=>some (v,g))) (Kh x.1 x.2.1 _)) fun _ _ h=>h
abbrev z8:List (Nat×bm):= []
theorem vm:ar Tryz.prog (aL z8):=ak _
noncomputable abbrev l9:Code:=cb (b8 Tryz.f21) 0
abbrev dC:ep:=⟨[(0, .cl (.own 0 (.i .i64))),(1, .cl (.int .i64)),(5, .cl (.int .i64))],[],[.i .i64],1,19⟩
abbrev il:List (X×ep):= [(.ext 0,⟨[(1, .cl (.int .i64))],[],[.i .i64],1,19⟩)]
def iX {ρ:Type} (v1:List Int) (v2:Int) (v3:Int) (fn: ((Unit×Int×Int×Unit)×(Unit)×((List Int)×Unit))→Option ρ) (fe: ((Int×Unit)×(Unit)×((List Int)×Unit))→Option ρ):Option ρ:=
 br (decide (v3 < (v1.length:Int))) (aq (0≤v3∧v3 < (v1.length:Int)) ((v1[v3.toNat]?).bind fun _=>fn (((),(IntKind.wrap .i64 (v2+1)),(IntKind.wrap .i64 (v3+1)),()),(()),((v1.set v3.toNat v2),()))) none) (fe ((v2,()),(()),(v1,())))
def ek (s:dC.D):Option (dC.D⊕bh.D il):=iX s.2.2.1 s.1.2.1 s.1.2.2.1 (fun s=>some (.inl s)) (fun e=>some (.inr e))
def rR:dC.D→Option (bh.D il):=jB ek
theorem CJ {ρ:Type} (s:dC.D) (fn:dC.D→Option ρ) (fe:bh.D il→Option ρ):iX s.2.2.1 s.1.2.1 s.1.2.2.1 fn fe=(ek s).bind (Sum.elim fn fe):=by
 simp only [ek,iX,am,ap,Option.bind_none,Option.bind_assoc,Option.bind_some,Sum.elim_inl,Sum.elim_inr]
abbrev wG:cU:=dh [] [0,1,5] dC il rR
theorem A1 (s:dC.D):ev Θ (aL z8) (aK []) l9 (dC.mk' s) (c6 [0,1,5] [1] fun x S=>some (x,S))=(ek s).bind (Sum.elim (fun s'=>some (.nor,dC.mk' s')) fun e=>some (bh.e il e)):=
 Eq.trans (by kernel_rfl:_=iX s.2.2.1 s.1.2.1 s.1.2.2.1 (fun s'=>some (.nor,dC.mk' s')) (fun e=>some (bh.e il e))) (CJ s _ _)
theorem A2:b7 Tryz.prog l9 wG:=ba aM vm af (by kernel_rfl) (dp (by kernel_rfl:_= []) ah) [] [0,1,5] [1] dC il (by kernel_rfl) ek A1 rR (f9 ek) (aO ek)
def qx {ρ:Type} (a0:List Int) (a1:Int) (k: (List Int)×Int×Unit→Option ρ):Option ρ:=
 (rR (((),a1,0,()),(()),(a0,()))).bind fun e6=>k (e6.2.2.1,e6.1.1,())
def eT (a0:List Int) (a1:Int):Option ((List Int)×Int×Unit):=qx a0 a1 some
theorem Gf {ρ:Type} (a0:List Int) (a1:Int) (k: (List Int)×Int×Unit→Option ρ):qx a0 a1 k=(eT a0 a1).bind k:=by
 simp only [eT,qx,Option.bind_assoc,Option.bind_some]
abbrev rk:bm:=Jq (.i .i64) [.ty (.i .i64)] [.i .i64] fun l x=>eT l x.1
theorem uC:aA Tryz.prog (oo 21) rk:=
 tK (Λ:=aK [(ce l9,wG)]) (fn:=Tryz.f21) aM vm af (by kernel_rfl) (aG (by kernel_rfl:_= [l9]) (aN (q:=ce l9) rfl A2 fun _ _ _=>by kernel_rfl)) (by kernel_rfl) (fun l x=>eT l x.1)
  (fun l x=>Eq.trans (by kernel_rfl:_=qx l x.1 (fun y=>Jp (.i .i64) [.i .i64] y fun v g=>some (v,g))) (Gf l x.1 _)) fun _ _ _ h=>h
abbrev wH:List (Nat×bm):= []
theorem tj:ar Tryz.prog (aL wH):=ak _
noncomputable abbrev j7:Code:=cb (b8 Tryz.f26) 0
abbrev cZ:ep:=⟨[(0, .cl (.own 0 (.st .entry))),(1, .cl (.int .i64)),(5, .cl (.int .i64))],[],[.st .entry],1,68⟩
abbrev fK:List (X×ep):= [(.ext 0,⟨[(1, .cl (.int .i64))],[],[.st .entry],1,68⟩)]
def gp {ρ:Type} (v1:List az) (v2:Int) (v3:Int) (fn: ((Unit×Int×Int×Unit)×(Unit)×((List az)×Unit))→Option ρ) (fe: ((Int×Unit)×(Unit)×((List az)×Unit))→Option ρ):Option ρ:=
 br (decide (v3 < (v1.length:Int))) (aq (0≤v3∧v3 < (v1.length:Int)) ((v1[v3.toNat]?).bind fun x4=>let z5:=v1.set v3.toNat (⟨v2,x4.op⟩:az); aq (0≤v3∧v3 < (z5.length:Int)) ((z5[v3.toNat]?).bind fun x6=>let z7:=z5.set v3.toNat (⟨x6.epoch,(⟨(IntKind.wrap .i64 (v2+1)),x6.op.seq,x6.op.kind,x6.op.object,x6.op.old,x6.op.value⟩:Op)⟩:az); aq (0≤v3∧v3 < (z7.length:Int)) ((z7[v3.toNat]?).bind fun x8=>let z9:=z7.set v3.toNat (⟨x8.epoch,(⟨x8.op.client,(IntKind.wrap .i64 ((IntKind.wrap .i64 (v2+1))+1)),x8.op.kind,x8.op.object,x8.op.old,x8.op.value⟩:Op)⟩:az); aq (0≤v3∧v3 < (z9.length:Int)) ((z9[v3.toNat]?).bind fun x10=>let z11:=z9.set v3.toNat (⟨x10.epoch,(⟨x10.op.client,x10.op.seq,(IntKind.wrap .i64 ((IntKind.wrap .i64 ((IntKind.wrap .i64 (v2+1))+1))+1)),x10.op.object,x10.op.old,x10.op.value⟩:Op)⟩:az); aq (0≤v3∧v3 < (z11.length:Int)) ((z11[v3.toNat]?).bind fun x12=>let z13:=z11.set v3.toNat (⟨x12.epoch,(⟨x12.op.client,x12.op.seq,x12.op.kind,(IntKind.wrap .i64 ((IntKind.wrap .i64 ((IntKind.wrap .i64 ((IntKind.wrap .i64 (v2+1))+1))+1))+1)),x12.op.old,x12.op.value⟩:Op)⟩:az); aq (0≤v3∧v3 < (z13.length:Int)) ((z13[v3.toNat]?).bind fun x14=>let z15:=z13.set v3.toNat (⟨x14.epoch,(⟨x14.op.client,x14.op.seq,x14.op.kind,x14.op.object,(IntKind.wrap .i64 ((IntKind.wrap .i64 ((IntKind.wrap .i64 ((IntKind.wrap .i64 ((IntKind.wrap .i64 (v2+1))+1))+1))+1))+1)),x14.op.value⟩:Op)⟩:az); aq (0≤v3∧v3 < (z15.length:Int)) ((z15[v3.toNat]?).bind fun x16=>fn (((),(IntKind.wrap .i64 ((IntKind.wrap .i64 ((IntKind.wrap .i64 ((IntKind.wrap .i64 ((IntKind.wrap .i64 ((IntKind.wrap .i64 ((IntKind.wrap .i64 (v2+1))+1))+1))+1))+1))+1))+1)),(IntKind.wrap .i64 (v3+1)),()),(()),((z15.set v3.toNat (⟨x16.epoch,(⟨x16.op.client,x16.op.seq,x16.op.kind,x16.op.object,x16.op.old,(IntKind.wrap .i64 ((IntKind.wrap .i64 ((IntKind.wrap .i64 ((IntKind.wrap .i64 ((IntKind.wrap .i64 ((IntKind.wrap .i64 (v2+1))+1))+1))+1))+1))+1))⟩:Op)⟩:az)),()))) none) none) none) none) none) none) none) (fe ((v2,()),(()),(v1,())))
def dt (s:cZ.D):Option (cZ.D⊕bh.D fK):=gp s.2.2.1 s.1.2.1 s.1.2.2.1 (fun s=>some (.inl s)) (fun e=>some (.inr e))
def qy:cZ.D→Option (bh.D fK):=jB dt
theorem zn {ρ:Type} (s:cZ.D) (fn:cZ.D→Option ρ) (fe:bh.D fK→Option ρ):gp s.2.2.1 s.1.2.1 s.1.2.2.1 fn fe=(dt s).bind (Sum.elim fn fe):=by
 simp only [dt,gp,am,ap,Option.bind_none,Option.bind_assoc,Option.bind_some,Sum.elim_inl,Sum.elim_inr]
abbrev ub:cU:=dh [] [0,1,5] cZ fK qy
theorem yg (s:cZ.D):ev Θ (aL wH) (aK []) j7 (cZ.mk' s) (c6 [0,1,5] [1] fun x S=>some (x,S))=(dt s).bind (Sum.elim (fun s'=>some (.nor,cZ.mk' s')) fun e=>some (bh.e fK e)):=
 Eq.trans (by kernel_rfl:_=gp s.2.2.1 s.1.2.1 s.1.2.2.1 (fun s'=>some (.nor,cZ.mk' s')) (fun e=>some (bh.e fK e))) (zn s _ _)
theorem yh:b7 Tryz.prog j7 ub:=ba aM tj af (by kernel_rfl) (dp (by kernel_rfl:_= []) ah) [] [0,1,5] [1] cZ fK (by kernel_rfl) dt yg qy (f9 dt) (aO dt)
def of {ρ:Type} (a0:List az) (a1:Int) (k: (List az)×Int×Unit→Option ρ):Option ρ:=
 (qy (((),a1,0,()),(()),(a0,()))).bind fun e18=>k (e18.2.2.1,e18.1.1,())
def fW (a0:List az) (a1:Int):Option ((List az)×Int×Unit):=of a0 a1 some
theorem CK {ρ:Type} (a0:List az) (a1:Int) (k: (List az)×Int×Unit→Option ρ):of a0 a1 k=(fW a0 a1).bind k:=by
 simp only [fW,of,Option.bind_assoc,Option.bind_some]
abbrev wI:bm:=Jq (.st .entry) [.ty (.i .i64)] [.i .i64] fun l x=>fW l x.1
theorem Gg:aA Tryz.prog (oo 26) wI:=
 tK (Λ:=aK [(ce j7,ub)]) (fn:=Tryz.f26) aM tj af (by kernel_rfl) (aG (by kernel_rfl:_= [j7]) (aN (q:=ce j7) rfl yh fun _ _ _=>by kernel_rfl)) (by kernel_rfl) (fun l x=>fW l x.1)
  (fun l x=>Eq.trans (by kernel_rfl:_=of l x.1 (fun y=>Jp (.st .entry) [.i .i64] y fun v g=>some (v,g))) (CK l x.1 _)) fun _ _ _ h=>h
abbrev vn:List (Nat×bm):= [(oo 21,rk),(oo 26,wI)]
theorem se:ar Tryz.prog (aL vn):=ae uC <| ae Gg <| ak _
noncomputable abbrev js:Code:=cb (b8 Tryz.f76) 0
abbrev cN:ep:=⟨[(0, .cl (.own 0 (.st .server))),(1, .cl (.int .i64)),(5, .cl (.int .i64))],[],[.st .server],1,105⟩
abbrev ff:List (X×ep):= [(.ext 0,⟨[(1, .cl (.int .i64))],[],[.st .server],1,105⟩)]
def fQ {ρ:Type} (v1:List aj) (v2:Int) (v3:Int) (fn: ((Unit×Int×Int×Unit)×(Unit)×((List aj)×Unit))→Option ρ) (fe: ((Int×Unit)×(Unit)×((List aj)×Unit))→Option ρ):Option ρ:=
 br (decide (v3 < (v1.length:Int))) (aq (0≤v3∧v3 < (v1.length:Int)) ((v1[v3.toNat]?).bind fun x4=>let z5:=v1.set v3.toNat (⟨((Int.tmod v2 3)==0),x4.intact,x4.version,x4.epoch,x4.config,x4.first,x4.log,x4.commit,x4.learned⟩:aj); aq (0≤v3∧v3 < (z5.length:Int)) ((z5[v3.toNat]?).bind fun x6=>let z7:=z5.set v3.toNat (⟨x6.up,((Int.tmod (IntKind.wrap .i64 (v2+1)) 3)==0),x6.version,x6.epoch,x6.config,x6.first,x6.log,x6.commit,x6.learned⟩:aj); aq (0≤v3∧v3 < (z7.length:Int)) ((z7[v3.toNat]?).bind fun x8=>let z9:=z7.set v3.toNat (⟨x8.up,x8.intact,(IntKind.wrap .i64 ((IntKind.wrap .i64 (v2+1))+1)),x8.epoch,x8.config,x8.first,x8.log,x8.commit,x8.learned⟩:aj); aq (0≤v3∧v3 < (z9.length:Int)) ((z9[v3.toNat]?).bind fun x10=>let z11:=z9.set v3.toNat (⟨x10.up,x10.intact,x10.version,(IntKind.wrap .i64 ((IntKind.wrap .i64 ((IntKind.wrap .i64 (v2+1))+1))+1)),x10.config,x10.first,x10.log,x10.commit,x10.learned⟩:aj); aq (0≤v3∧v3 < (z11.length:Int)) ((z11[v3.toNat]?).bind fun x12=>let z13:=z11.set v3.toNat (⟨x12.up,x12.intact,x12.version,x12.epoch,(⟨(IntKind.wrap .i64 ((IntKind.wrap .i64 ((IntKind.wrap .i64 ((IntKind.wrap .i64 (v2+1))+1))+1))+1)),x12.config.primary,x12.config.replicas,x12.config.witnesses⟩:ai),x12.first,x12.log,x12.commit,x12.learned⟩:aj); aq (0≤v3∧v3 < (z13.length:Int)) ((z13[v3.toNat]?).bind fun x14=>let z15:=z13.set v3.toNat (⟨x14.up,x14.intact,x14.version,x14.epoch,(⟨x14.config.epoch,(IntKind.wrap .i64 ((IntKind.wrap .i64 ((IntKind.wrap .i64 ((IntKind.wrap .i64 ((IntKind.wrap .i64 (v2+1))+1))+1))+1))+1)),x14.config.replicas,x14.config.witnesses⟩:ai),x14.first,x14.log,x14.commit,x14.learned⟩:aj); aq (0≤v3∧v3 < (z15.length:Int)) ((z15[v3.toNat]?).bind fun x16=>(z15[v3.toNat]?).bind fun x17=>aq ((0:Nat)=0∧x16.config.replicas.length=x17.config.replicas.length) ((eT x17.config.replicas (IntKind.wrap .i64 ((IntKind.wrap .i64 ((IntKind.wrap .i64 ((IntKind.wrap .i64 ((IntKind.wrap .i64 ((IntKind.wrap .i64 (v2+1))+1))+1))+1))+1))+1))).bind fun y18=>aq (y18.1.length=x17.config.replicas.length) (let z19:=z15.set v3.toNat (⟨x17.up,x17.intact,x17.version,x17.epoch,(⟨x17.config.epoch,x17.config.primary,y18.1,x17.config.witnesses⟩:ai),x17.first,x17.log,x17.commit,x17.learned⟩:aj); aq (0≤v3∧v3 < (z19.length:Int)) ((z19[v3.toNat]?).bind fun x20=>(z19[v3.toNat]?).bind fun x21=>aq ((0:Nat)=0∧x20.config.witnesses.length=x21.config.witnesses.length) ((eT x21.config.witnesses y18.2.1).bind fun y22=>aq (y22.1.length=x21.config.witnesses.length) (let z23:=z19.set v3.toNat (⟨x21.up,x21.intact,x21.version,x21.epoch,(⟨x21.config.epoch,x21.config.primary,x21.config.replicas,y22.1⟩:ai),x21.first,x21.log,x21.commit,x21.learned⟩:aj); aq (0≤v3∧v3 < (z23.length:Int)) ((z23[v3.toNat]?).bind fun x24=>let z25:=z23.set v3.toNat (⟨x24.up,x24.intact,x24.version,x24.epoch,x24.config,y22.2.1,x24.log,x24.commit,x24.learned⟩:aj); aq (0≤v3∧v3 < (z25.length:Int)) ((z25[v3.toNat]?).bind fun x26=>(z25[v3.toNat]?).bind fun x27=>aq ((0:Nat)=0∧x26.log.length=x27.log.length) ((fW x27.log (IntKind.wrap .i64 (y22.2.1+1))).bind fun y28=>aq (y28.1.length=x27.log.length) (let z29:=z25.set v3.toNat (⟨x27.up,x27.intact,x27.version,x27.epoch,x27.config,x27.first,y28.1,x27.commit,x27.learned⟩:aj); aq (0≤v3∧v3 < (z29.length:Int)) ((z29[v3.toNat]?).bind fun x30=>let z31:=z29.set v3.toNat (⟨x30.up,x30.intact,x30.version,x30.epoch,x30.config,x30.first,x30.log,y28.2.1,x30.learned⟩:aj); aq (0≤v3∧v3 < (z31.length:Int)) ((z31[v3.toNat]?).bind fun x32=>(z31[v3.toNat]?).bind fun x33=>aq ((0:Nat)=0∧x32.learned.length=x33.learned.length) ((fW x33.learned (IntKind.wrap .i64 (y28.2.1+1))).bind fun y34=>aq (y34.1.length=x33.learned.length) (fn (((),y34.2.1,(IntKind.wrap .i64 (v3+1)),()),(()),((z31.set v3.toNat (⟨x33.up,x33.intact,x33.version,x33.epoch,x33.config,x33.first,x33.log,x33.commit,y34.1⟩:aj)),()))) none) none) none) none) none) none) none) none) none) none) none) none) none) none) none) none) none) none) none) none) (fe ((v2,()),(()),(v1,())))
def c9 (s:cN.D):Option (cN.D⊕bh.D ff):=fQ s.2.2.1 s.1.2.1 s.1.2.2.1 (fun s=>some (.inl s)) (fun e=>some (.inr e))
def po:cN.D→Option (bh.D ff):=jB c9
theorem yi {ρ:Type} (s:cN.D) (fn:cN.D→Option ρ) (fe:bh.D ff→Option ρ):fQ s.2.2.1 s.1.2.1 s.1.2.2.1 fn fe=(c9 s).bind (Sum.elim fn fe):=by
 simp only [c9,fQ,am,ap,Option.bind_none,Option.bind_assoc,Option.bind_some,Sum.elim_inl,Sum.elim_inr]
abbrev tm:cU:=dh [] [0,1,5] cN ff po
theorem wY (s:cN.D):ev Θ (aL vn) (aK []) js (cN.mk' s) (c6 [0,1,5] [1] fun x S=>some (x,S))=(c9 s).bind (Sum.elim (fun s'=>some (.nor,cN.mk' s')) fun e=>some (bh.e ff e)):=
 Eq.trans (by kernel_rfl:_=fQ s.2.2.1 s.1.2.1 s.1.2.2.1 (fun s'=>some (.nor,cN.mk' s')) (fun e=>some (bh.e ff e))) (yi s _ _)
theorem wZ:b7 Tryz.prog js tm:=ba aM se af (by kernel_rfl) (dp (by kernel_rfl:_= []) ah) [] [0,1,5] [1] cN ff (by kernel_rfl) c9 wY po (f9 c9) (aO c9)
def mD {ρ:Type} (a0:List aj) (a1:Int) (k: (List aj)×Int×Unit→Option ρ):Option ρ:=
 (po (((),a1,0,()),(()),(a0,()))).bind fun e36=>k (e36.2.2.1,e36.1.1,())
def gq (a0:List aj) (a1:Int):Option ((List aj)×Int×Unit):=mD a0 a1 some
theorem A3 {ρ:Type} (a0:List aj) (a1:Int) (k: (List aj)×Int×Unit→Option ρ):mD a0 a1 k=(gq a0 a1).bind k:=by
 simp only [gq,mD,Option.bind_assoc,Option.bind_some]
abbrev vo:bm:=Jq (.st .server) [.ty (.i .i64)] [.i .i64] fun l x=>gq l x.1
theorem Ei:aA Tryz.prog (oo 76) vo:=
 tK (Λ:=aK [(ce js,tm)]) (fn:=Tryz.f76) aM se af (by kernel_rfl) (aG (by kernel_rfl:_= [js]) (aN (q:=ce js) rfl wZ fun _ _ _=>by kernel_rfl)) (by kernel_rfl) (fun l x=>gq l x.1)
  (fun l x=>Eq.trans (by kernel_rfl:_=mD l x.1 (fun y=>Jp (.st .server) [.i .i64] y fun v g=>some (v,g))) (A3 l x.1 _)) fun _ _ _ h=>h
abbrev vp:List (Nat×bm):= [(oo 21,rk)]
theorem sf:ar Tryz.prog (aL vp):=ae uC <| ak _
noncomputable abbrev jt:Code:=cb (b8 Tryz.f152) 0
abbrev cO:ep:=⟨[(0, .cl (.own 0 (.st .config))),(1, .cl (.int .i64)),(5, .cl (.int .i64))],[],[.st .config],1,41⟩
abbrev fg:List (X×ep):= [(.ext 0,⟨[(1, .cl (.int .i64))],[],[.st .config],1,41⟩)]
def fR {ρ:Type} (v1:List ai) (v2:Int) (v3:Int) (fn: ((Unit×Int×Int×Unit)×(Unit)×((List ai)×Unit))→Option ρ) (fe: ((Int×Unit)×(Unit)×((List ai)×Unit))→Option ρ):Option ρ:=
 br (decide (v3 < (v1.length:Int))) (aq (0≤v3∧v3 < (v1.length:Int)) ((v1[v3.toNat]?).bind fun x4=>let z5:=v1.set v3.toNat (⟨v2,x4.primary,x4.replicas,x4.witnesses⟩:ai); aq (0≤v3∧v3 < (z5.length:Int)) ((z5[v3.toNat]?).bind fun x6=>let z7:=z5.set v3.toNat (⟨x6.epoch,(IntKind.wrap .i64 (v2+1)),x6.replicas,x6.witnesses⟩:ai); aq (0≤v3∧v3 < (z7.length:Int)) ((z7[v3.toNat]?).bind fun x8=>(z7[v3.toNat]?).bind fun x9=>aq ((0:Nat)=0∧x8.replicas.length=x9.replicas.length) ((eT x9.replicas (IntKind.wrap .i64 ((IntKind.wrap .i64 (v2+1))+1))).bind fun y10=>aq (y10.1.length=x9.replicas.length) (let z11:=z7.set v3.toNat (⟨x9.epoch,x9.primary,y10.1,x9.witnesses⟩:ai); aq (0≤v3∧v3 < (z11.length:Int)) ((z11[v3.toNat]?).bind fun x12=>(z11[v3.toNat]?).bind fun x13=>aq ((0:Nat)=0∧x12.witnesses.length=x13.witnesses.length) ((eT x13.witnesses y10.2.1).bind fun y14=>aq (y14.1.length=x13.witnesses.length) (fn (((),y14.2.1,(IntKind.wrap .i64 (v3+1)),()),(()),((z11.set v3.toNat (⟨x13.epoch,x13.primary,x13.replicas,y14.1⟩:ai)),()))) none) none) none) none) none) none) none) none) (fe ((v2,()),(()),(v1,())))
def da (s:cO.D):Option (cO.D⊕bh.D fg):=fR s.2.2.1 s.1.2.1 s.1.2.2.1 (fun s=>some (.inl s)) (fun e=>some (.inr e))
def pp:cO.D→Option (bh.D fg):=jB da
theorem yj {ρ:Type} (s:cO.D) (fn:cO.D→Option ρ) (fe:bh.D fg→Option ρ):fR s.2.2.1 s.1.2.1 s.1.2.2.1 fn fe=(da s).bind (Sum.elim fn fe):=by
 simp only [da,fR,am,ap,Option.bind_none,Option.bind_assoc,Option.bind_some,Sum.elim_inl,Sum.elim_inr]
abbrev tn:cU:=dh [] [0,1,5] cO fg pp
theorem w3 (s:cO.D):ev Θ (aL vp) (aK []) jt (cO.mk' s) (c6 [0,1,5] [1] fun x S=>some (x,S))=(da s).bind (Sum.elim (fun s'=>some (.nor,cO.mk' s')) fun e=>some (bh.e fg e)):=
 Eq.trans (by kernel_rfl:_=fR s.2.2.1 s.1.2.1 s.1.2.2.1 (fun s'=>some (.nor,cO.mk' s')) (fun e=>some (bh.e fg e))) (yj s _ _)
theorem w4:b7 Tryz.prog jt tn:=ba aM sf af (by kernel_rfl) (dp (by kernel_rfl:_= []) ah) [] [0,1,5] [1] cO fg (by kernel_rfl) da w3 pp (f9 da) (aO da)
def mF {ρ:Type} (a0:List ai) (a1:Int) (k: (List ai)×Int×Unit→Option ρ):Option ρ:=
 (pp (((),a1,0,()),(()),(a0,()))).bind fun e16=>k (e16.2.2.1,e16.1.1,())
def gr (a0:List ai) (a1:Int):Option ((List ai)×Int×Unit):=mF a0 a1 some
theorem A4 {ρ:Type} (a0:List ai) (a1:Int) (k: (List ai)×Int×Unit→Option ρ):mF a0 a1 k=(gr a0 a1).bind k:=by
 simp only [gr,mF,Option.bind_assoc,Option.bind_some]
abbrev vq:bm:=Jq (.st .config) [.ty (.i .i64)] [.i .i64] fun l x=>gr l x.1
theorem Ej:aA Tryz.prog (oo 152) vq:=
 tK (Λ:=aK [(ce jt,tn)]) (fn:=Tryz.f152) aM sf af (by kernel_rfl) (aG (by kernel_rfl:_= [jt]) (aN (q:=ce jt) rfl w4 fun _ _ _=>by kernel_rfl)) (by kernel_rfl) (fun l x=>gr l x.1)
  (fun l x=>Eq.trans (by kernel_rfl:_=mF l x.1 (fun y=>Jp (.st .config) [.i .i64] y fun v g=>some (v,g))) (A4 l x.1 _)) fun _ _ _ h=>h
abbrev A5:List (Nat×bm):= [(oo 152,vq)]
theorem w5:ar Tryz.prog (aL A5):=ae Ej <| ak _
def it {ρ:Type} (a0:an) (a1:Int) (k:an×Int×Unit→Option ρ):Option ρ:=
 (gr a0.configs a1).bind fun y1=>aq (y1.1.length=a0.configs.length) (k ((⟨y1.1,a0.activated⟩:an),y1.2.1,())) none
def gt (a0:an) (a1:Int):Option (an×Int×Unit):=it a0 a1 some
theorem yk {ρ:Type} (a0:an) (a1:Int) (k:an×Int×Unit→Option ρ):it a0 a1 k=(gt a0 a1).bind k:=by
 simp only [gt,it,ap,Option.bind_none,Option.bind_assoc,Option.bind_some]
abbrev to:bm:=VV (.st .masterLog) [.ty (.i .i64)] [.i .i64] fun l x=>gt l x.1
theorem A6:aA Tryz.prog (oo 77) to:=
 Rm (Λ:=aK []) (fn:=Tryz.f77) aM w5 af (by kernel_rfl) (aG (by kernel_rfl:_= []) ah) (by kernel_rfl) (fun l x=>gt l x.1)
  (fun l x=>Eq.trans (by kernel_rfl:_=it l x.1 (fun y=>VU (.st .masterLog) [.i .i64] y fun v g=>some (v,g))) (yk l x.1 _)) fun _ _ _ h=>h
abbrev wJ:List (Nat×bm):= []
theorem tp:ar Tryz.prog (aL wJ):=ak _
noncomputable abbrev j8:Code:=cb (b8 Tryz.f78) 0
abbrev c5:ep:=⟨[(0, .cl (.own 0 (.st .place))),(1, .cl (.int .i64)),(5, .cl (.int .i64))],[],[.st .place],1,34⟩
abbrev fL:List (X×ep):= [(.ext 0,⟨[(1, .cl (.int .i64))],[],[.st .place],1,34⟩)]
def gv {ρ:Type} (v1:List aU) (v2:Int) (v3:Int) (fn: ((Unit×Int×Int×Unit)×(Unit)×((List aU)×Unit))→Option ρ) (fe: ((Int×Unit)×(Unit)×((List aU)×Unit))→Option ρ):Option ρ:=
 br (decide (v3 < (v1.length:Int))) (aq (0≤v3∧v3 < (v1.length:Int)) ((v1[v3.toNat]?).bind fun x4=>let z5:=v1.set v3.toNat (⟨v2,x4.capacity,x4.load⟩:aU); aq (0≤v3∧v3 < (z5.length:Int)) ((z5[v3.toNat]?).bind fun x6=>let z7:=z5.set v3.toNat (⟨x6.rack,(IntKind.wrap .i64 (v2+1)),x6.load⟩:aU); aq (0≤v3∧v3 < (z7.length:Int)) ((z7[v3.toNat]?).bind fun x8=>fn (((),(IntKind.wrap .i64 ((IntKind.wrap .i64 ((IntKind.wrap .i64 (v2+1))+1))+1)),(IntKind.wrap .i64 (v3+1)),()),(()),((z7.set v3.toNat (⟨x8.rack,x8.capacity,(IntKind.wrap .i64 ((IntKind.wrap .i64 (v2+1))+1))⟩:aU)),()))) none) none) none) (fe ((v2,()),(()),(v1,())))
def du (s:c5.D):Option (c5.D⊕bh.D fL):=gv s.2.2.1 s.1.2.1 s.1.2.2.1 (fun s=>some (.inl s)) (fun e=>some (.inr e))
def qz:c5.D→Option (bh.D fL):=jB du
theorem zo {ρ:Type} (s:c5.D) (fn:c5.D→Option ρ) (fe:bh.D fL→Option ρ):gv s.2.2.1 s.1.2.1 s.1.2.2.1 fn fe=(du s).bind (Sum.elim fn fe):=by
 simp only [du,gv,am,ap,Option.bind_none,Option.bind_assoc,Option.bind_some,Sum.elim_inl,Sum.elim_inr]
abbrev uc:cU:=dh [] [0,1,5] c5 fL qz
theorem yl (s:c5.D):ev Θ (aL wJ) (aK []) j8 (c5.mk' s) (c6 [0,1,5] [1] fun x S=>some (x,S))=(du s).bind (Sum.elim (fun s'=>some (.nor,c5.mk' s')) fun e=>some (bh.e fL e)):=
 Eq.trans (by kernel_rfl:_=gv s.2.2.1 s.1.2.1 s.1.2.2.1 (fun s'=>some (.nor,c5.mk' s')) (fun e=>some (bh.e fL e))) (zo s _ _)
theorem ym:b7 Tryz.prog j8 uc:=ba aM tp af (by kernel_rfl) (dp (by kernel_rfl:_= []) ah) [] [0,1,5] [1] c5 fL (by kernel_rfl) du yl qz (f9 du) (aO du)
def og {ρ:Type} (a0:List aU) (a1:Int) (k: (List aU)×Int×Unit→Option ρ):Option ρ:=
 (qz (((),a1,0,()),(()),(a0,()))).bind fun e10=>k (e10.2.2.1,e10.1.1,())
def im (a0:List aU) (a1:Int):Option ((List aU)×Int×Unit):=og a0 a1 some
theorem CL {ρ:Type} (a0:List aU) (a1:Int) (k: (List aU)×Int×Unit→Option ρ):og a0 a1 k=(im a0 a1).bind k:=by
 simp only [im,og,Option.bind_assoc,Option.bind_some]
abbrev wK:bm:=Jq (.st .place) [.ty (.i .i64)] [.i .i64] fun l x=>im l x.1
theorem Gh:aA Tryz.prog (oo 78) wK:=
 tK (Λ:=aK [(ce j8,uc)]) (fn:=Tryz.f78) aM tp af (by kernel_rfl) (aG (by kernel_rfl:_= [j8]) (aN (q:=ce j8) rfl ym fun _ _ _=>by kernel_rfl)) (by kernel_rfl) (fun l x=>im l x.1)
  (fun l x=>Eq.trans (by kernel_rfl:_=og l x.1 (fun y=>Jp (.st .place) [.i .i64] y fun v g=>some (v,g))) (CL l x.1 _)) fun _ _ _ h=>h
abbrev Ek:List (Nat×bm):= [(oo 76,vo),(oo 21,rk),(oo 77,to),(oo 78,wK)]
theorem zp:ar Tryz.prog (aL Ek):=ae Ei <| ae uC <| ae A6 <| ae Gh <| ak _
def j9 {ρ:Type} (a0:ao) (a1:Int) (k:ao×Int×Unit→Option ρ):Option ρ:=
 (gq a0.servers a1).bind fun y1=>aq (y1.1.length=a0.servers.length) ((eT a0.sides y1.2.1).bind fun y2=>aq (y2.1.length=a0.sides.length) ((gt a0.master y2.2.1).bind fun y3=>aq (y3.1.configs.length=a0.master.configs.length) ((im a0.places y3.2.1).bind fun y4=>aq (y4.1.length=a0.places.length) (k ((⟨a0.now,y1.1,y2.1,(⟨y3.1.configs,a0.master.activated⟩:an),a0.masterUp,a0.lease,y4.1⟩:ao),y4.2.1,())) none) none) none) none
def dI (a0:ao) (a1:Int):Option (ao×Int×Unit):=j9 a0 a1 some
theorem A7 {ρ:Type} (a0:ao) (a1:Int) (k:ao×Int×Unit→Option ρ):j9 a0 a1 k=(dI a0 a1).bind k:=by
 simp only [dI,j9,ap,Option.bind_none,Option.bind_assoc,Option.bind_some]
abbrev vr:bm:=VV (.st .cluster) [.ty (.i .i64)] [.i .i64] fun l x=>dI l x.1
theorem El:aA Tryz.prog (oo 20) vr:=
 Rm (Λ:=aK []) (fn:=Tryz.f20) aM zp af (by kernel_rfl) (aG (by kernel_rfl:_= []) ah) (by kernel_rfl) (fun l x=>dI l x.1)
  (fun l x=>Eq.trans (by kernel_rfl:_=j9 l x.1 (fun y=>VU (.st .cluster) [.i .i64] y fun v g=>some (v,g))) (A7 l x.1 _)) fun _ _ _ h=>h
end
end Go.Proofs.YtkcgfceffffmoaaGreat.En
