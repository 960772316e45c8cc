/- Printed by a program: the walk. -/
import Derived.Test.YtkcgfceffffmoaaGreatZTh
namespace Go.Proofs.YtkcgfceffffmoaaGreat.En
open Go
noncomputable section
def SO:ByteArray:=⟨⟨[0,1,2,2,3,3,3,3,4,4,4,4,4,4,4,4,5,5,5,5,5,5,5,5,5,5,5,5,5,5,5,5,6,6,6,6,6,6,6,6,6,6,6,6,6,6,6,6,6,6,6,6,6,6,6,6,6,6,6,6,6,6,6,6,7,7,7,7,7,7,7,7,7,7,7,7,7,7,7,7,7,7,7,7,7,7,7,7,7,7,7,7,7,7,7,7,7,7,7,7,7,7,7,7,7,7,7,7,7,7,7,7,7,7,7,7,7,7,7,7,7,7,7,7,7,7,7,7,8,8,8,8,8,8,8,8,8,8,8,8,8,8,8,8,8,8,8,8,8,8,8,8,8,8,8,8,8,8,8,8,8,8,8,8,8,8,8,8,8,8,8,8,8,8,8,8,8,8,8,8,8,8,8,8,8,8,8,8,8,8,8,8,8,8,8,8,8,8,8,8,8,8,8,8,8,8,8,8,8,8,8,8,8,8,8,8,8,8,8,8,8,8,8,8,8,8,8,8,8,8,8,8,8,8,8,8,8,8,8,8,8,8,8,8,8,8,8,8,8,8,8,8,8,8,8,8]⟩⟩
theorem af:Tryz.prog.follows .mixedOrders=true:=by kernel_rfl
abbrev OL:List (Nat×bw):= []
theorem IU:aw Tryz.prog (aP OL):=aj _
def uC {ρ:Type} (a0:List Int) (a1:Int) (k:Int×Unit→Option ρ):Option ρ:=
 br (decide ((IntKind.wrap .i64 (a1 - (a0.length:Int))) < 0)) (k ((-1),())) (k ((IntKind.wrap .i64 (a1 - (a0.length:Int))),()))
def oL (a0:List Int) (a1:Int):Option (Int×Unit):=uC a0 a1 some
theorem KE {ρ:Type} (a0:List Int) (a1:Int) (k:Int×Unit→Option ρ):uC a0 a1 k=(oL a0 a1).bind k:=by
 simp only [oL,uC,al,Option.bind_some]
abbrev Cu:bw:=bE [.ty (.ls (.i .i64)), .ty (.i .i64)] [.i .i64] fun x=>oL x.1 x.2.1
theorem IV:aB Tryz.prog 43 Cu:=
 ak (Λ:=aM []) (fn:=Tryz.f43) aQ IU af (by kernel_rfl) (aI (by kernel_rfl:_= []) ah) (by kernel_rfl) (fun x=>oL x.1 x.2.1)
  (fun x=>Eq.trans (by kernel_rfl:_=uC x.1 x.2.1 (fun y=>ret (aA [.i .i64] y) fun v g=>some (v,g))) (KE x.1 x.2.1 _)) fun _ _ h=>h
abbrev KF:List (Nat×bw):= [(43,Cu)]
theorem D3:aw Tryz.prog (aP KF):=ae IV <| aj _
def oM {ρ:Type} (a0:ai) (a1:Int) (k:Int×Unit→Option ρ):Option ρ:=
 (oL a0.replicas a1).bind fun y1=>br (decide (y1.1 < 0)) (k ((-1),())) ((oL a0.witnesses y1.1).bind fun y2=>br (decide (y2.1 < 0)) (k ((-1),())) (k (y2.1,())))
def jt (a0:ai) (a1:Int):Option (Int×Unit):=oM a0 a1 some
theorem Gw {ρ:Type} (a0:ai) (a1:Int) (k:Int×Unit→Option ρ):oM a0 a1 k=(jt a0 a1).bind k:=by
 simp only [jt,oM,al,Option.bind_assoc,Option.bind_some]
abbrev vI:bw:=bE [.ty (.st .config), .ty (.i .i64)] [.i .i64] fun x=>jt x.1 x.2.1
theorem Cv:aB Tryz.prog 206 vI:=
 ak (Λ:=aM []) (fn:=Tryz.f206) aQ D3 af (by kernel_rfl) (aI (by kernel_rfl:_= []) ah) (by kernel_rfl) (fun x=>jt x.1 x.2.1)
  (fun x=>Eq.trans (by kernel_rfl:_=oM x.1 x.2.1 (fun y=>ret (aA [.i .i64] y) fun v g=>some (v,g))) (Gw x.1 x.2.1 _)) fun _ _ h=>h
abbrev KG:List (Nat×bw):= []
theorem D4:aw Tryz.prog (aP KG):=aj _
def qt {ρ:Type} (a0:List bK) (a1:Int) (k:Int×Unit→Option ρ):Option ρ:=
 br (decide ((IntKind.wrap .i64 (a1 - (a0.length:Int))) < 0)) (k ((-1),())) (k ((IntKind.wrap .i64 (a1 - (a0.length:Int))),()))
def mp (a0:List bK) (a1:Int):Option (Int×Unit):=qt a0 a1 some
theorem Gx {ρ:Type} (a0:List bK) (a1:Int) (k:Int×Unit→Option ρ):qt a0 a1 k=(mp a0 a1).bind k:=by
 simp only [mp,qt,al,Option.bind_some]
abbrev Cw:bw:=bE [.ty (.ls (.st .entry)), .ty (.i .i64)] [.i .i64] fun x=>mp x.1 x.2.1
theorem KH:aB Tryz.prog 207 Cw:=
 ak (Λ:=aM []) (fn:=Tryz.f207) aQ D4 af (by kernel_rfl) (aI (by kernel_rfl:_= []) ah) (by kernel_rfl) (fun x=>mp x.1 x.2.1)
  (fun x=>Eq.trans (by kernel_rfl:_=qt x.1 x.2.1 (fun y=>ret (aA [.i .i64] y) fun v g=>some (v,g))) (Gx x.1 x.2.1 _)) fun _ _ h=>h
abbrev KI:List (Nat×bw):= [(206,vI),(207,Cw)]
theorem D5:aw Tryz.prog (aP KI):=ae Cv <| ae KH <| aj _
def oO {ρ:Type} (a0:aZ) (a1:Int) (k:Int×Unit→Option ρ):Option ρ:=
 (jt a0.config a1).bind fun y1=>br (decide (y1.1 < 0)) (k ((-1),())) ((mp a0.log y1.1).bind fun y2=>br (decide (y2.1 < 0)) (k ((-1),())) ((mp a0.learned y2.1).bind fun y3=>br (decide (y3.1 < 0)) (k ((-1),())) (k (y3.1,()))))
def kq (a0:aZ) (a1:Int):Option (Int×Unit):=oO a0 a1 some
theorem Gy {ρ:Type} (a0:aZ) (a1:Int) (k:Int×Unit→Option ρ):oO a0 a1 k=(kq a0 a1).bind k:=by
 simp only [kq,oO,al,Option.bind_assoc,Option.bind_some]
abbrev Cx:bw:=bE [.ty (.st .server), .ty (.i .i64)] [.i .i64] fun x=>kq x.1 x.2.1
theorem KJ:aB Tryz.prog 118 Cx:=
 ak (Λ:=aM []) (fn:=Tryz.f118) aQ D5 af (by kernel_rfl) (aI (by kernel_rfl:_= []) ah) (by kernel_rfl) (fun x=>kq x.1 x.2.1)
  (fun x=>Eq.trans (by kernel_rfl:_=oO x.1 x.2.1 (fun y=>ret (aA [.i .i64] y) fun v g=>some (v,g))) (Gy x.1 x.2.1 _)) fun _ _ h=>h
abbrev zM:List (Nat×bw):= [(118,Cx)]
theorem tz:aw Tryz.prog (aP zM):=ae KJ <| aj _
noncomputable abbrev lE:Code:=cG (cz Tryz.f42) 0
abbrev dE:eJ:=⟨[(0, .cl (.ro (.st .server))),(1, .cl (.int .i64)),(5, .cl (.int .i64))],[],[],0,27⟩
abbrev ik:List (X×eJ):= [(.ret,⟨[(1, .cl (.int .i64)),(4, .cl (.int .i64))],[],[],0,27⟩),(.ext 0,⟨[(1, .cl (.int .i64)),(4, .cl (.dead))],[],[],0,27⟩)]
def nk {ρ:Type} (v1:List aZ) (v2:Int) (v3:Int) (fn: (((List aZ)×Int×Int×Unit)×(Unit)×(Unit))→Option ρ) (fe: ((Int×Int×Unit)×(Unit)×(Unit))⊕((Int×Unit×Unit)×(Unit)×(Unit))→Option ρ):Option ρ:=
 br (decide (v3 < (v1.length:Int))) (aL (0≤v3) ((v1[v3.toNat]?).bind fun x4=>(kq x4 v2).bind fun y5=>br (decide (y5.1 < 0)) (fe (.inl ((y5.1,(-1),()),(()),(())))) (fn ((v1,y5.1,(IntKind.wrap .i64 (v3+1)),()),(()),(())))) none) (fe (.inr ((v2,(),()),(()),(()))))
def fI (s:dE.D):Option (dE.D⊕bD.D ik):=nk s.1.1 s.1.2.1 s.1.2.2.1 (fun s=>some (.inl s)) (fun e=>some (.inr e))
def qR:dE.D→Option (bD.D ik):=j4 fI
theorem Av {ρ:Type} (s:dE.D) (fn:dE.D→Option ρ) (fe:bD.D ik→Option ρ):nk s.1.1 s.1.2.1 s.1.2.2.1 fn fe=(fI s).bind (Sum.elim fn fe):=by
 simp only [fI,nk,al,ap,Option.bind_none,Option.bind_assoc,Option.bind_some,Sum.elim_inl,Sum.elim_inr]
abbrev uW:dk:=dD [] [0,1,5] dE ik qR
theorem yp (s:dE.D):eM Θ (aP zM) (aM []) lE (dE.mk' s) (dy [0,1,5] [1,4] fun x S=>some (x,S))=(fI s).bind (Sum.elim (fun s'=>some (.nor,dE.mk' s')) fun e=>some (bD.e ik e)):=
 Eq.trans (by kernel_rfl:_=nk s.1.1 s.1.2.1 s.1.2.2.1 (fun s'=>some (.nor,dE.mk' s')) (fun e=>some (bD.e ik e))) (Av s _ _)
theorem yq:cy Tryz.prog lE uW:=bm aQ tz af (by kernel_rfl) (dX (by kernel_rfl:_= []) ah) [] [0,1,5] [1,4] dE ik (by kernel_rfl) fI yp qR (gT fI) (aX fI)
def pt {ρ:Type} (a0:List aZ) (a1:Int) (k:Int×Unit→Option ρ):Option ρ:=
 br (decide ((IntKind.wrap .i64 (a1 - (a0.length:Int))) < 0)) (k ((-1),())) ((qR ((a0,(IntKind.wrap .i64 (a1 - (a0.length:Int))),0,()),(()),(()))).bind fun e6=>Sum.elim (fun e6_=>k (e6_.1.2.1,())) (fun e6_=>k (e6_.1.1,())) e6)
def mO (a0:List aZ) (a1:Int):Option (Int×Unit):=pt a0 a1 some
theorem D6 {ρ:Type} (a0:List aZ) (a1:Int) (k:Int×Unit→Option ρ):pt a0 a1 k=(mO a0 a1).bind k:=by
 simp only [mO,pt,al,cf,Option.bind_assoc,Option.bind_some]
abbrev zN:bw:=bE [.ty (.ls (.st .server)), .ty (.i .i64)] [.i .i64] fun x=>mO x.1 x.2.1
theorem IW:aB Tryz.prog 42 zN:=
 ak (Λ:=aM [(cd lE,uW)]) (fn:=Tryz.f42) aQ tz af (by kernel_rfl) (aI (by kernel_rfl:_= [lE]) (aW (q:=cd lE) rfl yq fun _ _ _=>by kernel_rfl)) (by kernel_rfl) (fun x=>mO x.1 x.2.1)
  (fun x=>Eq.trans (by kernel_rfl:_=pt x.1 x.2.1 (fun y=>ret (aA [.i .i64] y) fun v g=>some (v,g))) (D6 x.1 x.2.1 _)) fun _ _ h=>h
abbrev zO:List (Nat×bw):= [(206,vI)]
theorem tA:aw Tryz.prog (aP zO):=ae Cv <| aj _
noncomputable abbrev lF:Code:=cG (cz Tryz.f119) 0
abbrev dF:eJ:=⟨[(0, .cl (.ro (.st .config))),(1, .cl (.int .i64)),(5, .cl (.int .i64))],[],[],0,27⟩
abbrev il:List (X×eJ):= [(.ret,⟨[(1, .cl (.int .i64)),(4, .cl (.int .i64))],[],[],0,27⟩),(.ext 0,⟨[(1, .cl (.int .i64)),(4, .cl (.dead))],[],[],0,27⟩)]
def nl {ρ:Type} (v1:List ai) (v2:Int) (v3:Int) (fn: (((List ai)×Int×Int×Unit)×(Unit)×(Unit))→Option ρ) (fe: ((Int×Int×Unit)×(Unit)×(Unit))⊕((Int×Unit×Unit)×(Unit)×(Unit))→Option ρ):Option ρ:=
 br (decide (v3 < (v1.length:Int))) (aL (0≤v3) ((v1[v3.toNat]?).bind fun x4=>(jt x4 v2).bind fun y5=>br (decide (y5.1 < 0)) (fe (.inl ((y5.1,(-1),()),(()),(())))) (fn ((v1,y5.1,(IntKind.wrap .i64 (v3+1)),()),(()),(())))) none) (fe (.inr ((v2,(),()),(()),(()))))
def fJ (s:dF.D):Option (dF.D⊕bD.D il):=nl s.1.1 s.1.2.1 s.1.2.2.1 (fun s=>some (.inl s)) (fun e=>some (.inr e))
def qS:dF.D→Option (bD.D il):=j4 fJ
theorem Aw {ρ:Type} (s:dF.D) (fn:dF.D→Option ρ) (fe:bD.D il→Option ρ):nl s.1.1 s.1.2.1 s.1.2.2.1 fn fe=(fJ s).bind (Sum.elim fn fe):=by
 simp only [fJ,nl,al,ap,Option.bind_none,Option.bind_assoc,Option.bind_some,Sum.elim_inl,Sum.elim_inr]
abbrev uX:dk:=dD [] [0,1,5] dF il qS
theorem yr (s:dF.D):eM Θ (aP zO) (aM []) lF (dF.mk' s) (dy [0,1,5] [1,4] fun x S=>some (x,S))=(fJ s).bind (Sum.elim (fun s'=>some (.nor,dF.mk' s')) fun e=>some (bD.e il e)):=
 Eq.trans (by kernel_rfl:_=nl s.1.1 s.1.2.1 s.1.2.2.1 (fun s'=>some (.nor,dF.mk' s')) (fun e=>some (bD.e il e))) (Aw s _ _)
theorem yt:cy Tryz.prog lF uX:=bm aQ tA af (by kernel_rfl) (dX (by kernel_rfl:_= []) ah) [] [0,1,5] [1,4] dF il (by kernel_rfl) fJ yr qS (gT fJ) (aX fJ)
def pu {ρ:Type} (a0:List ai) (a1:Int) (k:Int×Unit→Option ρ):Option ρ:=
 br (decide ((IntKind.wrap .i64 (a1 - (a0.length:Int))) < 0)) (k ((-1),())) ((qS ((a0,(IntKind.wrap .i64 (a1 - (a0.length:Int))),0,()),(()),(()))).bind fun e6=>Sum.elim (fun e6_=>k (e6_.1.2.1,())) (fun e6_=>k (e6_.1.1,())) e6)
def mP (a0:List ai) (a1:Int):Option (Int×Unit):=pu a0 a1 some
theorem D7 {ρ:Type} (a0:List ai) (a1:Int) (k:Int×Unit→Option ρ):pu a0 a1 k=(mP a0 a1).bind k:=by
 simp only [mP,pu,al,cf,Option.bind_assoc,Option.bind_some]
abbrev zP:bw:=bE [.ty (.ls (.st .config)), .ty (.i .i64)] [.i .i64] fun x=>mP x.1 x.2.1
theorem IX:aB Tryz.prog 119 zP:=
 ak (Λ:=aM [(cd lF,uX)]) (fn:=Tryz.f119) aQ tA af (by kernel_rfl) (aI (by kernel_rfl:_= [lF]) (aW (q:=cd lF) rfl yt fun _ _ _=>by kernel_rfl)) (by kernel_rfl) (fun x=>mP x.1 x.2.1)
  (fun x=>Eq.trans (by kernel_rfl:_=pu x.1 x.2.1 (fun y=>ret (aA [.i .i64] y) fun v g=>some (v,g))) (D7 x.1 x.2.1 _)) fun _ _ h=>h
abbrev D8:List (Nat×bw):= [(119,zP)]
theorem yu:aw Tryz.prog (aP D8):=ae IX <| aj _
def kr {ρ:Type} (a0:aD) (a1:Int) (k:Int×Unit→Option ρ):Option ρ:=
 (mP a0.configs a1).bind fun y1=>br (decide (y1.1 < 0)) (k ((-1),())) (k (y1.1,()))
def im (a0:aD) (a1:Int):Option (Int×Unit):=kr a0 a1 some
theorem Ax {ρ:Type} (a0:aD) (a1:Int) (k:Int×Unit→Option ρ):kr a0 a1 k=(im a0 a1).bind k:=by
 simp only [im,kr,al,Option.bind_assoc,Option.bind_some]
abbrev uY:bw:=bE [.ty (.st .masterLog), .ty (.i .i64)] [.i .i64] fun x=>im x.1 x.2.1
theorem D9:aB Tryz.prog 44 uY:=
 ak (Λ:=aM []) (fn:=Tryz.f44) aQ yu af (by kernel_rfl) (aI (by kernel_rfl:_= []) ah) (by kernel_rfl) (fun x=>im x.1 x.2.1)
  (fun x=>Eq.trans (by kernel_rfl:_=kr x.1 x.2.1 (fun y=>ret (aA [.i .i64] y) fun v g=>some (v,g))) (Ax x.1 x.2.1 _)) fun _ _ h=>h
abbrev KK:List (Nat×bw):= []
theorem Ea:aw Tryz.prog (aP KK):=aj _
def qu {ρ:Type} (a0:List bk) (a1:Int) (k:Int×Unit→Option ρ):Option ρ:=
 br (decide ((IntKind.wrap .i64 (a1 - (a0.length:Int))) < 0)) (k ((-1),())) (k ((IntKind.wrap .i64 (a1 - (a0.length:Int))),()))
def oa (a0:List bk) (a1:Int):Option (Int×Unit):=qu a0 a1 some
theorem Gz {ρ:Type} (a0:List bk) (a1:Int) (k:Int×Unit→Option ρ):qu a0 a1 k=(oa a0 a1).bind k:=by
 simp only [oa,qu,al,Option.bind_some]
abbrev Cy:bw:=bE [.ty (.ls (.st .place)), .ty (.i .i64)] [.i .i64] fun x=>oa x.1 x.2.1
theorem KL:aB Tryz.prog 45 Cy:=
 ak (Λ:=aM []) (fn:=Tryz.f45) aQ Ea af (by kernel_rfl) (aI (by kernel_rfl:_= []) ah) (by kernel_rfl) (fun x=>oa x.1 x.2.1)
  (fun x=>Eq.trans (by kernel_rfl:_=qu x.1 x.2.1 (fun y=>ret (aA [.i .i64] y) fun v g=>some (v,g))) (Gz x.1 x.2.1 _)) fun _ _ h=>h
abbrev IY:List (Nat×bw):= [(42,zN),(43,Cu),(44,uY),(45,Cy)]
theorem Cz:aw Tryz.prog (aP IY):=ae IW <| ae IV <| ae D9 <| ae KL <| aj _
def nm {ρ:Type} (a0:ax) (a1:Int) (k:Int×Unit→Option ρ):Option ρ:=
 (mO a0.servers a1).bind fun y1=>br (decide (y1.1 < 0)) (k ((-1),())) ((oL a0.sides y1.1).bind fun y2=>br (decide (y2.1 < 0)) (k ((-1),())) ((im a0.master y2.1).bind fun y3=>br (decide (y3.1 < 0)) (k ((-1),())) ((oa a0.places y3.1).bind fun y4=>br (decide (y4.1 < 0)) (k ((-1),())) (k (y4.1,())))))
def kt (a0:ax) (a1:Int):Option (Int×Unit):=nm a0 a1 some
theorem Eb {ρ:Type} (a0:ax) (a1:Int) (k:Int×Unit→Option ρ):nm a0 a1 k=(kt a0 a1).bind k:=by
 simp only [kt,nm,al,Option.bind_assoc,Option.bind_some]
abbrev zQ:bw:=bE [.ty (.st .cluster), .ty (.i .i64)] [.i .i64] fun x=>kt x.1 x.2.1
theorem IZ:aB Tryz.prog 12 zQ:=
 ak (Λ:=aM []) (fn:=Tryz.f12) aQ Cz af (by kernel_rfl) (aI (by kernel_rfl:_= []) ah) (by kernel_rfl) (fun x=>kt x.1 x.2.1)
  (fun x=>Eq.trans (by kernel_rfl:_=nm x.1 x.2.1 (fun y=>ret (aA [.i .i64] y) fun v g=>some (v,g))) (Eb x.1 x.2.1 _)) fun _ _ h=>h
abbrev I0:List (Nat×bw):= []
theorem zR:aw Tryz.prog (aP I0):=aj _
noncomputable abbrev pS:Code:=cG (cz Tryz.f53) 0
abbrev ga:eJ:=⟨[(0, .cl (.ro (.i .i64))),(3, .cl (.own 0 (.i .i64))),(4, .cl (.int .i64))],[],[.i .i64],0,22⟩
abbrev mq:List (X×eJ):= [(.ext 0,⟨[(3, .cl (.own 0 (.i .i64)))],[],[.i .i64],0,22⟩)]
def qv {ρ:Type} (v1:List Int) (v2:List Int) (v3:Int) (fn: (((List Int)×Unit×Int×Unit)×(Unit)×((List Int)×Unit))→Option ρ) (fe: ((Unit×Unit)×(Unit)×((List Int)×Unit))→Option ρ):Option ρ:=
 br (decide (v3 < (v2.length:Int))) (aL (0≤v3) ((v2[v3.toNat]?).bind fun x4=>aL (0≤v3∧v3 < (v1.length:Int)) ((v1[v3.toNat]?).bind fun _=>fn ((v2,(),(IntKind.wrap .i64 (v3+1)),()),(()),((v1.set v3.toNat x4),()))) none) none) (fe (((),()),(()),(v1,())))
def ku (s:ga.D):Option (ga.D⊕bD.D mq):=qv s.2.2.1 s.1.1 s.1.2.2.1 (fun s=>some (.inl s)) (fun e=>some (.inr e))
def vJ:ga.D→Option (bD.D mq):=j4 ku
theorem GA {ρ:Type} (s:ga.D) (fn:ga.D→Option ρ) (fe:bD.D mq→Option ρ):qv s.2.2.1 s.1.1 s.1.2.2.1 fn fe=(ku s).bind (Sum.elim fn fe):=by
 simp only [ku,qv,al,ap,Option.bind_none,Option.bind_assoc,Option.bind_some,Sum.elim_inl,Sum.elim_inr]
abbrev CA:dk:=dD [] [0,3,4] ga mq vJ
theorem Ec (s:ga.D):eM Θ (aP I0) (aM []) pS (ga.mk' s) (dy [0,3,4] [3] fun x S=>some (x,S))=(ku s).bind (Sum.elim (fun s'=>some (.nor,ga.mk' s')) fun e=>some (bD.e mq e)):=
 Eq.trans (by kernel_rfl:_=qv s.2.2.1 s.1.1 s.1.2.2.1 (fun s'=>some (.nor,ga.mk' s')) (fun e=>some (bD.e mq e))) (GA s _ _)
theorem Ed:cy Tryz.prog pS CA:=bm aQ zR af (by kernel_rfl) (dX (by kernel_rfl:_= []) ah) [] [0,3,4] [3] ga mq (by kernel_rfl) ku Ec vJ (gT ku) (aX ku)
def uD {ρ:Type} (a0:List Int) (k: (List Int)×Unit→Option ρ):Option ρ:=
 aL (0≤(a0.length:Int)∧(a0.length:Int)=(a0.length:Int)∧(a0.length:Int)*((8:Nat):Int)≤2 ^ 40) ((vJ ((a0,(),0,()),(()),((List.replicate (a0.length:Int).toNat (0:Int)),()))).bind fun e7=>k (e7.2.2.1,())) none
def nn (a0:List Int):Option ((List Int)×Unit):=uD a0 some
theorem KM {ρ:Type} (a0:List Int) (k: (List Int)×Unit→Option ρ):uD a0 k=(nn a0).bind k:=by
 simp only [nn,uD,ap,Option.bind_none,Option.bind_assoc,Option.bind_some]
abbrev CB:bw:=bE [.ty (.ls (.i .i64))] [.ls (.i .i64)] fun x=>nn x.1
theorem I1:aB Tryz.prog 53 CB:=
 ak (Λ:=aM [(cd pS,CA)]) (fn:=Tryz.f53) aQ zR af (by kernel_rfl) (aI (by kernel_rfl:_= [pS]) (aW (q:=cd pS) rfl Ed fun _ _ _=>by kernel_rfl)) (by kernel_rfl) (fun x=>nn x.1)
  (fun x=>Eq.trans (by kernel_rfl:_=uD x.1 (fun y=>ret (aA [.ls (.i .i64)] y) fun v g=>some (v,g))) (KM x.1 _)) fun _ _ h=>h
abbrev KN:List (Nat×bw):= [(53,CB)]
theorem Ee:aw Tryz.prog (aP KN):=ae I1 <| aj _
def oP {ρ:Type} (a0:ai) (k:ai×Unit→Option ρ):Option ρ:=
 (nn a0.replicas).bind fun y1=>(nn a0.witnesses).bind fun y2=>k ((⟨a0.epoch,a0.primary,y1.1,y2.1⟩:ai),())
def ju (a0:ai):Option (ai×Unit):=oP a0 some
theorem GB {ρ:Type} (a0:ai) (k:ai×Unit→Option ρ):oP a0 k=(ju a0).bind k:=by
 simp only [ju,oP,Option.bind_assoc,Option.bind_some]
abbrev vK:bw:=bE [.ty (.st .config)] [.st .config] fun x=>ju x.1
theorem CC:aB Tryz.prog 208 vK:=
 ak (Λ:=aM []) (fn:=Tryz.f208) aQ Ee af (by kernel_rfl) (aI (by kernel_rfl:_= []) ah) (by kernel_rfl) (fun x=>ju x.1)
  (fun x=>Eq.trans (by kernel_rfl:_=oP x.1 (fun y=>ret (aA [.st .config] y) fun v g=>some (v,g))) (GB x.1 _)) fun _ _ h=>h
abbrev Ro:List (Nat×bw):= []
theorem MG:aw Tryz.prog (aP Ro):=aj _
def Bx {ρ:Type} (a0:Op) (k:Op×Unit→Option ρ):Option ρ:=
 k (a0,())
def CD (a0:Op):Option (Op×Unit):=Bx a0 some
theorem OM {ρ:Type} (a0:Op) (k:Op×Unit→Option ρ):Bx a0 k=(CD a0).bind k:=by
 simp only [CD,Bx,Option.bind_some]
abbrev OO:bw:=bE [.ty (.st .op)] [.st .op] fun x=>CD x.1
theorem Rp:aB Tryz.prog 40 OO:=
 ak (Λ:=aM []) (fn:=Tryz.f40) aQ MG af (by kernel_rfl) (aI (by kernel_rfl:_= []) ah) (by kernel_rfl) (fun x=>CD x.1)
  (fun x=>Eq.trans (by kernel_rfl:_=Bx x.1 (fun y=>ret (aA [.st .op] y) fun v g=>some (v,g))) (OM x.1 _)) fun _ _ h=>h
abbrev MH:List (Nat×bw):= [(40,OO)]
theorem GC:aw Tryz.prog (aP MH):=ae Rp <| aj _
def rY {ρ:Type} (a0:bK) (k:bK×Unit→Option ρ):Option ρ:=
 (CD a0.op).bind fun y1=>k ((⟨a0.epoch,y1.1⟩:bK),())
def pH (a0:bK):Option (bK×Unit):=rY a0 some
theorem I2 {ρ:Type} (a0:bK) (k:bK×Unit→Option ρ):rY a0 k=(pH a0).bind k:=by
 simp only [pH,rY,Option.bind_assoc,Option.bind_some]
abbrev Fq:bw:=bE [.ty (.st .entry)] [.st .entry] fun x=>pH x.1
theorem MI:aB Tryz.prog 265 Fq:=
 ak (Λ:=aM []) (fn:=Tryz.f265) aQ GC af (by kernel_rfl) (aI (by kernel_rfl:_= []) ah) (by kernel_rfl) (fun x=>pH x.1)
  (fun x=>Eq.trans (by kernel_rfl:_=rY x.1 (fun y=>ret (aA [.st .entry] y) fun v g=>some (v,g))) (I2 x.1 _)) fun _ _ h=>h
abbrev CE:List (Nat×bw):= [(265,Fq)]
theorem uZ:aw Tryz.prog (aP CE):=ae MI <| aj _
noncomputable abbrev np:Code:=cG (cz Tryz.f209) 0
abbrev eo:eJ:=⟨[(0, .cl (.ro (.st .entry))),(3, .cl (.own 0 (.st .entry))),(4, .cl (.int .i64))],[],[.st .entry],0,23⟩
abbrev jv:List (X×eJ):= [(.ext 0,⟨[(3, .cl (.own 0 (.st .entry)))],[],[.st .entry],0,23⟩)]
def oB {ρ:Type} (v1:List bK) (v2:List bK) (v3:Int) (fn: (((List bK)×Unit×Int×Unit)×(Unit)×((List bK)×Unit))→Option ρ) (fe: ((Unit×Unit)×(Unit)×((List bK)×Unit))→Option ρ):Option ρ:=
 br (decide (v3 < (v2.length:Int))) (aL (0≤v3) ((v2[v3.toNat]?).bind fun x4=>(pH x4).bind fun y5=>aL (0≤v3∧v3 < (v1.length:Int)) ((v1[v3.toNat]?).bind fun _=>fn ((v2,(),(IntKind.wrap .i64 (v3+1)),()),(()),((v1.set v3.toNat y5.1),()))) none) none) (fe (((),()),(()),(v1,())))
def gU (s:eo.D):Option (eo.D⊕bD.D jv):=oB s.2.2.1 s.1.1 s.1.2.2.1 (fun s=>some (.inl s)) (fun e=>some (.inr e))
def rZ:eo.D→Option (bD.D jv):=j4 gU
theorem CF {ρ:Type} (s:eo.D) (fn:eo.D→Option ρ) (fe:bD.D jv→Option ρ):oB s.2.2.1 s.1.1 s.1.2.2.1 fn fe=(gU s).bind (Sum.elim fn fe):=by
 simp only [gU,oB,al,ap,Option.bind_none,Option.bind_assoc,Option.bind_some,Sum.elim_inl,Sum.elim_inr]
abbrev wL:dk:=dD [] [0,3,4] eo jv rZ
theorem Ay (s:eo.D):eM Θ (aP CE) (aM []) np (eo.mk' s) (dy [0,3,4] [3] fun x S=>some (x,S))=(gU s).bind (Sum.elim (fun s'=>some (.nor,eo.mk' s')) fun e=>some (bD.e jv e)):=
 Eq.trans (by kernel_rfl:_=oB s.2.2.1 s.1.1 s.1.2.2.1 (fun s'=>some (.nor,eo.mk' s')) (fun e=>some (bD.e jv e))) (CF s _ _)
theorem Az:cy Tryz.prog np wL:=bm aQ uZ af (by kernel_rfl) (dX (by kernel_rfl:_= []) ah) [] [0,3,4] [3] eo jv (by kernel_rfl) gU Ay rZ (gT gU) (aX gU)
def qw {ρ:Type} (a0:List bK) (k: (List bK)×Unit→Option ρ):Option ρ:=
 aL (0≤(a0.length:Int)∧(a0.length:Int)=(a0.length:Int)∧(a0.length:Int)*((56:Nat):Int)≤2 ^ 40) ((rZ ((a0,(),0,()),(()),((List.replicate (a0.length:Int).toNat (⟨0,(⟨0,0,0,0,0,0⟩:Op)⟩:bK)),()))).bind fun e8=>k (e8.2.2.1,())) none
def kv (a0:List bK):Option ((List bK)×Unit):=qw a0 some
theorem GD {ρ:Type} (a0:List bK) (k: (List bK)×Unit→Option ρ):qw a0 k=(kv a0).bind k:=by
 simp only [kv,qw,ap,Option.bind_none,Option.bind_assoc,Option.bind_some]
abbrev CG:bw:=bE [.ty (.ls (.st .entry))] [.ls (.st .entry)] fun x=>kv x.1
theorem KO:aB Tryz.prog 209 CG:=
 ak (Λ:=aM [(cd np,wL)]) (fn:=Tryz.f209) aQ uZ af (by kernel_rfl) (aI (by kernel_rfl:_= [np]) (aW (q:=cd np) rfl Az fun _ _ _=>by kernel_rfl)) (by kernel_rfl) (fun x=>kv x.1)
  (fun x=>Eq.trans (by kernel_rfl:_=qw x.1 (fun y=>ret (aA [.ls (.st .entry)] y) fun v g=>some (v,g))) (GD x.1 _)) fun _ _ h=>h
abbrev KP:List (Nat×bw):= [(208,vK),(209,CG)]
theorem Ef:aw Tryz.prog (aP KP):=ae CC <| ae KO <| aj _
def oQ {ρ:Type} (a0:aZ) (k:aZ×Unit→Option ρ):Option ρ:=
 (ju a0.config).bind fun y1=>(kv a0.log).bind fun y2=>(kv a0.learned).bind fun y3=>k ((⟨a0.up,a0.intact,a0.version,a0.epoch,y1.1,a0.first,y2.1,a0.commit,y3.1⟩:aZ),())
def kw (a0:aZ):Option (aZ×Unit):=oQ a0 some
theorem GF {ρ:Type} (a0:aZ) (k:aZ×Unit→Option ρ):oQ a0 k=(kw a0).bind k:=by
 simp only [kw,oQ,Option.bind_assoc,Option.bind_some]
abbrev CH:bw:=bE [.ty (.st .server)] [.st .server] fun x=>kw x.1
theorem KQ:aB Tryz.prog 132 CH:=
 ak (Λ:=aM []) (fn:=Tryz.f132) aQ Ef af (by kernel_rfl) (aI (by kernel_rfl:_= []) ah) (by kernel_rfl) (fun x=>kw x.1)
  (fun x=>Eq.trans (by kernel_rfl:_=oQ x.1 (fun y=>ret (aA [.st .server] y) fun v g=>some (v,g))) (GF x.1 _)) fun _ _ h=>h
abbrev zS:List (Nat×bw):= [(132,CH)]
theorem tB:aw Tryz.prog (aP zS):=ae KQ <| aj _
noncomputable abbrev lG:Code:=cG (cz Tryz.f52) 0
abbrev dG:eJ:=⟨[(0, .cl (.ro (.st .server))),(3, .cl (.own 0 (.st .server))),(4, .cl (.int .i64))],[],[.st .server],0,23⟩
abbrev ip:List (X×eJ):= [(.ext 0,⟨[(3, .cl (.own 0 (.st .server)))],[],[.st .server],0,23⟩)]
def nq {ρ:Type} (v1:List aZ) (v2:List aZ) (v3:Int) (fn: (((List aZ)×Unit×Int×Unit)×(Unit)×((List aZ)×Unit))→Option ρ) (fe: ((Unit×Unit)×(Unit)×((List aZ)×Unit))→Option ρ):Option ρ:=
 br (decide (v3 < (v2.length:Int))) (aL (0≤v3) ((v2[v3.toNat]?).bind fun x4=>(kw x4).bind fun y5=>aL (0≤v3∧v3 < (v1.length:Int)) ((v1[v3.toNat]?).bind fun _=>fn ((v2,(),(IntKind.wrap .i64 (v3+1)),()),(()),((v1.set v3.toNat y5.1),()))) none) none) (fe (((),()),(()),(v1,())))
def fK (s:dG.D):Option (dG.D⊕bD.D ip):=nq s.2.2.1 s.1.1 s.1.2.2.1 (fun s=>some (.inl s)) (fun e=>some (.inr e))
def qT:dG.D→Option (bD.D ip):=j4 fK
theorem AA {ρ:Type} (s:dG.D) (fn:dG.D→Option ρ) (fe:bD.D ip→Option ρ):nq s.2.2.1 s.1.1 s.1.2.2.1 fn fe=(fK s).bind (Sum.elim fn fe):=by
 simp only [fK,nq,al,ap,Option.bind_none,Option.bind_assoc,Option.bind_some,Sum.elim_inl,Sum.elim_inr]
abbrev u1:dk:=dD [] [0,3,4] dG ip qT
theorem yw (s:dG.D):eM Θ (aP zS) (aM []) lG (dG.mk' s) (dy [0,3,4] [3] fun x S=>some (x,S))=(fK s).bind (Sum.elim (fun s'=>some (.nor,dG.mk' s')) fun e=>some (bD.e ip e)):=
 Eq.trans (by kernel_rfl:_=nq s.2.2.1 s.1.1 s.1.2.2.1 (fun s'=>some (.nor,dG.mk' s')) (fun e=>some (bD.e ip e))) (AA s _ _)
theorem yx:cy Tryz.prog lG u1:=bm aQ tB af (by kernel_rfl) (dX (by kernel_rfl:_= []) ah) [] [0,3,4] [3] dG ip (by kernel_rfl) fK yw qT (gT fK) (aX fK)
def pv {ρ:Type} (a0:List aZ) (k: (List aZ)×Unit→Option ρ):Option ρ:=
 aL (0≤(a0.length:Int)∧(a0.length:Int)=(a0.length:Int)∧(a0.length:Int)*((152:Nat):Int)≤2 ^ 40) ((qT ((a0,(),0,()),(()),((List.replicate (a0.length:Int).toNat (⟨false,false,0,0,(⟨0,0,([]:List Int),([]:List Int)⟩:ai),0,([]:List bK),0,([]:List bK)⟩:aZ)),()))).bind fun e8=>k (e8.2.2.1,())) none
def kx (a0:List aZ):Option ((List aZ)×Unit):=pv a0 some
theorem Eg {ρ:Type} (a0:List aZ) (k: (List aZ)×Unit→Option ρ):pv a0 k=(kx a0).bind k:=by
 simp only [kx,pv,ap,Option.bind_none,Option.bind_assoc,Option.bind_some]
abbrev zT:bw:=bE [.ty (.ls (.st .server))] [.ls (.st .server)] fun x=>kx x.1
theorem I3:aB Tryz.prog 52 zT:=
 ak (Λ:=aM [(cd lG,u1)]) (fn:=Tryz.f52) aQ tB af (by kernel_rfl) (aI (by kernel_rfl:_= [lG]) (aW (q:=cd lG) rfl yx fun _ _ _=>by kernel_rfl)) (by kernel_rfl) (fun x=>kx x.1)
  (fun x=>Eq.trans (by kernel_rfl:_=pv x.1 (fun y=>ret (aA [.ls (.st .server)] y) fun v g=>some (v,g))) (Eg x.1 _)) fun _ _ h=>h
abbrev zU:List (Nat×bw):= [(208,vK)]
theorem tC:aw Tryz.prog (aP zU):=ae CC <| aj _
noncomputable abbrev lH:Code:=cG (cz Tryz.f133) 0
abbrev dH:eJ:=⟨[(0, .cl (.ro (.st .config))),(3, .cl (.own 0 (.st .config))),(4, .cl (.int .i64))],[],[.st .config],0,23⟩
abbrev iq:List (X×eJ):= [(.ext 0,⟨[(3, .cl (.own 0 (.st .config)))],[],[.st .config],0,23⟩)]
def nr {ρ:Type} (v1:List ai) (v2:List ai) (v3:Int) (fn: (((List ai)×Unit×Int×Unit)×(Unit)×((List ai)×Unit))→Option ρ) (fe: ((Unit×Unit)×(Unit)×((List ai)×Unit))→Option ρ):Option ρ:=
 br (decide (v3 < (v2.length:Int))) (aL (0≤v3) ((v2[v3.toNat]?).bind fun x4=>(ju x4).bind fun y5=>aL (0≤v3∧v3 < (v1.length:Int)) ((v1[v3.toNat]?).bind fun _=>fn ((v2,(),(IntKind.wrap .i64 (v3+1)),()),(()),((v1.set v3.toNat y5.1),()))) none) none) (fe (((),()),(()),(v1,())))
def fL (s:dH.D):Option (dH.D⊕bD.D iq):=nr s.2.2.1 s.1.1 s.1.2.2.1 (fun s=>some (.inl s)) (fun e=>some (.inr e))
def qU:dH.D→Option (bD.D iq):=j4 fL
theorem AB {ρ:Type} (s:dH.D) (fn:dH.D→Option ρ) (fe:bD.D iq→Option ρ):nr s.2.2.1 s.1.1 s.1.2.2.1 fn fe=(fL s).bind (Sum.elim fn fe):=by
 simp only [fL,nr,al,ap,Option.bind_none,Option.bind_assoc,Option.bind_some,Sum.elim_inl,Sum.elim_inr]
abbrev u2:dk:=dD [] [0,3,4] dH iq qU
theorem yy (s:dH.D):eM Θ (aP zU) (aM []) lH (dH.mk' s) (dy [0,3,4] [3] fun x S=>some (x,S))=(fL s).bind (Sum.elim (fun s'=>some (.nor,dH.mk' s')) fun e=>some (bD.e iq e)):=
 Eq.trans (by kernel_rfl:_=nr s.2.2.1 s.1.1 s.1.2.2.1 (fun s'=>some (.nor,dH.mk' s')) (fun e=>some (bD.e iq e))) (AB s _ _)
theorem yz:cy Tryz.prog lH u2:=bm aQ tC af (by kernel_rfl) (dX (by kernel_rfl:_= []) ah) [] [0,3,4] [3] dH iq (by kernel_rfl) fL yy qU (gT fL) (aX fL)
def pw {ρ:Type} (a0:List ai) (k: (List ai)×Unit→Option ρ):Option ρ:=
 aL (0≤(a0.length:Int)∧(a0.length:Int)=(a0.length:Int)∧(a0.length:Int)*((64:Nat):Int)≤2 ^ 40) ((qU ((a0,(),0,()),(()),((List.replicate (a0.length:Int).toNat (⟨0,0,([]:List Int),([]:List Int)⟩:ai)),()))).bind fun e8=>k (e8.2.2.1,())) none
def ky (a0:List ai):Option ((List ai)×Unit):=pw a0 some
theorem Eh {ρ:Type} (a0:List ai) (k: (List ai)×Unit→Option ρ):pw a0 k=(ky a0).bind k:=by
 simp only [ky,pw,ap,Option.bind_none,Option.bind_assoc,Option.bind_some]
abbrev zV:bw:=bE [.ty (.ls (.st .config))] [.ls (.st .config)] fun x=>ky x.1
theorem I4:aB Tryz.prog 133 zV:=
 ak (Λ:=aM [(cd lH,u2)]) (fn:=Tryz.f133) aQ tC af (by kernel_rfl) (aI (by kernel_rfl:_= [lH]) (aW (q:=cd lH) rfl yz fun _ _ _=>by kernel_rfl)) (by kernel_rfl) (fun x=>ky x.1)
  (fun x=>Eq.trans (by kernel_rfl:_=pw x.1 (fun y=>ret (aA [.ls (.st .config)] y) fun v g=>some (v,g))) (Eh x.1 _)) fun _ _ h=>h
abbrev Ei:List (Nat×bw):= [(133,zV)]
theorem yA:aw Tryz.prog (aP Ei):=ae I4 <| aj _
def kz {ρ:Type} (a0:aD) (k:aD×Unit→Option ρ):Option ρ:=
 (ky a0.configs).bind fun y1=>k ((⟨y1.1,a0.activated⟩:aD),())
def ir (a0:aD):Option (aD×Unit):=kz a0 some
theorem AD {ρ:Type} (a0:aD) (k:aD×Unit→Option ρ):kz a0 k=(ir a0).bind k:=by
 simp only [ir,kz,Option.bind_assoc,Option.bind_some]
abbrev u3:bw:=bE [.ty (.st .masterLog)] [.st .masterLog] fun x=>ir x.1
theorem Ej:aB Tryz.prog 54 u3:=
 ak (Λ:=aM []) (fn:=Tryz.f54) aQ yA af (by kernel_rfl) (aI (by kernel_rfl:_= []) ah) (by kernel_rfl) (fun x=>ir x.1)
  (fun x=>Eq.trans (by kernel_rfl:_=kz x.1 (fun y=>ret (aA [.st .masterLog] y) fun v g=>some (v,g))) (AD x.1 _)) fun _ _ h=>h
abbrev MJ:List (Nat×bw):= []
theorem GG:aw Tryz.prog (aP MJ):=aj _
def sa {ρ:Type} (a0:fC) (k:fC×Unit→Option ρ):Option ρ:=
 k (a0,())
def pI (a0:fC):Option (fC×Unit):=sa a0 some
theorem I5 {ρ:Type} (a0:fC) (k:fC×Unit→Option ρ):sa a0 k=(pI a0).bind k:=by
 simp only [pI,sa,Option.bind_some]
abbrev Fr:bw:=bE [.ty (.st .lease)] [.st .lease] fun x=>pI x.1
theorem ML:aB Tryz.prog 55 Fr:=
 ak (Λ:=aM []) (fn:=Tryz.f55) aQ GG af (by kernel_rfl) (aI (by kernel_rfl:_= []) ah) (by kernel_rfl) (fun x=>pI x.1)
  (fun x=>Eq.trans (by kernel_rfl:_=sa x.1 (fun y=>ret (aA [.st .lease] y) fun v g=>some (v,g))) (I5 x.1 _)) fun _ _ h=>h
abbrev MM:List (Nat×bw):= []
theorem GH:aw Tryz.prog (aP MM):=aj _
def sb {ρ:Type} (a0:bk) (k:bk×Unit→Option ρ):Option ρ:=
 k (a0,())
def pJ (a0:bk):Option (bk×Unit):=sb a0 some
theorem I6 {ρ:Type} (a0:bk) (k:bk×Unit→Option ρ):sb a0 k=(pJ a0).bind k:=by
 simp only [pJ,sb,Option.bind_some]
abbrev Fs:bw:=bE [.ty (.st .place)] [.st .place] fun x=>pJ x.1
theorem MN:aB Tryz.prog 134 Fs:=
 ak (Λ:=aM []) (fn:=Tryz.f134) aQ GH af (by kernel_rfl) (aI (by kernel_rfl:_= []) ah) (by kernel_rfl) (fun x=>pJ x.1)
  (fun x=>Eq.trans (by kernel_rfl:_=sb x.1 (fun y=>ret (aA [.st .place] y) fun v g=>some (v,g))) (I6 x.1 _)) fun _ _ h=>h
abbrev CI:List (Nat×bw):= [(134,Fs)]
theorem u4:aw Tryz.prog (aP CI):=ae MN <| aj _
noncomputable abbrev ns:Code:=cG (cz Tryz.f56) 0
abbrev ep:eJ:=⟨[(0, .cl (.ro (.st .place))),(3, .cl (.own 0 (.st .place))),(4, .cl (.int .i64))],[],[.st .place],0,23⟩
abbrev jw:List (X×eJ):= [(.ext 0,⟨[(3, .cl (.own 0 (.st .place)))],[],[.st .place],0,23⟩)]
def oC {ρ:Type} (v1:List bk) (v2:List bk) (v3:Int) (fn: (((List bk)×Unit×Int×Unit)×(Unit)×((List bk)×Unit))→Option ρ) (fe: ((Unit×Unit)×(Unit)×((List bk)×Unit))→Option ρ):Option ρ:=
 br (decide (v3 < (v2.length:Int))) (aL (0≤v3) ((v2[v3.toNat]?).bind fun x4=>(pJ x4).bind fun y5=>aL (0≤v3∧v3 < (v1.length:Int)) ((v1[v3.toNat]?).bind fun _=>fn ((v2,(),(IntKind.wrap .i64 (v3+1)),()),(()),((v1.set v3.toNat y5.1),()))) none) none) (fe (((),()),(()),(v1,())))
def gV (s:ep.D):Option (ep.D⊕bD.D jw):=oC s.2.2.1 s.1.1 s.1.2.2.1 (fun s=>some (.inl s)) (fun e=>some (.inr e))
def sd:ep.D→Option (bD.D jw):=j4 gV
theorem CJ {ρ:Type} (s:ep.D) (fn:ep.D→Option ρ) (fe:bD.D jw→Option ρ):oC s.2.2.1 s.1.1 s.1.2.2.1 fn fe=(gV s).bind (Sum.elim fn fe):=by
 simp only [gV,oC,al,ap,Option.bind_none,Option.bind_assoc,Option.bind_some,Sum.elim_inl,Sum.elim_inr]
abbrev wM:dk:=dD [] [0,3,4] ep jw sd
theorem AE (s:ep.D):eM Θ (aP CI) (aM []) ns (ep.mk' s) (dy [0,3,4] [3] fun x S=>some (x,S))=(gV s).bind (Sum.elim (fun s'=>some (.nor,ep.mk' s')) fun e=>some (bD.e jw e)):=
 Eq.trans (by kernel_rfl:_=oC s.2.2.1 s.1.1 s.1.2.2.1 (fun s'=>some (.nor,ep.mk' s')) (fun e=>some (bD.e jw e))) (CJ s _ _)
theorem AF:cy Tryz.prog ns wM:=bm aQ u4 af (by kernel_rfl) (dX (by kernel_rfl:_= []) ah) [] [0,3,4] [3] ep jw (by kernel_rfl) gV AE sd (gT gV) (aX gV)
def qx {ρ:Type} (a0:List bk) (k: (List bk)×Unit→Option ρ):Option ρ:=
 aL (0≤(a0.length:Int)∧(a0.length:Int)=(a0.length:Int)∧(a0.length:Int)*((24:Nat):Int)≤2 ^ 40) ((sd ((a0,(),0,()),(()),((List.replicate (a0.length:Int).toNat (⟨0,0,0⟩:bk)),()))).bind fun e8=>k (e8.2.2.1,())) none
def mr (a0:List bk):Option ((List bk)×Unit):=qx a0 some
theorem GI {ρ:Type} (a0:List bk) (k: (List bk)×Unit→Option ρ):qx a0 k=(mr a0).bind k:=by
 simp only [mr,qx,ap,Option.bind_none,Option.bind_assoc,Option.bind_some]
abbrev CK:bw:=bE [.ty (.ls (.st .place))] [.ls (.st .place)] fun x=>mr x.1
theorem KR:aB Tryz.prog 56 CK:=
 ak (Λ:=aM [(cd ns,wM)]) (fn:=Tryz.f56) aQ u4 af (by kernel_rfl) (aI (by kernel_rfl:_= [ns]) (aW (q:=cd ns) rfl AF fun _ _ _=>by kernel_rfl)) (by kernel_rfl) (fun x=>mr x.1)
  (fun x=>Eq.trans (by kernel_rfl:_=qx x.1 (fun y=>ret (aA [.ls (.st .place)] y) fun v g=>some (v,g))) (GI x.1 _)) fun _ _ h=>h
abbrev I7:List (Nat×bw):= [(52,zT),(53,CB),(54,u3),(55,Fr),(56,CK)]
theorem CL:aw Tryz.prog (aP I7):=ae I3 <| ae I1 <| ae Ej <| ae ML <| ae KR <| aj _
def nu {ρ:Type} (a0:ax) (k:ax×Unit→Option ρ):Option ρ:=
 (kx a0.servers).bind fun y1=>(nn a0.sides).bind fun y2=>(ir a0.master).bind fun y3=>(pI a0.lease).bind fun y4=>(mr a0.places).bind fun y5=>k ((⟨a0.now,y1.1,y2.1,y3.1,a0.masterUp,y4.1,y5.1⟩:ax),())
def gW (a0:ax):Option (ax×Unit):=nu a0 some
theorem Ek {ρ:Type} (a0:ax) (k:ax×Unit→Option ρ):nu a0 k=(gW a0).bind k:=by
 simp only [gW,nu,Option.bind_assoc,Option.bind_some]
abbrev zW:bw:=bE [.ty (.st .cluster)] [.st .cluster] fun x=>gW x.1
theorem I8:aB Tryz.prog 14 zW:=
 ak (Λ:=aM []) (fn:=Tryz.f14) aQ CL af (by kernel_rfl) (aI (by kernel_rfl:_= []) ah) (by kernel_rfl) (fun x=>gW x.1)
  (fun x=>Eq.trans (by kernel_rfl:_=nu x.1 (fun y=>ret (aA [.st .cluster] y) fun v g=>some (v,g))) (Ek x.1 _)) fun _ _ h=>h
abbrev Rq:List (Nat×bw):= []
theorem MO:aw Tryz.prog (aP Rq):=aj _
def wN {ρ:Type} (a0:Int) (a1:Int) (a2:Int) (k:Bool×Unit→Option ρ):Option ρ:=
 br (decide (a0≥a1)) (k ((decide (a0≤a2)),())) (k (false,()))
def dI (a0:Int) (a1:Int) (a2:Int):Option (Bool×Unit):=wN a0 a1 a2 some
theorem OP {ρ:Type} (a0:Int) (a1:Int) (a2:Int) (k:Bool×Unit→Option ρ):wN a0 a1 a2 k=(dI a0 a1 a2).bind k:=by
 simp only [dI,wN,al,Option.bind_some]
abbrev ob:bw:=bE [.ty (.i .i64), .ty (.i .i64), .ty (.i .i64)] [.b] fun x=>dI x.1 x.2.1 x.2.2.1
theorem o9:aB Tryz.prog 120 ob:=
 ak (Λ:=aM []) (fn:=Tryz.f120) aQ MO af (by kernel_rfl) (aI (by kernel_rfl:_= []) ah) (by kernel_rfl) (fun x=>dI x.1 x.2.1 x.2.2.1)
  (fun x=>Eq.trans (by kernel_rfl:_=wN x.1 x.2.1 x.2.2.1 (fun y=>ret (aA [.b] y) fun v g=>some (v,g))) (OP x.1 x.2.1 x.2.2.1 _)) fun _ _ h=>h
abbrev CM:List (Nat×bw):= [(120,ob)]
theorem u5:aw Tryz.prog (aP CM):=ae o9 <| aj _
noncomputable abbrev nv:Code:=cG (cz Tryz.f121) 0
abbrev eu:eJ:=⟨[(0, .cl (.ro (.i .i64))),(3, .cl (.int .i64))],[],[],0,19⟩
abbrev jx:List (X×eJ):= [(.ret,⟨[(0, .cl (.ro (.i .i64))),(2, .cl (.bl))],[],[],0,19⟩),(.ext 0,⟨[(0, .cl (.ro (.i .i64))),(2, .cl (.dead))],[],[],0,19⟩)]
def jT {ρ:Type} (v1:List Int) (v2:Int) (fn: (((List Int)×Int×Unit)×(Unit)×(Unit))→Option ρ) (fe: (((List Int)×Bool×Unit)×(Unit)×(Unit))⊕(((List Int)×Unit×Unit)×(Unit)×(Unit))→Option ρ):Option ρ:=
 br (decide (v2 < (v1.length:Int))) (aL (0≤v2) ((v1[v2.toNat]?).bind fun x3=>(dI x3 0 3).bind fun y4=>br (!y4.1) (fe (.inl ((v1,false,()),(()),(())))) (fn ((v1,(IntKind.wrap .i64 (v2+1)),()),(()),(())))) none) (fe (.inr ((v1,(),()),(()),(()))))
def eY (s:eu.D):Option (eu.D⊕bD.D jx):=jT s.1.1 s.1.2.1 (fun s=>some (.inl s)) (fun e=>some (.inr e))
def nw:eu.D→Option (bD.D jx):=j4 eY
theorem CN {ρ:Type} (s:eu.D) (fn:eu.D→Option ρ) (fe:bD.D jx→Option ρ):jT s.1.1 s.1.2.1 fn fe=(eY s).bind (Sum.elim fn fe):=by
 simp only [eY,jT,al,ap,Option.bind_none,Option.bind_assoc,Option.bind_some,Sum.elim_inl,Sum.elim_inr]
abbrev wO:dk:=dD [] [0,3] eu jx nw
theorem AG (s:eu.D):eM Θ (aP CM) (aM []) nv (eu.mk' s) (dy [0,3] [0,2] fun x S=>some (x,S))=(eY s).bind (Sum.elim (fun s'=>some (.nor,eu.mk' s')) fun e=>some (bD.e jx e)):=
 Eq.trans (by kernel_rfl:_=jT s.1.1 s.1.2.1 (fun s'=>some (.nor,eu.mk' s')) (fun e=>some (bD.e jx e))) (CN s _ _)
theorem AH:cy Tryz.prog nv wO:=bm aQ u5 af (by kernel_rfl) (dX (by kernel_rfl:_= []) ah) [] [0,3] [0,2] eu jx (by kernel_rfl) eY AG nw (gT eY) (aX eY)
def oS {ρ:Type} (a0:List Int) (k:Bool×Unit→Option ρ):Option ρ:=
 (nw ((a0,0,()),(()),(()))).bind fun e5=>Sum.elim (fun e5_=>k (e5_.1.2.1,())) (fun e5_=>k (((e5_.1.1.length:Int)==5),())) e5
def gb (a0:List Int):Option (Bool×Unit):=oS a0 some
theorem GJ {ρ:Type} (a0:List Int) (k:Bool×Unit→Option ρ):oS a0 k=(gb a0).bind k:=by
 simp only [gb,oS,cf,Option.bind_assoc,Option.bind_some]
abbrev vL:bw:=bE [.ty (.ls (.i .i64))] [.b] fun x=>gb x.1
theorem CO:aB Tryz.prog 121 vL:=
 ak (Λ:=aM [(cd nv,wO)]) (fn:=Tryz.f121) aQ u5 af (by kernel_rfl) (aI (by kernel_rfl:_= [nv]) (aW (q:=cd nv) rfl AH fun _ _ _=>by kernel_rfl)) (by kernel_rfl) (fun x=>gb x.1)
  (fun x=>Eq.trans (by kernel_rfl:_=oS x.1 (fun y=>ret (aA [.b] y) fun v g=>some (v,g))) (GJ x.1 _)) fun _ _ h=>h
abbrev wP:List (Nat×bw):= [(120,ob)]
theorem sD:aw Tryz.prog (aP wP):=ae o9 <| aj _
noncomputable abbrev kA:Code:=cG (cz Tryz.f224) 0
abbrev dl:eJ:=⟨[(0, .cl (.ro (.i .i64))),(3, .cl (.int .i64))],[],[],0,32⟩
abbrev gf:List (X×eJ):= [(.ret,⟨[(2, .cl (.bl))],[],[],0,32⟩),(.ext 0,⟨[(2, .cl (.dead))],[],[],0,32⟩)]
def gH {ρ:Type} (v1:List Int) (v2:Int) (fn: (((List Int)×Int×Unit)×(Unit)×(Unit))→Option ρ) (fe: ((Bool×Unit)×(Unit)×(Unit))⊕((Unit×Unit)×(Unit)×(Unit))→Option ρ):Option ρ:=
 br (decide (v2 < (v1.length:Int))) (aL (0≤v2) ((v1[v2.toNat]?).bind fun x3=>(dI x3 0 4).bind fun y4=>br (!y4.1) (fe (.inl ((false,()),(()),(())))) (br (decide (v2 > 0)) (aL (0≤(IntKind.wrap .i64 (v2 - 1))) ((v1[(IntKind.wrap .i64 (v2 - 1)).toNat]?).bind fun x5=>aL (0≤v2) ((v1[v2.toNat]?).bind fun x6=>br (decide (x5≥x6)) (fe (.inl ((false,()),(()),(())))) (fn ((v1,(IntKind.wrap .i64 (v2+1)),()),(()),(())))) none) none) (fn ((v1,(IntKind.wrap .i64 (v2+1)),()),(()),(()))))) none) (fe (.inr (((),()),(()),(()))))
def dJ (s:dl.D):Option (dl.D⊕bD.D gf):=gH s.1.1 s.1.2.1 (fun s=>some (.inl s)) (fun e=>some (.inr e))
def kB:dl.D→Option (bD.D gf):=j4 dJ
theorem yB {ρ:Type} (s:dl.D) (fn:dl.D→Option ρ) (fe:bD.D gf→Option ρ):gH s.1.1 s.1.2.1 fn fe=(dJ s).bind (Sum.elim fn fe):=by
 simp only [dJ,gH,al,ap,Option.bind_none,Option.bind_assoc,Option.bind_some,Sum.elim_inl,Sum.elim_inr]
abbrev tD:dk:=dD [] [0,3] dl gf kB
theorem wQ (s:dl.D):eM Θ (aP wP) (aM []) kA (dl.mk' s) (dy [0,3] [2] fun x S=>some (x,S))=(dJ s).bind (Sum.elim (fun s'=>some (.nor,dl.mk' s')) fun e=>some (bD.e gf e)):=
 Eq.trans (by kernel_rfl:_=gH s.1.1 s.1.2.1 (fun s'=>some (.nor,dl.mk' s')) (fun e=>some (bD.e gf e))) (yB s _ _)
theorem wR:cy Tryz.prog kA tD:=bm aQ sD af (by kernel_rfl) (dX (by kernel_rfl:_= []) ah) [] [0,3] [2] dl gf (by kernel_rfl) dJ wQ kB (gT dJ) (aX dJ)
def lI {ρ:Type} (a0:List Int) (k:Bool×Unit→Option ρ):Option ρ:=
 (kB ((a0,0,()),(()),(()))).bind fun e7=>Sum.elim (fun e7_=>k (e7_.1.1,())) (fun e7_=>k (true,())) e7
def fF (a0:List Int):Option (Bool×Unit):=lI a0 some
theorem CP {ρ:Type} (a0:List Int) (k:Bool×Unit→Option ρ):lI a0 k=(fF a0).bind k:=by
 simp only [fF,lI,cf,Option.bind_assoc,Option.bind_some]
abbrev wS:bw:=bE [.ty (.ls (.i .i64))] [.b] fun x=>fF x.1
theorem GK:aB Tryz.prog 224 wS:=
 ak (Λ:=aM [(cd kA,tD)]) (fn:=Tryz.f224) aQ sD af (by kernel_rfl) (aI (by kernel_rfl:_= [kA]) (aW (q:=cd kA) rfl wR fun _ _ _=>by kernel_rfl)) (by kernel_rfl) (fun x=>fF x.1)
  (fun x=>Eq.trans (by kernel_rfl:_=lI x.1 (fun y=>ret (aA [.b] y) fun v g=>some (v,g))) (CP x.1 _)) fun _ _ h=>h
abbrev zX:List (Nat×bw):= []
theorem tE:aw Tryz.prog (aP zX):=aj _
noncomputable abbrev lJ:Code:=cG (cz Tryz.f51) 0
abbrev dK:eJ:=⟨[(0, .cl (.ro (.i .i64))),(1, .cl (.int .i64)),(5, .cl (.int .i64))],[],[],0,18⟩
abbrev it:List (X×eJ):= [(.ret,⟨[(4, .cl (.bl))],[],[],0,18⟩),(.ext 0,⟨[(4, .cl (.dead))],[],[],0,18⟩)]
def iQ {ρ:Type} (v1:List Int) (v2:Int) (v3:Int) (fn: (((List Int)×Int×Int×Unit)×(Unit)×(Unit))→Option ρ) (fe: ((Bool×Unit)×(Unit)×(Unit))⊕((Unit×Unit)×(Unit)×(Unit))→Option ρ):Option ρ:=
 br (decide (v3 < (v1.length:Int))) (aL (0≤v3) ((v1[v3.toNat]?).bind fun x4=>br (x4==v2) (fe (.inl ((true,()),(()),(())))) (fn ((v1,v2,(IntKind.wrap .i64 (v3+1)),()),(()),(())))) none) (fe (.inr (((),()),(()),(()))))
def eg (s:dK.D):Option (dK.D⊕bD.D it):=iQ s.1.1 s.1.2.1 s.1.2.2.1 (fun s=>some (.inl s)) (fun e=>some (.inr e))
def lK:dK.D→Option (bD.D it):=j4 eg
theorem AI {ρ:Type} (s:dK.D) (fn:dK.D→Option ρ) (fe:bD.D it→Option ρ):iQ s.1.1 s.1.2.1 s.1.2.2.1 fn fe=(eg s).bind (Sum.elim fn fe):=by
 simp only [eg,iQ,al,ap,Option.bind_none,Option.bind_assoc,Option.bind_some,Sum.elim_inl,Sum.elim_inr]
abbrev u6:dk:=dD [] [0,1,5] dK it lK
theorem yC (s:dK.D):eM Θ (aP zX) (aM []) lJ (dK.mk' s) (dy [0,1,5] [4] fun x S=>some (x,S))=(eg s).bind (Sum.elim (fun s'=>some (.nor,dK.mk' s')) fun e=>some (bD.e it e)):=
 Eq.trans (by kernel_rfl:_=iQ s.1.1 s.1.2.1 s.1.2.2.1 (fun s'=>some (.nor,dK.mk' s')) (fun e=>some (bD.e it e))) (AI s _ _)
theorem yD:cy Tryz.prog lJ u6:=bm aQ tE af (by kernel_rfl) (dX (by kernel_rfl:_= []) ah) [] [0,1,5] [4] dK it (by kernel_rfl) eg yC lK (gT eg) (aX eg)
def nx {ρ:Type} (a0:List Int) (a1:Int) (k:Bool×Unit→Option ρ):Option ρ:=
 (lK ((a0,a1,0,()),(()),(()))).bind fun e5=>Sum.elim (fun e5_=>k (e5_.1.1,())) (fun e5_=>k (false,())) e5
def fa (a0:List Int) (a1:Int):Option (Bool×Unit):=nx a0 a1 some
theorem El {ρ:Type} (a0:List Int) (a1:Int) (k:Bool×Unit→Option ρ):nx a0 a1 k=(fa a0 a1).bind k:=by
 simp only [fa,nx,cf,Option.bind_assoc,Option.bind_some]
abbrev oT:bw:=bE [.ty (.ls (.i .i64)), .ty (.i .i64)] [.b] fun x=>fa x.1 x.2.1
theorem qy:aB Tryz.prog 51 oT:=
 ak (Λ:=aM [(cd lJ,u6)]) (fn:=Tryz.f51) aQ tE af (by kernel_rfl) (aI (by kernel_rfl:_= [lJ]) (aW (q:=cd lJ) rfl yD fun _ _ _=>by kernel_rfl)) (by kernel_rfl) (fun x=>fa x.1 x.2.1)
  (fun x=>Eq.trans (by kernel_rfl:_=nx x.1 x.2.1 (fun y=>ret (aA [.b] y) fun v g=>some (v,g))) (El x.1 x.2.1 _)) fun _ _ h=>h
abbrev LY:List (Nat×bw):= []
theorem CQ:aw Tryz.prog (aP LY):=aj _
noncomputable abbrev rq:Code:=cG (cz Tryz.f148) 0
abbrev iR:eJ:=⟨[(0, .cl (.ro (.i .i64))),(1, .cl (.int .i64)),(5, .cl (.int .i64))],[],[],0,47⟩
abbrev oc:List (X×eJ):= [(.ext 0,⟨[(0, .cl (.ro (.i .i64))),(1, .cl (.int .i64)),(5, .cl (.int .i64))],[],[],0,47⟩)]
def od {ρ:Type} (v1:List Int) (v2:Int) (v3:Int) (fn: (((List Int)×Int×Int×Unit)×(Unit)×(Unit))→Option ρ) (fe: (((List Int)×Int×Int×Unit)×(Unit)×(Unit))→Option ρ):Option ρ:=
 br (decide (v3 < (v1.length:Int))) (aL (0≤v3) ((v1[v3.toNat]?).bind fun x4=>br (decide (x4 < v2)) (fn ((v1,v2,(IntKind.wrap .i64 (v3+1)),()),(()),(()))) (fe ((v1,v2,v3,()),(()),(())))) none) (fe ((v1,v2,v3,()),(()),(())))
def jU (s:iR.D):Option (iR.D⊕bD.D oc):=od s.1.1 s.1.2.1 s.1.2.2.1 (fun s=>some (.inl s)) (fun e=>some (.inr e))
def uE:iR.D→Option (bD.D oc):=j4 jU
theorem I9 {ρ:Type} (s:iR.D) (fn:iR.D→Option ρ) (fe:bD.D oc→Option ρ):od s.1.1 s.1.2.1 s.1.2.2.1 fn fe=(jU s).bind (Sum.elim fn fe):=by
 simp only [jU,od,al,ap,Option.bind_none,Option.bind_assoc,Option.bind_some,Sum.elim_inl,Sum.elim_inr]
abbrev Ft:dk:=dD [] [0,1,5] iR oc uE
theorem GL (s:iR.D):eM Θ (aP LY) (aM []) rq (iR.mk' s) (dy [0,1,5] [0,1,5] fun x S=>some (x,S))=(jU s).bind (Sum.elim (fun s'=>some (.nor,iR.mk' s')) fun e=>some (bD.e oc e)):=
 Eq.trans (by kernel_rfl:_=od s.1.1 s.1.2.1 s.1.2.2.1 (fun s'=>some (.nor,iR.mk' s')) (fun e=>some (bD.e oc e))) (I9 s _ _)
theorem GM:cy Tryz.prog rq Ft:=bm aQ CQ af (by kernel_rfl) (dX (by kernel_rfl:_= []) ah) [] [0,1,5] [0,1,5] iR oc (by kernel_rfl) jU GL uE (gT jU) (aX jU)
def tF {ρ:Type} (a0:List Int) (a1:Int) (k: (List Int)×Unit→Option ρ):Option ρ:=
 (uE ((a0,a1,0,()),(()),(()))).bind fun e5=>br (decide (e5.1.2.2.1 < (e5.1.1.length:Int))) (aL (0≤e5.1.2.2.1) ((e5.1.1[e5.1.2.2.1.toNat]?).bind fun x6=>br (x6==e5.1.2.1) (aL ((([]:List Int)++e5.1.1).length*8≤2 ^ 40) (k ((([]:List Int)++e5.1.1),())) none) (aL (0≤(0:Int)∧(0:Int)≤e5.1.2.2.1∧e5.1.2.2.1≤(e5.1.1.length:Int)) (aL ((([]:List Int)++((e5.1.1.drop (0:Int).toNat).take (e5.1.2.2.1.toNat - (0:Int).toNat))).length*8≤2 ^ 40) (aL (((([]:List Int)++((e5.1.1.drop (0:Int).toNat).take (e5.1.2.2.1.toNat - (0:Int).toNat)))++([e5.1.2.1]:List Int)).length*8≤2 ^ 40) (aL (0≤e5.1.2.2.1∧e5.1.2.2.1≤(e5.1.1.length:Int)∧(e5.1.1.length:Int)≤(e5.1.1.length:Int)) (aL ((((([]:List Int)++((e5.1.1.drop (0:Int).toNat).take (e5.1.2.2.1.toNat - (0:Int).toNat)))++([e5.1.2.1]:List Int))++((e5.1.1.drop e5.1.2.2.1.toNat).take ((e5.1.1.length:Int).toNat - e5.1.2.2.1.toNat))).length*8≤2 ^ 40) (k ((((([]:List Int)++((e5.1.1.drop (0:Int).toNat).take (e5.1.2.2.1.toNat - (0:Int).toNat)))++([e5.1.2.1]:List Int))++((e5.1.1.drop e5.1.2.2.1.toNat).take ((e5.1.1.length:Int).toNat - e5.1.2.2.1.toNat))),())) none) none) none) none) none)) none) (aL (0≤(0:Int)∧(0:Int)≤e5.1.2.2.1∧e5.1.2.2.1≤(e5.1.1.length:Int)) (aL ((([]:List Int)++((e5.1.1.drop (0:Int).toNat).take (e5.1.2.2.1.toNat - (0:Int).toNat))).length*8≤2 ^ 40) (aL (((([]:List Int)++((e5.1.1.drop (0:Int).toNat).take (e5.1.2.2.1.toNat - (0:Int).toNat)))++([e5.1.2.1]:List Int)).length*8≤2 ^ 40) (aL (0≤e5.1.2.2.1∧e5.1.2.2.1≤(e5.1.1.length:Int)∧(e5.1.1.length:Int)≤(e5.1.1.length:Int)) (aL ((((([]:List Int)++((e5.1.1.drop (0:Int).toNat).take (e5.1.2.2.1.toNat - (0:Int).toNat)))++([e5.1.2.1]:List Int))++((e5.1.1.drop e5.1.2.2.1.toNat).take ((e5.1.1.length:Int).toNat - e5.1.2.2.1.toNat))).length*8≤2 ^ 40) (k ((((([]:List Int)++((e5.1.1.drop (0:Int).toNat).take (e5.1.2.2.1.toNat - (0:Int).toNat)))++([e5.1.2.1]:List Int))++((e5.1.1.drop e5.1.2.2.1.toNat).take ((e5.1.1.length:Int).toNat - e5.1.2.2.1.toNat))),())) none) none) none) none) none)
def se (a0:List Int) (a1:Int):Option ((List Int)×Unit):=tF a0 a1 some
theorem MP {ρ:Type} (a0:List Int) (a1:Int) (k: (List Int)×Unit→Option ρ):tF a0 a1 k=(se a0 a1).bind k:=by
 simp only [se,tF,al,ap,Option.bind_none,Option.bind_assoc,Option.bind_some]
abbrev LZ:bw:=bE [.ty (.ls (.i .i64)), .ty (.i .i64)] [.ls (.i .i64)] fun x=>se x.1 x.2.1
theorem Qd:aB Tryz.prog 148 LZ:=
 ak (Λ:=aM [(cd rq,Ft)]) (fn:=Tryz.f148) aQ CQ af (by kernel_rfl) (aI (by kernel_rfl:_= [rq]) (aW (q:=cd rq) rfl GM fun _ _ _=>by kernel_rfl)) (by kernel_rfl) (fun x=>se x.1 x.2.1)
  (fun x=>Eq.trans (by kernel_rfl:_=tF x.1 x.2.1 (fun y=>ret (aA [.ls (.i .i64)] y) fun v g=>some (v,g))) (MP x.1 x.2.1 _)) fun _ _ h=>h
abbrev sE:List (Nat×bw):= [(51,oT),(148,LZ)]
theorem pT:aw Tryz.prog (aP sE):=ae qy <| ae Qd <| aj _
noncomputable abbrev gX:Code:=cG (cz Tryz.f128) 0
abbrev cB:eJ:=⟨[(0, .cl (.ro (.i .i64))),(1, .cl (.ro (.i .i64))),(5, .cl (.own 0 (.i .i64))),(6, .cl (.int .i64))],[],[.i .i64],0,27⟩
abbrev ev:List (X×eJ):= [(.ext 0,⟨[(5, .cl (.own 0 (.i .i64)))],[],[.i .i64],0,27⟩)]
def eO {ρ:Type} (v1:List Int) (v2:List Int) (v3:List Int) (v4:Int) (fn: (((List Int)×(List Int)×Unit×Int×Unit)×(Unit)×((List Int)×Unit))→Option ρ) (fe: ((Unit×Unit)×(Unit)×((List Int)×Unit))→Option ρ):Option ρ:=
 br (decide (v4 < (v2.length:Int))) (aL (0≤v4) ((v2[v4.toNat]?).bind fun x5=>(fa v3 x5).bind fun y6=>br y6.1 (aL (0≤v4) ((v2[v4.toNat]?).bind fun x7=>(se v1 x7).bind fun y8=>fn ((v2,v3,(),(IntKind.wrap .i64 (v4+1)),()),(()),(y8.1,()))) none) (fn ((v2,v3,(),(IntKind.wrap .i64 (v4+1)),()),(()),(v1,())))) none) (fe (((),()),(()),(v1,())))
def cR (s:cB.D):Option (cB.D⊕bD.D ev):=eO s.2.2.1 s.1.1 s.1.2.1 s.1.2.2.2.1 (fun s=>some (.inl s)) (fun e=>some (.inr e))
def ka:cB.D→Option (bD.D ev):=j4 cR
theorem uJ {ρ:Type} (s:cB.D) (fn:cB.D→Option ρ) (fe:bD.D ev→Option ρ):eO s.2.2.1 s.1.1 s.1.2.1 s.1.2.2.2.1 fn fe=(cR s).bind (Sum.elim fn fe):=by
 simp only [cR,eO,al,ap,Option.bind_none,Option.bind_assoc,Option.bind_some,Sum.elim_inl,Sum.elim_inr]
abbrev qz:dk:=dD [] [0,1,5,6] cB ev ka
theorem tG (s:cB.D):eM Θ (aP sE) (aM []) gX (cB.mk' s) (dy [0,1,5,6] [5] fun x S=>some (x,S))=(cR s).bind (Sum.elim (fun s'=>some (.nor,cB.mk' s')) fun e=>some (bD.e ev e)):=
 Eq.trans (by kernel_rfl:_=eO s.2.2.1 s.1.1 s.1.2.1 s.1.2.2.2.1 (fun s'=>some (.nor,cB.mk' s')) (fun e=>some (bD.e ev e))) (uJ s _ _)
theorem tH:cy Tryz.prog gX qz:=bm aQ pT af (by kernel_rfl) (dX (by kernel_rfl:_= []) ah) [] [0,1,5,6] [5] cB ev (by kernel_rfl) cR tG ka (gT cR) (aX cR)
def iT {ρ:Type} (a0:List Int) (a1:List Int) (k: (List Int)×Unit→Option ρ):Option ρ:=
 (ka ((a0,a1,(),0,()),(()),(([]:List Int),()))).bind fun e9=>k (e9.2.2.1,())
def eF (a0:List Int) (a1:List Int):Option ((List Int)×Unit):=iT a0 a1 some
theorem wT {ρ:Type} (a0:List Int) (a1:List Int) (k: (List Int)×Unit→Option ρ):iT a0 a1 k=(eF a0 a1).bind k:=by
 simp only [eF,iT,Option.bind_assoc,Option.bind_some]
abbrev pa:bw:=bE [.ty (.ls (.i .i64)), .ty (.ls (.i .i64))] [.ls (.i .i64)] fun x=>eF x.1 x.2.1
theorem sF:aB Tryz.prog 128 pa:=
 ak (Λ:=aM [(cd gX,qz)]) (fn:=Tryz.f128) aQ pT af (by kernel_rfl) (aI (by kernel_rfl:_= [gX]) (aW (q:=cd gX) rfl tH fun _ _ _=>by kernel_rfl)) (by kernel_rfl) (fun x=>eF x.1 x.2.1)
  (fun x=>Eq.trans (by kernel_rfl:_=iT x.1 x.2.1 (fun y=>ret (aA [.ls (.i .i64)] y) fun v g=>some (v,g))) (wT x.1 x.2.1 _)) fun _ _ h=>h
abbrev AJ:List (Nat×bw):= [(120,ob),(224,wS),(51,oT),(128,pa)]
theorem vM:aw Tryz.prog (aP AJ):=ae o9 <| ae GK <| ae qy <| ae sF <| aj _
def fW {ρ:Type} (a0:ai) (k:Bool×Unit→Option ρ):Option ρ:=
 (dI a0.epoch 1 20).bind fun y1=>br y1.1 ((fF a0.replicas).bind fun y2=>br y2.1 ((fF a0.witnesses).bind fun y3=>br y3.1 ((fa a0.replicas a0.primary).bind fun y4=>br y4.1 ((eF a0.replicas a0.witnesses).bind fun y5=>k (((y5.1.length:Int)==0),())) (k (false,()))) (k (false,()))) (k (false,()))) (k (false,()))
def ci (a0:ai):Option (Bool×Unit):=fW a0 some
theorem wU {ρ:Type} (a0:ai) (k:Bool×Unit→Option ρ):fW a0 k=(ci a0).bind k:=by
 simp only [ci,fW,al,Option.bind_assoc,Option.bind_some]
abbrev pb:bw:=bE [.ty (.st .config)] [.b] fun x=>ci x.1
theorem sG:aB Tryz.prog 169 pb:=
 ak (Λ:=aM []) (fn:=Tryz.f169) aQ vM af (by kernel_rfl) (aI (by kernel_rfl:_= []) ah) (by kernel_rfl) (fun x=>ci x.1)
  (fun x=>Eq.trans (by kernel_rfl:_=fW x.1 (fun y=>ret (aA [.b] y) fun v g=>some (v,g))) (wU x.1 _)) fun _ _ h=>h
abbrev u7:List (Nat×bw):= [(169,pb),(120,ob)]
theorem rr:aw Tryz.prog (aP u7):=ae sG <| ae o9 <| aj _
noncomputable abbrev jF:Code:=cG (cz Tryz.f122) 0
abbrev cZ:eJ:=⟨[(1, .cl (.ptr 0 0)),(3, .cl (.int .i64))],[[.ro (.st .config), .int .i64]],[],0,35⟩
abbrev fu:List (X×eJ):= [(.ret,⟨[(1, .cl (.ptr 0 0)),(2, .cl (.bl))],[[.ro (.st .config), .int .i64]],[],0,35⟩),(.ext 0,⟨[(1, .cl (.ptr 0 0)),(2, .cl (.dead))],[[.ro (.st .config), .int .i64]],[],0,35⟩)]
def dz {ρ:Type} (v1:Int) (v2:List ai) (v3:Int) (fn: ((Unit×Int×Unit)×(((List ai)×Int×Unit)×Unit)×(Unit))→Option ρ) (fe: ((Unit×Bool×Unit)×(((List ai)×Int×Unit)×Unit)×(Unit))⊕((Unit×Unit×Unit)×(((List ai)×Int×Unit)×Unit)×(Unit))→Option ρ):Option ρ:=
 br (decide (v1 < (v2.length:Int))) (aL (0≤v1) ((v2[v1.toNat]?).bind fun x4=>(ci x4).bind fun y5=>br (!y5.1) (fe (.inl (((),false,()),((v2,v3,()),()),(())))) (aL (0≤v1) ((v2[v1.toNat]?).bind fun x6=>br (!(x6.epoch==(IntKind.wrap .i64 (v1+1)))) (fe (.inl (((),false,()),((v2,v3,()),()),(())))) (fn (((),(IntKind.wrap .i64 (v1+1)),()),((v2,v3,()),()),(())))) none)) none) (fe (.inr (((),(),()),((v2,v3,()),()),(()))))
def bN (s:cZ.D):Option (cZ.D⊕bD.D fu):=dz s.1.2.1 s.2.1.1.1 s.2.1.1.2.1 (fun s=>some (.inl s)) (fun e=>some (.inr e))
def fv:cZ.D→Option (bD.D fu):=j4 bN
theorem wV {ρ:Type} (s:cZ.D) (fn:cZ.D→Option ρ) (fe:bD.D fu→Option ρ):dz s.1.2.1 s.2.1.1.1 s.2.1.1.2.1 fn fe=(bN s).bind (Sum.elim fn fe):=by
 simp only [bN,dz,al,ap,Option.bind_none,Option.bind_assoc,Option.bind_some,Sum.elim_inl,Sum.elim_inr]
abbrev sH:dk:=dD [] [1,3] cZ fu fv
theorem vN (s:cZ.D):eM Θ (aP u7) (aM []) jF (cZ.mk' s) (dy [1,3] [1,2] fun x S=>some (x,S))=(bN s).bind (Sum.elim (fun s'=>some (.nor,cZ.mk' s')) fun e=>some (bD.e fu e)):=
 Eq.trans (by kernel_rfl:_=dz s.1.2.1 s.2.1.1.1 s.2.1.1.2.1 (fun s'=>some (.nor,cZ.mk' s')) (fun e=>some (bD.e fu e))) (wV s _ _)
theorem vO:cy Tryz.prog jF sH:=bm aQ rr af (by kernel_rfl) (dX (by kernel_rfl:_= []) ah) [] [1,3] [1,2] cZ fu (by kernel_rfl) bN vN fv (gT bN) (aX bN)
def iU {ρ:Type} (a0:aD) (k:Bool×Unit→Option ρ):Option ρ:=
 (fv (((),0,()),((a0.configs,a0.activated,()),()),(()))).bind fun e7=>Sum.elim (fun e7_=>k (e7_.1.2.1,())) (fun e7_=>(dI e7_.2.1.1.2.1 0 (e7_.2.1.1.1.length:Int)).bind fun y8=>k (y8.1,())) e7
def dw (a0:aD):Option (Bool×Unit):=iU a0 some
theorem AK {ρ:Type} (a0:aD) (k:Bool×Unit→Option ρ):iU a0 k=(dw a0).bind k:=by
 simp only [dw,iU,cf,Option.bind_assoc,Option.bind_some]
abbrev qV:bw:=bE [.ty (.st .masterLog)] [.b] fun x=>dw x.1
theorem u9:aB Tryz.prog 122 qV:=
 ak (Λ:=aM [(cd jF,sH)]) (fn:=Tryz.f122) aQ rr af (by kernel_rfl) (aI (by kernel_rfl:_= [jF]) (aW (q:=cd jF) rfl vO fun _ _ _=>by kernel_rfl)) (by kernel_rfl) (fun x=>dw x.1)
  (fun x=>Eq.trans (by kernel_rfl:_=iU x.1 (fun y=>ret (aA [.b] y) fun v g=>some (v,g))) (AK x.1 _)) fun _ _ h=>h
abbrev MQ:List (Nat×bw):= [(120,ob)]
theorem GN:aw Tryz.prog (aP MQ):=ae o9 <| aj _
def pU {ρ:Type} (a0:fC) (k:Bool×Unit→Option ρ):Option ρ:=
 br ((a0.epoch==0)&&((a0.holder==0)&&((a0.ends==0)&&true))) (k (true,())) ((dI a0.epoch 1 20).bind fun y1=>br y1.1 ((dI a0.holder 0 4).bind fun y2=>br y2.1 ((dI a0.ends 1 1049).bind fun y3=>k (y3.1,())) (k (false,()))) (k (false,())))
def lf (a0:fC):Option (Bool×Unit):=pU a0 some
theorem Ja {ρ:Type} (a0:fC) (k:Bool×Unit→Option ρ):pU a0 k=(lf a0).bind k:=by
 simp only [lf,pU,al,Option.bind_assoc,Option.bind_some]
abbrev yE:bw:=bE [.ty (.st .lease)] [.b] fun x=>lf x.1
theorem Fu:aB Tryz.prog 123 yE:=
 ak (Λ:=aM []) (fn:=Tryz.f123) aQ GN af (by kernel_rfl) (aI (by kernel_rfl:_= []) ah) (by kernel_rfl) (fun x=>lf x.1)
  (fun x=>Eq.trans (by kernel_rfl:_=pU x.1 (fun y=>ret (aA [.b] y) fun v g=>some (v,g))) (Ja x.1 _)) fun _ _ h=>h
abbrev zY:List (Nat×bw):= [(120,ob)]
theorem tI:aw Tryz.prog (aP zY):=ae o9 <| aj _
noncomputable abbrev lL:Code:=cG (cz Tryz.f124) 0
abbrev dL:eJ:=⟨[(0, .cl (.ro (.st .place))),(3, .cl (.int .i64))],[],[],0,38⟩
abbrev iu:List (X×eJ):= [(.ret,⟨[(0, .cl (.ro (.st .place))),(2, .cl (.bl))],[],[],0,38⟩),(.ext 0,⟨[(0, .cl (.ro (.st .place))),(2, .cl (.dead))],[],[],0,38⟩)]
def iV {ρ:Type} (v1:List bk) (v2:Int) (fn: (((List bk)×Int×Unit)×(Unit)×(Unit))→Option ρ) (fe: (((List bk)×Bool×Unit)×(Unit)×(Unit))⊕(((List bk)×Unit×Unit)×(Unit)×(Unit))→Option ρ):Option ρ:=
 br (decide (v2 < (v1.length:Int))) (aL (0≤v2) ((v1[v2.toNat]?).bind fun x3=>(dI x3.rack 0 9).bind fun y4=>br (!y4.1) (fe (.inl ((v1,false,()),(()),(())))) (aL (0≤v2) ((v1[v2.toNat]?).bind fun x5=>(dI x5.capacity 0 9).bind fun y6=>br (!y6.1) (fe (.inl ((v1,false,()),(()),(())))) (aL (0≤v2) ((v1[v2.toNat]?).bind fun x7=>(dI x7.load 0 99).bind fun y8=>br (!y8.1) (fe (.inl ((v1,false,()),(()),(())))) (fn ((v1,(IntKind.wrap .i64 (v2+1)),()),(()),(())))) none)) none)) none) (fe (.inr ((v1,(),()),(()),(()))))
def eh (s:dL.D):Option (dL.D⊕bD.D iu):=iV s.1.1 s.1.2.1 (fun s=>some (.inl s)) (fun e=>some (.inr e))
def lM:dL.D→Option (bD.D iu):=j4 eh
theorem AL {ρ:Type} (s:dL.D) (fn:dL.D→Option ρ) (fe:bD.D iu→Option ρ):iV s.1.1 s.1.2.1 fn fe=(eh s).bind (Sum.elim fn fe):=by
 simp only [eh,iV,al,ap,Option.bind_none,Option.bind_assoc,Option.bind_some,Sum.elim_inl,Sum.elim_inr]
abbrev va:dk:=dD [] [0,3] dL iu lM
theorem yF (s:dL.D):eM Θ (aP zY) (aM []) lL (dL.mk' s) (dy [0,3] [0,2] fun x S=>some (x,S))=(eh s).bind (Sum.elim (fun s'=>some (.nor,dL.mk' s')) fun e=>some (bD.e iu e)):=
 Eq.trans (by kernel_rfl:_=iV s.1.1 s.1.2.1 (fun s'=>some (.nor,dL.mk' s')) (fun e=>some (bD.e iu e))) (AL s _ _)
theorem yG:cy Tryz.prog lL va:=bm aQ tI af (by kernel_rfl) (dX (by kernel_rfl:_= []) ah) [] [0,3] [0,2] dL iu (by kernel_rfl) eh yF lM (gT eh) (aX eh)
def ny {ρ:Type} (a0:List bk) (k:Bool×Unit→Option ρ):Option ρ:=
 (lM ((a0,0,()),(()),(()))).bind fun e9=>Sum.elim (fun e9_=>k (e9_.1.2.1,())) (fun e9_=>k (((e9_.1.1.length:Int)==5),())) e9
def fb (a0:List bk):Option (Bool×Unit):=ny a0 some
theorem Em {ρ:Type} (a0:List bk) (k:Bool×Unit→Option ρ):ny a0 k=(fb a0).bind k:=by
 simp only [fb,ny,cf,Option.bind_assoc,Option.bind_some]
abbrev tJ:bw:=bE [.ty (.ls (.st .place))] [.b] fun x=>fb x.1
theorem zZ:aB Tryz.prog 124 tJ:=
 ak (Λ:=aM [(cd lL,va)]) (fn:=Tryz.f124) aQ tI af (by kernel_rfl) (aI (by kernel_rfl:_= [lL]) (aW (q:=cd lL) rfl yG fun _ _ _=>by kernel_rfl)) (by kernel_rfl) (fun x=>fb x.1)
  (fun x=>Eq.trans (by kernel_rfl:_=ny x.1 (fun y=>ret (aA [.b] y) fun v g=>some (v,g))) (Em x.1 _)) fun _ _ h=>h
abbrev Jb:List (Nat×bw):= [(120,ob)]
theorem CS:aw Tryz.prog (aP Jb):=ae o9 <| aj _
def nz {ρ:Type} (a0:Op) (k:Bool×Unit→Option ρ):Option ρ:=
 (dI a0.client 0 2).bind fun y1=>br (!y1.1) (k (false,())) ((dI a0.seq 1 99).bind fun y2=>br (!y2.1) (k (false,())) ((dI a0.object 0 2).bind fun y3=>br (!y3.1) (k (false,())) ((dI a0.value 0 9).bind fun y4=>br (!y4.1) (k (false,())) (br (a0.kind==1) (br (a0.old==0) (k (true,())) (br (a0.kind==2) ((dI a0.old 0 9).bind fun y5=>k (y5.1,())) (k (false,())))) (br (a0.kind==2) ((dI a0.old 0 9).bind fun y6=>k (y6.1,())) (k (false,())))))))
def kC (a0:Op):Option (Bool×Unit):=nz a0 some
theorem Eo {ρ:Type} (a0:Op) (k:Bool×Unit→Option ρ):nz a0 k=(kC a0).bind k:=by
 simp only [kC,nz,al,Option.bind_assoc,Option.bind_some]
abbrev z0:bw:=bE [.ty (.st .op)] [.b] fun x=>kC x.1
theorem Jc:aB Tryz.prog 225 z0:=
 ak (Λ:=aM []) (fn:=Tryz.f225) aQ CS af (by kernel_rfl) (aI (by kernel_rfl:_= []) ah) (by kernel_rfl) (fun x=>kC x.1)
  (fun x=>Eq.trans (by kernel_rfl:_=nz x.1 (fun y=>ret (aA [.b] y) fun v g=>some (v,g))) (Eo x.1 _)) fun _ _ h=>h
abbrev L0:List (Nat×bw):= [(120,ob),(225,z0)]
theorem CT:aw Tryz.prog (aP L0):=ae o9 <| ae Jc <| aj _
noncomputable abbrev rt:Code:=cG (cz Tryz.f172) 0
abbrev iW:eJ:=⟨[(0, .cl (.ro (.st .entry))),(3, .cl (.int .i64))],[],[],0,47⟩
abbrev oe:List (X×eJ):= [(.ret,⟨[(0, .cl (.ro (.st .entry))),(2, .cl (.bl))],[],[],0,47⟩),(.ext 0,⟨[(0, .cl (.ro (.st .entry))),(2, .cl (.dead))],[],[],0,47⟩)]
def of {ρ:Type} (v1:List bK) (v2:Int) (fn: (((List bK)×Int×Unit)×(Unit)×(Unit))→Option ρ) (fe: (((List bK)×Bool×Unit)×(Unit)×(Unit))⊕(((List bK)×Unit×Unit)×(Unit)×(Unit))→Option ρ):Option ρ:=
 br (decide (v2 < (v1.length:Int))) (aL (0≤v2) ((v1[v2.toNat]?).bind fun x3=>(dI x3.epoch 1 20).bind fun y4=>br (!y4.1) (fe (.inl ((v1,false,()),(()),(())))) (aL (0≤v2) ((v1[v2.toNat]?).bind fun x5=>(kC x5.op).bind fun y6=>br (!y6.1) (fe (.inl ((v1,false,()),(()),(())))) (br (decide (v2 > 0)) (aL (0≤(IntKind.wrap .i64 (v2 - 1))) ((v1[(IntKind.wrap .i64 (v2 - 1)).toNat]?).bind fun x7=>aL (0≤v2) ((v1[v2.toNat]?).bind fun x8=>br (decide (x7.epoch > x8.epoch)) (fe (.inl ((v1,false,()),(()),(())))) (fn ((v1,(IntKind.wrap .i64 (v2+1)),()),(()),(())))) none) none) (fn ((v1,(IntKind.wrap .i64 (v2+1)),()),(()),(()))))) none)) none) (fe (.inr ((v1,(),()),(()),(()))))
def jV (s:iW.D):Option (iW.D⊕bD.D oe):=of s.1.1 s.1.2.1 (fun s=>some (.inl s)) (fun e=>some (.inr e))
def ru:iW.D→Option (bD.D oe):=j4 jV
theorem Jd {ρ:Type} (s:iW.D) (fn:iW.D→Option ρ) (fe:bD.D oe→Option ρ):of s.1.1 s.1.2.1 fn fe=(jV s).bind (Sum.elim fn fe):=by
 simp only [jV,of,al,ap,Option.bind_none,Option.bind_assoc,Option.bind_some,Sum.elim_inl,Sum.elim_inr]
abbrev Fv:dk:=dD [] [0,3] iW oe ru
theorem GO (s:iW.D):eM Θ (aP L0) (aM []) rt (iW.mk' s) (dy [0,3] [0,2] fun x S=>some (x,S))=(jV s).bind (Sum.elim (fun s'=>some (.nor,iW.mk' s')) fun e=>some (bD.e oe e)):=
 Eq.trans (by kernel_rfl:_=of s.1.1 s.1.2.1 (fun s'=>some (.nor,iW.mk' s')) (fun e=>some (bD.e oe e))) (Jd s _ _)
theorem GP:cy Tryz.prog rt Fv:=bm aQ CT af (by kernel_rfl) (dX (by kernel_rfl:_= []) ah) [] [0,3] [0,2] iW oe (by kernel_rfl) jV GO ru (gT jV) (aX jV)
def tK {ρ:Type} (a0:List bK) (k:Bool×Unit→Option ρ):Option ρ:=
 (ru ((a0,0,()),(()),(()))).bind fun e9=>Sum.elim (fun e9_=>k (e9_.1.2.1,())) (fun e9_=>k ((decide ((e9_.1.1.length:Int)≤16)),())) e9
def pz (a0:List bK):Option (Bool×Unit):=tK a0 some
theorem MR {ρ:Type} (a0:List bK) (k:Bool×Unit→Option ρ):tK a0 k=(pz a0).bind k:=by
 simp only [pz,tK,cf,Option.bind_assoc,Option.bind_some]
abbrev L3:bw:=bE [.ty (.ls (.st .entry))] [.b] fun x=>pz x.1
theorem Qe:aB Tryz.prog 172 L3:=
 ak (Λ:=aM [(cd rt,Fv)]) (fn:=Tryz.f172) aQ CT af (by kernel_rfl) (aI (by kernel_rfl:_= [rt]) (aW (q:=cd rt) rfl GP fun _ _ _=>by kernel_rfl)) (by kernel_rfl) (fun x=>pz x.1)
  (fun x=>Eq.trans (by kernel_rfl:_=tK x.1 (fun y=>ret (aA [.b] y) fun v g=>some (v,g))) (MR x.1 _)) fun _ _ h=>h
abbrev tL:List (Nat×bw):= []
theorem qA:aw Tryz.prog (aP tL):=aj _
noncomputable abbrev iX:Code:=cG (cz Tryz.f159) 0
abbrev cP:eJ:=⟨[(0, .cl (.ro (.i .i64))),(1, .cl (.ro (.i .i64))),(5, .cl (.int .i64))],[],[],0,26⟩
abbrev eP:List (X×eJ):= [(.ret,⟨[(4, .cl (.bl))],[],[],0,26⟩),(.ext 0,⟨[(4, .cl (.dead))],[],[],0,26⟩)]
def fq {ρ:Type} (v1:List Int) (v2:List Int) (v3:Int) (fn: (((List Int)×(List Int)×Int×Unit)×(Unit)×(Unit))→Option ρ) (fe: ((Bool×Unit)×(Unit)×(Unit))⊕((Unit×Unit)×(Unit)×(Unit))→Option ρ):Option ρ:=
 br (decide (v3 < (v1.length:Int))) (aL (0≤v3) ((v1[v3.toNat]?).bind fun x4=>aL (0≤v3) ((v2[v3.toNat]?).bind fun x5=>br (!(x4==x5)) (fe (.inl ((false,()),(()),(())))) (fn ((v1,v2,(IntKind.wrap .i64 (v3+1)),()),(()),(())))) none) none) (fe (.inr (((),()),(()),(()))))
def c9 (s:cP.D):Option (cP.D⊕bD.D eP):=fq s.1.1 s.1.2.1 s.1.2.2.1 (fun s=>some (.inl s)) (fun e=>some (.inr e))
def iY:cP.D→Option (bD.D eP):=j4 c9
theorem vP {ρ:Type} (s:cP.D) (fn:cP.D→Option ρ) (fe:bD.D eP→Option ρ):fq s.1.1 s.1.2.1 s.1.2.2.1 fn fe=(c9 s).bind (Sum.elim fn fe):=by
 simp only [c9,fq,al,ap,Option.bind_none,Option.bind_assoc,Option.bind_some,Sum.elim_inl,Sum.elim_inr]
abbrev rv:dk:=dD [] [0,1,5] cP eP iY
theorem uK (s:cP.D):eM Θ (aP tL) (aM []) iX (cP.mk' s) (dy [0,1,5] [4] fun x S=>some (x,S))=(c9 s).bind (Sum.elim (fun s'=>some (.nor,cP.mk' s')) fun e=>some (bD.e eP e)):=
 Eq.trans (by kernel_rfl:_=fq s.1.1 s.1.2.1 s.1.2.2.1 (fun s'=>some (.nor,cP.mk' s')) (fun e=>some (bD.e eP e))) (vP s _ _)
theorem uL:cy Tryz.prog iX rv:=bm aQ qA af (by kernel_rfl) (dX (by kernel_rfl:_= []) ah) [] [0,1,5] [4] cP eP (by kernel_rfl) c9 uK iY (gT c9) (aX c9)
def jG {ρ:Type} (a0:List Int) (a1:List Int) (k:Bool×Unit→Option ρ):Option ρ:=
 br (!((a0.length:Int)==(a1.length:Int))) (k (false,())) ((iY ((a0,a1,0,()),(()),(()))).bind fun e6=>Sum.elim (fun e6_=>k (e6_.1.1,())) (fun e6_=>k (true,())) e6)
def ff (a0:List Int) (a1:List Int):Option (Bool×Unit):=jG a0 a1 some
theorem yH {ρ:Type} (a0:List Int) (a1:List Int) (k:Bool×Unit→Option ρ):jG a0 a1 k=(ff a0 a1).bind k:=by
 simp only [ff,jG,al,cf,Option.bind_assoc,Option.bind_some]
abbrev tM:bw:=bE [.ty (.ls (.i .i64)), .ty (.ls (.i .i64))] [.b] fun x=>ff x.1 x.2.1
theorem CU:aB Tryz.prog 159 tM:=
 ak (Λ:=aM [(cd iX,rv)]) (fn:=Tryz.f159) aQ qA af (by kernel_rfl) (aI (by kernel_rfl:_= [iX]) (aW (q:=cd iX) rfl uL fun _ _ _=>by kernel_rfl)) (by kernel_rfl) (fun x=>ff x.1 x.2.1)
  (fun x=>Eq.trans (by kernel_rfl:_=jG x.1 x.2.1 (fun y=>ret (aA [.b] y) fun v g=>some (v,g))) (yH x.1 x.2.1 _)) fun _ _ h=>h
abbrev CV:List (Nat×bw):= [(159,tM)]
theorem wW:aw Tryz.prog (aP CV):=ae CU <| aj _
def jH {ρ:Type} (a0:ai) (a1:ai) (k:Bool×Unit→Option ρ):Option ρ:=
 br (a0.epoch==a1.epoch) (br (a0.primary==a1.primary) ((ff a0.replicas a1.replicas).bind fun y1=>br y1.1 ((ff a0.witnesses a1.witnesses).bind fun y2=>k (y2.1,())) (k (false,()))) (k (false,()))) (k (false,()))
def fg (a0:ai) (a1:ai):Option (Bool×Unit):=jH a0 a1 some
theorem yI {ρ:Type} (a0:ai) (a1:ai) (k:Bool×Unit→Option ρ):jH a0 a1 k=(fg a0 a1).bind k:=by
 simp only [fg,jH,al,Option.bind_assoc,Option.bind_some]
abbrev pV:bw:=bE [.ty (.st .config), .ty (.st .config)] [.b] fun x=>fg x.1 x.2.1
theorem tN:aB Tryz.prog 90 pV:=
 ak (Λ:=aM []) (fn:=Tryz.f90) aQ wW af (by kernel_rfl) (aI (by kernel_rfl:_= []) ah) (by kernel_rfl) (fun x=>fg x.1 x.2.1)
  (fun x=>Eq.trans (by kernel_rfl:_=jH x.1 x.2.1 (fun y=>ret (aA [.b] y) fun v g=>some (v,g))) (yI x.1 x.2.1 _)) fun _ _ h=>h
abbrev MS:List (Nat×bw):= [(90,pV)]
theorem GQ:aw Tryz.prog (aP MS):=ae tN <| aj _
def pW {ρ:Type} (a0:ai) (k:Bool×Unit→Option ρ):Option ρ:=
 (fg a0 (⟨0,0,([]:List Int),([]:List Int)⟩:ai)).bind fun y1=>k (y1.1,())
def mQ (a0:ai):Option (Bool×Unit):=pW a0 some
theorem Je {ρ:Type} (a0:ai) (k:Bool×Unit→Option ρ):pW a0 k=(mQ a0).bind k:=by
 simp only [mQ,pW,Option.bind_assoc,Option.bind_some]
abbrev yJ:bw:=bE [.ty (.st .config)] [.b] fun x=>mQ x.1
theorem Fw:aB Tryz.prog 89 yJ:=
 ak (Λ:=aM []) (fn:=Tryz.f89) aQ GQ af (by kernel_rfl) (aI (by kernel_rfl:_= []) ah) (by kernel_rfl) (fun x=>mQ x.1)
  (fun x=>Eq.trans (by kernel_rfl:_=pW x.1 (fun y=>ret (aA [.b] y) fun v g=>some (v,g))) (Je x.1 _)) fun _ _ h=>h
abbrev MT:List (Nat×bw):= []
theorem GR:aw Tryz.prog (aP MT):=aj _
def pX {ρ:Type} (a0:List bK) (k:Int×Unit→Option ρ):Option ρ:=
 br ((a0.length:Int)==0) (k (0,())) (aL (0≤(IntKind.wrap .i64 ((a0.length:Int) - 1))) ((a0[(IntKind.wrap .i64 ((a0.length:Int) - 1)).toNat]?).bind fun x1=>k (x1.epoch,())) none)
def mR (a0:List bK):Option (Int×Unit):=pX a0 some
theorem Jf {ρ:Type} (a0:List bK) (k:Int×Unit→Option ρ):pX a0 k=(mR a0).bind k:=by
 simp only [mR,pX,al,ap,Option.bind_none,Option.bind_assoc,Option.bind_some]
abbrev yK:bw:=bE [.ty (.ls (.st .entry))] [.i .i64] fun x=>mR x.1
theorem Fx:aB Tryz.prog 126 yK:=
 ak (Λ:=aM []) (fn:=Tryz.f126) aQ GR af (by kernel_rfl) (aI (by kernel_rfl:_= []) ah) (by kernel_rfl) (fun x=>mR x.1)
  (fun x=>Eq.trans (by kernel_rfl:_=pX x.1 (fun y=>ret (aA [.i .i64] y) fun v g=>some (v,g))) (Jf x.1 _)) fun _ _ h=>h
abbrev OQ:List (Nat×bw):= [(169,pb),(51,oT)]
theorem Jg:aw Tryz.prog (aP OQ):=ae sG <| ae qy <| aj _
def rx {ρ:Type} (a0:ai) (a1:Int) (k:Int×Unit→Option ρ):Option ρ:=
 (ci a0).bind fun y1=>br (!y1.1) (k (0,())) (br (a1==a0.primary) (k (1,())) ((fa a0.replicas a1).bind fun y2=>br y2.1 (k (2,())) ((fa a0.witnesses a1).bind fun y3=>br y3.1 (k (3,())) (k (0,())))))
def pY (a0:ai) (a1:Int):Option (Int×Unit):=rx a0 a1 some
theorem KS {ρ:Type} (a0:ai) (a1:Int) (k:Int×Unit→Option ρ):rx a0 a1 k=(pY a0 a1).bind k:=by
 simp only [pY,rx,al,Option.bind_assoc,Option.bind_some]
abbrev Jh:bw:=bE [.ty (.st .config), .ty (.i .i64)] [.i .i64] fun x=>pY x.1 x.2.1
theorem OS:aB Tryz.prog 171 Jh:=
 ak (Λ:=aM []) (fn:=Tryz.f171) aQ Jg af (by kernel_rfl) (aI (by kernel_rfl:_= []) ah) (by kernel_rfl) (fun x=>pY x.1 x.2.1)
  (fun x=>Eq.trans (by kernel_rfl:_=rx x.1 x.2.1 (fun y=>ret (aA [.i .i64] y) fun v g=>some (v,g))) (KS x.1 x.2.1 _)) fun _ _ h=>h
abbrev AM:List (Nat×bw):= [(120,ob),(172,L3),(89,yJ),(126,yK),(171,Jh)]
theorem vQ:aw Tryz.prog (aP AM):=ae o9 <| ae Qe <| ae Fw <| ae Fx <| ae OS <| aj _
def iZ {ρ:Type} (a0:aZ) (a1:Int) (k:Bool×Unit→Option ρ):Option ρ:=
 (dI a0.version 1 2).bind fun y1=>br (!y1.1) (k (false,())) ((dI a0.epoch 0 20).bind fun y2=>br (!y2.1) (k (false,())) ((pz a0.log).bind fun y3=>br (!y3.1) (k (false,())) ((pz a0.learned).bind fun y4=>br (!y4.1) (k (false,())) ((dI a0.first 0 16).bind fun y5=>br (!y5.1) (k (false,())) ((dI (IntKind.wrap .i64 (a0.first+(a0.log.length:Int))) 0 16).bind fun y6=>br (!y6.1) (k (false,())) ((dI a0.commit 0 (IntKind.wrap .i64 (a0.first+(a0.log.length:Int)))).bind fun y7=>br (!y7.1) (k (false,())) ((mQ a0.config).bind fun y8=>br y8.1 (br (a0.first==0) (br ((a0.log.length:Int)==0) (k ((a0.commit==0),())) (k (false,()))) (k (false,()))) (br (!a0.intact) (k (false,())) (br (decide (a0.epoch < a0.config.epoch)) (k (false,())) ((mR a0.log).bind fun y9=>br (decide (y9.1 > a0.config.epoch)) (k (false,())) ((pY a0.config a1).bind fun y10=>br (y10.1==0) (k (false,())) (br (y10.1==3) (br (decide ((a0.log.length:Int)≤3)) (br ((a0.log.length:Int)==3) (k (true,())) (k ((a0.first==0),()))) (k (false,()))) (k ((a0.first==0),()))))))))))))))
def dV (a0:aZ) (a1:Int):Option (Bool×Unit):=iZ a0 a1 some
theorem wX {ρ:Type} (a0:aZ) (a1:Int) (k:Bool×Unit→Option ρ):iZ a0 a1 k=(dV a0 a1).bind k:=by
 simp only [dV,iZ,al,Option.bind_assoc,Option.bind_some]
abbrev sI:bw:=bE [.ty (.st .server), .ty (.i .i64)] [.b] fun x=>dV x.1 x.2.1
theorem AN:aB Tryz.prog 125 sI:=
 ak (Λ:=aM []) (fn:=Tryz.f125) aQ vQ af (by kernel_rfl) (aI (by kernel_rfl:_= []) ah) (by kernel_rfl) (fun x=>dV x.1 x.2.1)
  (fun x=>Eq.trans (by kernel_rfl:_=iZ x.1 x.2.1 (fun y=>ret (aA [.b] y) fun v g=>some (v,g))) (wX x.1 x.2.1 _)) fun _ _ h=>h
abbrev OT:List (Nat×bw):= []
theorem Ji:aw Tryz.prog (aP OT):=aj _
def pK {ρ:Type} (a0:ai) (k:ai×Unit→Option ρ):Option ρ:=
 aL ((([]:List Int)++a0.replicas).length*8≤2 ^ 40) (aL ((([]:List Int)++a0.witnesses).length*8≤2 ^ 40) (k ((⟨a0.epoch,a0.primary,(([]:List Int)++a0.replicas),(([]:List Int)++a0.witnesses)⟩:ai),())) none) none
def nA (a0:ai):Option (ai×Unit):=pK a0 some
theorem KT {ρ:Type} (a0:ai) (k:ai×Unit→Option ρ):pK a0 k=(nA a0).bind k:=by
 simp only [nA,pK,ap,Option.bind_none,Option.bind_some]
abbrev Jj:bw:=bE [.ty (.st .config)] [.st .config] fun x=>nA x.1
theorem OU:aB Tryz.prog 170 Jj:=
 ak (Λ:=aM []) (fn:=Tryz.f170) aQ Ji af (by kernel_rfl) (aI (by kernel_rfl:_= []) ah) (by kernel_rfl) (fun x=>nA x.1)
  (fun x=>Eq.trans (by kernel_rfl:_=pK x.1 (fun y=>ret (aA [.st .config] y) fun v g=>some (v,g))) (KT x.1 _)) fun _ _ h=>h
abbrev KU:List (Nat×bw):= [(122,qV),(120,ob),(170,Jj)]
theorem Ep:aw Tryz.prog (aP KU):=ae u9 <| ae o9 <| ae OU <| aj _
def mS {ρ:Type} (a0:aD) (a1:Int) (k:ai×Bool×Unit→Option ρ):Option ρ:=
 (dw a0).bind fun y1=>br (!y1.1) (k ((⟨0,0,([]:List Int),([]:List Int)⟩:ai),false,())) ((dI a1 1 (a0.configs.length:Int)).bind fun y2=>br (!y2.1) (k ((⟨0,0,([]:List Int),([]:List Int)⟩:ai),false,())) (aL (0≤(IntKind.wrap .i64 (a1 - 1))) ((a0.configs[(IntKind.wrap .i64 (a1 - 1)).toNat]?).bind fun x3=>(nA x3).bind fun y4=>k (y4.1,true,())) none))
def iv (a0:aD) (a1:Int):Option (ai×Bool×Unit):=mS a0 a1 some
theorem GS {ρ:Type} (a0:aD) (a1:Int) (k:ai×Bool×Unit→Option ρ):mS a0 a1 k=(iv a0 a1).bind k:=by
 simp only [iv,mS,al,ap,Option.bind_none,Option.bind_assoc,Option.bind_some]
abbrev vR:bw:=bE [.ty (.st .masterLog), .ty (.i .i64)] [.st .config, .b] fun x=>iv x.1 x.2.1
theorem CW:aB Tryz.prog 127 vR:=
 ak (Λ:=aM []) (fn:=Tryz.f127) aQ Ep af (by kernel_rfl) (aI (by kernel_rfl:_= []) ah) (by kernel_rfl) (fun x=>iv x.1 x.2.1)
  (fun x=>Eq.trans (by kernel_rfl:_=mS x.1 x.2.1 (fun y=>ret (aA [.st .config, .b] y) fun v g=>some (v,g))) (GS x.1 x.2.1 _)) fun _ _ h=>h
abbrev ry:List (Nat×bw):= [(120,ob),(121,vL),(122,qV),(123,yE),(124,tJ),(125,sI),(126,yK),(127,vR),(89,yJ),(90,pV)]
theorem ph:aw Tryz.prog (aP ry):=ae o9 <| ae CO <| ae u9 <| ae Fu <| ae zZ <| ae AN <| ae Fx <| ae CW <| ae Fw <| ae tN <| aj _
noncomputable abbrev gg:Code:=cG (cz Tryz.f46) 0
abbrev ck:eJ:=⟨[(1, .cl (.ptr 0 0)),(3, .cl (.int .i64))],[[.int .i64, .ro (.st .server), .ro (.i .i64), .ro (.st .config), .int .i64, .int .i64, .int .i64, .int .i64, .int .i64, .ro (.st .place)]],[],0,123⟩
abbrev dY:List (X×eJ):= [(.ret,⟨[(2, .cl (.bl))],[],[],0,123⟩),(.ext 0,⟨[(2, .cl (.dead))],[],[],0,123⟩)]
def cO {ρ:Type} (v7:Int) (v8:Int) (v9:List aZ) (v10:List Int) (v11:List ai) (v12:Int) (v13:Int) (v14:Int) (v15:Int) (v16:Int) (v17:List bk) (fn: ((Unit×Int×Unit)×((Int×(List aZ)×(List Int)×(List ai)×Int×Int×Int×Int×Int×(List bk)×Unit)×Unit)×(Unit))→Option ρ) (fe: ((Bool×Unit)×(Unit)×(Unit))⊕((Unit×Unit)×(Unit)×(Unit))→Option ρ):Option ρ:=
 br (decide (v7 < (v9.length:Int))) (aL (0≤v7) ((v9[v7.toNat]?).bind fun x18=>(dV x18 v7).bind fun y19=>br (!y19.1) (fe (.inl ((false,()),(()),(())))) (br (decide (x18.epoch > (v11.length:Int))) (fe (.inl ((false,()),(()),(())))) ((mR x18.learned).bind fun y20=>br (decide (y20.1 > v12)) (fe (.inl ((false,()),(()),(())))) ((iv (⟨v11,v12⟩:aD) x18.config.epoch).bind fun y21=>(mQ x18.config).bind fun y22=>br (!y22.1) (br (!y21.2.1) (fe (.inl ((false,()),(()),(())))) ((fg y21.1 x18.config).bind fun y23=>br (!y23.1) (fe (.inl ((false,()),(()),(())))) (br (decide (x18.config.epoch > v12)) (fe (.inl ((false,()),(()),(())))) (fn (((),(IntKind.wrap .i64 (v7+1)),()),((v8,v9,v10,v11,v12,v13,v14,v15,v16,v17,()),()),(())))))) (fn (((),(IntKind.wrap .i64 (v7+1)),()),((v8,v9,v10,v11,v12,v13,v14,v15,v16,v17,()),()),(()))))))) none) (fe (.inr (((),()),(()),(()))))
def bc (s:ck.D):Option (ck.D⊕bD.D dY):=cO s.1.2.1 s.2.1.1.1 s.2.1.1.2.1 s.2.1.1.2.2.1 s.2.1.1.2.2.2.1 s.2.1.1.2.2.2.2.1 s.2.1.1.2.2.2.2.2.1 s.2.1.1.2.2.2.2.2.2.1 s.2.1.1.2.2.2.2.2.2.2.1 s.2.1.1.2.2.2.2.2.2.2.2.1 s.2.1.1.2.2.2.2.2.2.2.2.2.1 (fun s=>some (.inl s)) (fun e=>some (.inr e))
def eR:ck.D→Option (bD.D dY):=j4 bc
theorem tO {ρ:Type} (s:ck.D) (fn:ck.D→Option ρ) (fe:bD.D dY→Option ρ):cO s.1.2.1 s.2.1.1.1 s.2.1.1.2.1 s.2.1.1.2.2.1 s.2.1.1.2.2.2.1 s.2.1.1.2.2.2.2.1 s.2.1.1.2.2.2.2.2.1 s.2.1.1.2.2.2.2.2.2.1 s.2.1.1.2.2.2.2.2.2.2.1 s.2.1.1.2.2.2.2.2.2.2.2.1 s.2.1.1.2.2.2.2.2.2.2.2.2.1 fn fe=(bc s).bind (Sum.elim fn fe):=by
 simp only [bc,cO,al,ap,Option.bind_none,Option.bind_assoc,Option.bind_some,Sum.elim_inl,Sum.elim_inr]
abbrev pZ:dk:=dD [] [1,3] ck dY eR
theorem sX (s:ck.D):eM Θ (aP ry) (aM []) gg (ck.mk' s) (dy [1,3] [2] fun x S=>some (x,S))=(bc s).bind (Sum.elim (fun s'=>some (.nor,ck.mk' s')) fun e=>some (bD.e dY e)):=
 Eq.trans (by kernel_rfl:_=cO s.1.2.1 s.2.1.1.1 s.2.1.1.2.1 s.2.1.1.2.2.1 s.2.1.1.2.2.2.1 s.2.1.1.2.2.2.2.1 s.2.1.1.2.2.2.2.2.1 s.2.1.1.2.2.2.2.2.2.1 s.2.1.1.2.2.2.2.2.2.2.1 s.2.1.1.2.2.2.2.2.2.2.2.1 s.2.1.1.2.2.2.2.2.2.2.2.2.1 (fun s'=>some (.nor,ck.mk' s')) (fun e=>some (bD.e dY e))) (tO s _ _)
theorem sY:cy Tryz.prog gg pZ:=bm aQ ph af (by kernel_rfl) (dX (by kernel_rfl:_= []) ah) [] [1,3] [2] ck dY (by kernel_rfl) bc sX eR (gT bc) (aX bc)
def fr {ρ:Type} (a0:ax) (k:Bool×Unit→Option ρ):Option ρ:=
 (dI a0.now 0 999).bind fun y1=>br (!y1.1) (k (false,())) (br (!((a0.servers.length:Int)==5)) (k (false,())) ((gb a0.sides).bind fun y2=>br (!y2.1) (k (false,())) ((dw a0.master).bind fun y3=>br (!y3.1) (k (false,())) ((dI a0.masterUp 0 3).bind fun y4=>br (!y4.1) (k (false,())) ((lf a0.lease).bind fun y5=>br (!y5.1) (k (false,())) ((fb a0.places).bind fun y6=>br (!y6.1) (k (false,())) (br (decide (a0.lease.epoch > a0.master.activated)) (k (false,())) ((eR (((),0,()),((a0.now,a0.servers,a0.sides,a0.master.configs,a0.master.activated,a0.masterUp,a0.lease.epoch,a0.lease.holder,a0.lease.ends,a0.places,()),()),(()))).bind fun e24=>Sum.elim (fun e24_=>k (e24_.1.1,())) (fun e24_=>k (true,())) e24))))))))
def cg (a0:ax):Option (Bool×Unit):=fr a0 some
theorem vS {ρ:Type} (a0:ax) (k:Bool×Unit→Option ρ):fr a0 k=(cg a0).bind k:=by
 simp only [cg,fr,al,cf,Option.bind_assoc,Option.bind_some]
abbrev og:bw:=bE [.ty (.st .cluster)] [.b] fun x=>cg x.1
theorem rz:aB Tryz.prog 46 og:=
 ak (Λ:=aM [(cd gg,pZ)]) (fn:=Tryz.f46) aQ ph af (by kernel_rfl) (aI (by kernel_rfl:_= [gg]) (aW (q:=cd gg) rfl sY fun _ _ _=>by kernel_rfl)) (by kernel_rfl) (fun x=>cg x.1)
  (fun x=>Eq.trans (by kernel_rfl:_=fr x.1 (fun y=>ret (aA [.b] y) fun v g=>some (v,g))) (vS x.1 _)) fun _ _ h=>h
abbrev KV:List (Nat×bw):= [(123,yE)]
theorem Er:aw Tryz.prog (aP KV):=ae Fu <| aj _
def oU {ρ:Type} (a0:fC) (k:Int×Unit→Option ρ):Option ρ:=
 (lf a0).bind fun y1=>br (!y1.1) (k (0,())) (br (a0.ends==0) (k (0,())) (k ((IntKind.wrap .i64 (a0.ends+3)),())))
def mt (a0:fC):Option (Int×Unit):=oU a0 some
theorem GU {ρ:Type} (a0:fC) (k:Int×Unit→Option ρ):oU a0 k=(mt a0).bind k:=by
 simp only [mt,oU,al,Option.bind_assoc,Option.bind_some]
abbrev CX:bw:=bE [.ty (.st .lease)] [.i .i64] fun x=>mt x.1
theorem KW:aB Tryz.prog 47 CX:=
 ak (Λ:=aM []) (fn:=Tryz.f47) aQ Er af (by kernel_rfl) (aI (by kernel_rfl:_= []) ah) (by kernel_rfl) (fun x=>mt x.1)
  (fun x=>Eq.trans (by kernel_rfl:_=oU x.1 (fun y=>ret (aA [.i .i64] y) fun v g=>some (v,g))) (GU x.1 _)) fun _ _ h=>h
abbrev z3:List (Nat×bw):= [(46,og)]
theorem tP:aw Tryz.prog (aP z3):=ae rz <| aj _
noncomputable abbrev lN:Code:=cG (cz Tryz.f129) 0
abbrev dM:eJ:=⟨[(1, .cl (.ptr 0 0)),(3, .cl (.own 0 (.i .i64))),(4, .cl (.int .i64))],[[.int .i64, .ro (.st .server), .ro (.i .i64), .ro (.st .config), .int .i64, .int .i64, .int .i64, .int .i64, .int .i64, .ro (.st .place)]],[.i .i64],0,28⟩
abbrev iw:List (X×eJ):= [(.ext 0,⟨[(3, .cl (.own 0 (.i .i64)))],[],[.i .i64],0,28⟩)]
def i4 {ρ:Type} (v1:List Int) (v2:Int) (v3:Int) (v4:List aZ) (v5:List Int) (v6:List ai) (v7:Int) (v8:Int) (v9:Int) (v10:Int) (v11:Int) (v12:List bk) (fn: ((Unit×Unit×Int×Unit)×((Int×(List aZ)×(List Int)×(List ai)×Int×Int×Int×Int×Int×(List bk)×Unit)×Unit)×((List Int)×Unit))→Option ρ) (fe: ((Unit×Unit)×(Unit)×((List Int)×Unit))→Option ρ):Option ρ:=
 br (decide (v2 < (v4.length:Int))) ((cg (⟨v3,v4,v5,(⟨v6,v7⟩:aD),v8,(⟨v9,v10,v11⟩:fC),v12⟩:ax)).bind fun y13=>br y13.1 (aL (0≤v2) ((v4[v2.toNat]?).bind fun x14=>br x14.up (aL ((v1++([v2]:List Int)).length*8≤2 ^ 40) (fn (((),(),(IntKind.wrap .i64 (v2+1)),()),((v3,v4,v5,v6,v7,v8,v9,v10,v11,v12,()),()),((v1++([v2]:List Int)),()))) none) (fn (((),(),(IntKind.wrap .i64 (v2+1)),()),((v3,v4,v5,v6,v7,v8,v9,v10,v11,v12,()),()),(v1,())))) none) (fe (((),()),(()),(v1,())))) (fe (((),()),(()),(v1,())))
def ei (s:dM.D):Option (dM.D⊕bD.D iw):=i4 s.2.2.1 s.1.2.2.1 s.2.1.1.1 s.2.1.1.2.1 s.2.1.1.2.2.1 s.2.1.1.2.2.2.1 s.2.1.1.2.2.2.2.1 s.2.1.1.2.2.2.2.2.1 s.2.1.1.2.2.2.2.2.2.1 s.2.1.1.2.2.2.2.2.2.2.1 s.2.1.1.2.2.2.2.2.2.2.2.1 s.2.1.1.2.2.2.2.2.2.2.2.2.1 (fun s=>some (.inl s)) (fun e=>some (.inr e))
def oD:dM.D→Option (bD.D iw):=j4 ei
theorem AO {ρ:Type} (s:dM.D) (fn:dM.D→Option ρ) (fe:bD.D iw→Option ρ):i4 s.2.2.1 s.1.2.2.1 s.2.1.1.1 s.2.1.1.2.1 s.2.1.1.2.2.1 s.2.1.1.2.2.2.1 s.2.1.1.2.2.2.2.1 s.2.1.1.2.2.2.2.2.1 s.2.1.1.2.2.2.2.2.2.1 s.2.1.1.2.2.2.2.2.2.2.1 s.2.1.1.2.2.2.2.2.2.2.2.1 s.2.1.1.2.2.2.2.2.2.2.2.2.1 fn fe=(ei s).bind (Sum.elim fn fe):=by
 simp only [ei,i4,al,ap,Option.bind_none,Option.bind_assoc,Option.bind_some,Sum.elim_inl,Sum.elim_inr]
abbrev vb:dk:=dD [] [1,3,4] dM iw oD
theorem yL (s:dM.D):eM Θ (aP z3) (aM []) lN (dM.mk' s) (dy [1,3,4] [3] fun x S=>some (x,S))=(ei s).bind (Sum.elim (fun s'=>some (.nor,dM.mk' s')) fun e=>some (bD.e iw e)):=
 Eq.trans (by kernel_rfl:_=i4 s.2.2.1 s.1.2.2.1 s.2.1.1.1 s.2.1.1.2.1 s.2.1.1.2.2.1 s.2.1.1.2.2.2.1 s.2.1.1.2.2.2.2.1 s.2.1.1.2.2.2.2.2.1 s.2.1.1.2.2.2.2.2.2.1 s.2.1.1.2.2.2.2.2.2.2.1 s.2.1.1.2.2.2.2.2.2.2.2.1 s.2.1.1.2.2.2.2.2.2.2.2.2.1 (fun s'=>some (.nor,dM.mk' s')) (fun e=>some (bD.e iw e))) (AO s _ _)
theorem yM:cy Tryz.prog lN vb:=bm aQ tP af (by kernel_rfl) (dX (by kernel_rfl:_= []) ah) [] [1,3,4] [3] dM iw (by kernel_rfl) ei yL oD (gT ei) (aX ei)
def nB {ρ:Type} (a0:ax) (k: (List Int)×Unit→Option ρ):Option ρ:=
 (oD (((),(),0,()),((a0.now,a0.servers,a0.sides,a0.master.configs,a0.master.activated,a0.masterUp,a0.lease.epoch,a0.lease.holder,a0.lease.ends,a0.places,()),()),(([]:List Int),()))).bind fun e15=>k (e15.2.2.1,())
def kD (a0:ax):Option ((List Int)×Unit):=nB a0 some
theorem Es {ρ:Type} (a0:ax) (k: (List Int)×Unit→Option ρ):nB a0 k=(kD a0).bind k:=by
 simp only [kD,nB,Option.bind_assoc,Option.bind_some]
abbrev z4:bw:=bE [.ty (.st .cluster)] [.ls (.i .i64)] fun x=>kD x.1
theorem Jk:aB Tryz.prog 129 z4:=
 ak (Λ:=aM [(cd lN,vb)]) (fn:=Tryz.f129) aQ tP af (by kernel_rfl) (aI (by kernel_rfl:_= [lN]) (aW (q:=cd lN) rfl yM fun _ _ _=>by kernel_rfl)) (by kernel_rfl) (fun x=>kD x.1)
  (fun x=>Eq.trans (by kernel_rfl:_=nB x.1 (fun y=>ret (aA [.ls (.i .i64)] y) fun v g=>some (v,g))) (Es x.1 _)) fun _ _ h=>h
abbrev wY:List (Nat×bw):= [(121,vL)]
theorem sJ:aw Tryz.prog (aP wY):=ae CO <| aj _
noncomputable abbrev kE:Code:=cG (cz Tryz.f130) 0
abbrev dn:eJ:=⟨[(0, .cl (.ro (.i .i64))),(3, .cl (.own 0 (.i .i64))),(4, .cl (.int .i64))],[],[.i .i64],0,26⟩
abbrev gi:List (X×eJ):= [(.ext 0,⟨[(3, .cl (.own 0 (.i .i64)))],[],[.i .i64],0,26⟩)]
def gJ {ρ:Type} (v1:List Int) (v2:List Int) (v3:Int) (fn: (((List Int)×Unit×Int×Unit)×(Unit)×((List Int)×Unit))→Option ρ) (fe: ((Unit×Unit)×(Unit)×((List Int)×Unit))→Option ρ):Option ρ:=
 br (decide (v3 < (v2.length:Int))) ((gb v2).bind fun y4=>br y4.1 (aL (0≤v3) ((v2[v3.toNat]?).bind fun x5=>br (x5==0) (aL ((v1++([v3]:List Int)).length*8≤2 ^ 40) (fn ((v2,(),(IntKind.wrap .i64 (v3+1)),()),(()),((v1++([v3]:List Int)),()))) none) (fn ((v2,(),(IntKind.wrap .i64 (v3+1)),()),(()),(v1,())))) none) (fe (((),()),(()),(v1,())))) (fe (((),()),(()),(v1,())))
def dN (s:dn.D):Option (dn.D⊕bD.D gi):=gJ s.2.2.1 s.1.1 s.1.2.2.1 (fun s=>some (.inl s)) (fun e=>some (.inr e))
def nC:dn.D→Option (bD.D gi):=j4 dN
theorem yN {ρ:Type} (s:dn.D) (fn:dn.D→Option ρ) (fe:bD.D gi→Option ρ):gJ s.2.2.1 s.1.1 s.1.2.2.1 fn fe=(dN s).bind (Sum.elim fn fe):=by
 simp only [dN,gJ,al,ap,Option.bind_none,Option.bind_assoc,Option.bind_some,Sum.elim_inl,Sum.elim_inr]
abbrev tQ:dk:=dD [] [0,3,4] dn gi nC
theorem wZ (s:dn.D):eM Θ (aP wY) (aM []) kE (dn.mk' s) (dy [0,3,4] [3] fun x S=>some (x,S))=(dN s).bind (Sum.elim (fun s'=>some (.nor,dn.mk' s')) fun e=>some (bD.e gi e)):=
 Eq.trans (by kernel_rfl:_=gJ s.2.2.1 s.1.1 s.1.2.2.1 (fun s'=>some (.nor,dn.mk' s')) (fun e=>some (bD.e gi e))) (yN s _ _)
theorem w3:cy Tryz.prog kE tQ:=bm aQ sJ af (by kernel_rfl) (dX (by kernel_rfl:_= []) ah) [] [0,3,4] [3] dn gi (by kernel_rfl) dN wZ nC (gT dN) (aX dN)
def lO {ρ:Type} (a0:List Int) (k: (List Int)×Unit→Option ρ):Option ρ:=
 (nC ((a0,(),0,()),(()),(([]:List Int),()))).bind fun e6=>k (e6.2.2.1,())
def jy (a0:List Int):Option ((List Int)×Unit):=lO a0 some
theorem CY {ρ:Type} (a0:List Int) (k: (List Int)×Unit→Option ρ):lO a0 k=(jy a0).bind k:=by
 simp only [jy,lO,Option.bind_assoc,Option.bind_some]
abbrev w4:bw:=bE [.ty (.ls (.i .i64))] [.ls (.i .i64)] fun x=>jy x.1
theorem GV:aB Tryz.prog 130 w4:=
 ak (Λ:=aM [(cd kE,tQ)]) (fn:=Tryz.f130) aQ sJ af (by kernel_rfl) (aI (by kernel_rfl:_= [kE]) (aW (q:=cd kE) rfl w3 fun _ _ _=>by kernel_rfl)) (by kernel_rfl) (fun x=>jy x.1)
  (fun x=>Eq.trans (by kernel_rfl:_=lO x.1 (fun y=>ret (aA [.ls (.i .i64)] y) fun v g=>some (v,g))) (CY x.1 _)) fun _ _ h=>h
abbrev KX:List (Nat×bw):= [(129,z4),(130,w4),(128,pa)]
theorem Et:aw Tryz.prog (aP KX):=ae Jk <| ae GV <| ae sF <| aj _
def oV {ρ:Type} (a0:ax) (k: (List Int)×Unit→Option ρ):Option ρ:=
 (kD a0).bind fun y1=>(jy a0.sides).bind fun y2=>(eF y1.1 y2.1).bind fun y3=>k (y3.1,())
def mu (a0:ax):Option ((List Int)×Unit):=oV a0 some
theorem GW {ρ:Type} (a0:ax) (k: (List Int)×Unit→Option ρ):oV a0 k=(mu a0).bind k:=by
 simp only [mu,oV,Option.bind_assoc,Option.bind_some]
abbrev CZ:bw:=bE [.ty (.st .cluster)] [.ls (.i .i64)] fun x=>mu x.1
theorem KY:aB Tryz.prog 48 CZ:=
 ak (Λ:=aM []) (fn:=Tryz.f48) aQ Et af (by kernel_rfl) (aI (by kernel_rfl:_= []) ah) (by kernel_rfl) (fun x=>mu x.1)
  (fun x=>Eq.trans (by kernel_rfl:_=oV x.1 (fun y=>ret (aA [.ls (.i .i64)] y) fun v g=>some (v,g))) (GW x.1 _)) fun _ _ h=>h
abbrev MU:List (Nat×bw):= [(124,tJ),(120,ob)]
theorem GX:aw Tryz.prog (aP MU):=ae zZ <| ae o9 <| aj _
def p6 {ρ:Type} (a0:List bk) (a1:Int) (k:Bool×Unit→Option ρ):Option ρ:=
 (fb a0).bind fun y1=>br y1.1 ((dI a1 0 4).bind fun y2=>br y2.1 (aL (0≤a1) ((a0[a1.toNat]?).bind fun x3=>aL (0≤a1) ((a0[a1.toNat]?).bind fun x4=>k ((decide (x3.load < x4.capacity)),())) none) none) (k (false,()))) (k (false,()))
def oh (a0:List bk) (a1:Int):Option (Bool×Unit):=p6 a0 a1 some
theorem Jl {ρ:Type} (a0:List bk) (a1:Int) (k:Bool×Unit→Option ρ):p6 a0 a1 k=(oh a0 a1).bind k:=by
 simp only [oh,p6,al,ap,Option.bind_none,Option.bind_assoc,Option.bind_some]
abbrev Fy:bw:=bE [.ty (.ls (.st .place)), .ty (.i .i64)] [.b] fun x=>oh x.1 x.2.1
theorem MV:aB Tryz.prog 131 Fy:=
 ak (Λ:=aM []) (fn:=Tryz.f131) aQ GX af (by kernel_rfl) (aI (by kernel_rfl:_= []) ah) (by kernel_rfl) (fun x=>oh x.1 x.2.1)
  (fun x=>Eq.trans (by kernel_rfl:_=p6 x.1 x.2.1 (fun y=>ret (aA [.b] y) fun v g=>some (v,g))) (Jl x.1 x.2.1 _)) fun _ _ h=>h
abbrev Fz:List (Nat×bw):= [(131,Fy)]
theorem w5:aw Tryz.prog (aP Fz):=ae MV <| aj _
noncomputable abbrev oW:Code:=cG (cz Tryz.f49) 0
abbrev fh:eJ:=⟨[(1, .cl (.ro (.i .i64))),(2, .cl (.ptr 0 0)),(5, .cl (.int .i64))],[[.int .i64, .ro (.st .server), .ro (.i .i64), .ro (.st .config), .int .i64, .int .i64, .int .i64, .int .i64, .int .i64, .ro (.st .place)]],[],0,19⟩
abbrev kF:List (X×eJ):= [(.ret,⟨[(4, .cl (.bl))],[],[],0,19⟩),(.ext 0,⟨[(4, .cl (.dead))],[],[],0,19⟩)]
def lg {ρ:Type} (v1:List Int) (v2:Int) (v3:Int) (v4:List aZ) (v5:List Int) (v6:List ai) (v7:Int) (v8:Int) (v9:Int) (v10:Int) (v11:Int) (v12:List bk) (fn: (((List Int)×Unit×Int×Unit)×((Int×(List aZ)×(List Int)×(List ai)×Int×Int×Int×Int×Int×(List bk)×Unit)×Unit)×(Unit))→Option ρ) (fe: ((Bool×Unit)×(Unit)×(Unit))⊕((Unit×Unit)×(Unit)×(Unit))→Option ρ):Option ρ:=
 br (decide (v2 < (v1.length:Int))) (aL (0≤v2) ((v1[v2.toNat]?).bind fun x13=>(oh v12 x13).bind fun y14=>br y14.1 (fe (.inl ((true,()),(()),(())))) (fn ((v1,(),(IntKind.wrap .i64 (v2+1)),()),((v3,v4,v5,v6,v7,v8,v9,v10,v11,v12,()),()),(())))) none) (fe (.inr (((),()),(()),(()))))
def fM (s:fh.D):Option (fh.D⊕bD.D kF):=lg s.1.1 s.1.2.2.1 s.2.1.1.1 s.2.1.1.2.1 s.2.1.1.2.2.1 s.2.1.1.2.2.2.1 s.2.1.1.2.2.2.2.1 s.2.1.1.2.2.2.2.2.1 s.2.1.1.2.2.2.2.2.2.1 s.2.1.1.2.2.2.2.2.2.2.1 s.2.1.1.2.2.2.2.2.2.2.2.1 s.2.1.1.2.2.2.2.2.2.2.2.2.1 (fun s=>some (.inl s)) (fun e=>some (.inr e))
def oX:fh.D→Option (bD.D kF):=j4 fM
theorem Eu {ρ:Type} (s:fh.D) (fn:fh.D→Option ρ) (fe:bD.D kF→Option ρ):lg s.1.1 s.1.2.2.1 s.2.1.1.1 s.2.1.1.2.1 s.2.1.1.2.2.1 s.2.1.1.2.2.2.1 s.2.1.1.2.2.2.2.1 s.2.1.1.2.2.2.2.2.1 s.2.1.1.2.2.2.2.2.2.1 s.2.1.1.2.2.2.2.2.2.2.1 s.2.1.1.2.2.2.2.2.2.2.2.1 s.2.1.1.2.2.2.2.2.2.2.2.2.1 fn fe=(fM s).bind (Sum.elim fn fe):=by
 simp only [fM,lg,al,ap,Option.bind_none,Option.bind_assoc,Option.bind_some,Sum.elim_inl,Sum.elim_inr]
abbrev z5:dk:=dD [] [1,2,5] fh kF oX
theorem C0 (s:fh.D):eM Θ (aP Fz) (aM []) oW (fh.mk' s) (dy [1,2,5] [4] fun x S=>some (x,S))=(fM s).bind (Sum.elim (fun s'=>some (.nor,fh.mk' s')) fun e=>some (bD.e kF e)):=
 Eq.trans (by kernel_rfl:_=lg s.1.1 s.1.2.2.1 s.2.1.1.1 s.2.1.1.2.1 s.2.1.1.2.2.1 s.2.1.1.2.2.2.1 s.2.1.1.2.2.2.2.1 s.2.1.1.2.2.2.2.2.1 s.2.1.1.2.2.2.2.2.2.1 s.2.1.1.2.2.2.2.2.2.2.1 s.2.1.1.2.2.2.2.2.2.2.2.1 s.2.1.1.2.2.2.2.2.2.2.2.2.1 (fun s'=>some (.nor,fh.mk' s')) (fun e=>some (bD.e kF e))) (Eu s _ _)
theorem C1:cy Tryz.prog oW z5:=bm aQ w5 af (by kernel_rfl) (dX (by kernel_rfl:_= []) ah) [] [1,2,5] [4] fh kF (by kernel_rfl) fM C0 oX (gT fM) (aX fM)
def p7 {ρ:Type} (a0:ax) (a1:List Int) (k:Bool×Unit→Option ρ):Option ρ:=
 (oX ((a1,(),0,()),((a0.now,a0.servers,a0.sides,a0.master.configs,a0.master.activated,a0.masterUp,a0.lease.epoch,a0.lease.holder,a0.lease.ends,a0.places,()),()),(()))).bind fun e15=>Sum.elim (fun e15_=>k (e15_.1.1,())) (fun e15_=>k (false,())) e15
def ol (a0:ax) (a1:List Int):Option (Bool×Unit):=p7 a0 a1 some
theorem Jm {ρ:Type} (a0:ax) (a1:List Int) (k:Bool×Unit→Option ρ):p7 a0 a1 k=(ol a0 a1).bind k:=by
 simp only [ol,p7,cf,Option.bind_assoc,Option.bind_some]
abbrev FA:bw:=bE [.ty (.st .cluster), .ty (.ls (.i .i64))] [.b] fun x=>ol x.1 x.2.1
theorem MW:aB Tryz.prog 49 FA:=
 ak (Λ:=aM [(cd oW,z5)]) (fn:=Tryz.f49) aQ w5 af (by kernel_rfl) (aI (by kernel_rfl:_= [oW]) (aW (q:=cd oW) rfl C1 fun _ _ _=>by kernel_rfl)) (by kernel_rfl) (fun x=>ol x.1 x.2.1)
  (fun x=>Eq.trans (by kernel_rfl:_=p7 x.1 x.2.1 (fun y=>ret (aA [.b] y) fun v g=>some (v,g))) (Jm x.1 x.2.1 _)) fun _ _ h=>h
abbrev AP:List (Nat×bw):= [(127,vR)]
theorem vT:aw Tryz.prog (aP AP):=ae CW <| aj _
def i5 {ρ:Type} (a0:aD) (k:ai×Bool×Unit→Option ρ):Option ρ:=
 (iv a0 a0.activated).bind fun y1=>k (y1.1,y1.2.1,())
def fw (a0:aD):Option (ai×Bool×Unit):=i5 a0 some
theorem w6 {ρ:Type} (a0:aD) (k:ai×Bool×Unit→Option ρ):i5 a0 k=(fw a0).bind k:=by
 simp only [fw,i5,Option.bind_assoc,Option.bind_some]
abbrev sK:bw:=bE [.ty (.st .masterLog)] [.st .config, .b] fun x=>fw x.1
theorem AQ:aB Tryz.prog 50 sK:=
 ak (Λ:=aM []) (fn:=Tryz.f50) aQ vT af (by kernel_rfl) (aI (by kernel_rfl:_= []) ah) (by kernel_rfl) (fun x=>fw x.1)
  (fun x=>Eq.trans (by kernel_rfl:_=i5 x.1 (fun y=>ret (aA [.st .config, .b] y) fun v g=>some (v,g))) (w6 x.1 _)) fun _ _ h=>h
abbrev z6:List (Nat×bw):= [(46,og),(47,CX),(48,CZ),(49,FA),(50,sK),(51,oT)]
theorem tR:aw Tryz.prog (aP z6):=ae rz <| ae KW <| ae KY <| ae MW <| ae AQ <| ae qy <| aj _
noncomputable abbrev lP:Code:=cG (cz Tryz.f13) 0
abbrev dP:eJ:=⟨[(1, .cl (.ptr 0 0)),(3, .cl (.own 0 (.i .i64))),(4, .cl (.ptr 1 0)),(6, .cl (.int .i64))],[[.int .i64, .ro (.st .server), .ro (.i .i64), .ro (.st .config), .int .i64, .int .i64, .int .i64, .int .i64, .int .i64, .ro (.st .place)],[.int .i64, .int .i64, .own 1 (.i .i64), .own 2 (.i .i64)]],[.i .i64, .i .i64, .i .i64],0,81⟩
abbrev iy:List (X×eJ):= [(.ret,⟨[(2, .cl (.bl))],[],[],0,81⟩),(.ext 0,⟨[(2, .cl (.dead))],[],[],0,81⟩)]
def i6 {ρ:Type} (v6:List Int) (v7:List Int) (v8:List Int) (v9:Int) (v10:Int) (v11:List aZ) (v12:List Int) (v13:List ai) (v14:Int) (v15:Int) (v16:Int) (v17:Int) (v18:Int) (v19:List bk) (v20:Int) (v21:Int) (fn: ((Unit×Unit×Unit×Int×Unit)×((Int×(List aZ)×(List Int)×(List ai)×Int×Int×Int×Int×Int×(List bk)×Unit)×(Int×Int×Unit×Unit×Unit)×Unit)×((List Int)×(List Int)×(List Int)×Unit))→Option ρ) (fe: ((Bool×Unit)×(Unit)×(Unit))⊕((Unit×Unit)×(Unit)×(Unit))→Option ρ):Option ρ:=
 br (decide (v9 < (v7.length:Int))) (aL (0≤v9∧v9 < (v7.length:Int)) ((v7[v9.toNat]?).bind fun x22=>aL (0≤x22) ((v11[x22.toNat]?).bind fun x23=>aL (0≤v9∧v9 < (v7.length:Int)) ((v7[v9.toNat]?).bind fun x24=>(fa v6 x24).bind fun y25=>br y25.1 (br (x23.config.epoch==v20) (fe (.inl ((true,()),(()),(())))) (fn (((),(),(),(IntKind.wrap .i64 (v9+1)),()),((v10,v11,v12,v13,v14,v15,v16,v17,v18,v19,()),(v20,v21,(),(),()),()),(v6,v7,v8,())))) (fn (((),(),(),(IntKind.wrap .i64 (v9+1)),()),((v10,v11,v12,v13,v14,v15,v16,v17,v18,v19,()),(v20,v21,(),(),()),()),(v6,v7,v8,())))) none) none) none) (fe (.inr (((),()),(()),(()))))
def ej (s:dP.D):Option (dP.D⊕bD.D iy):=i6 s.2.2.1 s.2.2.2.1 s.2.2.2.2.1 s.1.2.2.2.1 s.2.1.1.1 s.2.1.1.2.1 s.2.1.1.2.2.1 s.2.1.1.2.2.2.1 s.2.1.1.2.2.2.2.1 s.2.1.1.2.2.2.2.2.1 s.2.1.1.2.2.2.2.2.2.1 s.2.1.1.2.2.2.2.2.2.2.1 s.2.1.1.2.2.2.2.2.2.2.2.1 s.2.1.1.2.2.2.2.2.2.2.2.2.1 s.2.1.2.1.1 s.2.1.2.1.2.1 (fun s=>some (.inl s)) (fun e=>some (.inr e))
def lQ:dP.D→Option (bD.D iy):=j4 ej
theorem AR {ρ:Type} (s:dP.D) (fn:dP.D→Option ρ) (fe:bD.D iy→Option ρ):i6 s.2.2.1 s.2.2.2.1 s.2.2.2.2.1 s.1.2.2.2.1 s.2.1.1.1 s.2.1.1.2.1 s.2.1.1.2.2.1 s.2.1.1.2.2.2.1 s.2.1.1.2.2.2.2.1 s.2.1.1.2.2.2.2.2.1 s.2.1.1.2.2.2.2.2.2.1 s.2.1.1.2.2.2.2.2.2.2.1 s.2.1.1.2.2.2.2.2.2.2.2.1 s.2.1.1.2.2.2.2.2.2.2.2.2.1 s.2.1.2.1.1 s.2.1.2.1.2.1 fn fe=(ej s).bind (Sum.elim fn fe):=by
 simp only [ej,i6,al,ap,Option.bind_none,Option.bind_assoc,Option.bind_some,Sum.elim_inl,Sum.elim_inr]
abbrev vd:dk:=dD [] [1,3,4,6] dP iy lQ
theorem yO (s:dP.D):eM Θ (aP z6) (aM []) lP (dP.mk' s) (dy [1,3,4,6] [2] fun x S=>some (x,S))=(ej s).bind (Sum.elim (fun s'=>some (.nor,dP.mk' s')) fun e=>some (bD.e iy e)):=
 Eq.trans (by kernel_rfl:_=i6 s.2.2.1 s.2.2.2.1 s.2.2.2.2.1 s.1.2.2.2.1 s.2.1.1.1 s.2.1.1.2.1 s.2.1.1.2.2.1 s.2.1.1.2.2.2.1 s.2.1.1.2.2.2.2.1 s.2.1.1.2.2.2.2.2.1 s.2.1.1.2.2.2.2.2.2.1 s.2.1.1.2.2.2.2.2.2.2.1 s.2.1.1.2.2.2.2.2.2.2.2.1 s.2.1.1.2.2.2.2.2.2.2.2.2.1 s.2.1.2.1.1 s.2.1.2.1.2.1 (fun s'=>some (.nor,dP.mk' s')) (fun e=>some (bD.e iy e))) (AR s _ _)
theorem yP:cy Tryz.prog lP vd:=bm aQ tR af (by kernel_rfl) (dX (by kernel_rfl:_= []) ah) [] [1,3,4,6] [2] dP iy (by kernel_rfl) ej yO lQ (gT ej) (aX ej)
def nD {ρ:Type} (a0:ax) (k:Bool×Unit→Option ρ):Option ρ:=
 (cg a0).bind fun y1=>br (!y1.1) (k (false,())) (br (decide ((IntKind.wrap .i64 (a0.masterUp*2))≤3)) (k (false,())) (br (decide ((a0.master.configs.length:Int) > 18)) (k (false,())) ((mt a0.lease).bind fun y2=>br (decide (y2.1 > 999)) (k (false,())) ((mu a0).bind fun y3=>br (a0.master.activated==0) (br (decide ((y3.1.length:Int) > 0)) ((ol a0 y3.1).bind fun y4=>k (y4.1,())) (k (false,()))) ((fw a0.master).bind fun y5=>(lQ (((),(),(),0,()),((a0.now,a0.servers,a0.sides,a0.master.configs,a0.master.activated,a0.masterUp,a0.lease.epoch,a0.lease.holder,a0.lease.ends,a0.places,()),(y5.1.epoch,y5.1.primary,(),(),()),()),(y3.1,y5.1.replicas,y5.1.witnesses,()))).bind fun e26=>Sum.elim (fun e26_=>k (e26_.1.1,())) (fun e26_=>k (false,())) e26)))))
def kG (a0:ax):Option (Bool×Unit):=nD a0 some
theorem Ev {ρ:Type} (a0:ax) (k:Bool×Unit→Option ρ):nD a0 k=(kG a0).bind k:=by
 simp only [kG,nD,al,cf,Option.bind_assoc,Option.bind_some]
abbrev z7:bw:=bE [.ty (.st .cluster)] [.b] fun x=>kG x.1
theorem Jn:aB Tryz.prog 13 z7:=
 ak (Λ:=aM [(cd lP,vd)]) (fn:=Tryz.f13) aQ tR af (by kernel_rfl) (aI (by kernel_rfl:_= [lP]) (aW (q:=cd lP) rfl yP fun _ _ _=>by kernel_rfl)) (by kernel_rfl) (fun x=>kG x.1)
  (fun x=>Eq.trans (by kernel_rfl:_=nD x.1 (fun y=>ret (aA [.b] y) fun v g=>some (v,g))) (Ev x.1 _)) fun _ _ h=>h
abbrev OV:List (Nat×bw):= []
theorem Jo:aw Tryz.prog (aP OV):=aj _
def rA {ρ:Type} (a0:Int) (a1:Int) (a2:Int) (k:Bool×Unit→Option ρ):Option ρ:=
 br (decide (a1≤a0)) (k ((decide (a0≤a2)),())) (k (false,()))
def ce (a0:Int) (a1:Int) (a2:Int):Option (Bool×Unit):=rA a0 a1 a2 some
theorem KZ {ρ:Type} (a0:Int) (a1:Int) (a2:Int) (k:Bool×Unit→Option ρ):rA a0 a1 a2 k=(ce a0 a1 a2).bind k:=by
 simp only [ce,rA,al,Option.bind_some]
abbrev gY:bw:=bE [.ty (.i .i64), .ty (.i .i64), .ty (.i .i64)] [.b] fun x=>ce x.1 x.2.1 x.2.2.1
theorem i7:aB Tryz.prog 135 gY:=
 ak (Λ:=aM []) (fn:=Tryz.f135) aQ Jo af (by kernel_rfl) (aI (by kernel_rfl:_= []) ah) (by kernel_rfl) (fun x=>ce x.1 x.2.1 x.2.2.1)
  (fun x=>Eq.trans (by kernel_rfl:_=rA x.1 x.2.1 x.2.2.1 (fun y=>ret (aA [.b] y) fun v g=>some (v,g))) (KZ x.1 x.2.1 x.2.2.1 _)) fun _ _ h=>h
abbrev Ew:List (Nat×bw):= [(135,gY)]
theorem yQ:aw Tryz.prog (aP Ew):=ae i7 <| aj _
def kH {ρ:Type} (a0:Int) (k:Bool×Unit→Option ρ):Option ρ:=
 (ce a0 0 3).bind fun y1=>k ((!y1.1),())
def jW (a0:Int):Option (Bool×Unit):=kH a0 some
theorem AU {ρ:Type} (a0:Int) (k:Bool×Unit→Option ρ):kH a0 k=(jW a0).bind k:=by
 simp only [jW,kH,Option.bind_assoc,Option.bind_some]
abbrev ve:bw:=bE [.ty (.i .i64)] [.b] fun x=>jW x.1
theorem Ey:aB Tryz.prog 210 ve:=
 ak (Λ:=aM []) (fn:=Tryz.f210) aQ yQ af (by kernel_rfl) (aI (by kernel_rfl:_= []) ah) (by kernel_rfl) (fun x=>jW x.1)
  (fun x=>Eq.trans (by kernel_rfl:_=kH x.1 (fun y=>ret (aA [.b] y) fun v g=>some (v,g))) (AU x.1 _)) fun _ _ h=>h
abbrev jn:List (Nat×bw):= [(210,ve)]
theorem gZ:aw Tryz.prog (aP jn):=ae Ey <| aj _
noncomputable abbrev cK:Code:=cG (cz Tryz.f143) 0
abbrev aK:eJ:=⟨[(0, .cl (.ro (.i .i64))),(1, .cl (.fc 210)),(7, .cl (.int .i64)),(8, .cl (.int .i64))],[],[],0,19⟩
abbrev bG:List (X×eJ):= [(.ret,⟨[(4, .cl (.int .i64))],[],[],0,19⟩),(.ext 0,⟨[(4, .cl (.dead))],[],[],0,19⟩)]
def bX {ρ:Type} (v1:List Int) (v2:Int) (v3:Int) (fn: (((List Int)×Unit×Int×Int×Unit)×(Unit)×(Unit))→Option ρ) (fe: ((Int×Unit)×(Unit)×(Unit))⊕((Unit×Unit)×(Unit)×(Unit))→Option ρ):Option ρ:=
 br (decide (v3 < v2)) (aL (0≤v3) ((v1[v3.toNat]?).bind fun x4=>(jW x4).bind fun y5=>br y5.1 (fe (.inl ((v3,()),(()),(())))) (fn ((v1,(),v2,(IntKind.wrap .i64 (v3+1)),()),(()),(())))) none) (fe (.inr (((),()),(()),(()))))
def aU (s:aK.D):Option (aK.D⊕bD.D bG):=bX s.1.1 s.1.2.2.1 s.1.2.2.2.1 (fun s=>some (.inl s)) (fun e=>some (.inr e))
def cL:aK.D→Option (bD.D bG):=j4 aU
theorem mY {ρ:Type} (s:aK.D) (fn:aK.D→Option ρ) (fe:bD.D bG→Option ρ):bX s.1.1 s.1.2.2.1 s.1.2.2.2.1 fn fe=(aU s).bind (Sum.elim fn fe):=by
 simp only [aU,bX,al,ap,Option.bind_none,Option.bind_assoc,Option.bind_some,Sum.elim_inl,Sum.elim_inr]
abbrev iH:dk:=dD [] [0,1,7,8] aK bG cL
theorem mw (s:aK.D):eM Θ (aP jn) (aM []) cK (aK.mk' s) (dy [0,1,7,8] [4] fun x S=>some (x,S))=(aU s).bind (Sum.elim (fun s'=>some (.nor,aK.mk' s')) fun e=>some (bD.e bG e)):=
 Eq.trans (by kernel_rfl:_=bX s.1.1 s.1.2.2.1 s.1.2.2.2.1 (fun s'=>some (.nor,aK.mk' s')) (fun e=>some (bD.e bG e))) (mY s _ _)
theorem my:cy Tryz.prog cK iH:=bm aQ gZ af (by kernel_rfl) (dX (by kernel_rfl:_= []) ah) [] [0,1,7,8] [4] aK bG (by kernel_rfl) aU mw cL (gT aU) (aX aU)
def cQ {ρ:Type} (a0:List Int) (k:Int×Unit→Option ρ):Option ρ:=
 (cL ((a0,(),(a0.length:Int),0,()),(()),(()))).bind fun e6=>Sum.elim (fun e6_=>k (e6_.1.1,())) (fun e6_=>k ((-1),())) e6
def ct (a0:List Int):Option (Int×Unit):=cQ a0 some
theorem nY {ρ:Type} (a0:List Int) (k:Int×Unit→Option ρ):cQ a0 k=(ct a0).bind k:=by
 simp only [ct,cQ,cf,Option.bind_assoc,Option.bind_some]
abbrev jo:bw:=bE [.ty (.ls (.i .i64)), .fc 210] [.i .i64] fun x=>ct x.1
theorem oY:aB Tryz.prog 143 jo:=
 ak (Λ:=aM [(cd cK,iH)]) (fn:=Tryz.f143) aQ gZ af (by kernel_rfl) (aI (by kernel_rfl:_= [cK]) (aW (q:=cd cK) rfl my fun _ _ _=>by kernel_rfl)) (by kernel_rfl) (fun x=>ct x.1)
  (fun x=>Eq.trans (by kernel_rfl:_=cQ x.1 (fun y=>ret (aA [.i .i64] y) fun v g=>some (v,g))) (nY x.1 _)) fun _ _ h=>h
abbrev nE:List (Nat×bw):= [(143,jo)]
theorem lR:aw Tryz.prog (aP nE):=ae oY <| aj _
def cv {ρ:Type} (a0:List Int) (k:Bool×Unit→Option ρ):Option ρ:=
 (ct a0).bind fun y1=>k ((decide (y1.1≥0)),())
def bZ (a0:List Int):Option (Bool×Unit):=cv a0 some
theorem mz {ρ:Type} (a0:List Int) (k:Bool×Unit→Option ρ):cv a0 k=(bZ a0).bind k:=by
 simp only [bZ,cv,Option.bind_assoc,Option.bind_some]
abbrev hM:bw:=bE [.ty (.ls (.i .i64)), .fc 210] [.b] fun x=>bZ x.1
theorem nF:aB Tryz.prog 61 hM:=
 ak (Λ:=aM []) (fn:=Tryz.f61) aQ lR af (by kernel_rfl) (aI (by kernel_rfl:_= []) ah) (by kernel_rfl) (fun x=>bZ x.1)
  (fun x=>Eq.trans (by kernel_rfl:_=cv x.1 (fun y=>ret (aA [.b] y) fun v g=>some (v,g))) (mz x.1 _)) fun _ _ h=>h
abbrev K0:List (Nat×bw):= [(61,hM)]
theorem Ez:aw Tryz.prog (aP K0):=ae nF <| aj _
def mT {ρ:Type} (a0:List Int) (k:Bool×Unit→Option ρ):Option ρ:=
 br ((a0.length:Int)==5) ((bZ a0).bind fun y1=>k ((!y1.1),())) (k (false,()))
def kI (a0:List Int):Option (Bool×Unit):=mT a0 some
theorem GY {ρ:Type} (a0:List Int) (k:Bool×Unit→Option ρ):mT a0 k=(kI a0).bind k:=by
 simp only [kI,mT,al,Option.bind_assoc,Option.bind_some]
abbrev C2:bw:=bE [.ty (.ls (.i .i64))] [.b] fun x=>kI x.1
theorem K1:aB Tryz.prog 136 C2:=
 ak (Λ:=aM []) (fn:=Tryz.f136) aQ Ez af (by kernel_rfl) (aI (by kernel_rfl:_= []) ah) (by kernel_rfl) (fun x=>kI x.1)
  (fun x=>Eq.trans (by kernel_rfl:_=mT x.1 (fun y=>ret (aA [.b] y) fun v g=>some (v,g))) (GY x.1 _)) fun _ _ h=>h
abbrev w7:List (Nat×bw):= [(135,gY)]
theorem sL:aw Tryz.prog (aP w7):=ae i7 <| aj _
noncomputable abbrev kJ:Code:=cG (cz Tryz.f227) 0
abbrev dp:eJ:=⟨[(0, .cl (.ro (.i .i64))),(5, .cl (.ro (.i .i64))),(6, .cl (.int .i64)),(7, .cl (.int .i64))],[],[],0,29⟩
abbrev gk:List (X×eJ):= [(.ret,⟨[(2, .cl (.bl))],[],[],0,29⟩),(.ext 0,⟨[(2, .cl (.dead))],[],[],0,29⟩)]
def gK {ρ:Type} (v1:List Int) (v2:List Int) (v3:Int) (v4:Int) (fn: (((List Int)×(List Int)×Int×Int×Unit)×(Unit)×(Unit))→Option ρ) (fe: ((Bool×Unit)×(Unit)×(Unit))⊕((Unit×Unit)×(Unit)×(Unit))→Option ρ):Option ρ:=
 br (decide (v4 < v3)) (aL (0≤v4) ((v2[v4.toNat]?).bind fun x5=>(ce x5 0 4).bind fun y6=>br (!y6.1) (fe (.inl ((false,()),(()),(())))) (br (decide (v4 > 0)) (aL (0≤(IntKind.wrap .i64 (v4 - 1))) ((v1[(IntKind.wrap .i64 (v4 - 1)).toNat]?).bind fun x7=>br (decide (x5≤x7)) (fe (.inl ((false,()),(()),(())))) (fn ((v1,v2,v3,(IntKind.wrap .i64 (v4+1)),()),(()),(())))) none) (fn ((v1,v2,v3,(IntKind.wrap .i64 (v4+1)),()),(()),(()))))) none) (fe (.inr (((),()),(()),(()))))
def dQ (s:dp.D):Option (dp.D⊕bD.D gk):=gK s.1.1 s.1.2.1 s.1.2.2.1 s.1.2.2.2.1 (fun s=>some (.inl s)) (fun e=>some (.inr e))
def kK:dp.D→Option (bD.D gk):=j4 dQ
theorem yR {ρ:Type} (s:dp.D) (fn:dp.D→Option ρ) (fe:bD.D gk→Option ρ):gK s.1.1 s.1.2.1 s.1.2.2.1 s.1.2.2.2.1 fn fe=(dQ s).bind (Sum.elim fn fe):=by
 simp only [dQ,gK,al,ap,Option.bind_none,Option.bind_assoc,Option.bind_some,Sum.elim_inl,Sum.elim_inr]
abbrev tS:dk:=dD [] [0,5,6,7] dp gk kK
theorem w8 (s:dp.D):eM Θ (aP w7) (aM []) kJ (dp.mk' s) (dy [0,5,6,7] [2] fun x S=>some (x,S))=(dQ s).bind (Sum.elim (fun s'=>some (.nor,dp.mk' s')) fun e=>some (bD.e gk e)):=
 Eq.trans (by kernel_rfl:_=gK s.1.1 s.1.2.1 s.1.2.2.1 s.1.2.2.2.1 (fun s'=>some (.nor,dp.mk' s')) (fun e=>some (bD.e gk e))) (yR s _ _)
theorem w9:cy Tryz.prog kJ tS:=bm aQ sL af (by kernel_rfl) (dX (by kernel_rfl:_= []) ah) [] [0,5,6,7] [2] dp gk (by kernel_rfl) dQ w8 kK (gT dQ) (aX dQ)
def lS {ρ:Type} (a0:List Int) (k:Bool×Unit→Option ρ):Option ρ:=
 (kK ((a0,a0,(a0.length:Int),0,()),(()),(()))).bind fun e8=>Sum.elim (fun e8_=>k (e8_.1.1,())) (fun e8_=>k (true,())) e8
def fG (a0:List Int):Option (Bool×Unit):=lS a0 some
theorem C3 {ρ:Type} (a0:List Int) (k:Bool×Unit→Option ρ):lS a0 k=(fG a0).bind k:=by
 simp only [fG,lS,cf,Option.bind_assoc,Option.bind_some]
abbrev xb:bw:=bE [.ty (.ls (.i .i64))] [.b] fun x=>fG x.1
theorem GZ:aB Tryz.prog 227 xb:=
 ak (Λ:=aM [(cd kJ,tS)]) (fn:=Tryz.f227) aQ sL af (by kernel_rfl) (aI (by kernel_rfl:_= [kJ]) (aW (q:=cd kJ) rfl w9 fun _ _ _=>by kernel_rfl)) (by kernel_rfl) (fun x=>fG x.1)
  (fun x=>Eq.trans (by kernel_rfl:_=lS x.1 (fun y=>ret (aA [.b] y) fun v g=>some (v,g))) (C3 x.1 _)) fun _ _ h=>h
abbrev xd:List (Nat×bw):= []
theorem sM:aw Tryz.prog (aP xd):=aj _
noncomputable abbrev kL:Code:=cG (cz Tryz.f214) 0
abbrev dq:eJ:=⟨[(0, .cl (.ro (.i .i64))),(1, .cl (.int .i64)),(7, .cl (.int .i64)),(8, .cl (.int .i64))],[],[],0,19⟩
abbrev gl:List (X×eJ):= [(.ret,⟨[(4, .cl (.int .i64))],[],[],0,19⟩),(.ext 0,⟨[(4, .cl (.dead))],[],[],0,19⟩)]
def gM {ρ:Type} (v1:List Int) (v2:Int) (v3:Int) (v4:Int) (fn: (((List Int)×Int×Int×Int×Unit)×(Unit)×(Unit))→Option ρ) (fe: ((Int×Unit)×(Unit)×(Unit))⊕((Unit×Unit)×(Unit)×(Unit))→Option ρ):Option ρ:=
 br (decide (v4 < v3)) (aL (0≤v4) ((v1[v4.toNat]?).bind fun x5=>br (v2==x5) (fe (.inl ((v4,()),(()),(())))) (fn ((v1,v2,v3,(IntKind.wrap .i64 (v4+1)),()),(()),(())))) none) (fe (.inr (((),()),(()),(()))))
def dR (s:dq.D):Option (dq.D⊕bD.D gl):=gM s.1.1 s.1.2.1 s.1.2.2.1 s.1.2.2.2.1 (fun s=>some (.inl s)) (fun e=>some (.inr e))
def kM:dq.D→Option (bD.D gl):=j4 dR
theorem yS {ρ:Type} (s:dq.D) (fn:dq.D→Option ρ) (fe:bD.D gl→Option ρ):gM s.1.1 s.1.2.1 s.1.2.2.1 s.1.2.2.2.1 fn fe=(dR s).bind (Sum.elim fn fe):=by
 simp only [dR,gM,al,ap,Option.bind_none,Option.bind_assoc,Option.bind_some,Sum.elim_inl,Sum.elim_inr]
abbrev tT:dk:=dD [] [0,1,7,8] dq gl kM
theorem xe (s:dq.D):eM Θ (aP xd) (aM []) kL (dq.mk' s) (dy [0,1,7,8] [4] fun x S=>some (x,S))=(dR s).bind (Sum.elim (fun s'=>some (.nor,dq.mk' s')) fun e=>some (bD.e gl e)):=
 Eq.trans (by kernel_rfl:_=gM s.1.1 s.1.2.1 s.1.2.2.1 s.1.2.2.2.1 (fun s'=>some (.nor,dq.mk' s')) (fun e=>some (bD.e gl e))) (yS s _ _)
theorem xf:cy Tryz.prog kL tT:=bm aQ sM af (by kernel_rfl) (dX (by kernel_rfl:_= []) ah) [] [0,1,7,8] [4] dq gl (by kernel_rfl) dR xe kM (gT dR) (aX dR)
def lT {ρ:Type} (a0:List Int) (a1:Int) (k:Int×Unit→Option ρ):Option ρ:=
 (kM ((a0,a1,(a0.length:Int),0,()),(()),(()))).bind fun e6=>Sum.elim (fun e6_=>k (e6_.1.1,())) (fun e6_=>k ((-1),())) e6
def lh (a0:List Int) (a1:Int):Option (Int×Unit):=lT a0 a1 some
theorem C4 {ρ:Type} (a0:List Int) (a1:Int) (k:Int×Unit→Option ρ):lT a0 a1 k=(lh a0 a1).bind k:=by
 simp only [lh,lT,cf,Option.bind_assoc,Option.bind_some]
abbrev xg:bw:=bE [.ty (.ls (.i .i64)), .ty (.i .i64)] [.i .i64] fun x=>lh x.1 x.2.1
theorem G0:aB Tryz.prog 214 xg:=
 ak (Λ:=aM [(cd kL,tT)]) (fn:=Tryz.f214) aQ sM af (by kernel_rfl) (aI (by kernel_rfl:_= [kL]) (aW (q:=cd kL) rfl xf fun _ _ _=>by kernel_rfl)) (by kernel_rfl) (fun x=>lh x.1 x.2.1)
  (fun x=>Eq.trans (by kernel_rfl:_=lT x.1 x.2.1 (fun y=>ret (aA [.i .i64] y) fun v g=>some (v,g))) (C4 x.1 x.2.1 _)) fun _ _ h=>h
abbrev AW:List (Nat×bw):= [(214,xg)]
theorem vU:aw Tryz.prog (aP AW):=ae G0 <| aj _
def i8 {ρ:Type} (a0:List Int) (a1:Int) (k:Bool×Unit→Option ρ):Option ρ:=
 (lh a0 a1).bind fun y1=>k ((decide (y1.1≥0)),())
def gO (a0:List Int) (a1:Int):Option (Bool×Unit):=i8 a0 a1 some
theorem xh {ρ:Type} (a0:List Int) (a1:Int) (k:Bool×Unit→Option ρ):i8 a0 a1 k=(gO a0 a1).bind k:=by
 simp only [gO,i8,Option.bind_assoc,Option.bind_some]
abbrev sN:bw:=bE [.ty (.ls (.i .i64)), .ty (.i .i64)] [.b] fun x=>gO x.1 x.2.1
theorem AX:aB Tryz.prog 144 sN:=
 ak (Λ:=aM []) (fn:=Tryz.f144) aQ vU af (by kernel_rfl) (aI (by kernel_rfl:_= []) ah) (by kernel_rfl) (fun x=>gO x.1 x.2.1)
  (fun x=>Eq.trans (by kernel_rfl:_=i8 x.1 x.2.1 (fun y=>ret (aA [.b] y) fun v g=>some (v,g))) (xh x.1 x.2.1 _)) fun _ _ h=>h
abbrev Jp:List (Nat×bw):= [(144,sN)]
theorem C5:aw Tryz.prog (aP Jp):=ae AX <| aj _
def nG {ρ:Type} (a0:List Int) (a1:Int) (k:Bool×Unit→Option ρ):Option ρ:=
 (gO a0 a1).bind fun y1=>k (y1.1,())
def fi (a0:List Int) (a1:Int):Option (Bool×Unit):=nG a0 a1 some
theorem EA {ρ:Type} (a0:List Int) (a1:Int) (k:Bool×Unit→Option ρ):nG a0 a1 k=(fi a0 a1).bind k:=by
 simp only [fi,nG,Option.bind_assoc,Option.bind_some]
abbrev oZ:bw:=bE [.ty (.ls (.i .i64)), .ty (.i .i64)] [.b] fun x=>fi x.1 x.2.1
theorem qB:aB Tryz.prog 66 oZ:=
 ak (Λ:=aM []) (fn:=Tryz.f66) aQ C5 af (by kernel_rfl) (aI (by kernel_rfl:_= []) ah) (by kernel_rfl) (fun x=>fi x.1 x.2.1)
  (fun x=>Eq.trans (by kernel_rfl:_=nG x.1 x.2.1 (fun y=>ret (aA [.b] y) fun v g=>some (v,g))) (EA x.1 x.2.1 _)) fun _ _ h=>h
abbrev G1:List (Nat×bw):= []
theorem AY:aw Tryz.prog (aP G1):=aj _
def vf {ρ:Type} (a0:List Int) (k: (List Int)×Unit→Option ρ):Option ρ:=
 aL (a0.length*8≤2 ^ 40) (k (a0,())) none
def pA (a0:List Int):Option ((List Int)×Unit):=vf a0 some
abbrev xi:bw:=bE [.ty (.ls (.i .i64))] [.ls (.i .i64)] fun x=>pA x.1
abbrev pB (y: (List Int)×Unit):Option (V×List bU):=ret (aA [.ls (.i .i64)] y) fun v g=>some (v,g)
theorem G2:aB Tryz.prog 164 xi:=
 ak (Λ:=aM []) (fn:=Tryz.f164) aQ AY af (by kernel_rfl) (aI (by kernel_rfl:_= []) ah) (by kernel_rfl) (fun x=>pA x.1)
  (fun x=>Eq.trans (by kernel_rfl:_=QU x.1 (Px (pB ([],())) (aL ((([]:List Int)++x.1).length*8≤2 ^ 40) (pB (([]:List Int)++x.1,())) none) none) (aL ((([]:List Int)++x.1).length*8≤2 ^ 40) (pB (([]:List Int)++x.1,())) none)) (Qc x.1 8 pB)) fun _ _ h=>h
abbrev K2:List (Nat×bw):= []
theorem EB:aw Tryz.prog (aP K2):=aj _
def qC {ρ:Type} (a0:Int) (k:Int×Unit→Option ρ):Option ρ:=
 br (decide (a0≥4294967296)) (none) (br (decide (a0≥65536)) (none) (br (decide (a0≥256)) (none) (aL (0≤(IntKind.wrap .u8 a0)) ((SO[(IntKind.wrap .u8 a0).toNat]?).bind fun x1=>k ((IntKind.wrap .i64 (0+(IntKind.wrap .i64 (x1.toNat:Int)))),())) none)))
def p8 (a0:Int):Option (Int×Unit):=qC a0 some
theorem G3 {ρ:Type} (a0:Int) (k:Int×Unit→Option ρ):qC a0 k=(p8 a0).bind k:=by
 simp only [p8,qC,al,ap,Option.bind_none,Option.bind_assoc,Option.bind_some]
abbrev C6:bw:=bE [.ty (.i .u64)] [.i .i64] fun x=>p8 x.1
theorem K3:aB Tryz.prog 298 C6:=
 ak (Λ:=aM []) (fn:=Tryz.f298) aQ EB af (by kernel_rfl) (aI (by kernel_rfl:_= []) ah) (by kernel_rfl) (fun x=>p8 x.1)
  (fun x=>Eq.trans (by kernel_rfl:_=qC x.1 (fun y=>ret (aA [.i .i64] y) fun v g=>some (v,g))) (G3 x.1 _)) fun _ _ h=>h
abbrev OW:List (Nat×bw):= [(298,C6)]
theorem Jq:aw Tryz.prog (aP OW):=ae K3 <| aj _
def uF {ρ:Type} (a0:Int) (k:Int×Unit→Option ρ):Option ρ:=
 (p8 a0).bind fun y1=>k (y1.1,())
def rB (a0:Int):Option (Int×Unit):=uF a0 some
theorem K4 {ρ:Type} (a0:Int) (k:Int×Unit→Option ρ):uF a0 k=(rB a0).bind k:=by
 simp only [rB,uF,Option.bind_assoc,Option.bind_some]
abbrev Jr:bw:=bE [.ty (.i .u64)] [.i .i64] fun x=>rB x.1
theorem OX:aB Tryz.prog 268 Jr:=
 ak (Λ:=aM []) (fn:=Tryz.f268) aQ Jq af (by kernel_rfl) (aI (by kernel_rfl:_= []) ah) (by kernel_rfl) (fun x=>rB x.1)
  (fun x=>Eq.trans (by kernel_rfl:_=uF x.1 (fun y=>ret (aA [.i .i64] y) fun v g=>some (v,g))) (K4 x.1 _)) fun _ _ h=>h
abbrev EC:List (Nat×bw):= []
theorem yT:aw Tryz.prog (aP EC):=aj _
def kN {ρ:Type} (a0:Int) (k:Bool×Unit→Option ρ):Option ρ:=
 k ((!(a0==a0)),())
def iz (a0:Int):Option (Bool×Unit):=kN a0 some
theorem AZ {ρ:Type} (a0:Int) (k:Bool×Unit→Option ρ):kN a0 k=(iz a0).bind k:=by
 simp only [iz,kN,Option.bind_some]
abbrev vg:bw:=bE [.ty (.i .i64)] [.b] fun x=>iz x.1
theorem ED:aB Tryz.prog 314 vg:=
 ak (Λ:=aM []) (fn:=Tryz.f314) aQ yT af (by kernel_rfl) (aI (by kernel_rfl:_= []) ah) (by kernel_rfl) (fun x=>iz x.1)
  (fun x=>Eq.trans (by kernel_rfl:_=kN x.1 (fun y=>ret (aA [.b] y) fun v g=>some (v,g))) (AZ x.1 _)) fun _ _ h=>h
abbrev G4:List (Nat×bw):= [(314,vg)]
theorem A0:aw Tryz.prog (aP G4):=ae ED <| aj _
def lU {ρ:Type} (a0:Int) (a1:Int) (k:Bool×Unit→Option ρ):Option ρ:=
 (iz a0).bind fun y1=>br y1.1 ((iz a1).bind fun y2=>br (!y2.1) (k (true,())) (k ((decide (a0 < a1)),()))) (k ((decide (a0 < a1)),()))
def jz (a0:Int) (a1:Int):Option (Bool×Unit):=lU a0 a1 some
theorem C7 {ρ:Type} (a0:Int) (a1:Int) (k:Bool×Unit→Option ρ):lU a0 a1 k=(jz a0 a1).bind k:=by
 simp only [jz,lU,al,Option.bind_assoc,Option.bind_some]
abbrev xj:bw:=bE [.ty (.i .i64), .ty (.i .i64)] [.b] fun x=>jz x.1 x.2.1
theorem G5:aB Tryz.prog 294 xj:=
 ak (Λ:=aM []) (fn:=Tryz.f294) aQ A0 af (by kernel_rfl) (aI (by kernel_rfl:_= []) ah) (by kernel_rfl) (fun x=>jz x.1 x.2.1)
  (fun x=>Eq.trans (by kernel_rfl:_=lU x.1 x.2.1 (fun y=>ret (aA [.b] y) fun v g=>some (v,g))) (C7 x.1 x.2.1 _)) fun _ _ h=>h
abbrev eS:List (Nat×bw):= [(294,xj)]
theorem ef:aw Tryz.prog (aP eS):=ae G5 <| aj _
noncomputable abbrev b0:Code:=cG (cz Tryz.f288) 0
noncomputable abbrev cD:Code:=cG b0 0
abbrev aF:eJ:=⟨[(0, .cl (.own 0 (.i .i64))),(1, .cl (.int .i64)),(2, .cl (.int .i64)),(6, .cl (.int .i64)),(7, .cl (.int .i64))],[],[.i .i64],1,49⟩
abbrev bA:List (X×eJ):= [(.ext 2,⟨[(0, .cl (.own 0 (.i .i64))),(1, .cl (.int .i64)),(2, .cl (.int .i64)),(6, .cl (.int .i64))],[],[.i .i64],1,49⟩)]
def cw {ρ:Type} (v5:List Int) (v6:Int) (v7:Int) (v8:Int) (v9:Int) (fn: ((Unit×Int×Int×Int×Int×Unit)×(Unit)×((List Int)×Unit))→Option ρ) (fe: ((Unit×Int×Int×Int×Unit)×(Unit)×((List Int)×Unit))→Option ρ):Option ρ:=
 br (decide (v9 > v6)) (aL (0≤v9∧v9 < (v5.length:Int)) ((v5[v9.toNat]?).bind fun x10=>aL (0≤(IntKind.wrap .i64 (v9 - 1))∧(IntKind.wrap .i64 (v9 - 1)) < (v5.length:Int)) ((v5[(IntKind.wrap .i64 (v9 - 1)).toNat]?).bind fun x11=>(jz x10 x11).bind fun y12=>br y12.1 (aL (0≤(IntKind.wrap .i64 (v9 - 1))∧(IntKind.wrap .i64 (v9 - 1)) < (v5.length:Int)) ((v5[(IntKind.wrap .i64 (v9 - 1)).toNat]?).bind fun x13=>aL (0≤v9∧v9 < (v5.length:Int)) ((v5[v9.toNat]?).bind fun x14=>aL (0≤v9∧v9 < (v5.length:Int)) (aL (0≤(IntKind.wrap .i64 (v9 - 1))∧(IntKind.wrap .i64 (v9 - 1)) < (v5.length:Int)) ((v5[v9.toNat]?).bind fun _=>let z16:=v5.set v9.toNat x13; (z16[(IntKind.wrap .i64 (v9 - 1)).toNat]?).bind fun _=>fn (((),v6,v7,v8,(IntKind.wrap .i64 (v9 - 1)),()),(()),((z16.set ((IntKind.wrap .i64 (v9 - 1)).toNat) x14),()))) none) none) none) none) (fe (((),v6,v7,v8,()),(()),(v5,())))) none) none) (fe (((),v6,v7,v8,()),(()),(v5,())))
def bi (s:aF.D):Option (aF.D⊕bD.D bA):=cw s.2.2.1 s.1.2.1 s.1.2.2.1 s.1.2.2.2.1 s.1.2.2.2.2.1 (fun s=>some (.inl s)) (fun e=>some (.inr e))
def de:aF.D→Option (bD.D bA):=j4 bi
theorem mA {ρ:Type} (s:aF.D) (fn:aF.D→Option ρ) (fe:bD.D bA→Option ρ):cw s.2.2.1 s.1.2.1 s.1.2.2.1 s.1.2.2.2.1 s.1.2.2.2.2.1 fn fe=(bi s).bind (Sum.elim fn fe):=by
 simp only [bi,cw,al,ap,Option.bind_none,Option.bind_assoc,Option.bind_some,Sum.elim_inl,Sum.elim_inr]
abbrev hO:dk:=dD [] [0,1,2,6,7] aF bA de
theorem lV (s:aF.D):eM Θ (aP eS) (aM []) cD (aF.mk' s) (dy [0,1,2,6,7] [0,1,2,6] fun x S=>some (x,S))=(bi s).bind (Sum.elim (fun s'=>some (.nor,aF.mk' s')) fun e=>some (bD.e bA e)):=
 Eq.trans (by kernel_rfl:_=cw s.2.2.1 s.1.2.1 s.1.2.2.1 s.1.2.2.2.1 s.1.2.2.2.2.1 (fun s'=>some (.nor,aF.mk' s')) (fun e=>some (bD.e bA e))) (mA s _ _)
theorem lW:cy Tryz.prog cD hO:=bm aQ ef af (by kernel_rfl) (dX (by kernel_rfl:_= []) ah) [] [0,1,2,6,7] [0,1,2,6] aF bA (by kernel_rfl) bi lV de (gT bi) (aX bi)
abbrev aG:eJ:=⟨[(0, .cl (.own 0 (.i .i64))),(1, .cl (.int .i64)),(2, .cl (.int .i64)),(6, .cl (.int .i64))],[],[.i .i64],1,49⟩
abbrev bB:List (X×eJ):= [(.ext 0,⟨[],[],[.i .i64],1,49⟩)]
def bO {ρ:Type} (v1:List Int) (v2:Int) (v3:Int) (v4:Int) (fn: ((Unit×Int×Int×Int×Unit)×(Unit)×((List Int)×Unit))→Option ρ) (fe: ((Unit)×(Unit)×((List Int)×Unit))→Option ρ):Option ρ:=
 br (decide (v4 < v3)) ((de (((),v2,v3,v4,v4,()),(()),(v1,()))).bind fun e19=>fn (((),e19.1.2.1,e19.1.2.2.1,(IntKind.wrap .i64 (e19.1.2.2.2.1+1)),()),(()),(e19.2.2.1,()))) (fe ((()),(()),(v1,())))
def aN (s:aG.D):Option (aG.D⊕bD.D bB):=bO s.2.2.1 s.1.2.1 s.1.2.2.1 s.1.2.2.2.1 (fun s=>some (.inl s)) (fun e=>some (.inr e))
def df:aG.D→Option (bD.D bB):=j4 aN
theorem mB {ρ:Type} (s:aG.D) (fn:aG.D→Option ρ) (fe:bD.D bB→Option ρ):bO s.2.2.1 s.1.2.1 s.1.2.2.1 s.1.2.2.2.1 fn fe=(aN s).bind (Sum.elim fn fe):=by
 simp only [aN,bO,al,Option.bind_assoc,Option.bind_some,Sum.elim_inl,Sum.elim_inr]
abbrev hQ:dk:=dD [] [0,1,2,6] aG bB df
theorem lX (s:aG.D):eM Θ (aP eS) (aM [(cd cD,hO)]) b0 (aG.mk' s) (dy [0,1,2,6] [] fun x S=>some (x,S))=(aN s).bind (Sum.elim (fun s'=>some (.nor,aG.mk' s')) fun e=>some (bD.e bB e)):=
 Eq.trans (by kernel_rfl:_=bO s.2.2.1 s.1.2.1 s.1.2.2.1 s.1.2.2.2.1 (fun s'=>some (.nor,aG.mk' s')) (fun e=>some (bD.e bB e))) (mB s _ _)
theorem lY:cy Tryz.prog b0 hQ:=bm aQ ef af (by kernel_rfl) (dX (by kernel_rfl:_= [cD]) (aW (q:=cd cD) rfl lW fun _ _ _=>by kernel_rfl)) [] [0,1,2,6] [] aG bB (by kernel_rfl) aN lX df (gT aN) (aX aN)
def cM {ρ:Type} (a0:List Int) (a1:Int) (a2:Int) (k: (List Int)×Unit→Option ρ):Option ρ:=
 (df (((),a1,a2,(IntKind.wrap .i64 (a1+1)),()),(()),(a0,()))).bind fun e20=>k (e20.2.2.1,())
def bM (a0:List Int) (a1:Int) (a2:Int):Option ((List Int)×Unit):=cM a0 a1 a2 some
theorem nH {ρ:Type} (a0:List Int) (a1:Int) (a2:Int) (k: (List Int)×Unit→Option ρ):cM a0 a1 a2 k=(bM a0 a1 a2).bind k:=by
 simp only [bM,cM,Option.bind_assoc,Option.bind_some]
abbrev i9:bw:=OG (.i .i64) [.ty (.i .i64), .ty (.i .i64)] [] fun l x=>bM l x.1 x.2.1
theorem om:aB Tryz.prog (uI 288) i9:=
 Gs (Λ:=aM [(cd b0,hQ)]) (fn:=Tryz.f288) aQ ef af (by kernel_rfl) (aI (by kernel_rfl:_= [b0]) (aW (q:=cd b0) rfl lY fun _ _ _=>by kernel_rfl)) (by kernel_rfl) (fun l x=>bM l x.1 x.2.1)
  (fun l x=>Eq.trans (by kernel_rfl:_=cM l x.1 x.2.1 (fun y=>OF (.i .i64) [] y fun v g=>some (v,g))) (nH l x.1 x.2.1 _)) fun _ _ _ h=>h
abbrev lZ:List (Nat×bw):= [(uI 288,i9)]
theorem kb:aw Tryz.prog (aP lZ):=ae om <| aj _
noncomputable abbrev dt:Code:=cG (cz Tryz.f267) 0
abbrev be:eJ:=⟨[(0, .cl (.own 0 (.i .i64))),(1, .cl (.int .i64)),(2, .cl (.int .i64)),(3, .cl (.int .i64)),(8, .cl (.bl)),(9, .cl (.bl))],[],[.i .i64],1,134⟩
abbrev cm:List (X×eJ):= [(.ret,⟨[],[],[.i .i64],1,134⟩)]
def dg {ρ:Type} (v1:List Int) (v2:Int) (v3:Int) (v4:Int) (v5:Bool) (_v6:Bool) (fn: ((Unit×Int×Int×Int×Bool×Bool×Unit)×(Unit)×((List Int)×Unit))→Option ρ) (fe: ((Unit)×(Unit)×((List Int)×Unit))→Option ρ):Option ρ:=
 br (decide ((IntKind.wrap .i64 (v3 - v2))≤12)) ((bM v1 v2 v3).bind fun y7=>aL (y7.1.length=v1.length) (fe ((()),(()),(y7.1,()))) none) (br (v4==0) (none) (br (!v5) (none) (none)))
def bR (s:be.D):Option (be.D⊕bD.D cm):=dg s.2.2.1 s.1.2.1 s.1.2.2.1 s.1.2.2.2.1 s.1.2.2.2.2.1 s.1.2.2.2.2.2.1 (fun s=>some (.inl s)) (fun e=>some (.inr e))
def ew:be.D→Option (bD.D cm):=j4 bR
theorem pc {ρ:Type} (s:be.D) (fn:be.D→Option ρ) (fe:bD.D cm→Option ρ):dg s.2.2.1 s.1.2.1 s.1.2.2.1 s.1.2.2.2.1 s.1.2.2.2.2.1 s.1.2.2.2.2.2.1 fn fe=(bR s).bind (Sum.elim fn fe):=by
 simp only [bR,dg,al,ap,Option.bind_none,Option.bind_assoc,Option.bind_some,Sum.elim_inr]
abbrev kO:dk:=dD [] [0,1,2,3,8,9] be cm ew
theorem o0 (s:be.D):eM Θ (aP lZ) (aM []) dt (be.mk' s) (dy [0,1,2,3,8,9] [] fun x S=>some (x,S))=(bR s).bind (Sum.elim (fun s'=>some (.nor,be.mk' s')) fun e=>some (bD.e cm e)):=
 Eq.trans (by kernel_rfl:_=dg s.2.2.1 s.1.2.1 s.1.2.2.1 s.1.2.2.2.1 s.1.2.2.2.2.1 s.1.2.2.2.2.2.1 (fun s'=>some (.nor,be.mk' s')) (fun e=>some (bD.e cm e))) (pc s _ _)
theorem o1:cy Tryz.prog dt kO:=bm aQ kb af (by kernel_rfl) (dX (by kernel_rfl:_= []) ah) [] [0,1,2,3,8,9] [] be cm (by kernel_rfl) bR o0 ew (gT bR) (aX bR)
def dB {ρ:Type} (a0:List Int) (a1:Int) (a2:Int) (a3:Int) (k: (List Int)×Unit→Option ρ):Option ρ:=
 (ew (((),a1,a2,a3,true,true,()),(()),(a0,()))).bind fun e8=>k (e8.2.2.1,())
def cH (a0:List Int) (a1:Int) (a2:Int) (a3:Int):Option ((List Int)×Unit):=dB a0 a1 a2 a3 some
theorem p9 {ρ:Type} (a0:List Int) (a1:Int) (a2:Int) (a3:Int) (k: (List Int)×Unit→Option ρ):dB a0 a1 a2 a3 k=(cH a0 a1 a2 a3).bind k:=by
 simp only [cH,dB,Option.bind_assoc,Option.bind_some]
abbrev l4:bw:=OG (.i .i64) [.ty (.i .i64), .ty (.i .i64), .ty (.i .i64)] [] fun l x=>cH l x.1 x.2.1 x.2.2.1
theorem qW:aB Tryz.prog (uI 267) l4:=
 Gs (Λ:=aM [(cd dt,kO)]) (fn:=Tryz.f267) aQ kb af (by kernel_rfl) (aI (by kernel_rfl:_= [dt]) (aW (q:=cd dt) rfl o1 fun _ _ _=>by kernel_rfl)) (by kernel_rfl) (fun l x=>cH l x.1 x.2.1 x.2.2.1)
  (fun l x=>Eq.trans (by kernel_rfl:_=dB l x.1 x.2.1 x.2.2.1 (fun y=>OF (.i .i64) [] y fun v g=>some (v,g))) (p9 l x.1 x.2.1 x.2.2.1 _)) fun _ _ _ h=>h
abbrev C8:List (Nat×bw):= [(268,Jr),(uI 267,l4)]
theorem xk:aw Tryz.prog (aP C8):=ae OX <| ae qW <| aj _
def jI {ρ:Type} (a0:List Int) (k: (List Int)×Unit→Option ρ):Option ρ:=
 (rB (IntKind.wrap .u64 (a0.length:Int))).bind fun y1=>(cH a0 0 (a0.length:Int) y1.1).bind fun y2=>aL (y2.1.length=a0.length) (k (y2.1,())) none
def gm (a0:List Int):Option ((List Int)×Unit):=jI a0 some
theorem yU {ρ:Type} (a0:List Int) (k: (List Int)×Unit→Option ρ):jI a0 k=(gm a0).bind k:=by
 simp only [gm,jI,ap,Option.bind_none,Option.bind_assoc,Option.bind_some]
abbrev tU:bw:=OG (.i .i64) [] [] fun l _=>gm l
theorem C9:aB Tryz.prog (uI 216) tU:=
 Gs (Λ:=aM []) (fn:=Tryz.f216) aQ xk af (by kernel_rfl) (aI (by kernel_rfl:_= []) ah) (by kernel_rfl) (fun l _=>gm l)
  (fun l _=>Eq.trans (by kernel_rfl:_=jI l (fun y=>OF (.i .i64) [] y fun v g=>some (v,g))) (yU l _)) fun _ _ _ h=>h
abbrev qD:List (Nat×bw):= []
theorem o2:aw Tryz.prog (aP qD):=aj _
noncomputable abbrev eD:Code:=cG (cz Tryz.f217) 0
noncomputable abbrev pi:Code:=cG eD 0
abbrev b9:eJ:=⟨[(0, .cl (.own 0 (.i .i64))),(3, .cl (.int .i64))],[],[.i .i64],0,61⟩
abbrev dC:List (X×eJ):= [(.ext 0,⟨[(0, .cl (.own 0 (.i .i64))),(2, .cl (.dead))],[],[.i .i64],0,61⟩)]
def ec {ρ:Type} (v1:List Int) (v2:Int) (fn: ((Unit×Int×Unit)×(Unit)×((List Int)×Unit))→Option ρ) (fe: ((Unit×Unit×Unit)×(Unit)×((List Int)×Unit))→Option ρ):Option ρ:=
 br (decide (v2 < (v1.length:Int))) (aL (0≤v2∧v2 < (v1.length:Int)) ((v1[v2.toNat]?).bind fun x3=>aL (0≤(IntKind.wrap .i64 (v2 - 1))∧(IntKind.wrap .i64 (v2 - 1)) < (v1.length:Int)) ((v1[(IntKind.wrap .i64 (v2 - 1)).toNat]?).bind fun x4=>br (x3==x4) (aL (0≤v2∧v2≤(v1.length:Int)∧(v1.length:Int)≤((v1.length:Nat):Int)) (none) none) (fn (((),(IntKind.wrap .i64 (v2+1)),()),(()),(v1,())))) none) none) (fe (((),(),()),(()),(v1,())))
def cu (s:b9.D):Option (b9.D⊕bD.D dC):=ec s.2.2.1 s.1.2.1 (fun s=>some (.inl s)) (fun e=>some (.inr e))
def iK:b9.D→Option (bD.D dC):=j4 cu
theorem sZ {ρ:Type} (s:b9.D) (fn:b9.D→Option ρ) (fe:bD.D dC→Option ρ):ec s.2.2.1 s.1.2.1 fn fe=(cu s).bind (Sum.elim fn fe):=by
 simp only [cu,ec,al,ap,Option.bind_none,Option.bind_assoc,Option.bind_some,Sum.elim_inl,Sum.elim_inr]
abbrev pj:dk:=dD [] [0,3] b9 dC iK
theorem sf (s:b9.D):eM Θ (aP qD) (aM []) eD (b9.mk' s) (dy [0,3] [0,2] fun x S=>some (x,S))=(cu s).bind (Sum.elim (fun s'=>some (.nor,b9.mk' s')) fun e=>some (bD.e dC e)):=
 Eq.trans (by kernel_rfl:_=ec s.2.2.1 s.1.2.1 (fun s'=>some (.nor,b9.mk' s')) (fun e=>some (bD.e dC e))) (sZ s _ _)
theorem sg:cy Tryz.prog eD pj:=bm aQ o2 af (by kernel_rfl) (dX (by kernel_rfl:_= [pi]) (OD (q:=cd pi) rfl fun _ _ _=>by kernel_rfl)) [] [0,3] [0,2] b9 dC (by kernel_rfl) cu sf iK (gT cu) (aX cu)
def gn {ρ:Type} (a0:List Int) (k: (List Int)×Unit→Option ρ):Option ρ:=
 br (decide ((a0.length:Int) < 2)) (k (a0,())) ((iK (((),1,()),(()),(a0,()))).bind fun e5=>k (e5.2.2.1,()))
def ey (a0:List Int):Option ((List Int)×Unit):=gn a0 some
theorem uM {ρ:Type} (a0:List Int) (k: (List Int)×Unit→Option ρ):gn a0 k=(ey a0).bind k:=by
 simp only [ey,gn,al,Option.bind_assoc,Option.bind_some]
abbrev qE:bw:=P9 (.i .i64) [] [.ls (.i .i64)] fun l _=>ey l
theorem xm:aB Tryz.prog (B8 217) qE:=
 LU (Λ:=aM [(cd eD,pj)]) (fn:=Tryz.f217) aQ o2 af (by kernel_rfl) (aI (by kernel_rfl:_= [eD]) (aW (q:=cd eD) rfl sg fun _ _ _=>by kernel_rfl)) (fun l _=>ey l)
  (fun l _=>Eq.trans (by kernel_rfl:_=gn l (fun y=>ret (aA [.ls (.i .i64)] y) fun v g=>some (v,g))) (uM l _)) fun _ _ _ h=>h
abbrev Js:List (Nat×bw):= [(164,xi),(uI 216,tU),(B8 217,qE)]
theorem Da:aw Tryz.prog (aP Js):=ae G2 <| ae C9 <| ae xm <| aj _
def nI {ρ:Type} (a0:List Int) (k: (List Int)×Unit→Option ρ):Option ρ:=
 (pA a0).bind fun y1=>(gm y1.1).bind fun y2=>aL (y2.1.length=y1.1.length) ((ey y2.1).bind fun y3=>k (y3.1,())) none
def kP (a0:List Int):Option ((List Int)×Unit):=nI a0 some
theorem EE {ρ:Type} (a0:List Int) (k: (List Int)×Unit→Option ρ):nI a0 k=(kP a0).bind k:=by
 simp only [kP,nI,ap,Option.bind_none,Option.bind_assoc,Option.bind_some]
abbrev z8:bw:=bE [.ty (.ls (.i .i64))] [.ls (.i .i64)] fun x=>kP x.1
theorem Jt:aB Tryz.prog 150 z8:=
 ak (Λ:=aM []) (fn:=Tryz.f150) aQ Da af (by kernel_rfl) (aI (by kernel_rfl:_= []) ah) (by kernel_rfl) (fun x=>kP x.1)
  (fun x=>Eq.trans (by kernel_rfl:_=nI x.1 (fun y=>ret (aA [.ls (.i .i64)] y) fun v g=>some (v,g))) (EE x.1 _)) fun _ _ h=>h
abbrev uN:List (Nat×bw):= [(66,oZ)]
theorem sj:aw Tryz.prog (aP uN):=ae qB <| aj _
def fj {ρ:Type} (a0:Int) (a1:List Int) (k:Bool×Unit→Option ρ):Option ρ:=
 (fi a1 a0).bind fun y1=>k (y1.1,())
def da (a0:Int) (a1:List Int):Option (Bool×Unit):=fj a0 a1 some
theorem s3 {ρ:Type} (a0:Int) (a1:List Int) (k:Bool×Unit→Option ρ):fj a0 a1 k=(da a0 a1).bind k:=by
 simp only [da,fj,Option.bind_assoc,Option.bind_some]
abbrev lz:bw:=bE [.ty (.i .i64), .pr (.ls (.i .i64))] [.b] fun x=>da x.1 x.2.1
theorem pk:aB Tryz.prog 151 lz:=
 ak (Λ:=aM []) (fn:=Tryz.f151) aQ sj af (by kernel_rfl) (aI (by kernel_rfl:_= []) ah) (by kernel_rfl) (fun x=>da x.1 x.2.1)
  (fun x=>Eq.trans (by kernel_rfl:_=fj x.1 x.2.1 (fun y=>ret (aA [.b] y) fun v g=>some (v,g))) (s3 x.1 x.2.1 _)) fun _ _ h=>h
abbrev fO:List (Nat×bw):= [(151,lz)]
theorem fk:aw Tryz.prog (aP fO):=ae pk <| aj _
noncomputable abbrev b6:Code:=cG (cz Tryz.f143) 0
abbrev au:eJ:=⟨[(0, .cl (.ro (.i .i64))),(1, .fn 151 [.pro (.ls (.i .i64))]),(7, .cl (.int .i64)),(8, .cl (.int .i64))],[],[],0,19⟩
abbrev bg:List (X×eJ):= [(.ret,⟨[(4, .cl (.int .i64))],[],[],0,19⟩),(.ext 0,⟨[(4, .cl (.dead))],[],[],0,19⟩)]
def bq {ρ:Type} (v1:List Int) (v2:List Int) (v3:Int) (v4:Int) (fn: (((List Int)×((List Int)×Unit)×Int×Int×Unit)×(Unit)×(Unit))→Option ρ) (fe: ((Int×Unit)×(Unit)×(Unit))⊕((Unit×Unit)×(Unit)×(Unit))→Option ρ):Option ρ:=
 br (decide (v4 < v3)) (aL (0≤v4) ((v1[v4.toNat]?).bind fun x5=>(da x5 v2).bind fun y6=>br y6.1 (fe (.inl ((v4,()),(()),(())))) (fn ((v1,(v2,()),v3,(IntKind.wrap .i64 (v4+1)),()),(()),(())))) none) (fe (.inr (((),()),(()),(()))))
def ay (s:au.D):Option (au.D⊕bD.D bg):=bq s.1.1 s.1.2.1.1 s.1.2.2.1 s.1.2.2.2.1 (fun s=>some (.inl s)) (fun e=>some (.inr e))
def b7:au.D→Option (bD.D bg):=j4 ay
theorem kg {ρ:Type} (s:au.D) (fn:au.D→Option ρ) (fe:bD.D bg→Option ρ):bq s.1.1 s.1.2.1.1 s.1.2.2.1 s.1.2.2.2.1 fn fe=(ay s).bind (Sum.elim fn fe):=by
 simp only [ay,bq,al,ap,Option.bind_none,Option.bind_assoc,Option.bind_some,Sum.elim_inl,Sum.elim_inr]
abbrev ft:dk:=dD [] [0,1,7,8] au bg b7
theorem j5 (s:au.D):eM Θ (aP fO) (aM []) b6 (au.mk' s) (dy [0,1,7,8] [4] fun x S=>some (x,S))=(ay s).bind (Sum.elim (fun s'=>some (.nor,au.mk' s')) fun e=>some (bD.e bg e)):=
 Eq.trans (by kernel_rfl:_=bq s.1.1 s.1.2.1.1 s.1.2.2.1 s.1.2.2.2.1 (fun s'=>some (.nor,au.mk' s')) (fun e=>some (bD.e bg e))) (kg s _ _)
theorem j6:cy Tryz.prog b6 ft:=bm aQ fk af (by kernel_rfl) (dX (by kernel_rfl:_= []) ah) [] [0,1,7,8] [4] au bg (by kernel_rfl) ay j5 b7 (gT ay) (aX ay)
def ca {ρ:Type} (a0:List Int) (a1_0:List Int) (k:Int×Unit→Option ρ):Option ρ:=
 (b7 ((a0,(a1_0,()),(a0.length:Int),0,()),(()),(()))).bind fun e7=>Sum.elim (fun e7_=>k (e7_.1.1,())) (fun e7_=>k ((-1),())) e7
def bH (a0:List Int) (a1_0:List Int):Option (Int×Unit):=ca a0 a1_0 some
theorem li {ρ:Type} (a0:List Int) (a1_0:List Int) (k:Int×Unit→Option ρ):ca a0 a1_0 k=(bH a0 a1_0).bind k:=by
 simp only [bH,ca,cf,Option.bind_assoc,Option.bind_some]
abbrev fP:bw:=bE [.ty (.ls (.i .i64)), .fn 151 [.ls (.i .i64)]] [.i .i64] fun x=>bH x.1 x.2.1.1
theorem l5:aB Tryz.prog 143 fP:=
 ak (Λ:=aM [(cd b6,ft)]) (fn:=Tryz.f143) aQ fk af (by kernel_rfl) (aI (by kernel_rfl:_= [b6]) (aW (q:=cd b6) rfl j6 fun _ _ _=>by kernel_rfl)) (by kernel_rfl) (fun x=>bH x.1 x.2.1.1)
  (fun x=>Eq.trans (by kernel_rfl:_=ca x.1 x.2.1.1 (fun y=>ret (aA [.i .i64] y) fun v g=>some (v,g))) (li x.1 x.2.1.1 _)) fun _ _ h=>h
abbrev eV:List (Nat×bw):= [(143,fP),(151,lz)]
theorem ez:aw Tryz.prog (aP eV):=ae l5 <| ae pk <| aj _
noncomputable abbrev bF:Code:=cG (cz Tryz.f74) 0
abbrev an:eJ:=⟨[(0, .cl (.own 0 (.i .i64))),(1, .fn 151 [.pro (.ls (.i .i64))]),(5, .cl (.int .i64)),(6, .cl (.int .i64))],[],[.i .i64],0,42⟩
abbrev aV:List (X×eJ):= [(.ext 0,⟨[(0, .cl (.own 0 (.i .i64))),(5, .cl (.int .i64))],[],[.i .i64],0,42⟩)]
def bh {ρ:Type} (v2:List Int) (v3:List Int) (v4:Int) (v5:Int) (fn: ((Unit×((List Int)×Unit)×Int×Int×Unit)×(Unit)×((List Int)×Unit))→Option ρ) (fe: ((Unit×Int×Unit)×(Unit)×((List Int)×Unit))→Option ρ):Option ρ:=
 br (decide (v5 < (v2.length:Int))) (aL (0≤v5∧v5 < (v2.length:Int)) ((v2[v5.toNat]?).bind fun x6=>(da x6 v3).bind fun y7=>br (!y7.1) (aL (0≤v4∧v4 < (v2.length:Int)) ((v2[v4.toNat]?).bind fun _=>fn (((),(v3,()),(IntKind.wrap .i64 (v4+1)),(IntKind.wrap .i64 (v5+1)),()),(()),((v2.set v4.toNat x6),()))) none) (fn (((),(v3,()),v4,(IntKind.wrap .i64 (v5+1)),()),(()),(v2,())))) none) (fe (((),v4,()),(()),(v2,())))
def aq (s:an.D):Option (an.D⊕bD.D aV):=bh s.2.2.1 s.1.2.1.1 s.1.2.2.1 s.1.2.2.2.1 (fun s=>some (.inl s)) (fun e=>some (.inr e))
def cj:an.D→Option (bD.D aV):=j4 aq
theorem jm {ρ:Type} (s:an.D) (fn:an.D→Option ρ) (fe:bD.D aV→Option ρ):bh s.2.2.1 s.1.2.1.1 s.1.2.2.1 s.1.2.2.2.1 fn fe=(aq s).bind (Sum.elim fn fe):=by
 simp only [aq,bh,al,ap,Option.bind_none,Option.bind_assoc,Option.bind_some,Sum.elim_inl,Sum.elim_inr]
abbrev eG:dk:=dD [] [0,1,5,6] an aV cj
theorem ja (s:an.D):eM Θ (aP eV) (aM []) bF (an.mk' s) (dy [0,1,5,6] [0,5] fun x S=>some (x,S))=(aq s).bind (Sum.elim (fun s'=>some (.nor,an.mk' s')) fun e=>some (bD.e aV e)):=
 Eq.trans (by kernel_rfl:_=bh s.2.2.1 s.1.2.1.1 s.1.2.2.1 s.1.2.2.2.1 (fun s'=>some (.nor,an.mk' s')) (fun e=>some (bD.e aV e))) (jm s _ _)
theorem jb:cy Tryz.prog bF eG:=bm aQ ez af (by kernel_rfl) (dX (by kernel_rfl:_= []) ah) [] [0,1,5,6] [0,5] an aV (by kernel_rfl) aq ja cj (gT aq) (aX aq)
def bL {ρ:Type} (a0:List Int) (a1_0:List Int) (k: (List Int)×Unit→Option ρ):Option ρ:=
 (bH a0 a1_0).bind fun y1=>br (y1.1==(-1)) (k (a0,())) ((cj (((),(a1_0,()),y1.1,(IntKind.wrap .i64 (y1.1+1)),()),(()),(a0,()))).bind fun e10=>aL (0≤e10.1.2.1∧e10.1.2.1≤(e10.2.2.1.length:Int)∧(e10.2.2.1.length:Int)≤((e10.2.2.1.length:Nat):Int)) (aL ((0+e10.1.2.1.toNat)+((e10.2.2.1.length:Int).toNat - e10.1.2.1.toNat)≤e10.2.2.1.length) (aL (0≤(0:Int)∧(0:Int)≤e10.1.2.1∧e10.1.2.1≤((e10.2.2.1.length:Nat):Int)) (aL ((0+(0:Int).toNat)=0∧(e10.1.2.1.toNat - (0:Int).toNat)≤(e10.2.2.1.take (0+e10.1.2.1.toNat)++List.replicate ((e10.2.2.1.length:Int).toNat - e10.1.2.1.toNat) (0:Int)++e10.2.2.1.drop ((0+e10.1.2.1.toNat)+((e10.2.2.1.length:Int).toNat - e10.1.2.1.toNat))).length) (k (((e10.2.2.1.take (0+e10.1.2.1.toNat)++List.replicate ((e10.2.2.1.length:Int).toNat - e10.1.2.1.toNat) (0:Int)++e10.2.2.1.drop ((0+e10.1.2.1.toNat)+((e10.2.2.1.length:Int).toNat - e10.1.2.1.toNat))).take (e10.1.2.1.toNat - (0:Int).toNat)),())) none) none) none) none)
def aY (a0:List Int) (a1_0:List Int):Option ((List Int)×Unit):=bL a0 a1_0 some
theorem jJ {ρ:Type} (a0:List Int) (a1_0:List Int) (k: (List Int)×Unit→Option ρ):bL a0 a1_0 k=(aY a0 a1_0).bind k:=by
 simp only [aY,bL,al,ap,Option.bind_none,Option.bind_assoc,Option.bind_some]
abbrev eW:bw:=P9 (.i .i64) [.fn 151 [.ls (.i .i64)]] [.ls (.i .i64)] fun l x=>aY l x.1.1
theorem kh:aB Tryz.prog (B8 74) eW:=
 LU (Λ:=aM [(cd bF,eG)]) (fn:=Tryz.f74) aQ ez af (by kernel_rfl) (aI (by kernel_rfl:_= [bF]) (aW (q:=cd bF) rfl jb fun _ _ _=>by kernel_rfl)) (fun l x=>aY l x.1.1)
  (fun l x=>Eq.trans (by kernel_rfl:_=bL l x.1.1 (fun y=>ret (aA [.ls (.i .i64)] y) fun v g=>some (v,g))) (jJ l x.1.1 _)) fun _ _ _ h=>h
abbrev yV:List (Nat×bw):= [(150,z8),(B8 74,eW)]
theorem uO:aw Tryz.prog (aP yV):=ae Jt <| ae kh <| aj _
def hU {ρ:Type} (a0:List Int) (a1:List Int) (k: (List Int)×Unit→Option ρ):Option ρ:=
 (kP a0).bind fun y1=>(aY y1.1 a1).bind fun y2=>k (y2.1,())
def ed (a0:List Int) (a1:List Int):Option ((List Int)×Unit):=hU a0 a1 some
theorem vV {ρ:Type} (a0:List Int) (a1:List Int) (k: (List Int)×Unit→Option ρ):hU a0 a1 k=(ed a0 a1).bind k:=by
 simp only [ed,hU,Option.bind_assoc,Option.bind_some]
abbrev rC:bw:=bE [.ty (.ls (.i .i64)), .ty (.ls (.i .i64))] [.ls (.i .i64)] fun x=>ed x.1 x.2.1
theorem yW:aB Tryz.prog 73 rC:=
 ak (Λ:=aM []) (fn:=Tryz.f73) aQ uO af (by kernel_rfl) (aI (by kernel_rfl:_= []) ah) (by kernel_rfl) (fun x=>ed x.1 x.2.1)
  (fun x=>Eq.trans (by kernel_rfl:_=hU x.1 x.2.1 (fun y=>ret (aA [.ls (.i .i64)] y) fun v g=>some (v,g))) (vV x.1 x.2.1 _)) fun _ _ h=>h
abbrev A1:List (Nat×bw):= [(73,rC)]
theorem vW:aw Tryz.prog (aP A1):=ae yW <| aj _
def jc {ρ:Type} (a0:List Int) (a1:List Int) (k: (List Int)×Unit→Option ρ):Option ρ:=
 (ed a0 a1).bind fun y1=>(ed a0 y1.1).bind fun y2=>k (y2.1,())
def fx (a0:List Int) (a1:List Int):Option ((List Int)×Unit):=jc a0 a1 some
theorem xn {ρ:Type} (a0:List Int) (a1:List Int) (k: (List Int)×Unit→Option ρ):jc a0 a1 k=(fx a0 a1).bind k:=by
 simp only [fx,jc,Option.bind_assoc,Option.bind_some]
abbrev sO:bw:=bE [.ty (.ls (.i .i64)), .ty (.ls (.i .i64))] [.ls (.i .i64)] fun x=>fx x.1 x.2.1
theorem A2:aB Tryz.prog 228 sO:=
 ak (Λ:=aM []) (fn:=Tryz.f228) aQ vW af (by kernel_rfl) (aI (by kernel_rfl:_= []) ah) (by kernel_rfl) (fun x=>fx x.1 x.2.1)
  (fun x=>Eq.trans (by kernel_rfl:_=jc x.1 x.2.1 (fun y=>ret (aA [.ls (.i .i64)] y) fun v g=>some (v,g))) (xn x.1 x.2.1 _)) fun _ _ h=>h
abbrev A3:List (Nat×bw):= [(135,gY),(227,xb),(66,oZ),(228,sO)]
theorem vX:aw Tryz.prog (aP A3):=ae i7 <| ae GZ <| ae qB <| ae A2 <| aj _
def jd {ρ:Type} (a0:ai) (k:Bool×Unit→Option ρ):Option ρ:=
 (ce a0.epoch 1 20).bind fun y1=>br y1.1 ((fG a0.replicas).bind fun y2=>br y2.1 ((fG a0.witnesses).bind fun y3=>br y3.1 ((fi a0.replicas a0.primary).bind fun y4=>br y4.1 ((fx a0.replicas a0.witnesses).bind fun y5=>k (((y5.1.length:Int)==0),())) (k (false,()))) (k (false,()))) (k (false,()))) (k (false,()))
def eH (a0:ai):Option (Bool×Unit):=jd a0 some
theorem xp {ρ:Type} (a0:ai) (k:Bool×Unit→Option ρ):jd a0 k=(eH a0).bind k:=by
 simp only [eH,jd,al,Option.bind_assoc,Option.bind_some]
abbrev pd:bw:=bE [.ty (.st .config)] [.b] fun x=>eH x.1
theorem sP:aB Tryz.prog 176 pd:=
 ak (Λ:=aM []) (fn:=Tryz.f176) aQ vX af (by kernel_rfl) (aI (by kernel_rfl:_= []) ah) (by kernel_rfl) (fun x=>eH x.1)
  (fun x=>Eq.trans (by kernel_rfl:_=jd x.1 (fun y=>ret (aA [.b] y) fun v g=>some (v,g))) (xp x.1 _)) fun _ _ h=>h
abbrev vh:List (Nat×bw):= [(176,pd),(135,gY)]
theorem rD:aw Tryz.prog (aP vh):=ae sP <| ae i7 <| aj _
noncomputable abbrev jK:Code:=cG (cz Tryz.f137) 0
abbrev c7:eJ:=⟨[(1, .cl (.ptr 0 0)),(6, .cl (.ro (.st .config))),(7, .cl (.int .i64)),(8, .cl (.int .i64))],[[.ro (.st .config), .int .i64]],[],0,30⟩
abbrev fy:List (X×eJ):= [(.ret,⟨[(1, .cl (.ptr 0 0)),(2, .cl (.bl))],[[.ro (.st .config), .int .i64]],[],0,30⟩),(.ext 0,⟨[(1, .cl (.ptr 0 0)),(2, .cl (.dead))],[[.ro (.st .config), .int .i64]],[],0,30⟩)]
def fX {ρ:Type} (v1:List ai) (v2:Int) (v3:Int) (v4:List ai) (v5:Int) (fn: ((Unit×(List ai)×Int×Int×Unit)×(((List ai)×Int×Unit)×Unit)×(Unit))→Option ρ) (fe: ((Unit×Bool×Unit)×(((List ai)×Int×Unit)×Unit)×(Unit))⊕((Unit×Unit×Unit)×(((List ai)×Int×Unit)×Unit)×(Unit))→Option ρ):Option ρ:=
 br (decide (v3 < v2)) (aL (0≤v3) ((v1[v3.toNat]?).bind fun x6=>(eH x6).bind fun y7=>br (!y7.1) (fe (.inl (((),false,()),((v4,v5,()),()),(())))) (br (!(x6.epoch==(IntKind.wrap .i64 (v3+1)))) (fe (.inl (((),false,()),((v4,v5,()),()),(())))) (fn (((),v1,v2,(IntKind.wrap .i64 (v3+1)),()),((v4,v5,()),()),(()))))) none) (fe (.inr (((),(),()),((v4,v5,()),()),(()))))
def dx (s:c7.D):Option (c7.D⊕bD.D fy):=fX s.1.2.1 s.1.2.2.1 s.1.2.2.2.1 s.2.1.1.1 s.2.1.1.2.1 (fun s=>some (.inl s)) (fun e=>some (.inr e))
def jL:c7.D→Option (bD.D fy):=j4 dx
theorem xq {ρ:Type} (s:c7.D) (fn:c7.D→Option ρ) (fe:bD.D fy→Option ρ):fX s.1.2.1 s.1.2.2.1 s.1.2.2.2.1 s.2.1.1.1 s.2.1.1.2.1 fn fe=(dx s).bind (Sum.elim fn fe):=by
 simp only [dx,fX,al,ap,Option.bind_none,Option.bind_assoc,Option.bind_some,Sum.elim_inl,Sum.elim_inr]
abbrev sQ:dk:=dD [] [1,6,7,8] c7 fy jL
theorem vY (s:c7.D):eM Θ (aP vh) (aM []) jK (c7.mk' s) (dy [1,6,7,8] [1,2] fun x S=>some (x,S))=(dx s).bind (Sum.elim (fun s'=>some (.nor,c7.mk' s')) fun e=>some (bD.e fy e)):=
 Eq.trans (by kernel_rfl:_=fX s.1.2.1 s.1.2.2.1 s.1.2.2.2.1 s.2.1.1.1 s.2.1.1.2.1 (fun s'=>some (.nor,c7.mk' s')) (fun e=>some (bD.e fy e))) (xq s _ _)
theorem vZ:cy Tryz.prog jK sQ:=bm aQ rD af (by kernel_rfl) (dX (by kernel_rfl:_= []) ah) [] [1,6,7,8] [1,2] c7 fy (by kernel_rfl) dx vY jL (gT dx) (aX dx)
def kQ {ρ:Type} (a0:aD) (k:Bool×Unit→Option ρ):Option ρ:=
 (jL (((),a0.configs,(a0.configs.length:Int),0,()),((a0.configs,a0.activated,()),()),(()))).bind fun e8=>Sum.elim (fun e8_=>k (e8_.1.2.1,())) (fun e8_=>(ce e8_.2.1.1.2.1 0 (e8_.2.1.1.1.length:Int)).bind fun y9=>k (y9.1,())) e8
def fQ (a0:aD):Option (Bool×Unit):=kQ a0 some
theorem A4 {ρ:Type} (a0:aD) (k:Bool×Unit→Option ρ):kQ a0 k=(fQ a0).bind k:=by
 simp only [fQ,kQ,cf,Option.bind_assoc,Option.bind_some]
abbrev qX:bw:=bE [.ty (.st .masterLog)] [.b] fun x=>fQ x.1
theorem vi:aB Tryz.prog 137 qX:=
 ak (Λ:=aM [(cd jK,sQ)]) (fn:=Tryz.f137) aQ rD af (by kernel_rfl) (aI (by kernel_rfl:_= [jK]) (aW (q:=cd jK) rfl vZ fun _ _ _=>by kernel_rfl)) (by kernel_rfl) (fun x=>fQ x.1)
  (fun x=>Eq.trans (by kernel_rfl:_=kQ x.1 (fun y=>ret (aA [.b] y) fun v g=>some (v,g))) (A4 x.1 _)) fun _ _ h=>h
abbrev MX:List (Nat×bw):= [(135,gY)]
theorem G6:aw Tryz.prog (aP MX):=ae i7 <| aj _
def oo {ρ:Type} (a0:fC) (k:Bool×Unit→Option ρ):Option ρ:=
 br ((a0.epoch==0)&&((a0.holder==0)&&((a0.ends==0)&&true))) (k (true,())) ((ce a0.epoch 1 20).bind fun y1=>br y1.1 ((ce a0.holder 0 4).bind fun y2=>br y2.1 ((ce a0.ends 1 1049).bind fun y3=>k (y3.1,())) (k (false,()))) (k (false,())))
def lj (a0:fC):Option (Bool×Unit):=oo a0 some
theorem Ju {ρ:Type} (a0:fC) (k:Bool×Unit→Option ρ):oo a0 k=(lj a0).bind k:=by
 simp only [lj,oo,al,Option.bind_assoc,Option.bind_some]
abbrev yX:bw:=bE [.ty (.st .lease)] [.b] fun x=>lj x.1
theorem FB:aB Tryz.prog 138 yX:=
 ak (Λ:=aM []) (fn:=Tryz.f138) aQ G6 af (by kernel_rfl) (aI (by kernel_rfl:_= []) ah) (by kernel_rfl) (fun x=>lj x.1)
  (fun x=>Eq.trans (by kernel_rfl:_=oo x.1 (fun y=>ret (aA [.b] y) fun v g=>some (v,g))) (Ju x.1 _)) fun _ _ h=>h
abbrev Db:List (Nat×bw):= [(135,gY)]
theorem xt:aw Tryz.prog (aP Db):=ae i7 <| aj _
def jM {ρ:Type} (a0:bk) (k:Bool×Unit→Option ρ):Option ρ:=
 (ce a0.rack 0 9).bind fun y1=>br (!y1.1) (k (true,())) ((ce a0.capacity 0 9).bind fun y2=>br (!y2.1) (k (true,())) ((ce a0.load 0 99).bind fun y3=>k ((!y3.1),())))
def je (a0:bk):Option (Bool×Unit):=jM a0 some
theorem yY {ρ:Type} (a0:bk) (k:Bool×Unit→Option ρ):jM a0 k=(je a0).bind k:=by
 simp only [je,jM,al,Option.bind_assoc,Option.bind_some]
abbrev tV:bw:=bE [.ty (.st .place)] [.b] fun x=>je x.1
theorem Dc:aB Tryz.prog 212 tV:=
 ak (Λ:=aM []) (fn:=Tryz.f212) aQ xt af (by kernel_rfl) (aI (by kernel_rfl:_= []) ah) (by kernel_rfl) (fun x=>je x.1)
  (fun x=>Eq.trans (by kernel_rfl:_=jM x.1 (fun y=>ret (aA [.b] y) fun v g=>some (v,g))) (yY x.1 _)) fun _ _ h=>h
abbrev hZ:List (Nat×bw):= [(212,tV)]
theorem fR:aw Tryz.prog (aP hZ):=ae Dc <| aj _
noncomputable abbrev cn:Code:=cG (cz Tryz.f266) 0
abbrev az:eJ:=⟨[(0, .cl (.ro (.st .place))),(1, .cl (.fc 212)),(7, .cl (.int .i64)),(8, .cl (.int .i64))],[],[],0,19⟩
abbrev bo:List (X×eJ):= [(.ret,⟨[(4, .cl (.int .i64))],[],[],0,19⟩),(.ext 0,⟨[(4, .cl (.dead))],[],[],0,19⟩)]
def bI {ρ:Type} (v1:List bk) (v2:Int) (v3:Int) (fn: (((List bk)×Unit×Int×Int×Unit)×(Unit)×(Unit))→Option ρ) (fe: ((Int×Unit)×(Unit)×(Unit))⊕((Unit×Unit)×(Unit)×(Unit))→Option ρ):Option ρ:=
 br (decide (v3 < v2)) (aL (0≤v3) ((v1[v3.toNat]?).bind fun x4=>(je x4).bind fun y5=>br y5.1 (fe (.inl ((v3,()),(()),(())))) (fn ((v1,(),v2,(IntKind.wrap .i64 (v3+1)),()),(()),(())))) none) (fe (.inr (((),()),(()),(()))))
def aJ (s:az.D):Option (az.D⊕bD.D bo):=bI s.1.1 s.1.2.2.1 s.1.2.2.2.1 (fun s=>some (.inl s)) (fun e=>some (.inr e))
def co:az.D→Option (bD.D bo):=j4 aJ
theorem lA {ρ:Type} (s:az.D) (fn:az.D→Option ρ) (fe:bD.D bo→Option ρ):bI s.1.1 s.1.2.2.1 s.1.2.2.2.1 fn fe=(aJ s).bind (Sum.elim fn fe):=by
 simp only [aJ,bI,al,ap,Option.bind_none,Option.bind_assoc,Option.bind_some,Sum.elim_inl,Sum.elim_inr]
abbrev gp:dk:=dD [] [0,1,7,8] az bo co
theorem ll (s:az.D):eM Θ (aP hZ) (aM []) cn (az.mk' s) (dy [0,1,7,8] [4] fun x S=>some (x,S))=(aJ s).bind (Sum.elim (fun s'=>some (.nor,az.mk' s')) fun e=>some (bD.e bo e)):=
 Eq.trans (by kernel_rfl:_=bI s.1.1 s.1.2.2.1 s.1.2.2.2.1 (fun s'=>some (.nor,az.mk' s')) (fun e=>some (bD.e bo e))) (lA s _ _)
theorem lm:cy Tryz.prog cn gp:=bm aQ fR af (by kernel_rfl) (dX (by kernel_rfl:_= []) ah) [] [0,1,7,8] [4] az bo (by kernel_rfl) aJ ll co (gT aJ) (aX aJ)
def cx {ρ:Type} (a0:List bk) (k:Int×Unit→Option ρ):Option ρ:=
 (co ((a0,(),(a0.length:Int),0,()),(()),(()))).bind fun e6=>Sum.elim (fun e6_=>k (e6_.1.1,())) (fun e6_=>k ((-1),())) e6
def b8 (a0:List bk):Option (Int×Unit):=cx a0 some
theorem mC {ρ:Type} (a0:List bk) (k:Int×Unit→Option ρ):cx a0 k=(b8 a0).bind k:=by
 simp only [b8,cx,cf,Option.bind_assoc,Option.bind_some]
abbrev ia:bw:=bE [.ty (.ls (.st .place)), .fc 212] [.i .i64] fun x=>b8 x.1
theorem nJ:aB Tryz.prog 266 ia:=
 ak (Λ:=aM [(cd cn,gp)]) (fn:=Tryz.f266) aQ fR af (by kernel_rfl) (aI (by kernel_rfl:_= [cn]) (aW (q:=cd cn) rfl lm fun _ _ _=>by kernel_rfl)) (by kernel_rfl) (fun x=>b8 x.1)
  (fun x=>Eq.trans (by kernel_rfl:_=cx x.1 (fun y=>ret (aA [.i .i64] y) fun v g=>some (v,g))) (mC x.1 _)) fun _ _ h=>h
abbrev l6:List (Nat×bw):= [(266,ia)]
theorem kR:aw Tryz.prog (aP l6):=ae nJ <| aj _
def cb {ρ:Type} (a0:List bk) (k:Bool×Unit→Option ρ):Option ρ:=
 (b8 a0).bind fun y1=>k ((decide (y1.1≥0)),())
def bJ (a0:List bk):Option (Bool×Unit):=cb a0 some
theorem ln {ρ:Type} (a0:List bk) (k:Bool×Unit→Option ρ):cb a0 k=(bJ a0).bind k:=by
 simp only [bJ,cb,Option.bind_assoc,Option.bind_some]
abbrev fS:bw:=bE [.ty (.ls (.st .place)), .fc 212] [.b] fun x=>bJ x.1
theorem l7:aB Tryz.prog 211 fS:=
 ak (Λ:=aM []) (fn:=Tryz.f211) aQ kR af (by kernel_rfl) (aI (by kernel_rfl:_= []) ah) (by kernel_rfl) (fun x=>bJ x.1)
  (fun x=>Eq.trans (by kernel_rfl:_=cb x.1 (fun y=>ret (aA [.b] y) fun v g=>some (v,g))) (ln x.1 _)) fun _ _ h=>h
abbrev Jv:List (Nat×bw):= [(211,fS)]
theorem Dd:aw Tryz.prog (aP Jv):=ae l7 <| aj _
def lp {ρ:Type} (a0:List bk) (k:Bool×Unit→Option ρ):Option ρ:=
 br ((a0.length:Int)==5) ((bJ a0).bind fun y1=>k ((!y1.1),())) (k (false,()))
def ib (a0:List bk):Option (Bool×Unit):=lp a0 some
theorem EF {ρ:Type} (a0:List bk) (k:Bool×Unit→Option ρ):lp a0 k=(ib a0).bind k:=by
 simp only [ib,lp,al,Option.bind_assoc,Option.bind_some]
abbrev tW:bw:=bE [.ty (.ls (.st .place))] [.b] fun x=>ib x.1
theorem z9:aB Tryz.prog 139 tW:=
 ak (Λ:=aM []) (fn:=Tryz.f139) aQ Dd af (by kernel_rfl) (aI (by kernel_rfl:_= []) ah) (by kernel_rfl) (fun x=>ib x.1)
  (fun x=>Eq.trans (by kernel_rfl:_=lp x.1 (fun y=>ret (aA [.b] y) fun v g=>some (v,g))) (EF x.1 _)) fun _ _ h=>h
abbrev Jw:List (Nat×bw):= [(135,gY)]
theorem De:aw Tryz.prog (aP Jw):=ae i7 <| aj _
def nK {ρ:Type} (a0:Op) (k:Bool×Unit→Option ρ):Option ρ:=
 (ce a0.client 0 2).bind fun y1=>br (!y1.1) (k (false,())) ((ce a0.seq 1 99).bind fun y2=>br (!y2.1) (k (false,())) ((ce a0.object 0 2).bind fun y3=>br (!y3.1) (k (false,())) ((ce a0.value 0 9).bind fun y4=>br (!y4.1) (k (false,())) (br (a0.kind==1) (br (a0.old==0) (k (true,())) (br (a0.kind==2) ((ce a0.old 0 9).bind fun y5=>k (y5.1,())) (k (false,())))) (br (a0.kind==2) ((ce a0.old 0 9).bind fun y6=>k (y6.1,())) (k (false,())))))))
def jq (a0:Op):Option (Bool×Unit):=nK a0 some
theorem EG {ρ:Type} (a0:Op) (k:Bool×Unit→Option ρ):nK a0 k=(jq a0).bind k:=by
 simp only [jq,nK,al,Option.bind_assoc,Option.bind_some]
abbrev Aa:bw:=bE [.ty (.st .op)] [.b] fun x=>jq x.1
theorem Jx:aB Tryz.prog 229 Aa:=
 ak (Λ:=aM []) (fn:=Tryz.f229) aQ De af (by kernel_rfl) (aI (by kernel_rfl:_= []) ah) (by kernel_rfl) (fun x=>jq x.1)
  (fun x=>Eq.trans (by kernel_rfl:_=nK x.1 (fun y=>ret (aA [.b] y) fun v g=>some (v,g))) (EG x.1 _)) fun _ _ h=>h
abbrev L4:List (Nat×bw):= [(135,gY),(229,Aa)]
theorem Df:aw Tryz.prog (aP L4):=ae i7 <| ae Jx <| aj _
noncomputable abbrev rE:Code:=cG (cz Tryz.f179) 0
abbrev jf:eJ:=⟨[(0, .cl (.ro (.st .entry))),(5, .cl (.ro (.st .entry))),(6, .cl (.int .i64)),(7, .cl (.int .i64))],[],[],0,41⟩
abbrev oq:List (X×eJ):= [(.ret,⟨[(0, .cl (.ro (.st .entry))),(2, .cl (.bl))],[],[],0,41⟩),(.ext 0,⟨[(0, .cl (.ro (.st .entry))),(2, .cl (.dead))],[],[],0,41⟩)]
def ot {ρ:Type} (v1:List bK) (v2:List bK) (v3:Int) (v4:Int) (fn: (((List bK)×(List bK)×Int×Int×Unit)×(Unit)×(Unit))→Option ρ) (fe: (((List bK)×Bool×Unit)×(Unit)×(Unit))⊕(((List bK)×Unit×Unit)×(Unit)×(Unit))→Option ρ):Option ρ:=
 br (decide (v4 < v3)) (aL (0≤v4) ((v2[v4.toNat]?).bind fun x5=>(ce x5.epoch 1 20).bind fun y6=>br (!y6.1) (fe (.inl ((v1,false,()),(()),(())))) (br (decide (v4 > 0)) (aL (0≤(IntKind.wrap .i64 (v4 - 1))) ((v1[(IntKind.wrap .i64 (v4 - 1)).toNat]?).bind fun x7=>br (decide (x5.epoch < x7.epoch)) (fe (.inl ((v1,false,()),(()),(())))) ((jq x5.op).bind fun y8=>br (!y8.1) (fe (.inl ((v1,false,()),(()),(())))) (fn ((v1,v2,v3,(IntKind.wrap .i64 (v4+1)),()),(()),(()))))) none) ((jq x5.op).bind fun y9=>br (!y9.1) (fe (.inl ((v1,false,()),(()),(())))) (fn ((v1,v2,v3,(IntKind.wrap .i64 (v4+1)),()),(()),(())))))) none) (fe (.inr ((v1,(),()),(()),(()))))
def jX (s:jf.D):Option (jf.D⊕bD.D oq):=ot s.1.1 s.1.2.1 s.1.2.2.1 s.1.2.2.2.1 (fun s=>some (.inl s)) (fun e=>some (.inr e))
def rF:jf.D→Option (bD.D oq):=j4 jX
theorem Jy {ρ:Type} (s:jf.D) (fn:jf.D→Option ρ) (fe:bD.D oq→Option ρ):ot s.1.1 s.1.2.1 s.1.2.2.1 s.1.2.2.2.1 fn fe=(jX s).bind (Sum.elim fn fe):=by
 simp only [jX,ot,al,ap,Option.bind_none,Option.bind_assoc,Option.bind_some,Sum.elim_inl,Sum.elim_inr]
abbrev FC:dk:=dD [] [0,5,6,7] jf oq rF
theorem G7 (s:jf.D):eM Θ (aP L4) (aM []) rE (jf.mk' s) (dy [0,5,6,7] [0,2] fun x S=>some (x,S))=(jX s).bind (Sum.elim (fun s'=>some (.nor,jf.mk' s')) fun e=>some (bD.e oq e)):=
 Eq.trans (by kernel_rfl:_=ot s.1.1 s.1.2.1 s.1.2.2.1 s.1.2.2.2.1 (fun s'=>some (.nor,jf.mk' s')) (fun e=>some (bD.e oq e))) (Jy s _ _)
theorem G8:cy Tryz.prog rE FC:=bm aQ Df af (by kernel_rfl) (dX (by kernel_rfl:_= []) ah) [] [0,5,6,7] [0,2] jf oq (by kernel_rfl) jX G7 rF (gT jX) (aX jX)
def tX {ρ:Type} (a0:List bK) (k:Bool×Unit→Option ρ):Option ρ:=
 (rF ((a0,a0,(a0.length:Int),0,()),(()),(()))).bind fun e10=>Sum.elim (fun e10_=>k (e10_.1.2.1,())) (fun e10_=>k ((decide ((e10_.1.1.length:Int)≤16)),())) e10
def oE (a0:List bK):Option (Bool×Unit):=tX a0 some
theorem MY {ρ:Type} (a0:List bK) (k:Bool×Unit→Option ρ):tX a0 k=(oE a0).bind k:=by
 simp only [oE,tX,cf,Option.bind_assoc,Option.bind_some]
abbrev G9:bw:=bE [.ty (.ls (.st .entry))] [.b] fun x=>oE x.1
theorem L5:aB Tryz.prog 179 G9:=
 ak (Λ:=aM [(cd rE,FC)]) (fn:=Tryz.f179) aQ Df af (by kernel_rfl) (aI (by kernel_rfl:_= [rE]) (aW (q:=cd rE) rfl G8 fun _ _ _=>by kernel_rfl)) (by kernel_rfl) (fun x=>oE x.1)
  (fun x=>Eq.trans (by kernel_rfl:_=tX x.1 (fun y=>ret (aA [.b] y) fun v g=>some (v,g))) (MY x.1 _)) fun _ _ h=>h
abbrev xu:List (Nat×bw):= []
theorem sR:aw Tryz.prog (aP xu):=aj _
noncomputable abbrev kS:Code:=cG (cz Tryz.f219) 0
abbrev du:eJ:=⟨[(0, .cl (.ro (.i .i64))),(1, .cl (.ro (.i .i64))),(12, .cl (.int .i64)),(13, .cl (.int .i64))],[],[],0,26⟩
abbrev gq:List (X×eJ):= [(.ret,⟨[(4, .cl (.bl))],[],[],0,26⟩),(.ext 0,⟨[(4, .cl (.dead))],[],[],0,26⟩)]
def gP {ρ:Type} (v1:List Int) (v2:List Int) (v3:Int) (v4:Int) (fn: (((List Int)×(List Int)×Int×Int×Unit)×(Unit)×(Unit))→Option ρ) (fe: ((Bool×Unit)×(Unit)×(Unit))⊕((Unit×Unit)×(Unit)×(Unit))→Option ρ):Option ρ:=
 br (decide (v4 < v3)) (aL (0≤v4) ((v1[v4.toNat]?).bind fun x5=>aL (0≤v4) ((v2[v4.toNat]?).bind fun x6=>br (!(x5==x6)) (fe (.inl ((false,()),(()),(())))) (fn ((v1,v2,v3,(IntKind.wrap .i64 (v4+1)),()),(()),(())))) none) none) (fe (.inr (((),()),(()),(()))))
def dS (s:du.D):Option (du.D⊕bD.D gq):=gP s.1.1 s.1.2.1 s.1.2.2.1 s.1.2.2.2.1 (fun s=>some (.inl s)) (fun e=>some (.inr e))
def kT:du.D→Option (bD.D gq):=j4 dS
theorem yZ {ρ:Type} (s:du.D) (fn:du.D→Option ρ) (fe:bD.D gq→Option ρ):gP s.1.1 s.1.2.1 s.1.2.2.1 s.1.2.2.2.1 fn fe=(dS s).bind (Sum.elim fn fe):=by
 simp only [dS,gP,al,ap,Option.bind_none,Option.bind_assoc,Option.bind_some,Sum.elim_inl,Sum.elim_inr]
abbrev tY:dk:=dD [] [0,1,12,13] du gq kT
theorem xw (s:du.D):eM Θ (aP xu) (aM []) kS (du.mk' s) (dy [0,1,12,13] [4] fun x S=>some (x,S))=(dS s).bind (Sum.elim (fun s'=>some (.nor,du.mk' s')) fun e=>some (bD.e gq e)):=
 Eq.trans (by kernel_rfl:_=gP s.1.1 s.1.2.1 s.1.2.2.1 s.1.2.2.2.1 (fun s'=>some (.nor,du.mk' s')) (fun e=>some (bD.e gq e))) (yZ s _ _)
theorem xx:cy Tryz.prog kS tY:=bm aQ sR af (by kernel_rfl) (dX (by kernel_rfl:_= []) ah) [] [0,1,12,13] [4] du gq (by kernel_rfl) dS xw kT (gT dS) (aX dS)
def l8 {ρ:Type} (a0:List Int) (a1:List Int) (k:Bool×Unit→Option ρ):Option ρ:=
 br (!((a0.length:Int)==(a1.length:Int))) (k (false,())) ((kT ((a0,a1,(a0.length:Int),0,()),(()),(()))).bind fun e7=>Sum.elim (fun e7_=>k (e7_.1.1,())) (fun e7_=>k (true,())) e7)
def lq (a0:List Int) (a1:List Int):Option (Bool×Unit):=l8 a0 a1 some
theorem Dg {ρ:Type} (a0:List Int) (a1:List Int) (k:Bool×Unit→Option ρ):l8 a0 a1 k=(lq a0 a1).bind k:=by
 simp only [lq,l8,al,cf,Option.bind_assoc,Option.bind_some]
abbrev xy:bw:=bE [.ty (.ls (.i .i64)), .ty (.ls (.i .i64))] [.b] fun x=>lq x.1 x.2.1
theorem Ha:aB Tryz.prog 219 xy:=
 ak (Λ:=aM [(cd kS,tY)]) (fn:=Tryz.f219) aQ sR af (by kernel_rfl) (aI (by kernel_rfl:_= [kS]) (aW (q:=cd kS) rfl xx fun _ _ _=>by kernel_rfl)) (by kernel_rfl) (fun x=>lq x.1 x.2.1)
  (fun x=>Eq.trans (by kernel_rfl:_=l8 x.1 x.2.1 (fun y=>ret (aA [.b] y) fun v g=>some (v,g))) (Dg x.1 x.2.1 _)) fun _ _ h=>h
abbrev Dh:List (Nat×bw):= [(219,xy)]
theorem xz:aw Tryz.prog (aP Dh):=ae Ha <| aj _
def jN {ρ:Type} (a0:List Int) (a1:List Int) (k:Bool×Unit→Option ρ):Option ρ:=
 (lq a0 a1).bind fun y1=>k (y1.1,())
def fm (a0:List Int) (a1:List Int):Option (Bool×Unit):=jN a0 a1 some
theorem za {ρ:Type} (a0:List Int) (a1:List Int) (k:Bool×Unit→Option ρ):jN a0 a1 k=(fm a0 a1).bind k:=by
 simp only [fm,jN,Option.bind_assoc,Option.bind_some]
abbrev tZ:bw:=bE [.ty (.ls (.i .i64)), .ty (.ls (.i .i64))] [.b] fun x=>fm x.1 x.2.1
theorem Di:aB Tryz.prog 160 tZ:=
 ak (Λ:=aM []) (fn:=Tryz.f160) aQ xz af (by kernel_rfl) (aI (by kernel_rfl:_= []) ah) (by kernel_rfl) (fun x=>fm x.1 x.2.1)
  (fun x=>Eq.trans (by kernel_rfl:_=jN x.1 x.2.1 (fun y=>ret (aA [.b] y) fun v g=>some (v,g))) (za x.1 x.2.1 _)) fun _ _ h=>h
abbrev Dj:List (Nat×bw):= [(160,tZ)]
theorem xA:aw Tryz.prog (aP Dj):=ae Di <| aj _
def jO {ρ:Type} (a0:ai) (a1:ai) (k:Bool×Unit→Option ρ):Option ρ:=
 br (a0.epoch==a1.epoch) (br (a0.primary==a1.primary) ((fm a0.replicas a1.replicas).bind fun y1=>br y1.1 ((fm a0.witnesses a1.witnesses).bind fun y2=>k (y2.1,())) (k (false,()))) (k (false,()))) (k (false,()))
def eA (a0:ai) (a1:ai):Option (Bool×Unit):=jO a0 a1 some
theorem zb {ρ:Type} (a0:ai) (a1:ai) (k:Bool×Unit→Option ρ):jO a0 a1 k=(eA a0 a1).bind k:=by
 simp only [eA,jO,al,Option.bind_assoc,Option.bind_some]
abbrev qa:bw:=bE [.ty (.st .config), .ty (.st .config)] [.b] fun x=>eA x.1 x.2.1
theorem t4:aB Tryz.prog 91 qa:=
 ak (Λ:=aM []) (fn:=Tryz.f91) aQ xA af (by kernel_rfl) (aI (by kernel_rfl:_= []) ah) (by kernel_rfl) (fun x=>eA x.1 x.2.1)
  (fun x=>Eq.trans (by kernel_rfl:_=jO x.1 x.2.1 (fun y=>ret (aA [.b] y) fun v g=>some (v,g))) (zb x.1 x.2.1 _)) fun _ _ h=>h
abbrev Jz:List (Nat×bw):= []
theorem Dk:aw Tryz.prog (aP Jz):=aj _
def nL {ρ:Type} (a0:List bK) (k:Int×Unit→Option ρ):Option ρ:=
 br ((a0.length:Int)==0) (k (0,())) (aL (0≤(IntKind.wrap .i64 ((a0.length:Int) - 1))) ((a0[(IntKind.wrap .i64 ((a0.length:Int) - 1)).toNat]?).bind fun x1=>k (x1.epoch,())) none)
def jr (a0:List bK):Option (Int×Unit):=nL a0 some
theorem EH {ρ:Type} (a0:List bK) (k:Int×Unit→Option ρ):nL a0 k=(jr a0).bind k:=by
 simp only [jr,nL,al,ap,Option.bind_none,Option.bind_assoc,Option.bind_some]
abbrev t5:bw:=bE [.ty (.ls (.st .entry))] [.i .i64] fun x=>jr x.1
theorem Ab:aB Tryz.prog 141 t5:=
 ak (Λ:=aM []) (fn:=Tryz.f141) aQ Dk af (by kernel_rfl) (aI (by kernel_rfl:_= []) ah) (by kernel_rfl) (fun x=>jr x.1)
  (fun x=>Eq.trans (by kernel_rfl:_=nL x.1 (fun y=>ret (aA [.i .i64] y) fun v g=>some (v,g))) (EH x.1 _)) fun _ _ h=>h
abbrev OY:List (Nat×bw):= [(176,pd),(66,oZ)]
theorem JA:aw Tryz.prog (aP OY):=ae sP <| ae qB <| aj _
def rG {ρ:Type} (a0:ai) (a1:Int) (k:Int×Unit→Option ρ):Option ρ:=
 (eH a0).bind fun y1=>br (!y1.1) (k (0,())) (br (a1==a0.primary) (k (1,())) ((fi a0.replicas a1).bind fun y2=>br y2.1 (k (2,())) ((fi a0.witnesses a1).bind fun y3=>br y3.1 (k (3,())) (k (0,())))))
def qb (a0:ai) (a1:Int):Option (Int×Unit):=rG a0 a1 some
theorem K5 {ρ:Type} (a0:ai) (a1:Int) (k:Int×Unit→Option ρ):rG a0 a1 k=(qb a0 a1).bind k:=by
 simp only [qb,rG,al,Option.bind_assoc,Option.bind_some]
abbrev JB:bw:=bE [.ty (.st .config), .ty (.i .i64)] [.i .i64] fun x=>qb x.1 x.2.1
theorem OZ:aB Tryz.prog 178 JB:=
 ak (Λ:=aM []) (fn:=Tryz.f178) aQ JA af (by kernel_rfl) (aI (by kernel_rfl:_= []) ah) (by kernel_rfl) (fun x=>qb x.1 x.2.1)
  (fun x=>Eq.trans (by kernel_rfl:_=rG x.1 x.2.1 (fun y=>ret (aA [.i .i64] y) fun v g=>some (v,g))) (K5 x.1 x.2.1 _)) fun _ _ h=>h
abbrev O0:List (Nat×bw):= [(179,G9),(135,gY)]
theorem JC:aw Tryz.prog (aP O0):=ae L5 <| ae i7 <| aj _
def rH {ρ:Type} (a0:Int) (a1:List bK) (k:Bool×Unit→Option ρ):Option ρ:=
 (oE a1).bind fun y1=>br y1.1 (br (decide ((a1.length:Int)≤3)) ((ce a0 0 (IntKind.wrap .i64 (16 - (a1.length:Int)))).bind fun y2=>br y2.1 (br (a0==0) (k (true,())) (k (((a1.length:Int)==3),()))) (k (false,()))) (k (false,()))) (k (false,()))
def qc (a0:Int) (a1:List bK):Option (Bool×Unit):=rH a0 a1 some
theorem K6 {ρ:Type} (a0:Int) (a1:List bK) (k:Bool×Unit→Option ρ):rH a0 a1 k=(qc a0 a1).bind k:=by
 simp only [qc,rH,al,Option.bind_assoc,Option.bind_some]
abbrev JD:bw:=bE [.ty (.i .i64), .ty (.ls (.st .entry))] [.b] fun x=>qc x.1 x.2.1
theorem O1:aB Tryz.prog 213 JD:=
 ak (Λ:=aM []) (fn:=Tryz.f213) aQ JC af (by kernel_rfl) (aI (by kernel_rfl:_= []) ah) (by kernel_rfl) (fun x=>qc x.1 x.2.1)
  (fun x=>Eq.trans (by kernel_rfl:_=rH x.1 x.2.1 (fun y=>ret (aA [.b] y) fun v g=>some (v,g))) (K6 x.1 x.2.1 _)) fun _ _ h=>h
abbrev A5:List (Nat×bw):= [(135,gY),(179,G9),(91,qa),(141,t5),(178,JB),(213,JD)]
theorem wb:aw Tryz.prog (aP A5):=ae i7 <| ae L5 <| ae t4 <| ae Ab <| ae OZ <| ae O1 <| aj _
def jg {ρ:Type} (a0:aZ) (a1:Int) (k:Bool×Unit→Option ρ):Option ρ:=
 (ce a0.version 1 2).bind fun y1=>br (!y1.1) (k (false,())) ((ce a0.epoch 0 20).bind fun y2=>br (!y2.1) (k (false,())) ((oE a0.log).bind fun y3=>br (!y3.1) (k (false,())) ((oE a0.learned).bind fun y4=>br (!y4.1) (k (false,())) ((ce a0.first 0 16).bind fun y5=>br (!y5.1) (k (false,())) (br (decide ((IntKind.wrap .i64 (a0.first+(a0.log.length:Int))) > 16)) (k (false,())) ((ce a0.commit 0 (IntKind.wrap .i64 (a0.first+(a0.log.length:Int)))).bind fun y6=>br (!y6.1) (k (false,())) ((eA a0.config (⟨0,0,([]:List Int),([]:List Int)⟩:ai)).bind fun y7=>br y7.1 (br (a0.first==0) (br (a0.commit==0) (k (((a0.log.length:Int)==0),())) (k (false,()))) (k (false,()))) (br (!a0.intact) (k (false,())) (br (decide (a0.epoch < a0.config.epoch)) (k (false,())) ((jr a0.log).bind fun y8=>br (decide (y8.1 > a0.config.epoch)) (k (false,())) ((qb a0.config a1).bind fun y9=>br (y9.1==1) (k ((a0.first==0),())) (br (y9.1==2) (k ((a0.first==0),())) (br (y9.1==3) ((qc a0.first a0.log).bind fun y10=>k (y10.1,())) (k (false,())))))))))))))))
def fA (a0:aZ) (a1:Int):Option (Bool×Unit):=jg a0 a1 some
theorem xB {ρ:Type} (a0:aZ) (a1:Int) (k:Bool×Unit→Option ρ):jg a0 a1 k=(fA a0 a1).bind k:=by
 simp only [fA,jg,al,Option.bind_assoc,Option.bind_some]
abbrev sS:bw:=bE [.ty (.st .server), .ty (.i .i64)] [.b] fun x=>fA x.1 x.2.1
theorem A6:aB Tryz.prog 140 sS:=
 ak (Λ:=aM []) (fn:=Tryz.f140) aQ wb af (by kernel_rfl) (aI (by kernel_rfl:_= []) ah) (by kernel_rfl) (fun x=>fA x.1 x.2.1)
  (fun x=>Eq.trans (by kernel_rfl:_=jg x.1 x.2.1 (fun y=>ret (aA [.b] y) fun v g=>some (v,g))) (xB x.1 x.2.1 _)) fun _ _ h=>h
abbrev Hb:List (Nat×bw):= []
theorem A7:aw Tryz.prog (aP Hb):=aj _
def jY {ρ:Type} (a0:ai) (k:ai×Unit→Option ρ):Option ρ:=
 aL ((([]:List Int)++a0.replicas).length*8≤2 ^ 40) (aL ((([]:List Int)++a0.witnesses).length*8≤2 ^ 40) (k ((⟨a0.epoch,a0.primary,(([]:List Int)++a0.replicas),(([]:List Int)++a0.witnesses)⟩:ai),())) none) none
def fH (a0:ai):Option (ai×Unit):=jY a0 some
theorem Dl {ρ:Type} (a0:ai) (k:ai×Unit→Option ρ):jY a0 k=(fH a0).bind k:=by
 simp only [fH,jY,ap,Option.bind_none,Option.bind_some]
abbrev xC:bw:=bE [.ty (.st .config)] [.st .config] fun x=>fH x.1
theorem Hc:aB Tryz.prog 177 xC:=
 ak (Λ:=aM []) (fn:=Tryz.f177) aQ A7 af (by kernel_rfl) (aI (by kernel_rfl:_= []) ah) (by kernel_rfl) (fun x=>fH x.1)
  (fun x=>Eq.trans (by kernel_rfl:_=jY x.1 (fun y=>ret (aA [.st .config] y) fun v g=>some (v,g))) (Dl x.1 _)) fun _ _ h=>h
abbrev K7:List (Nat×bw):= [(137,qX),(135,gY),(177,xC)]
theorem EI:aw Tryz.prog (aP K7):=ae vi <| ae i7 <| ae Hc <| aj _
def mU {ρ:Type} (a0:aD) (a1:Int) (k:ai×Bool×Unit→Option ρ):Option ρ:=
 (fQ a0).bind fun y1=>br (!y1.1) (k ((⟨0,0,([]:List Int),([]:List Int)⟩:ai),false,())) ((ce a1 1 (a0.configs.length:Int)).bind fun y2=>br (!y2.1) (k ((⟨0,0,([]:List Int),([]:List Int)⟩:ai),false,())) (aL (0≤(IntKind.wrap .i64 (a1 - 1))) ((a0.configs[(IntKind.wrap .i64 (a1 - 1)).toNat]?).bind fun x3=>(fH x3).bind fun y4=>k (y4.1,true,())) none))
def iA (a0:aD) (a1:Int):Option (ai×Bool×Unit):=mU a0 a1 some
theorem Hd {ρ:Type} (a0:aD) (a1:Int) (k:ai×Bool×Unit→Option ρ):mU a0 a1 k=(iA a0 a1).bind k:=by
 simp only [iA,mU,al,ap,Option.bind_none,Option.bind_assoc,Option.bind_some]
abbrev wc:bw:=bE [.ty (.st .masterLog), .ty (.i .i64)] [.st .config, .b] fun x=>iA x.1 x.2.1
theorem Dm:aB Tryz.prog 142 wc:=
 ak (Λ:=aM []) (fn:=Tryz.f142) aQ EI af (by kernel_rfl) (aI (by kernel_rfl:_= []) ah) (by kernel_rfl) (fun x=>iA x.1 x.2.1)
  (fun x=>Eq.trans (by kernel_rfl:_=mU x.1 x.2.1 (fun y=>ret (aA [.st .config, .b] y) fun v g=>some (v,g))) (Hd x.1 x.2.1 _)) fun _ _ h=>h
abbrev rI:List (Nat×bw):= [(135,gY),(136,C2),(137,qX),(138,yX),(139,tW),(140,sS),(141,t5),(91,qa),(142,wc)]
theorem pm:aw Tryz.prog (aP rI):=ae i7 <| ae K1 <| ae vi <| ae FB <| ae z9 <| ae A6 <| ae Ab <| ae t4 <| ae Dm <| aj _
noncomputable abbrev gr:Code:=cG (cz Tryz.f57) 0
abbrev cq:eJ:=⟨[(1, .cl (.ptr 0 0)),(57, .cl (.ro (.st .server))),(58, .cl (.int .i64)),(59, .cl (.int .i64))],[[.int .i64, .ro (.st .server), .ro (.i .i64), .ro (.st .config), .int .i64, .int .i64, .int .i64, .int .i64, .int .i64, .ro (.st .place)]],[],0,118⟩
abbrev dZ:List (X×eJ):= [(.ret,⟨[(2, .cl (.bl))],[],[],0,118⟩),(.ext 0,⟨[(2, .cl (.dead))],[],[],0,118⟩)]
def eE {ρ:Type} (v7:List aZ) (v8:Int) (v9:Int) (v10:Int) (v11:List aZ) (v12:List Int) (v13:List ai) (v14:Int) (v15:Int) (v16:Int) (v17:Int) (v18:Int) (v19:List bk) (fn: ((Unit×(List aZ)×Int×Int×Unit)×((Int×(List aZ)×(List Int)×(List ai)×Int×Int×Int×Int×Int×(List bk)×Unit)×Unit)×(Unit))→Option ρ) (fe: ((Bool×Unit)×(Unit)×(Unit))⊕((Unit×Unit)×(Unit)×(Unit))→Option ρ):Option ρ:=
 br (decide (v9 < v8)) (aL (0≤v9) ((v7[v9.toNat]?).bind fun x20=>(fA x20 v9).bind fun y21=>br (!y21.1) (fe (.inl ((false,()),(()),(())))) (br (decide (x20.epoch > (v13.length:Int))) (fe (.inl ((false,()),(()),(())))) ((jr x20.learned).bind fun y22=>br (decide (y22.1 > v14)) (fe (.inl ((false,()),(()),(())))) ((eA x20.config (⟨0,0,([]:List Int),([]:List Int)⟩:ai)).bind fun y23=>br y23.1 (fn (((),v7,v8,(IntKind.wrap .i64 (v9+1)),()),((v10,v11,v12,v13,v14,v15,v16,v17,v18,v19,()),()),(()))) ((iA (⟨v13,v14⟩:aD) x20.config.epoch).bind fun y24=>br (!y24.2.1) (fe (.inl ((false,()),(()),(())))) ((eA y24.1 x20.config).bind fun y25=>br (!y25.1) (fe (.inl ((false,()),(()),(())))) (br (decide (x20.config.epoch > v14)) (fe (.inl ((false,()),(()),(())))) (fn (((),v7,v8,(IntKind.wrap .i64 (v9+1)),()),((v10,v11,v12,v13,v14,v15,v16,v17,v18,v19,()),()),(())))))))))) none) (fe (.inr (((),()),(()),(()))))
def cI (s:cq.D):Option (cq.D⊕bD.D dZ):=eE s.1.2.1 s.1.2.2.1 s.1.2.2.2.1 s.2.1.1.1 s.2.1.1.2.1 s.2.1.1.2.2.1 s.2.1.1.2.2.2.1 s.2.1.1.2.2.2.2.1 s.2.1.1.2.2.2.2.2.1 s.2.1.1.2.2.2.2.2.2.1 s.2.1.1.2.2.2.2.2.2.2.1 s.2.1.1.2.2.2.2.2.2.2.2.1 s.2.1.1.2.2.2.2.2.2.2.2.2.1 (fun s=>some (.inl s)) (fun e=>some (.inr e))
def gt:cq.D→Option (bD.D dZ):=j4 cI
theorem t6 {ρ:Type} (s:cq.D) (fn:cq.D→Option ρ) (fe:bD.D dZ→Option ρ):eE s.1.2.1 s.1.2.2.1 s.1.2.2.2.1 s.2.1.1.1 s.2.1.1.2.1 s.2.1.1.2.2.1 s.2.1.1.2.2.2.1 s.2.1.1.2.2.2.2.1 s.2.1.1.2.2.2.2.2.1 s.2.1.1.2.2.2.2.2.2.1 s.2.1.1.2.2.2.2.2.2.2.1 s.2.1.1.2.2.2.2.2.2.2.2.1 s.2.1.1.2.2.2.2.2.2.2.2.2.1 fn fe=(cI s).bind (Sum.elim fn fe):=by
 simp only [cI,eE,al,ap,Option.bind_none,Option.bind_assoc,Option.bind_some,Sum.elim_inl,Sum.elim_inr]
abbrev qd:dk:=dD [] [1,57,58,59] cq dZ gt
theorem s4 (s:cq.D):eM Θ (aP rI) (aM []) gr (cq.mk' s) (dy [1,57,58,59] [2] fun x S=>some (x,S))=(cI s).bind (Sum.elim (fun s'=>some (.nor,cq.mk' s')) fun e=>some (bD.e dZ e)):=
 Eq.trans (by kernel_rfl:_=eE s.1.2.1 s.1.2.2.1 s.1.2.2.2.1 s.2.1.1.1 s.2.1.1.2.1 s.2.1.1.2.2.1 s.2.1.1.2.2.2.1 s.2.1.1.2.2.2.2.1 s.2.1.1.2.2.2.2.2.1 s.2.1.1.2.2.2.2.2.2.1 s.2.1.1.2.2.2.2.2.2.2.1 s.2.1.1.2.2.2.2.2.2.2.2.1 s.2.1.1.2.2.2.2.2.2.2.2.2.1 (fun s'=>some (.nor,cq.mk' s')) (fun e=>some (bD.e dZ e))) (t6 s _ _)
theorem s5:cy Tryz.prog gr qd:=bm aQ pm af (by kernel_rfl) (dX (by kernel_rfl:_= []) ah) [] [1,57,58,59] [2] cq dZ (by kernel_rfl) cI s4 gt (gT cI) (aX cI)
def ic {ρ:Type} (a0:ax) (k:Bool×Unit→Option ρ):Option ρ:=
 (ce a0.now 0 999).bind fun y1=>br (!y1.1) (k (false,())) (br (!((a0.servers.length:Int)==5)) (k (false,())) ((kI a0.sides).bind fun y2=>br (!y2.1) (k (false,())) ((fQ a0.master).bind fun y3=>br (!y3.1) (k (false,())) ((lj a0.lease).bind fun y4=>br (!y4.1) (k (false,())) ((ib a0.places).bind fun y5=>br (!y5.1) (k (false,())) ((ce a0.masterUp 0 3).bind fun y6=>br (!y6.1) (k (false,())) (br (decide (a0.lease.epoch > a0.master.activated)) (k (false,())) ((gt (((),a0.servers,(a0.servers.length:Int),0,()),((a0.now,a0.servers,a0.sides,a0.master.configs,a0.master.activated,a0.masterUp,a0.lease.epoch,a0.lease.holder,a0.lease.ends,a0.places,()),()),(()))).bind fun e26=>Sum.elim (fun e26_=>k (e26_.1.1,())) (fun e26_=>k (true,())) e26))))))))
def eT (a0:ax):Option (Bool×Unit):=ic a0 some
theorem wd {ρ:Type} (a0:ax) (k:Bool×Unit→Option ρ):ic a0 k=(eT a0).bind k:=by
 simp only [eT,ic,al,cf,Option.bind_assoc,Option.bind_some]
abbrev rJ:bw:=bE [.ty (.st .cluster)] [.b] fun x=>eT x.1
theorem zd:aB Tryz.prog 57 rJ:=
 ak (Λ:=aM [(cd gr,qd)]) (fn:=Tryz.f57) aQ pm af (by kernel_rfl) (aI (by kernel_rfl:_= [gr]) (aW (q:=cd gr) rfl s5 fun _ _ _=>by kernel_rfl)) (by kernel_rfl) (fun x=>eT x.1)
  (fun x=>Eq.trans (by kernel_rfl:_=ic x.1 (fun y=>ret (aA [.b] y) fun v g=>some (v,g))) (wd x.1 _)) fun _ _ h=>h
abbrev EJ:List (Nat×bw):= []
theorem zf:aw Tryz.prog (aP EJ):=aj _
def kU {ρ:Type} (a0:ax) (k:Bool×Unit→Option ρ):Option ρ:=
 k ((decide ((IntKind.wrap .i64 (2*a0.masterUp)) > 3)),())
def jZ (a0:ax):Option (Bool×Unit):=kU a0 some
theorem A8 {ρ:Type} (a0:ax) (k:Bool×Unit→Option ρ):kU a0 k=(jZ a0).bind k:=by
 simp only [jZ,kU,Option.bind_some]
abbrev vj:bw:=bE [.ty (.st .cluster)] [.b] fun x=>jZ x.1
theorem EK:aB Tryz.prog 58 vj:=
 ak (Λ:=aM []) (fn:=Tryz.f58) aQ zf af (by kernel_rfl) (aI (by kernel_rfl:_= []) ah) (by kernel_rfl) (fun x=>jZ x.1)
  (fun x=>Eq.trans (by kernel_rfl:_=kU x.1 (fun y=>ret (aA [.b] y) fun v g=>some (v,g))) (A8 x.1 _)) fun _ _ h=>h
abbrev K8:List (Nat×bw):= [(138,yX)]
theorem EL:aw Tryz.prog (aP K8):=ae FB <| aj _
def o3 {ρ:Type} (a0:fC) (k:Int×Unit→Option ρ):Option ρ:=
 br ((a0.epoch==0)&&((a0.holder==0)&&((a0.ends==0)&&true))) (k (0,())) ((lj a0).bind fun y1=>br (!y1.1) (k (0,())) (k ((IntKind.wrap .i64 (a0.ends+3)),())))
def mD (a0:fC):Option (Int×Unit):=o3 a0 some
theorem He {ρ:Type} (a0:fC) (k:Int×Unit→Option ρ):o3 a0 k=(mD a0).bind k:=by
 simp only [mD,o3,al,Option.bind_assoc,Option.bind_some]
abbrev Dn:bw:=bE [.ty (.st .lease)] [.i .i64] fun x=>mD x.1
theorem K9:aB Tryz.prog 59 Dn:=
 ak (Λ:=aM []) (fn:=Tryz.f59) aQ EL af (by kernel_rfl) (aI (by kernel_rfl:_= []) ah) (by kernel_rfl) (fun x=>mD x.1)
  (fun x=>Eq.trans (by kernel_rfl:_=o3 x.1 (fun y=>ret (aA [.i .i64] y) fun v g=>some (v,g))) (He x.1 _)) fun _ _ h=>h
abbrev A9:List (Nat×bw):= [(142,wc)]
theorem we:aw Tryz.prog (aP A9):=ae Dm <| aj _
def jh {ρ:Type} (a0:aD) (k:ai×Bool×Unit→Option ρ):Option ρ:=
 (iA a0 a0.activated).bind fun y1=>k (y1.1,y1.2.1,())
def fB (a0:aD):Option (ai×Bool×Unit):=jh a0 some
theorem xD {ρ:Type} (a0:aD) (k:ai×Bool×Unit→Option ρ):jh a0 k=(fB a0).bind k:=by
 simp only [fB,jh,Option.bind_assoc,Option.bind_some]
abbrev sT:bw:=bE [.ty (.st .masterLog)] [.st .config, .b] fun x=>fB x.1
theorem Ba:aB Tryz.prog 60 sT:=
 ak (Λ:=aM []) (fn:=Tryz.f60) aQ we af (by kernel_rfl) (aI (by kernel_rfl:_= []) ah) (by kernel_rfl) (fun x=>fB x.1)
  (fun x=>Eq.trans (by kernel_rfl:_=jh x.1 (fun y=>ret (aA [.st .config, .b] y) fun v g=>some (v,g))) (xD x.1 _)) fun _ _ h=>h
abbrev xE:List (Nat×bw):= []
theorem sU:aw Tryz.prog (aP xE):=aj _
noncomputable abbrev kV:Code:=cG (cz Tryz.f62) 0
abbrev dv:eJ:=⟨[(1, .cl (.own 0 (.i .i64))),(4, .cl (.int .i64))],[],[.i .i64],0,13⟩
abbrev gv:List (X×eJ):= [(.ext 0,⟨[(1, .cl (.own 0 (.i .i64)))],[],[.i .i64],0,13⟩)]
def mm {ρ:Type} (v1:List Int) (v2:Int) (fn: ((Unit×Int×Unit)×(Unit)×((List Int)×Unit))→Option ρ) (fe: ((Unit×Unit)×(Unit)×((List Int)×Unit))→Option ρ):Option ρ:=
 br (decide (v2 < 5)) (aL ((v1++([v2]:List Int)).length*8≤2 ^ 40) (fn (((),(IntKind.wrap .i64 (v2+1)),()),(()),((v1++([v2]:List Int)),()))) none) (fe (((),()),(()),(v1,())))
def gx (s:dv.D):Option (dv.D⊕bD.D gv):=mm s.2.2.1 s.1.2.1 (fun s=>some (.inl s)) (fun e=>some (.inr e))
def nM:dv.D→Option (bD.D gv):=j4 gx
theorem zg {ρ:Type} (s:dv.D) (fn:dv.D→Option ρ) (fe:bD.D gv→Option ρ):mm s.2.2.1 s.1.2.1 fn fe=(gx s).bind (Sum.elim fn fe):=by
 simp only [gx,mm,al,ap,Option.bind_none,Option.bind_some,Sum.elim_inl,Sum.elim_inr]
abbrev t7:dk:=dD [] [1,4] dv gv nM
theorem xF (s:dv.D):eM Θ (aP xE) (aM []) kV (dv.mk' s) (dy [1,4] [1] fun x S=>some (x,S))=(gx s).bind (Sum.elim (fun s'=>some (.nor,dv.mk' s')) fun e=>some (bD.e gv e)):=
 Eq.trans (by kernel_rfl:_=mm s.2.2.1 s.1.2.1 (fun s'=>some (.nor,dv.mk' s')) (fun e=>some (bD.e gv e))) (zg s _ _)
theorem xG:cy Tryz.prog kV t7:=bm aQ sU af (by kernel_rfl) (dX (by kernel_rfl:_= []) ah) [] [1,4] [1] dv gv (by kernel_rfl) gx xF nM (gT gx) (aX gx)
def l9 {ρ:Type} (k: (List Int)×Unit→Option ρ):Option ρ:=
 (nM (((),0,()),(()),(([]:List Int),()))).bind fun e3=>k (e3.2.2.1,())
def jA:Option ((List Int)×Unit):=l9 some
theorem Dp {ρ:Type} (k: (List Int)×Unit→Option ρ):l9 k=(jA).bind k:=by
 simp only [jA,l9,Option.bind_assoc,Option.bind_some]
abbrev xH:bw:=bE [] [.ls (.i .i64)] fun x=>jA
theorem Hf:aB Tryz.prog 62 xH:=
 ak (Λ:=aM [(cd kV,t7)]) (fn:=Tryz.f62) aQ sU af (by kernel_rfl) (aI (by kernel_rfl:_= [kV]) (aW (q:=cd kV) rfl xG fun _ _ _=>by kernel_rfl)) (by kernel_rfl) (fun x=>jA)
  (fun x=>Eq.trans (by kernel_rfl:_=l9 (fun y=>ret (aA [.ls (.i .i64)] y) fun v g=>some (v,g))) (Dp _)) fun _ _ h=>h
abbrev La:List (Nat×bw):= []
theorem EM:aw Tryz.prog (aP La):=aj _
def o4 {ρ:Type} (a0:ax) (a1:Int) (k:Bool×Unit→Option ρ):Option ρ:=
 aL (0≤a1) ((a0.servers[a1.toNat]?).bind fun x1=>br x1.up (aL (0≤a1) ((a0.sides[a1.toNat]?).bind fun x2=>k ((x2==0),())) none) (k (false,()))) none
def mE (a0:ax) (a1:Int):Option (Bool×Unit):=o4 a0 a1 some
theorem Hg {ρ:Type} (a0:ax) (a1:Int) (k:Bool×Unit→Option ρ):o4 a0 a1 k=(mE a0 a1).bind k:=by
 simp only [mE,o4,al,ap,Option.bind_none,Option.bind_assoc,Option.bind_some]
abbrev Dq:bw:=bE [.ty (.st .cluster), .ty (.i .i64)] [.b] fun x=>mE x.1 x.2.1
theorem Lb:aB Tryz.prog 64 Dq:=
 ak (Λ:=aM []) (fn:=Tryz.f64) aQ EM af (by kernel_rfl) (aI (by kernel_rfl:_= []) ah) (by kernel_rfl) (fun x=>mE x.1 x.2.1)
  (fun x=>Eq.trans (by kernel_rfl:_=o4 x.1 x.2.1 (fun y=>ret (aA [.b] y) fun v g=>some (v,g))) (Hg x.1 x.2.1 _)) fun _ _ h=>h
abbrev MZ:List (Nat×bw):= [(139,tW),(135,gY)]
theorem Hh:aw Tryz.prog (aP MZ):=ae z9 <| ae i7 <| aj _
def qe {ρ:Type} (a0:List bk) (a1:Int) (k:Bool×Unit→Option ρ):Option ρ:=
 (ib a0).bind fun y1=>br y1.1 ((ce a1 0 4).bind fun y2=>br y2.1 (aL (0≤a1) ((a0[a1.toNat]?).bind fun x3=>aL (0≤a1) ((a0[a1.toNat]?).bind fun x4=>k ((decide (x3.load < x4.capacity)),())) none) none) (k (false,()))) (k (false,()))
def ou (a0:List bk) (a1:Int):Option (Bool×Unit):=qe a0 a1 some
theorem JE {ρ:Type} (a0:List bk) (a1:Int) (k:Bool×Unit→Option ρ):qe a0 a1 k=(ou a0 a1).bind k:=by
 simp only [ou,qe,al,ap,Option.bind_none,Option.bind_assoc,Option.bind_some]
abbrev FD:bw:=bE [.ty (.ls (.st .place)), .ty (.i .i64)] [.b] fun x=>ou x.1 x.2.1
theorem M0:aB Tryz.prog 65 FD:=
 ak (Λ:=aM []) (fn:=Tryz.f65) aQ Hh af (by kernel_rfl) (aI (by kernel_rfl:_= []) ah) (by kernel_rfl) (fun x=>ou x.1 x.2.1)
  (fun x=>Eq.trans (by kernel_rfl:_=qe x.1 x.2.1 (fun y=>ret (aA [.b] y) fun v g=>some (v,g))) (JE x.1 x.2.1 _)) fun _ _ h=>h
abbrev Dr:List (Nat×bw):= [(64,Dq),(65,FD),(66,oZ)]
theorem xI:aw Tryz.prog (aP Dr):=ae Lb <| ae M0 <| ae qB <| aj _
def jP {ρ:Type} (a0:Int) (a1:ax) (a2:Bool) (a3:ai) (k:Bool×Unit→Option ρ):Option ρ:=
 (mE a1 a0).bind fun y1=>br (!y1.1) (k (false,())) (br (!a2) ((ou a1.places a0).bind fun y2=>k (y2.1,())) ((fi a3.replicas a0).bind fun y3=>br y3.1 (aL (0≤a0) ((a1.servers[a0.toNat]?).bind fun x4=>k ((x4.config.epoch==a3.epoch),())) none) (k (false,()))))
def gy (a0:Int) (a1:ax) (a2:Bool) (a3:ai):Option (Bool×Unit):=jP a0 a1 a2 a3 some
theorem zh {ρ:Type} (a0:Int) (a1:ax) (a2:Bool) (a3:ai) (k:Bool×Unit→Option ρ):jP a0 a1 a2 a3 k=(gy a0 a1 a2 a3).bind k:=by
 simp only [gy,jP,al,ap,Option.bind_none,Option.bind_assoc,Option.bind_some]
abbrev t8:bw:=bE [.ty (.i .i64), .pr (.st .cluster), .pr (.b), .pr (.st .config)] [.b] fun x=>gy x.1 x.2.1 x.2.2.1 x.2.2.2.1
theorem Ds:aB Tryz.prog 63 t8:=
 ak (Λ:=aM []) (fn:=Tryz.f63) aQ xI af (by kernel_rfl) (aI (by kernel_rfl:_= []) ah) (by kernel_rfl) (fun x=>gy x.1 x.2.1 x.2.2.1 x.2.2.2.1)
  (fun x=>Eq.trans (by kernel_rfl:_=jP x.1 x.2.1 x.2.2.1 x.2.2.2.1 (fun y=>ret (aA [.b] y) fun v g=>some (v,g))) (zh x.1 x.2.1 x.2.2.1 x.2.2.2.1 _)) fun _ _ h=>h
abbrev ji:List (Nat×bw):= [(63,t8)]
theorem gE:aw Tryz.prog (aP ji):=ae Ds <| aj _
noncomputable abbrev cE:Code:=cG (cz Tryz.f143) 0
abbrev aH:eJ:=⟨[(0, .cl (.ro (.i .i64))),(1, .fn 63 [.pro (.st .cluster), .pro (.b), .pro (.st .config)]),(7, .cl (.int .i64)),(8, .cl (.int .i64))],[],[],0,19⟩
abbrev bC:List (X×eJ):= [(.ret,⟨[(4, .cl (.int .i64))],[],[],0,19⟩),(.ext 0,⟨[(4, .cl (.dead))],[],[],0,19⟩)]
def bP {ρ:Type} (v1:List Int) (v2:ax) (v3:Bool) (v4:ai) (v5:Int) (v6:Int) (fn: (((List Int)×(ax×Bool×ai×Unit)×Int×Int×Unit)×(Unit)×(Unit))→Option ρ) (fe: ((Int×Unit)×(Unit)×(Unit))⊕((Unit×Unit)×(Unit)×(Unit))→Option ρ):Option ρ:=
 br (decide (v6 < v5)) (aL (0≤v6) ((v1[v6.toNat]?).bind fun x7=>(gy x7 v2 v3 v4).bind fun y8=>br y8.1 (fe (.inl ((v6,()),(()),(())))) (fn ((v1,(v2,v3,v4,()),v5,(IntKind.wrap .i64 (v6+1)),()),(()),(())))) none) (fe (.inr (((),()),(()),(()))))
def aO (s:aH.D):Option (aH.D⊕bD.D bC):=bP s.1.1 s.1.2.1.1 s.1.2.1.2.1 s.1.2.1.2.2.1 s.1.2.2.1 s.1.2.2.2.1 (fun s=>some (.inl s)) (fun e=>some (.inr e))
def cF:aH.D→Option (bD.D bC):=j4 aO
theorem mF {ρ:Type} (s:aH.D) (fn:aH.D→Option ρ) (fe:bD.D bC→Option ρ):bP s.1.1 s.1.2.1.1 s.1.2.1.2.1 s.1.2.1.2.2.1 s.1.2.2.1 s.1.2.2.2.1 fn fe=(aO s).bind (Sum.elim fn fe):=by
 simp only [aO,bP,al,ap,Option.bind_none,Option.bind_assoc,Option.bind_some,Sum.elim_inl,Sum.elim_inr]
abbrev ig:dk:=dD [] [0,1,7,8] aH bC cF
theorem ma (s:aH.D):eM Θ (aP ji) (aM []) cE (aH.mk' s) (dy [0,1,7,8] [4] fun x S=>some (x,S))=(aO s).bind (Sum.elim (fun s'=>some (.nor,aH.mk' s')) fun e=>some (bD.e bC e)):=
 Eq.trans (by kernel_rfl:_=bP s.1.1 s.1.2.1.1 s.1.2.1.2.1 s.1.2.1.2.2.1 s.1.2.2.1 s.1.2.2.2.1 (fun s'=>some (.nor,aH.mk' s')) (fun e=>some (bD.e bC e))) (mF s _ _)
theorem mb:cy Tryz.prog cE ig:=bm aQ gE af (by kernel_rfl) (dX (by kernel_rfl:_= []) ah) [] [0,1,7,8] [4] aH bC (by kernel_rfl) aO ma cF (gT aO) (aX aO)
def cN {ρ:Type} (a0:List Int) (a1_0:ax) (a1_1:Bool) (a1_2:ai) (k:Int×Unit→Option ρ):Option ρ:=
 (cF ((a0,(a1_0,a1_1,a1_2,()),(a0.length:Int),0,()),(()),(()))).bind fun e9=>Sum.elim (fun e9_=>k (e9_.1.1,())) (fun e9_=>k ((-1),())) e9
def ch (a0:List Int) (a1_0:ax) (a1_1:Bool) (a1_2:ai):Option (Int×Unit):=cN a0 a1_0 a1_1 a1_2 some
theorem nN {ρ:Type} (a0:List Int) (a1_0:ax) (a1_1:Bool) (a1_2:ai) (k:Int×Unit→Option ρ):cN a0 a1_0 a1_1 a1_2 k=(ch a0 a1_0 a1_1 a1_2).bind k:=by
 simp only [ch,cN,cf,Option.bind_assoc,Option.bind_some]
abbrev jj:bw:=bE [.ty (.ls (.i .i64)), .fn 63 [.st .cluster, .b, .st .config]] [.i .i64] fun x=>ch x.1 x.2.1.1 x.2.1.2.1 x.2.1.2.2.1
theorem ov:aB Tryz.prog 143 jj:=
 ak (Λ:=aM [(cd cE,ig)]) (fn:=Tryz.f143) aQ gE af (by kernel_rfl) (aI (by kernel_rfl:_= [cE]) (aW (q:=cd cE) rfl mb fun _ _ _=>by kernel_rfl)) (by kernel_rfl) (fun x=>ch x.1 x.2.1.1 x.2.1.2.1 x.2.1.2.2.1)
  (fun x=>Eq.trans (by kernel_rfl:_=cN x.1 x.2.1.1 x.2.1.2.1 x.2.1.2.2.1 (fun y=>ret (aA [.i .i64] y) fun v g=>some (v,g))) (nN x.1 x.2.1.1 x.2.1.2.1 x.2.1.2.2.1 _)) fun _ _ h=>h
abbrev mZ:List (Nat×bw):= [(143,jj)]
theorem lB:aw Tryz.prog (aP mZ):=ae ov <| aj _
def cr {ρ:Type} (a0:List Int) (a1_0:ax) (a1_1:Bool) (a1_2:ai) (k:Bool×Unit→Option ρ):Option ρ:=
 (ch a0 a1_0 a1_1 a1_2).bind fun y1=>k ((decide (y1.1≥0)),())
def bu (a0:List Int) (a1_0:ax) (a1_1:Bool) (a1_2:ai):Option (Bool×Unit):=cr a0 a1_0 a1_1 a1_2 some
theorem mc {ρ:Type} (a0:List Int) (a1_0:ax) (a1_1:Bool) (a1_2:ai) (k:Bool×Unit→Option ρ):cr a0 a1_0 a1_1 a1_2 k=(bu a0 a1_0 a1_1 a1_2).bind k:=by
 simp only [bu,cr,Option.bind_assoc,Option.bind_some]
abbrev gF:bw:=bE [.ty (.ls (.i .i64)), .fn 63 [.st .cluster, .b, .st .config]] [.b] fun x=>bu x.1 x.2.1.1 x.2.1.2.1 x.2.1.2.2.1
theorem m0:aB Tryz.prog 61 gF:=
 ak (Λ:=aM []) (fn:=Tryz.f61) aQ lB af (by kernel_rfl) (aI (by kernel_rfl:_= []) ah) (by kernel_rfl) (fun x=>bu x.1 x.2.1.1 x.2.1.2.1 x.2.1.2.2.1)
  (fun x=>Eq.trans (by kernel_rfl:_=cr x.1 x.2.1.1 x.2.1.2.1 x.2.1.2.2.1 (fun y=>ret (aA [.b] y) fun v g=>some (v,g))) (mc x.1 x.2.1.1 x.2.1.2.1 x.2.1.2.2.1 _)) fun _ _ h=>h
abbrev JF:List (Nat×bw):= [(57,rJ),(58,vj),(59,Dn),(60,sT),(62,xH),(61,gF)]
theorem Dt:aw Tryz.prog (aP JF):=ae zd <| ae EK <| ae K9 <| ae Ba <| ae Hf <| ae m0 <| aj _
def nP {ρ:Type} (a0:ax) (k:Bool×Unit→Option ρ):Option ρ:=
 (eT a0).bind fun y1=>br (!y1.1) (k (false,())) ((jZ a0).bind fun y2=>br (!y2.1) (k (false,())) (br (decide ((a0.master.configs.length:Int) > 18)) (k (false,())) ((mD a0.lease).bind fun y3=>br (decide (y3.1 > 999)) (k (false,())) ((fB a0.master).bind fun y4=>(jA).bind fun y5=>(bu y5.1 a0 y4.2.1 y4.1).bind fun y6=>k (y6.1,())))))
def kW (a0:ax):Option (Bool×Unit):=nP a0 some
theorem EN {ρ:Type} (a0:ax) (k:Bool×Unit→Option ρ):nP a0 k=(kW a0).bind k:=by
 simp only [kW,nP,al,Option.bind_assoc,Option.bind_some]
abbrev Ad:bw:=bE [.ty (.st .cluster)] [.b] fun x=>kW x.1
theorem JG:aB Tryz.prog 15 Ad:=
 ak (Λ:=aM []) (fn:=Tryz.f15) aQ Dt af (by kernel_rfl) (aI (by kernel_rfl:_= []) ah) (by kernel_rfl) (fun x=>kW x.1)
  (fun x=>Eq.trans (by kernel_rfl:_=nP x.1 (fun y=>ret (aA [.b] y) fun v g=>some (v,g))) (EN x.1 _)) fun _ _ h=>h
abbrev JH:List (Nat×bw):= []
theorem Ae:aw Tryz.prog (aP JH):=aj _
noncomputable abbrev qf:Code:=cG (cz Tryz.f19) 0
abbrev gz:eJ:=⟨[(0, .cl (.ro (.i .i64))),(1, .cl (.ro (.i .i64))),(5, .cl (.int .i64))],[],[],0,26⟩
abbrev mG:List (X×eJ):= [(.ret,⟨[(4, .cl (.bl))],[],[],0,26⟩),(.ext 0,⟨[(4, .cl (.dead))],[],[],0,26⟩)]
def qF {ρ:Type} (v1:List Int) (v2:List Int) (v3:Int) (fn: (((List Int)×(List Int)×Int×Unit)×(Unit)×(Unit))→Option ρ) (fe: ((Bool×Unit)×(Unit)×(Unit))⊕((Unit×Unit)×(Unit)×(Unit))→Option ρ):Option ρ:=
 br (decide (v3 < (v1.length:Int))) (aL (0≤v3) ((v1[v3.toNat]?).bind fun x4=>aL (0≤v3) ((v2[v3.toNat]?).bind fun x5=>br (!(x4==x5)) (fe (.inl ((false,()),(()),(())))) (fn ((v1,v2,(IntKind.wrap .i64 (v3+1)),()),(()),(())))) none) none) (fe (.inr (((),()),(()),(()))))
def kX (s:gz.D):Option (gz.D⊕bD.D mG):=qF s.1.1 s.1.2.1 s.1.2.2.1 (fun s=>some (.inl s)) (fun e=>some (.inr e))
def wg:gz.D→Option (bD.D mG):=j4 kX
theorem Hi {ρ:Type} (s:gz.D) (fn:gz.D→Option ρ) (fe:bD.D mG→Option ρ):qF s.1.1 s.1.2.1 s.1.2.2.1 fn fe=(kX s).bind (Sum.elim fn fe):=by
 simp only [kX,qF,al,ap,Option.bind_none,Option.bind_assoc,Option.bind_some,Sum.elim_inl,Sum.elim_inr]
abbrev Du:dk:=dD [] [0,1,5] gz mG wg
theorem EO (s:gz.D):eM Θ (aP JH) (aM []) qf (gz.mk' s) (dy [0,1,5] [4] fun x S=>some (x,S))=(kX s).bind (Sum.elim (fun s'=>some (.nor,gz.mk' s')) fun e=>some (bD.e mG e)):=
 Eq.trans (by kernel_rfl:_=qF s.1.1 s.1.2.1 s.1.2.2.1 (fun s'=>some (.nor,gz.mk' s')) (fun e=>some (bD.e mG e))) (Hi s _ _)
theorem EP:cy Tryz.prog qf Du:=bm aQ Ae af (by kernel_rfl) (dX (by kernel_rfl:_= []) ah) [] [0,1,5] [4] gz mG (by kernel_rfl) kX EO wg (gT kX) (aX kX)
def uG {ρ:Type} (a0:List Int) (a1:List Int) (k:Bool×Unit→Option ρ):Option ρ:=
 br (!((a0.length:Int)==(a1.length:Int))) (k (false,())) ((wg ((a0,a1,0,()),(()),(()))).bind fun e6=>Sum.elim (fun e6_=>k (e6_.1.1,())) (fun e6_=>k (true,())) e6)
def nQ (a0:List Int) (a1:List Int):Option (Bool×Unit):=uG a0 a1 some
theorem Lc {ρ:Type} (a0:List Int) (a1:List Int) (k:Bool×Unit→Option ρ):uG a0 a1 k=(nQ a0 a1).bind k:=by
 simp only [nQ,uG,al,cf,Option.bind_assoc,Option.bind_some]
abbrev Dv:bw:=bE [.ty (.ls (.i .i64)), .ty (.ls (.i .i64))] [.b] fun x=>nQ x.1 x.2.1
theorem JI:aB Tryz.prog 19 Dv:=
 ak (Λ:=aM [(cd qf,Du)]) (fn:=Tryz.f19) aQ Ae af (by kernel_rfl) (aI (by kernel_rfl:_= [qf]) (aW (q:=cd qf) rfl EP fun _ _ _=>by kernel_rfl)) (by kernel_rfl) (fun x=>nQ x.1 x.2.1)
  (fun x=>Eq.trans (by kernel_rfl:_=uG x.1 x.2.1 (fun y=>ret (aA [.b] y) fun v g=>some (v,g))) (Lc x.1 x.2.1 _)) fun _ _ h=>h
abbrev Ld:List (Nat×bw):= [(19,Dv)]
theorem ES:aw Tryz.prog (aP Ld):=ae JI <| aj _
def o5 {ρ:Type} (a0:ai) (a1:ai) (k:Bool×Unit→Option ρ):Option ρ:=
 br (!(a0.epoch==a1.epoch)) (k (false,())) (br (!(a0.primary==a1.primary)) (k (false,())) ((nQ a0.replicas a1.replicas).bind fun y1=>br (!y1.1) (k (false,())) ((nQ a0.witnesses a1.witnesses).bind fun y2=>br (!y2.1) (k (false,())) (k (true,())))))
def jB (a0:ai) (a1:ai):Option (Bool×Unit):=o5 a0 a1 some
theorem Hj {ρ:Type} (a0:ai) (a1:ai) (k:Bool×Unit→Option ρ):o5 a0 a1 k=(jB a0 a1).bind k:=by
 simp only [jB,o5,al,Option.bind_assoc,Option.bind_some]
abbrev wi:bw:=bE [.ty (.st .config), .ty (.st .config)] [.b] fun x=>jB x.1 x.2.1
theorem Dw:aB Tryz.prog 215 wi:=
 ak (Λ:=aM []) (fn:=Tryz.f215) aQ ES af (by kernel_rfl) (aI (by kernel_rfl:_= []) ah) (by kernel_rfl) (fun x=>jB x.1 x.2.1)
  (fun x=>Eq.trans (by kernel_rfl:_=o5 x.1 x.2.1 (fun y=>ret (aA [.b] y) fun v g=>some (v,g))) (Hj x.1 x.2.1 _)) fun _ _ h=>h
abbrev Rr:List (Nat×bw):= []
theorem M1:aw Tryz.prog (aP Rr):=aj _
def xJ {ρ:Type} (a0:Op) (a1:Op) (k:Bool×Unit→Option ρ):Option ρ:=
 br (!(a0.client==a1.client)) (k (false,())) (br (!(a0.seq==a1.seq)) (k (false,())) (br (!(a0.kind==a1.kind)) (k (false,())) (br (!(a0.object==a1.object)) (k (false,())) (br (!(a0.old==a1.old)) (k (false,())) (br (!(a0.value==a1.value)) (k (false,())) (k (true,())))))))
def wj (a0:Op) (a1:Op):Option (Bool×Unit):=xJ a0 a1 some
theorem O2 {ρ:Type} (a0:Op) (a1:Op) (k:Bool×Unit→Option ρ):xJ a0 a1 k=(wj a0 a1).bind k:=by
 simp only [wj,xJ,al,Option.bind_some]
abbrev O3:bw:=bE [.ty (.st .op), .ty (.st .op)] [.b] fun x=>wj x.1 x.2.1
theorem Rs:aB Tryz.prog 153 O3:=
 ak (Λ:=aM []) (fn:=Tryz.f153) aQ M1 af (by kernel_rfl) (aI (by kernel_rfl:_= []) ah) (by kernel_rfl) (fun x=>wj x.1 x.2.1)
  (fun x=>Eq.trans (by kernel_rfl:_=xJ x.1 x.2.1 (fun y=>ret (aA [.b] y) fun v g=>some (v,g))) (O2 x.1 x.2.1 _)) fun _ _ h=>h
abbrev M2:List (Nat×bw):= [(153,O3)]
theorem Hk:aw Tryz.prog (aP M2):=ae Rs <| aj _
def qg {ρ:Type} (a0:bK) (a1:bK) (k:Bool×Unit→Option ρ):Option ρ:=
 br (!(a0.epoch==a1.epoch)) (k (false,())) ((wj a0.op a1.op).bind fun y1=>br (!y1.1) (k (false,())) (k (true,())))
def mW (a0:bK) (a1:bK):Option (Bool×Unit):=qg a0 a1 some
theorem JJ {ρ:Type} (a0:bK) (a1:bK) (k:Bool×Unit→Option ρ):qg a0 a1 k=(mW a0 a1).bind k:=by
 simp only [mW,qg,al,Option.bind_assoc,Option.bind_some]
abbrev FE:bw:=bE [.ty (.st .entry), .ty (.st .entry)] [.b] fun x=>mW x.1 x.2.1
theorem M3:aB Tryz.prog 81 FE:=
 ak (Λ:=aM []) (fn:=Tryz.f81) aQ Hk af (by kernel_rfl) (aI (by kernel_rfl:_= []) ah) (by kernel_rfl) (fun x=>mW x.1 x.2.1)
  (fun x=>Eq.trans (by kernel_rfl:_=qg x.1 x.2.1 (fun y=>ret (aA [.b] y) fun v g=>some (v,g))) (JJ x.1 x.2.1 _)) fun _ _ h=>h
abbrev Dx:List (Nat×bw):= [(81,FE)]
theorem vk:aw Tryz.prog (aP Dx):=ae M3 <| aj _
noncomputable abbrev nR:Code:=cG (cz Tryz.f25) 0
abbrev eB:eJ:=⟨[(0, .cl (.ro (.st .entry))),(1, .cl (.ro (.st .entry))),(5, .cl (.int .i64))],[],[],0,27⟩
abbrev jC:List (X×eJ):= [(.ret,⟨[(4, .cl (.bl))],[],[],0,27⟩),(.ext 0,⟨[(4, .cl (.dead))],[],[],0,27⟩)]
def oF {ρ:Type} (v1:List bK) (v2:List bK) (v3:Int) (fn: (((List bK)×(List bK)×Int×Unit)×(Unit)×(Unit))→Option ρ) (fe: ((Bool×Unit)×(Unit)×(Unit))⊕((Unit×Unit)×(Unit)×(Unit))→Option ρ):Option ρ:=
 br (decide (v3 < (v1.length:Int))) (aL (0≤v3) ((v1[v3.toNat]?).bind fun x4=>aL (0≤v3) ((v2[v3.toNat]?).bind fun x5=>(mW x4 x5).bind fun y6=>br (!y6.1) (fe (.inl ((false,()),(()),(())))) (fn ((v1,v2,(IntKind.wrap .i64 (v3+1)),()),(()),(())))) none) none) (fe (.inr (((),()),(()),(()))))
def ii (s:eB.D):Option (eB.D⊕bD.D jC):=oF s.1.1 s.1.2.1 s.1.2.2.1 (fun s=>some (.inl s)) (fun e=>some (.inr e))
def sk:eB.D→Option (bD.D jC):=j4 ii
theorem Dy {ρ:Type} (s:eB.D) (fn:eB.D→Option ρ) (fe:bD.D jC→Option ρ):oF s.1.1 s.1.2.1 s.1.2.2.1 fn fe=(ii s).bind (Sum.elim fn fe):=by
 simp only [ii,oF,al,ap,Option.bind_none,Option.bind_assoc,Option.bind_some,Sum.elim_inl,Sum.elim_inr]
abbrev xK:dk:=dD [] [0,1,5] eB jC sk
theorem Bb (s:eB.D):eM Θ (aP Dx) (aM []) nR (eB.mk' s) (dy [0,1,5] [4] fun x S=>some (x,S))=(ii s).bind (Sum.elim (fun s'=>some (.nor,eB.mk' s')) fun e=>some (bD.e jC e)):=
 Eq.trans (by kernel_rfl:_=oF s.1.1 s.1.2.1 s.1.2.2.1 (fun s'=>some (.nor,eB.mk' s')) (fun e=>some (bD.e jC e))) (Dy s _ _)
theorem Bc:cy Tryz.prog nR xK:=bm aQ vk af (by kernel_rfl) (dX (by kernel_rfl:_= []) ah) [] [0,1,5] [4] eB jC (by kernel_rfl) ii Bb sk (gT ii) (aX ii)
def qG {ρ:Type} (a0:List bK) (a1:List bK) (k:Bool×Unit→Option ρ):Option ρ:=
 br (!((a0.length:Int)==(a1.length:Int))) (k (false,())) ((sk ((a0,a1,0,()),(()),(()))).bind fun e7=>Sum.elim (fun e7_=>k (e7_.1.1,())) (fun e7_=>k (true,())) e7)
def kY (a0:List bK) (a1:List bK):Option (Bool×Unit):=qG a0 a1 some
theorem Hl {ρ:Type} (a0:List bK) (a1:List bK) (k:Bool×Unit→Option ρ):qG a0 a1 k=(kY a0 a1).bind k:=by
 simp only [kY,qG,al,cf,Option.bind_assoc,Option.bind_some]
abbrev Dz:bw:=bE [.ty (.ls (.st .entry)), .ty (.ls (.st .entry))] [.b] fun x=>kY x.1 x.2.1
theorem Le:aB Tryz.prog 25 Dz:=
 ak (Λ:=aM [(cd nR,xK)]) (fn:=Tryz.f25) aQ vk af (by kernel_rfl) (aI (by kernel_rfl:_= [nR]) (aW (q:=cd nR) rfl Bc fun _ _ _=>by kernel_rfl)) (by kernel_rfl) (fun x=>kY x.1 x.2.1)
  (fun x=>Eq.trans (by kernel_rfl:_=qG x.1 x.2.1 (fun y=>ret (aA [.b] y) fun v g=>some (v,g))) (Hl x.1 x.2.1 _)) fun _ _ h=>h
abbrev Lf:List (Nat×bw):= [(215,wi),(25,Dz)]
theorem ET:aw Tryz.prog (aP Lf):=ae Dw <| ae Le <| aj _
def o6 {ρ:Type} (a0:aZ) (a1:aZ) (k:Bool×Unit→Option ρ):Option ρ:=
 br (!(a0.up==a1.up)) (k (false,())) (br (!(a0.intact==a1.intact)) (k (false,())) (br (!(a0.version==a1.version)) (k (false,())) (br (!(a0.epoch==a1.epoch)) (k (false,())) ((jB a0.config a1.config).bind fun y1=>br (!y1.1) (k (false,())) (br (!(a0.first==a1.first)) (k (false,())) ((kY a0.log a1.log).bind fun y2=>br (!y2.1) (k (false,())) (br (!(a0.commit==a1.commit)) (k (false,())) ((kY a0.learned a1.learned).bind fun y3=>br (!y3.1) (k (false,())) (k (true,()))))))))))
def kZ (a0:aZ) (a1:aZ):Option (Bool×Unit):=o6 a0 a1 some
theorem Hm {ρ:Type} (a0:aZ) (a1:aZ) (k:Bool×Unit→Option ρ):o6 a0 a1 k=(kZ a0 a1).bind k:=by
 simp only [kZ,o6,al,Option.bind_assoc,Option.bind_some]
abbrev DA:bw:=bE [.ty (.st .server), .ty (.st .server)] [.b] fun x=>kZ x.1 x.2.1
theorem Lg:aB Tryz.prog 145 DA:=
 ak (Λ:=aM []) (fn:=Tryz.f145) aQ ET af (by kernel_rfl) (aI (by kernel_rfl:_= []) ah) (by kernel_rfl) (fun x=>kZ x.1 x.2.1)
  (fun x=>Eq.trans (by kernel_rfl:_=o6 x.1 x.2.1 (fun y=>ret (aA [.b] y) fun v g=>some (v,g))) (Hm x.1 x.2.1 _)) fun _ _ h=>h
abbrev Af:List (Nat×bw):= [(145,DA)]
theorem t9:aw Tryz.prog (aP Af):=ae Lg <| aj _
noncomputable abbrev md:Code:=cG (cz Tryz.f67) 0
abbrev dT:eJ:=⟨[(0, .cl (.ro (.st .server))),(1, .cl (.ro (.st .server))),(5, .cl (.int .i64))],[],[],0,27⟩
abbrev iB:List (X×eJ):= [(.ret,⟨[(4, .cl (.bl))],[],[],0,27⟩),(.ext 0,⟨[(4, .cl (.dead))],[],[],0,27⟩)]
def nS {ρ:Type} (v1:List aZ) (v2:List aZ) (v3:Int) (fn: (((List aZ)×(List aZ)×Int×Unit)×(Unit)×(Unit))→Option ρ) (fe: ((Bool×Unit)×(Unit)×(Unit))⊕((Unit×Unit)×(Unit)×(Unit))→Option ρ):Option ρ:=
 br (decide (v3 < (v1.length:Int))) (aL (0≤v3) ((v1[v3.toNat]?).bind fun x4=>aL (0≤v3) ((v2[v3.toNat]?).bind fun x5=>(kZ x4 x5).bind fun y6=>br (!y6.1) (fe (.inl ((false,()),(()),(())))) (fn ((v1,v2,(IntKind.wrap .i64 (v3+1)),()),(()),(())))) none) none) (fe (.inr (((),()),(()),(()))))
def fT (s:dT.D):Option (dT.D⊕bD.D iB):=nS s.1.1 s.1.2.1 s.1.2.2.1 (fun s=>some (.inl s)) (fun e=>some (.inr e))
def qY:dT.D→Option (bD.D iB):=j4 fT
theorem Bd {ρ:Type} (s:dT.D) (fn:dT.D→Option ρ) (fe:bD.D iB→Option ρ):nS s.1.1 s.1.2.1 s.1.2.2.1 fn fe=(fT s).bind (Sum.elim fn fe):=by
 simp only [fT,nS,al,ap,Option.bind_none,Option.bind_assoc,Option.bind_some,Sum.elim_inl,Sum.elim_inr]
abbrev vl:dk:=dD [] [0,1,5] dT iB qY
theorem zi (s:dT.D):eM Θ (aP Af) (aM []) md (dT.mk' s) (dy [0,1,5] [4] fun x S=>some (x,S))=(fT s).bind (Sum.elim (fun s'=>some (.nor,dT.mk' s')) fun e=>some (bD.e iB e)):=
 Eq.trans (by kernel_rfl:_=nS s.1.1 s.1.2.1 s.1.2.2.1 (fun s'=>some (.nor,dT.mk' s')) (fun e=>some (bD.e iB e))) (Bd s _ _)
theorem zj:cy Tryz.prog md vl:=bm aQ t9 af (by kernel_rfl) (dX (by kernel_rfl:_= []) ah) [] [0,1,5] [4] dT iB (by kernel_rfl) fT zi qY (gT fT) (aX fT)
def pC {ρ:Type} (a0:List aZ) (a1:List aZ) (k:Bool×Unit→Option ρ):Option ρ:=
 br (!((a0.length:Int)==(a1.length:Int))) (k (false,())) ((qY ((a0,a1,0,()),(()),(()))).bind fun e7=>Sum.elim (fun e7_=>k (e7_.1.1,())) (fun e7_=>k (true,())) e7)
def k9 (a0:List aZ) (a1:List aZ):Option (Bool×Unit):=pC a0 a1 some
theorem EU {ρ:Type} (a0:List aZ) (a1:List aZ) (k:Bool×Unit→Option ρ):pC a0 a1 k=(k9 a0 a1).bind k:=by
 simp only [k9,pC,al,cf,Option.bind_assoc,Option.bind_some]
abbrev Ag:bw:=bE [.ty (.ls (.st .server)), .ty (.ls (.st .server))] [.b] fun x=>k9 x.1 x.2.1
theorem JK:aB Tryz.prog 67 Ag:=
 ak (Λ:=aM [(cd md,vl)]) (fn:=Tryz.f67) aQ t9 af (by kernel_rfl) (aI (by kernel_rfl:_= [md]) (aW (q:=cd md) rfl zj fun _ _ _=>by kernel_rfl)) (by kernel_rfl) (fun x=>k9 x.1 x.2.1)
  (fun x=>Eq.trans (by kernel_rfl:_=pC x.1 x.2.1 (fun y=>ret (aA [.b] y) fun v g=>some (v,g))) (EU x.1 x.2.1 _)) fun _ _ h=>h
abbrev Ah:List (Nat×bw):= [(215,wi)]
theorem ua:aw Tryz.prog (aP Ah):=ae Dw <| aj _
noncomputable abbrev me:Code:=cG (cz Tryz.f146) 0
abbrev dU:eJ:=⟨[(0, .cl (.ro (.st .config))),(1, .cl (.ro (.st .config))),(5, .cl (.int .i64))],[],[],0,27⟩
abbrev iC:List (X×eJ):= [(.ret,⟨[(4, .cl (.bl))],[],[],0,27⟩),(.ext 0,⟨[(4, .cl (.dead))],[],[],0,27⟩)]
def nT {ρ:Type} (v1:List ai) (v2:List ai) (v3:Int) (fn: (((List ai)×(List ai)×Int×Unit)×(Unit)×(Unit))→Option ρ) (fe: ((Bool×Unit)×(Unit)×(Unit))⊕((Unit×Unit)×(Unit)×(Unit))→Option ρ):Option ρ:=
 br (decide (v3 < (v1.length:Int))) (aL (0≤v3) ((v1[v3.toNat]?).bind fun x4=>aL (0≤v3) ((v2[v3.toNat]?).bind fun x5=>(jB x4 x5).bind fun y6=>br (!y6.1) (fe (.inl ((false,()),(()),(())))) (fn ((v1,v2,(IntKind.wrap .i64 (v3+1)),()),(()),(())))) none) none) (fe (.inr (((),()),(()),(()))))
def fU (s:dU.D):Option (dU.D⊕bD.D iC):=nT s.1.1 s.1.2.1 s.1.2.2.1 (fun s=>some (.inl s)) (fun e=>some (.inr e))
def qZ:dU.D→Option (bD.D iC):=j4 fU
theorem Be {ρ:Type} (s:dU.D) (fn:dU.D→Option ρ) (fe:bD.D iC→Option ρ):nT s.1.1 s.1.2.1 s.1.2.2.1 fn fe=(fU s).bind (Sum.elim fn fe):=by
 simp only [fU,nT,al,ap,Option.bind_none,Option.bind_assoc,Option.bind_some,Sum.elim_inl,Sum.elim_inr]
abbrev vm:dk:=dD [] [0,1,5] dU iC qZ
theorem zk (s:dU.D):eM Θ (aP Ah) (aM []) me (dU.mk' s) (dy [0,1,5] [4] fun x S=>some (x,S))=(fU s).bind (Sum.elim (fun s'=>some (.nor,dU.mk' s')) fun e=>some (bD.e iC e)):=
 Eq.trans (by kernel_rfl:_=nT s.1.1 s.1.2.1 s.1.2.2.1 (fun s'=>some (.nor,dU.mk' s')) (fun e=>some (bD.e iC e))) (Be s _ _)
theorem zl:cy Tryz.prog me vm:=bm aQ ua af (by kernel_rfl) (dX (by kernel_rfl:_= []) ah) [] [0,1,5] [4] dU iC (by kernel_rfl) fU zk qZ (gT fU) (aX fU)
def pD {ρ:Type} (a0:List ai) (a1:List ai) (k:Bool×Unit→Option ρ):Option ρ:=
 br (!((a0.length:Int)==(a1.length:Int))) (k (false,())) ((qZ ((a0,a1,0,()),(()),(()))).bind fun e7=>Sum.elim (fun e7_=>k (e7_.1.1,())) (fun e7_=>k (true,())) e7)
def la (a0:List ai) (a1:List ai):Option (Bool×Unit):=pD a0 a1 some
theorem EV {ρ:Type} (a0:List ai) (a1:List ai) (k:Bool×Unit→Option ρ):pD a0 a1 k=(la a0 a1).bind k:=by
 simp only [la,pD,al,cf,Option.bind_assoc,Option.bind_some]
abbrev Ai:bw:=bE [.ty (.ls (.st .config)), .ty (.ls (.st .config))] [.b] fun x=>la x.1 x.2.1
theorem JL:aB Tryz.prog 146 Ai:=
 ak (Λ:=aM [(cd me,vm)]) (fn:=Tryz.f146) aQ ua af (by kernel_rfl) (aI (by kernel_rfl:_= [me]) (aW (q:=cd me) rfl zl fun _ _ _=>by kernel_rfl)) (by kernel_rfl) (fun x=>la x.1 x.2.1)
  (fun x=>Eq.trans (by kernel_rfl:_=pD x.1 x.2.1 (fun y=>ret (aA [.b] y) fun v g=>some (v,g))) (EV x.1 x.2.1 _)) fun _ _ h=>h
abbrev EW:List (Nat×bw):= [(146,Ai)]
theorem zm:aw Tryz.prog (aP EW):=ae JL <| aj _
def lb {ρ:Type} (a0:aD) (a1:aD) (k:Bool×Unit→Option ρ):Option ρ:=
 (la a0.configs a1.configs).bind fun y1=>br (!y1.1) (k (false,())) (br (!(a0.activated==a1.activated)) (k (false,())) (k (true,())))
def iE (a0:aD) (a1:aD):Option (Bool×Unit):=lb a0 a1 some
theorem Bf {ρ:Type} (a0:aD) (a1:aD) (k:Bool×Unit→Option ρ):lb a0 a1 k=(iE a0 a1).bind k:=by
 simp only [iE,lb,al,Option.bind_assoc,Option.bind_some]
abbrev vn:bw:=bE [.ty (.st .masterLog), .ty (.st .masterLog)] [.b] fun x=>iE x.1 x.2.1
theorem EX:aB Tryz.prog 68 vn:=
 ak (Λ:=aM []) (fn:=Tryz.f68) aQ zm af (by kernel_rfl) (aI (by kernel_rfl:_= []) ah) (by kernel_rfl) (fun x=>iE x.1 x.2.1)
  (fun x=>Eq.trans (by kernel_rfl:_=lb x.1 x.2.1 (fun y=>ret (aA [.b] y) fun v g=>some (v,g))) (Bf x.1 x.2.1 _)) fun _ _ h=>h
abbrev M4:List (Nat×bw):= []
theorem Hn:aw Tryz.prog (aP M4):=aj _
def qh {ρ:Type} (a0:fC) (a1:fC) (k:Bool×Unit→Option ρ):Option ρ:=
 br (!(a0.epoch==a1.epoch)) (k (false,())) (br (!(a0.holder==a1.holder)) (k (false,())) (br (!(a0.ends==a1.ends)) (k (false,())) (k (true,()))))
def ow (a0:fC) (a1:fC):Option (Bool×Unit):=qh a0 a1 some
theorem JM {ρ:Type} (a0:fC) (a1:fC) (k:Bool×Unit→Option ρ):qh a0 a1 k=(ow a0 a1).bind k:=by
 simp only [ow,qh,al,Option.bind_some]
abbrev FF:bw:=bE [.ty (.st .lease), .ty (.st .lease)] [.b] fun x=>ow x.1 x.2.1
theorem M5:aB Tryz.prog 69 FF:=
 ak (Λ:=aM []) (fn:=Tryz.f69) aQ Hn af (by kernel_rfl) (aI (by kernel_rfl:_= []) ah) (by kernel_rfl) (fun x=>ow x.1 x.2.1)
  (fun x=>Eq.trans (by kernel_rfl:_=qh x.1 x.2.1 (fun y=>ret (aA [.b] y) fun v g=>some (v,g))) (JM x.1 x.2.1 _)) fun _ _ h=>h
abbrev M6:List (Nat×bw):= []
theorem Ho:aw Tryz.prog (aP M6):=aj _
def qi {ρ:Type} (a0:bk) (a1:bk) (k:Bool×Unit→Option ρ):Option ρ:=
 br (!(a0.rack==a1.rack)) (k (false,())) (br (!(a0.capacity==a1.capacity)) (k (false,())) (br (!(a0.load==a1.load)) (k (false,())) (k (true,()))))
def mX (a0:bk) (a1:bk):Option (Bool×Unit):=qi a0 a1 some
theorem JN {ρ:Type} (a0:bk) (a1:bk) (k:Bool×Unit→Option ρ):qi a0 a1 k=(mX a0 a1).bind k:=by
 simp only [mX,qi,al,Option.bind_some]
abbrev FG:bw:=bE [.ty (.st .place), .ty (.st .place)] [.b] fun x=>mX x.1 x.2.1
theorem M7:aB Tryz.prog 147 FG:=
 ak (Λ:=aM []) (fn:=Tryz.f147) aQ Ho af (by kernel_rfl) (aI (by kernel_rfl:_= []) ah) (by kernel_rfl) (fun x=>mX x.1 x.2.1)
  (fun x=>Eq.trans (by kernel_rfl:_=qi x.1 x.2.1 (fun y=>ret (aA [.b] y) fun v g=>some (v,g))) (JN x.1 x.2.1 _)) fun _ _ h=>h
abbrev DB:List (Nat×bw):= [(147,FG)]
theorem vo:aw Tryz.prog (aP DB):=ae M7 <| aj _
noncomputable abbrev nU:Code:=cG (cz Tryz.f70) 0
abbrev eC:eJ:=⟨[(0, .cl (.ro (.st .place))),(1, .cl (.ro (.st .place))),(5, .cl (.int .i64))],[],[],0,27⟩
abbrev jD:List (X×eJ):= [(.ret,⟨[(4, .cl (.bl))],[],[],0,27⟩),(.ext 0,⟨[(4, .cl (.dead))],[],[],0,27⟩)]
def oG {ρ:Type} (v1:List bk) (v2:List bk) (v3:Int) (fn: (((List bk)×(List bk)×Int×Unit)×(Unit)×(Unit))→Option ρ) (fe: ((Bool×Unit)×(Unit)×(Unit))⊕((Unit×Unit)×(Unit)×(Unit))→Option ρ):Option ρ:=
 br (decide (v3 < (v1.length:Int))) (aL (0≤v3) ((v1[v3.toNat]?).bind fun x4=>aL (0≤v3) ((v2[v3.toNat]?).bind fun x5=>(mX x4 x5).bind fun y6=>br (!y6.1) (fe (.inl ((false,()),(()),(())))) (fn ((v1,v2,(IntKind.wrap .i64 (v3+1)),()),(()),(())))) none) none) (fe (.inr (((),()),(()),(()))))
def ij (s:eC.D):Option (eC.D⊕bD.D jD):=oG s.1.1 s.1.2.1 s.1.2.2.1 (fun s=>some (.inl s)) (fun e=>some (.inr e))
def sn:eC.D→Option (bD.D jD):=j4 ij
theorem DC {ρ:Type} (s:eC.D) (fn:eC.D→Option ρ) (fe:bD.D jD→Option ρ):oG s.1.1 s.1.2.1 s.1.2.2.1 fn fe=(ij s).bind (Sum.elim fn fe):=by
 simp only [ij,oG,al,ap,Option.bind_none,Option.bind_assoc,Option.bind_some,Sum.elim_inl,Sum.elim_inr]
abbrev xL:dk:=dD [] [0,1,5] eC jD sn
theorem Bg (s:eC.D):eM Θ (aP DB) (aM []) nU (eC.mk' s) (dy [0,1,5] [4] fun x S=>some (x,S))=(ij s).bind (Sum.elim (fun s'=>some (.nor,eC.mk' s')) fun e=>some (bD.e jD e)):=
 Eq.trans (by kernel_rfl:_=oG s.1.1 s.1.2.1 s.1.2.2.1 (fun s'=>some (.nor,eC.mk' s')) (fun e=>some (bD.e jD e))) (DC s _ _)
theorem Bh:cy Tryz.prog nU xL:=bm aQ vo af (by kernel_rfl) (dX (by kernel_rfl:_= []) ah) [] [0,1,5] [4] eC jD (by kernel_rfl) ij Bg sn (gT ij) (aX ij)
def qH {ρ:Type} (a0:List bk) (a1:List bk) (k:Bool×Unit→Option ρ):Option ρ:=
 br (!((a0.length:Int)==(a1.length:Int))) (k (false,())) ((sn ((a0,a1,0,()),(()),(()))).bind fun e7=>Sum.elim (fun e7_=>k (e7_.1.1,())) (fun e7_=>k (true,())) e7)
def mH (a0:List bk) (a1:List bk):Option (Bool×Unit):=qH a0 a1 some
theorem Hp {ρ:Type} (a0:List bk) (a1:List bk) (k:Bool×Unit→Option ρ):qH a0 a1 k=(mH a0 a1).bind k:=by
 simp only [mH,qH,al,cf,Option.bind_assoc,Option.bind_some]
abbrev DD:bw:=bE [.ty (.ls (.st .place)), .ty (.ls (.st .place))] [.b] fun x=>mH x.1 x.2.1
theorem Lh:aB Tryz.prog 70 DD:=
 ak (Λ:=aM [(cd nU,xL)]) (fn:=Tryz.f70) aQ vo af (by kernel_rfl) (aI (by kernel_rfl:_= [nU]) (aW (q:=cd nU) rfl Bh fun _ _ _=>by kernel_rfl)) (by kernel_rfl) (fun x=>mH x.1 x.2.1)
  (fun x=>Eq.trans (by kernel_rfl:_=qH x.1 x.2.1 (fun y=>ret (aA [.b] y) fun v g=>some (v,g))) (Hp x.1 x.2.1 _)) fun _ _ h=>h
abbrev JO:List (Nat×bw):= [(67,Ag),(19,Dv),(68,vn),(69,FF),(70,DD)]
theorem DE:aw Tryz.prog (aP JO):=ae JK <| ae JI <| ae EX <| ae M5 <| ae Lh <| aj _
def nV {ρ:Type} (a0:ax) (a1:ax) (k:Bool×Unit→Option ρ):Option ρ:=
 br (!(a0.now==a1.now)) (k (false,())) ((k9 a0.servers a1.servers).bind fun y1=>br (!y1.1) (k (false,())) ((nQ a0.sides a1.sides).bind fun y2=>br (!y2.1) (k (false,())) ((iE a0.master a1.master).bind fun y3=>br (!y3.1) (k (false,())) (br (!(a0.masterUp==a1.masterUp)) (k (false,())) ((ow a0.lease a1.lease).bind fun y4=>br (!y4.1) (k (false,())) ((mH a0.places a1.places).bind fun y5=>br (!y5.1) (k (false,())) (k (true,()))))))))
def lc (a0:ax) (a1:ax):Option (Bool×Unit):=nV a0 a1 some
theorem EY {ρ:Type} (a0:ax) (a1:ax) (k:Bool×Unit→Option ρ):nV a0 a1 k=(lc a0 a1).bind k:=by
 simp only [lc,nV,al,Option.bind_assoc,Option.bind_some]
abbrev Aj:bw:=bE [.ty (.st .cluster), .ty (.st .cluster)] [.b] fun x=>lc x.1 x.2.1
theorem JP:aB Tryz.prog 16 Aj:=
 ak (Λ:=aM []) (fn:=Tryz.f16) aQ DE af (by kernel_rfl) (aI (by kernel_rfl:_= []) ah) (by kernel_rfl) (fun x=>lc x.1 x.2.1)
  (fun x=>Eq.trans (by kernel_rfl:_=nV x.1 x.2.1 (fun y=>ret (aA [.b] y) fun v g=>some (v,g))) (EY x.1 x.2.1 _)) fun _ _ h=>h
abbrev wk:List (Nat×bw):= [(12,zQ),(14,zW),(13,z7),(15,Ad),(16,Aj)]
theorem s6:aw Tryz.prog (aP wk):=ae IZ <| ae I8 <| ae Jn <| ae JG <| ae JP <| aj _
def fD {ρ:Type} (a0:ax) (k:Bool×Unit→Option ρ):Option ρ:=
 (kt a0 1048576).bind fun y1=>br (decide (y1.1 < 0)) (k (true,())) ((gW a0).bind fun y2=>(kG y2.1).bind fun y3=>(gW a0).bind fun y4=>(kW y4.1).bind fun y5=>br (!(y5.1==y3.1)) (k (false,())) ((gW a0).bind fun y6=>(lc y4.1 y6.1).bind fun y7=>br (!y7.1) (k (false,())) (k (true,()))))
def eU (a0:ax):Option (Bool×Unit):=fD a0 some
theorem ub {ρ:Type} (a0:ax) (k:Bool×Unit→Option ρ):fD a0 k=(eU a0).bind k:=by
 simp only [eU,fD,al,Option.bind_assoc,Option.bind_some]
abbrev wl:bw:=bE [.ty (.st .cluster)] [.b] fun x=>eU x.1
theorem wm:aB Tryz.prog 3 wl:=
 ak (Λ:=aM []) (fn:=Tryz.f3) aQ s6 af (by kernel_rfl) (aI (by kernel_rfl:_= []) ah) (by kernel_rfl) (fun x=>eU x.1)
  (fun x=>Eq.trans (by kernel_rfl:_=fD x.1 (fun y=>ret (aA [.b] y) fun v g=>some (v,g))) (ub x.1 _)) fun _ _ h=>h
end
end Go.Proofs.YtkcgfceffffmoaaGreat.En
