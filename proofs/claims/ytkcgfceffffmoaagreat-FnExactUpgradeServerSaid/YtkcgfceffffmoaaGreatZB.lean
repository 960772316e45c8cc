/- Printed by a program: the walk. -/
import Derived.Test.YtkcgfceffffmoaaGreatZTh
namespace Go.Proofs.YtkcgfceffffmoaaGreat.En
open Go
noncomputable section
def Wr:ByteArray:=⟨⟨[0,1,2,2,3,3,3,3,4,4,4,4,4,4,4,4,5,5,5,5,5,5,5,5,5,5,5,5,5,5,5,5,6,6,6,6,6,6,6,6,6,6,6,6,6,6,6,6,6,6,6,6,6,6,6,6,6,6,6,6,6,6,6,6,7,7,7,7,7,7,7,7,7,7,7,7,7,7,7,7,7,7,7,7,7,7,7,7,7,7,7,7,7,7,7,7,7,7,7,7,7,7,7,7,7,7,7,7,7,7,7,7,7,7,7,7,7,7,7,7,7,7,7,7,7,7,7,7,8,8,8,8,8,8,8,8,8,8,8,8,8,8,8,8,8,8,8,8,8,8,8,8,8,8,8,8,8,8,8,8,8,8,8,8,8,8,8,8,8,8,8,8,8,8,8,8,8,8,8,8,8,8,8,8,8,8,8,8,8,8,8,8,8,8,8,8,8,8,8,8,8,8,8,8,8,8,8,8,8,8,8,8,8,8,8,8,8,8,8,8,8,8,8,8,8,8,8,8,8,8,8,8,8,8,8,8,8,8,8,8,8,8,8,8,8,8,8,8,8,8,8,8,8,8,8,8]⟩⟩
theorem af:Tryz.prog.follows .mixedOrders=true:=by kernel_rfl
abbrev R1:List (Nat×bn):= []
theorem LQ:aw Tryz.prog (aJ R1):=aj _
def wL {ρ:Type} (a0:List Int) (a1:Int) (k:Int×Unit→Option ρ):Option ρ:=
 br (decide ((IntKind.wrap .i64 (a1 - (a0.length:Int))) < 0)) (k ((-1),())) (k ((IntKind.wrap .i64 (a1 - (a0.length:Int))),()))
def of (a0:List Int) (a1:Int):Option (Int×Unit):=wL a0 a1 some
theorem NQ {ρ:Type} (a0:List Int) (a1:Int) (k:Int×Unit→Option ρ):wL a0 a1 k=(of a0 a1).bind k:=by
 simp only [of,wL,am,Option.bind_some]
abbrev Fs:bn:=bA [.ty (.ls (.i .i64)), .ty (.i .i64)] [.i .i64] fun x=>of x.1 x.2.1
theorem LR:aD Tryz.prog 43 Fs:=
 al (Λ:=aI []) (fn:=Tryz.f43) aM LQ af (by kernel_rfl) (aF (by kernel_rfl:_= []) ah) (by kernel_rfl) (fun x=>of x.1 x.2.1)
  (fun x=>Eq.trans (by kernel_rfl:_=wL x.1 x.2.1 (fun y=>ret (aE [.i .i64] y) fun v g=>some (v,g))) (NQ x.1 x.2.1 _)) fun _ _ h=>h
abbrev NR:List (Nat×bn):= [(43,Fs)]
theorem G8:aw Tryz.prog (aJ NR):=ae LR <| aj _
def nT {ρ:Type} (a0:ai) (a1:Int) (k:Int×Unit→Option ρ):Option ρ:=
 (of a0.replicas a1).bind fun y1=>br (decide (y1.1 < 0)) (k ((-1),())) ((of a0.witnesses y1.1).bind fun y2=>br (decide (y2.1 < 0)) (k ((-1),())) (k (y2.1,())))
def fY (a0:ai) (a1:Int):Option (Int×Unit):=nT a0 a1 some
theorem JK {ρ:Type} (a0:ai) (a1:Int) (k:Int×Unit→Option ρ):nT a0 a1 k=(fY a0 a1).bind k:=by
 simp only [fY,nT,am,Option.bind_assoc,Option.bind_some]
abbrev yi:bn:=bA [.ty (.st .config), .ty (.i .i64)] [.i .i64] fun x=>fY x.1 x.2.1
theorem Ft:aD Tryz.prog 206 yi:=
 al (Λ:=aI []) (fn:=Tryz.f206) aM G8 af (by kernel_rfl) (aF (by kernel_rfl:_= []) ah) (by kernel_rfl) (fun x=>fY x.1 x.2.1)
  (fun x=>Eq.trans (by kernel_rfl:_=nT x.1 x.2.1 (fun y=>ret (aE [.i .i64] y) fun v g=>some (v,g))) (JK x.1 x.2.1 _)) fun _ _ h=>h
abbrev NS:List (Nat×bn):= []
theorem G9:aw Tryz.prog (aJ NS):=aj _
def rM {ρ:Type} (a0:List aK) (a1:Int) (k:Int×Unit→Option ρ):Option ρ:=
 br (decide ((IntKind.wrap .i64 (a1 - (a0.length:Int))) < 0)) (k ((-1),())) (k ((IntKind.wrap .i64 (a1 - (a0.length:Int))),()))
def lr (a0:List aK) (a1:Int):Option (Int×Unit):=rM a0 a1 some
theorem JL {ρ:Type} (a0:List aK) (a1:Int) (k:Int×Unit→Option ρ):rM a0 a1 k=(lr a0 a1).bind k:=by
 simp only [lr,rM,am,Option.bind_some]
abbrev Fu:bn:=bA [.ty (.ls (.st .entry)), .ty (.i .i64)] [.i .i64] fun x=>lr x.1 x.2.1
theorem NT:aD Tryz.prog 207 Fu:=
 al (Λ:=aI []) (fn:=Tryz.f207) aM G9 af (by kernel_rfl) (aF (by kernel_rfl:_= []) ah) (by kernel_rfl) (fun x=>lr x.1 x.2.1)
  (fun x=>Eq.trans (by kernel_rfl:_=rM x.1 x.2.1 (fun y=>ret (aE [.i .i64] y) fun v g=>some (v,g))) (JL x.1 x.2.1 _)) fun _ _ h=>h
abbrev NU:List (Nat×bn):= [(206,yi),(207,Fu)]
theorem Ha:aw Tryz.prog (aJ NU):=ae Ft <| ae NT <| aj _
def nU {ρ:Type} (a0:ak) (a1:Int) (k:Int×Unit→Option ρ):Option ρ:=
 (fY a0.config a1).bind fun y1=>br (decide (y1.1 < 0)) (k ((-1),())) ((lr a0.log y1.1).bind fun y2=>br (decide (y2.1 < 0)) (k ((-1),())) ((lr a0.learned y2.1).bind fun y3=>br (decide (y3.1 < 0)) (k ((-1),())) (k (y3.1,()))))
def hM (a0:ak) (a1:Int):Option (Int×Unit):=nU a0 a1 some
theorem JM {ρ:Type} (a0:ak) (a1:Int) (k:Int×Unit→Option ρ):nU a0 a1 k=(hM a0 a1).bind k:=by
 simp only [hM,nU,am,Option.bind_assoc,Option.bind_some]
abbrev Fv:bn:=bA [.ty (.st .server), .ty (.i .i64)] [.i .i64] fun x=>hM x.1 x.2.1
theorem NV:aD Tryz.prog 118 Fv:=
 al (Λ:=aI []) (fn:=Tryz.f118) aM Ha af (by kernel_rfl) (aF (by kernel_rfl:_= []) ah) (by kernel_rfl) (fun x=>hM x.1 x.2.1)
  (fun x=>Eq.trans (by kernel_rfl:_=nU x.1 x.2.1 (fun y=>ret (aE [.i .i64] y) fun v g=>some (v,g))) (JM x.1 x.2.1 _)) fun _ _ h=>h
abbrev CF:List (Nat×bn):= [(118,Fv)]
theorem vr:aw Tryz.prog (aJ CF):=ae NV <| aj _
noncomputable abbrev mM:Code:=b9 (bT Tryz.f42) 0
abbrev dP:dN:=⟨[(0, .cl (.ro (.st .server))),(1, .cl (.int .i64)),(5, .cl (.int .i64))],[],[],0,27⟩
abbrev ja:List (X×dN):= [(.ret,⟨[(1, .cl (.int .i64)),(4, .cl (.int .i64))],[],[],0,27⟩),(.ext 0,⟨[(1, .cl (.int .i64)),(4, .cl (.dead))],[],[],0,27⟩)]
def og {ρ:Type} (v1:List ak) (v2:Int) (v3:Int) (fn: (((List ak)×Int×Int×Unit)×(Unit)×(Unit))→Option ρ) (fe: ((Int×Int×Unit)×(Unit)×(Unit))⊕((Int×Unit×Unit)×(Unit)×(Unit))→Option ρ):Option ρ:=
 br (decide (v3 < (v1.length:Int))) (ap (0≤v3) ((v1[v3.toNat]?).bind fun x4=>(hM x4 v2).bind fun y5=>br (decide (y5.1 < 0)) (fe (.inl ((y5.1,(-1),()),(()),(())))) (fn ((v1,y5.1,(IntKind.wrap .i64 (v3+1)),()),(()),(())))) none) (fe (.inr ((v2,(),()),(()),(()))))
def fE (s:dP.D):Option (dP.D⊕bk.D ja):=og s.1.1 s.1.2.1 s.1.2.2.1 (fun s=>some (.inl s)) (fun e=>some (.inr e))
def sy:dP.D→Option (bk.D ja):=jr fE
theorem Dj {ρ:Type} (s:dP.D) (fn:dP.D→Option ρ) (fe:bk.D ja→Option ρ):og s.1.1 s.1.2.1 s.1.2.2.1 fn fe=(fE s).bind (Sum.elim fn fe):=by
 simp only [fE,og,am,aq,Option.bind_none,Option.bind_assoc,Option.bind_some,Sum.elim_inl,Sum.elim_inr]
abbrev xh:cL:=cX [] [0,1,5] dP ja sy
theorem Bq (s:dP.D):ei Θ (aJ CF) (aI []) mM (dP.mk' s) (cO [0,1,5] [1,4] fun x S=>some (x,S))=(fE s).bind (Sum.elim (fun s'=>some (.nor,dP.mk' s')) fun e=>some (bk.e ja e)):=
 Eq.trans (by kernel_rfl:_=og s.1.1 s.1.2.1 s.1.2.2.1 (fun s'=>some (.nor,dP.mk' s')) (fun e=>some (bk.e ja e))) (Dj s _ _)
theorem Br:bS Tryz.prog mM xh:=aZ aM vr af (by kernel_rfl) (df (by kernel_rfl:_= []) ah) [] [0,1,5] [1,4] dP ja (by kernel_rfl) fE Bq sy (fT fE) (aQ fE)
def qv {ρ:Type} (a0:List ak) (a1:Int) (k:Int×Unit→Option ρ):Option ρ:=
 br (decide ((IntKind.wrap .i64 (a1 - (a0.length:Int))) < 0)) (k ((-1),())) ((sy ((a0,(IntKind.wrap .i64 (a1 - (a0.length:Int))),0,()),(()),(()))).bind fun e6=>Sum.elim (fun e6_=>k (e6_.1.2.1,())) (fun e6_=>k (e6_.1.1,())) e6)
def lu (a0:List ak) (a1:Int):Option (Int×Unit):=qv a0 a1 some
theorem Hb {ρ:Type} (a0:List ak) (a1:Int) (k:Int×Unit→Option ρ):qv a0 a1 k=(lu a0 a1).bind k:=by
 simp only [lu,qv,am,bW,Option.bind_assoc,Option.bind_some]
abbrev CG:bn:=bA [.ty (.ls (.st .server)), .ty (.i .i64)] [.i .i64] fun x=>lu x.1 x.2.1
theorem LS:aD Tryz.prog 42 CG:=
 al (Λ:=aI [(ca mM,xh)]) (fn:=Tryz.f42) aM vr af (by kernel_rfl) (aF (by kernel_rfl:_= [mM]) (aP (q:=ca mM) rfl Br fun _ _ _=>by kernel_rfl)) (by kernel_rfl) (fun x=>lu x.1 x.2.1)
  (fun x=>Eq.trans (by kernel_rfl:_=qv x.1 x.2.1 (fun y=>ret (aE [.i .i64] y) fun v g=>some (v,g))) (Hb x.1 x.2.1 _)) fun _ _ h=>h
abbrev CH:List (Nat×bn):= [(206,yi)]
theorem vt:aw Tryz.prog (aJ CH):=ae Ft <| aj _
noncomputable abbrev mN:Code:=b9 (bT Tryz.f119) 0
abbrev dQ:dN:=⟨[(0, .cl (.ro (.st .config))),(1, .cl (.int .i64)),(5, .cl (.int .i64))],[],[],0,27⟩
abbrev jb:List (X×dN):= [(.ret,⟨[(1, .cl (.int .i64)),(4, .cl (.int .i64))],[],[],0,27⟩),(.ext 0,⟨[(1, .cl (.int .i64)),(4, .cl (.dead))],[],[],0,27⟩)]
def oh {ρ:Type} (v1:List ai) (v2:Int) (v3:Int) (fn: (((List ai)×Int×Int×Unit)×(Unit)×(Unit))→Option ρ) (fe: ((Int×Int×Unit)×(Unit)×(Unit))⊕((Int×Unit×Unit)×(Unit)×(Unit))→Option ρ):Option ρ:=
 br (decide (v3 < (v1.length:Int))) (ap (0≤v3) ((v1[v3.toNat]?).bind fun x4=>(fY x4 v2).bind fun y5=>br (decide (y5.1 < 0)) (fe (.inl ((y5.1,(-1),()),(()),(())))) (fn ((v1,y5.1,(IntKind.wrap .i64 (v3+1)),()),(()),(())))) none) (fe (.inr ((v2,(),()),(()),(()))))
def fF (s:dQ.D):Option (dQ.D⊕bk.D jb):=oh s.1.1 s.1.2.1 s.1.2.2.1 (fun s=>some (.inl s)) (fun e=>some (.inr e))
def sA:dQ.D→Option (bk.D jb):=jr fF
theorem Dk {ρ:Type} (s:dQ.D) (fn:dQ.D→Option ρ) (fe:bk.D jb→Option ρ):oh s.1.1 s.1.2.1 s.1.2.2.1 fn fe=(fF s).bind (Sum.elim fn fe):=by
 simp only [fF,oh,am,aq,Option.bind_none,Option.bind_assoc,Option.bind_some,Sum.elim_inl,Sum.elim_inr]
abbrev xi:cL:=cX [] [0,1,5] dQ jb sA
theorem Bs (s:dQ.D):ei Θ (aJ CH) (aI []) mN (dQ.mk' s) (cO [0,1,5] [1,4] fun x S=>some (x,S))=(fF s).bind (Sum.elim (fun s'=>some (.nor,dQ.mk' s')) fun e=>some (bk.e jb e)):=
 Eq.trans (by kernel_rfl:_=oh s.1.1 s.1.2.1 s.1.2.2.1 (fun s'=>some (.nor,dQ.mk' s')) (fun e=>some (bk.e jb e))) (Dk s _ _)
theorem Bu:bS Tryz.prog mN xi:=aZ aM vt af (by kernel_rfl) (df (by kernel_rfl:_= []) ah) [] [0,1,5] [1,4] dQ jb (by kernel_rfl) fF Bs sA (fT fF) (aQ fF)
def qw {ρ:Type} (a0:List ai) (a1:Int) (k:Int×Unit→Option ρ):Option ρ:=
 br (decide ((IntKind.wrap .i64 (a1 - (a0.length:Int))) < 0)) (k ((-1),())) ((sA ((a0,(IntKind.wrap .i64 (a1 - (a0.length:Int))),0,()),(()),(()))).bind fun e6=>Sum.elim (fun e6_=>k (e6_.1.2.1,())) (fun e6_=>k (e6_.1.1,())) e6)
def lw (a0:List ai) (a1:Int):Option (Int×Unit):=qw a0 a1 some
theorem Hc {ρ:Type} (a0:List ai) (a1:Int) (k:Int×Unit→Option ρ):qw a0 a1 k=(lw a0 a1).bind k:=by
 simp only [lw,qw,am,bW,Option.bind_assoc,Option.bind_some]
abbrev CI:bn:=bA [.ty (.ls (.st .config)), .ty (.i .i64)] [.i .i64] fun x=>lw x.1 x.2.1
theorem LU:aD Tryz.prog 119 CI:=
 al (Λ:=aI [(ca mN,xi)]) (fn:=Tryz.f119) aM vt af (by kernel_rfl) (aF (by kernel_rfl:_= [mN]) (aP (q:=ca mN) rfl Bu fun _ _ _=>by kernel_rfl)) (by kernel_rfl) (fun x=>lw x.1 x.2.1)
  (fun x=>Eq.trans (by kernel_rfl:_=qw x.1 x.2.1 (fun y=>ret (aE [.i .i64] y) fun v g=>some (v,g))) (Hc x.1 x.2.1 _)) fun _ _ h=>h
abbrev Hd:List (Nat×bn):= [(119,CI)]
theorem Bv:aw Tryz.prog (aJ Hd):=ae LU <| aj _
def jE {ρ:Type} (a0:an) (a1:Int) (k:Int×Unit→Option ρ):Option ρ:=
 (lw a0.configs a1).bind fun y1=>br (decide (y1.1 < 0)) (k ((-1),())) (k (y1.1,()))
def fG (a0:an) (a1:Int):Option (Int×Unit):=jE a0 a1 some
theorem Dl {ρ:Type} (a0:an) (a1:Int) (k:Int×Unit→Option ρ):jE a0 a1 k=(fG a0 a1).bind k:=by
 simp only [fG,jE,am,Option.bind_assoc,Option.bind_some]
abbrev xj:bn:=bA [.ty (.st .masterLog), .ty (.i .i64)] [.i .i64] fun x=>fG x.1 x.2.1
theorem He:aD Tryz.prog 44 xj:=
 al (Λ:=aI []) (fn:=Tryz.f44) aM Bv af (by kernel_rfl) (aF (by kernel_rfl:_= []) ah) (by kernel_rfl) (fun x=>fG x.1 x.2.1)
  (fun x=>Eq.trans (by kernel_rfl:_=jE x.1 x.2.1 (fun y=>ret (aE [.i .i64] y) fun v g=>some (v,g))) (Dl x.1 x.2.1 _)) fun _ _ h=>h
abbrev NW:List (Nat×bn):= []
theorem Hf:aw Tryz.prog (aJ NW):=aj _
def rN {ρ:Type} (a0:List aU) (a1:Int) (k:Int×Unit→Option ρ):Option ρ:=
 br (decide ((IntKind.wrap .i64 (a1 - (a0.length:Int))) < 0)) (k ((-1),())) (k ((IntKind.wrap .i64 (a1 - (a0.length:Int))),()))
def ny (a0:List aU) (a1:Int):Option (Int×Unit):=rN a0 a1 some
theorem JN {ρ:Type} (a0:List aU) (a1:Int) (k:Int×Unit→Option ρ):rN a0 a1 k=(ny a0 a1).bind k:=by
 simp only [ny,rN,am,Option.bind_some]
abbrev Fw:bn:=bA [.ty (.ls (.st .place)), .ty (.i .i64)] [.i .i64] fun x=>ny x.1 x.2.1
theorem NX:aD Tryz.prog 45 Fw:=
 al (Λ:=aI []) (fn:=Tryz.f45) aM Hf af (by kernel_rfl) (aF (by kernel_rfl:_= []) ah) (by kernel_rfl) (fun x=>ny x.1 x.2.1)
  (fun x=>Eq.trans (by kernel_rfl:_=rN x.1 x.2.1 (fun y=>ret (aE [.i .i64] y) fun v g=>some (v,g))) (JN x.1 x.2.1 _)) fun _ _ h=>h
abbrev LV:List (Nat×bn):= [(42,CG),(43,Fs),(44,xj),(45,Fw)]
theorem Fx:aw Tryz.prog (aJ LV):=ae LS <| ae LR <| ae He <| ae NX <| aj _
def mg {ρ:Type} (a0:ao) (a1:Int) (k:Int×Unit→Option ρ):Option ρ:=
 (lu a0.servers a1).bind fun y1=>br (decide (y1.1 < 0)) (k ((-1),())) ((of a0.sides y1.1).bind fun y2=>br (decide (y2.1 < 0)) (k ((-1),())) ((fG a0.master y2.1).bind fun y3=>br (decide (y3.1 < 0)) (k ((-1),())) ((ny a0.places y3.1).bind fun y4=>br (decide (y4.1 < 0)) (k ((-1),())) (k (y4.1,())))))
def gr (a0:ao) (a1:Int):Option (Int×Unit):=mg a0 a1 some
theorem Hg {ρ:Type} (a0:ao) (a1:Int) (k:Int×Unit→Option ρ):mg a0 a1 k=(gr a0 a1).bind k:=by
 simp only [gr,mg,am,Option.bind_assoc,Option.bind_some]
abbrev CJ:bn:=bA [.ty (.st .cluster), .ty (.i .i64)] [.i .i64] fun x=>gr x.1 x.2.1
theorem LW:aD Tryz.prog 12 CJ:=
 al (Λ:=aI []) (fn:=Tryz.f12) aM Fx af (by kernel_rfl) (aF (by kernel_rfl:_= []) ah) (by kernel_rfl) (fun x=>gr x.1 x.2.1)
  (fun x=>Eq.trans (by kernel_rfl:_=mg x.1 x.2.1 (fun y=>ret (aE [.i .i64] y) fun v g=>some (v,g))) (Hg x.1 x.2.1 _)) fun _ _ h=>h
abbrev LX:List (Nat×bn):= []
theorem CK:aw Tryz.prog (aJ LX):=aj _
noncomputable abbrev qT:Code:=b9 (bT Tryz.f53) 0
abbrev hO:dN:=⟨[(0, .cl (.ro (.i .i64))),(3, .cl (.own 0 (.i .i64))),(4, .cl (.int .i64))],[],[.i .i64],0,22⟩
abbrev nz:List (X×dN):= [(.ext 0,⟨[(3, .cl (.own 0 (.i .i64)))],[],[.i .i64],0,22⟩)]
def rO {ρ:Type} (v1:List Int) (v2:List Int) (v3:Int) (fn: (((List Int)×Unit×Int×Unit)×(Unit)×((List Int)×Unit))→Option ρ) (fe: ((Unit×Unit)×(Unit)×((List Int)×Unit))→Option ρ):Option ρ:=
 br (decide (v3 < (v2.length:Int))) (ap (0≤v3) ((v2[v3.toNat]?).bind fun x4=>ap (0≤v3∧v3 < (v1.length:Int)) ((v1[v3.toNat]?).bind fun _=>fn ((v2,(),(IntKind.wrap .i64 (v3+1)),()),(()),((v1.set v3.toNat x4),()))) none) none) (fe (((),()),(()),(v1,())))
def lx (s:hO.D):Option (hO.D⊕bk.D nz):=rO s.2.2.1 s.1.1 s.1.2.2.1 (fun s=>some (.inl s)) (fun e=>some (.inr e))
def yj:hO.D→Option (bk.D nz):=jr lx
theorem JO {ρ:Type} (s:hO.D) (fn:hO.D→Option ρ) (fe:bk.D nz→Option ρ):rO s.2.2.1 s.1.1 s.1.2.2.1 fn fe=(lx s).bind (Sum.elim fn fe):=by
 simp only [lx,rO,am,aq,Option.bind_none,Option.bind_assoc,Option.bind_some,Sum.elim_inl,Sum.elim_inr]
abbrev Fy:cL:=cX [] [0,3,4] hO nz yj
theorem Hh (s:hO.D):ei Θ (aJ LX) (aI []) qT (hO.mk' s) (cO [0,3,4] [3] fun x S=>some (x,S))=(lx s).bind (Sum.elim (fun s'=>some (.nor,hO.mk' s')) fun e=>some (bk.e nz e)):=
 Eq.trans (by kernel_rfl:_=rO s.2.2.1 s.1.1 s.1.2.2.1 (fun s'=>some (.nor,hO.mk' s')) (fun e=>some (bk.e nz e))) (JO s _ _)
theorem Hi:bS Tryz.prog qT Fy:=aZ aM CK af (by kernel_rfl) (df (by kernel_rfl:_= []) ah) [] [0,3,4] [3] hO nz (by kernel_rfl) lx Hh yj (fT lx) (aQ lx)
def wM {ρ:Type} (a0:List Int) (k: (List Int)×Unit→Option ρ):Option ρ:=
 ap (0≤(a0.length:Int)∧(a0.length:Int)=(a0.length:Int)∧(a0.length:Int)*((8:Nat):Int)≤2 ^ 40) ((yj ((a0,(),0,()),(()),((List.replicate (a0.length:Int).toNat (0:Int)),()))).bind fun e7=>k (e7.2.2.1,())) none
def ol (a0:List Int):Option ((List Int)×Unit):=wM a0 some
theorem NY {ρ:Type} (a0:List Int) (k: (List Int)×Unit→Option ρ):wM a0 k=(ol a0).bind k:=by
 simp only [ol,wM,aq,Option.bind_none,Option.bind_assoc,Option.bind_some]
abbrev Fz:bn:=bA [.ty (.ls (.i .i64))] [.ls (.i .i64)] fun x=>ol x.1
theorem LY:aD Tryz.prog 53 Fz:=
 al (Λ:=aI [(ca qT,Fy)]) (fn:=Tryz.f53) aM CK af (by kernel_rfl) (aF (by kernel_rfl:_= [qT]) (aP (q:=ca qT) rfl Hi fun _ _ _=>by kernel_rfl)) (by kernel_rfl) (fun x=>ol x.1)
  (fun x=>Eq.trans (by kernel_rfl:_=wM x.1 (fun y=>ret (aE [.ls (.i .i64)] y) fun v g=>some (v,g))) (NY x.1 _)) fun _ _ h=>h
abbrev NZ:List (Nat×bn):= [(53,Fz)]
theorem Hj:aw Tryz.prog (aJ NZ):=ae LY <| aj _
def pJ {ρ:Type} (a0:ai) (k:ai×Unit→Option ρ):Option ρ:=
 (ol a0.replicas).bind fun y1=>(ol a0.witnesses).bind fun y2=>k ((⟨a0.epoch,a0.primary,y1.1,y2.1⟩:ai),())
def kg (a0:ai):Option (ai×Unit):=pJ a0 some
theorem JP {ρ:Type} (a0:ai) (k:ai×Unit→Option ρ):pJ a0 k=(kg a0).bind k:=by
 simp only [kg,pJ,Option.bind_assoc,Option.bind_some]
abbrev yk:bn:=bA [.ty (.st .config)] [.st .config] fun x=>kg x.1
theorem FA:aD Tryz.prog 208 yk:=
 al (Λ:=aI []) (fn:=Tryz.f208) aM Hj af (by kernel_rfl) (aF (by kernel_rfl:_= []) ah) (by kernel_rfl) (fun x=>kg x.1)
  (fun x=>Eq.trans (by kernel_rfl:_=pJ x.1 (fun y=>ret (aE [.st .config] y) fun v g=>some (v,g))) (JP x.1 _)) fun _ _ h=>h
abbrev UX:List (Nat×bn):= []
theorem PZ:aw Tryz.prog (aJ UX):=aj _
def Eu {ρ:Type} (a0:Op) (k:Op×Unit→Option ρ):Option ρ:=
 k (a0,())
def FB (a0:Op):Option (Op×Unit):=Eu a0 some
theorem R2 {ρ:Type} (a0:Op) (k:Op×Unit→Option ρ):Eu a0 k=(FB a0).bind k:=by
 simp only [FB,Eu,Option.bind_some]
abbrev R3:bn:=bA [.ty (.st .op)] [.st .op] fun x=>FB x.1
theorem UY:aD Tryz.prog 40 R3:=
 al (Λ:=aI []) (fn:=Tryz.f40) aM PZ af (by kernel_rfl) (aF (by kernel_rfl:_= []) ah) (by kernel_rfl) (fun x=>FB x.1)
  (fun x=>Eq.trans (by kernel_rfl:_=Eu x.1 (fun y=>ret (aE [.st .op] y) fun v g=>some (v,g))) (R2 x.1 _)) fun _ _ h=>h
abbrev P0:List (Nat×bn):= [(40,R3)]
theorem JQ:aw Tryz.prog (aJ P0):=ae UY <| aj _
def tT {ρ:Type} (a0:aK) (k:aK×Unit→Option ρ):Option ρ:=
 (FB a0.op).bind fun y1=>k ((⟨a0.epoch,y1.1⟩:aK),())
def qI (a0:aK):Option (aK×Unit):=tT a0 some
theorem LZ {ρ:Type} (a0:aK) (k:aK×Unit→Option ρ):tT a0 k=(qI a0).bind k:=by
 simp only [qI,tT,Option.bind_assoc,Option.bind_some]
abbrev Iw:bn:=bA [.ty (.st .entry)] [.st .entry] fun x=>qI x.1
theorem P1:aD Tryz.prog 265 Iw:=
 al (Λ:=aI []) (fn:=Tryz.f265) aM JQ af (by kernel_rfl) (aF (by kernel_rfl:_= []) ah) (by kernel_rfl) (fun x=>qI x.1)
  (fun x=>Eq.trans (by kernel_rfl:_=tT x.1 (fun y=>ret (aE [.st .entry] y) fun v g=>some (v,g))) (LZ x.1 _)) fun _ _ h=>h
abbrev FC:List (Nat×bn):= [(265,Iw)]
theorem xk:aw Tryz.prog (aJ FC):=ae P1 <| aj _
noncomputable abbrev om:Code:=b9 (bT Tryz.f209) 0
abbrev eE:dN:=⟨[(0, .cl (.ro (.st .entry))),(3, .cl (.own 0 (.st .entry))),(4, .cl (.int .i64))],[],[.st .entry],0,23⟩
abbrev kh:List (X×dN):= [(.ext 0,⟨[(3, .cl (.own 0 (.st .entry)))],[],[.st .entry],0,23⟩)]
def pv {ρ:Type} (v1:List aK) (v2:List aK) (v3:Int) (fn: (((List aK)×Unit×Int×Unit)×(Unit)×((List aK)×Unit))→Option ρ) (fe: ((Unit×Unit)×(Unit)×((List aK)×Unit))→Option ρ):Option ρ:=
 br (decide (v3 < (v2.length:Int))) (ap (0≤v3) ((v2[v3.toNat]?).bind fun x4=>(qI x4).bind fun y5=>ap (0≤v3∧v3 < (v1.length:Int)) ((v1[v3.toNat]?).bind fun _=>fn ((v2,(),(IntKind.wrap .i64 (v3+1)),()),(()),((v1.set v3.toNat y5.1),()))) none) none) (fe (((),()),(()),(v1,())))
def iM (s:eE.D):Option (eE.D⊕bk.D kh):=pv s.2.2.1 s.1.1 s.1.2.2.1 (fun s=>some (.inl s)) (fun e=>some (.inr e))
def tU:eE.D→Option (bk.D kh):=jr iM
theorem FD {ρ:Type} (s:eE.D) (fn:eE.D→Option ρ) (fe:bk.D kh→Option ρ):pv s.2.2.1 s.1.1 s.1.2.2.1 fn fe=(iM s).bind (Sum.elim fn fe):=by
 simp only [iM,pv,am,aq,Option.bind_none,Option.bind_assoc,Option.bind_some,Sum.elim_inl,Sum.elim_inr]
abbrev zB:cL:=cX [] [0,3,4] eE kh tU
theorem Dm (s:eE.D):ei Θ (aJ FC) (aI []) om (eE.mk' s) (cO [0,3,4] [3] fun x S=>some (x,S))=(iM s).bind (Sum.elim (fun s'=>some (.nor,eE.mk' s')) fun e=>some (bk.e kh e)):=
 Eq.trans (by kernel_rfl:_=pv s.2.2.1 s.1.1 s.1.2.2.1 (fun s'=>some (.nor,eE.mk' s')) (fun e=>some (bk.e kh e))) (FD s _ _)
theorem Dn:bS Tryz.prog om zB:=aZ aM xk af (by kernel_rfl) (df (by kernel_rfl:_= []) ah) [] [0,3,4] [3] eE kh (by kernel_rfl) iM Dm tU (fT iM) (aQ iM)
def rP {ρ:Type} (a0:List aK) (k: (List aK)×Unit→Option ρ):Option ρ:=
 ap (0≤(a0.length:Int)∧(a0.length:Int)=(a0.length:Int)∧(a0.length:Int)*((56:Nat):Int)≤2 ^ 40) ((tU ((a0,(),0,()),(()),((List.replicate (a0.length:Int).toNat (⟨0,(⟨0,0,0,0,0,0⟩:Op)⟩:aK)),()))).bind fun e8=>k (e8.2.2.1,())) none
def ly (a0:List aK):Option ((List aK)×Unit):=rP a0 some
theorem JR {ρ:Type} (a0:List aK) (k: (List aK)×Unit→Option ρ):rP a0 k=(ly a0).bind k:=by
 simp only [ly,rP,aq,Option.bind_none,Option.bind_assoc,Option.bind_some]
abbrev FE:bn:=bA [.ty (.ls (.st .entry))] [.ls (.st .entry)] fun x=>ly x.1
theorem N0:aD Tryz.prog 209 FE:=
 al (Λ:=aI [(ca om,zB)]) (fn:=Tryz.f209) aM xk af (by kernel_rfl) (aF (by kernel_rfl:_= [om]) (aP (q:=ca om) rfl Dn fun _ _ _=>by kernel_rfl)) (by kernel_rfl) (fun x=>ly x.1)
  (fun x=>Eq.trans (by kernel_rfl:_=rP x.1 (fun y=>ret (aE [.ls (.st .entry)] y) fun v g=>some (v,g))) (JR x.1 _)) fun _ _ h=>h
abbrev N1:List (Nat×bn):= [(208,yk),(209,FE)]
theorem Hk:aw Tryz.prog (aJ N1):=ae FA <| ae N0 <| aj _
def pK {ρ:Type} (a0:ak) (k:ak×Unit→Option ρ):Option ρ:=
 (kg a0.config).bind fun y1=>(ly a0.log).bind fun y2=>(ly a0.learned).bind fun y3=>k ((⟨a0.up,a0.intact,a0.version,a0.epoch,y1.1,a0.first,y2.1,a0.commit,y3.1⟩:ak),())
def lz (a0:ak):Option (ak×Unit):=pK a0 some
theorem JS {ρ:Type} (a0:ak) (k:ak×Unit→Option ρ):pK a0 k=(lz a0).bind k:=by
 simp only [lz,pK,Option.bind_assoc,Option.bind_some]
abbrev FF:bn:=bA [.ty (.st .server)] [.st .server] fun x=>lz x.1
theorem N2:aD Tryz.prog 132 FF:=
 al (Λ:=aI []) (fn:=Tryz.f132) aM Hk af (by kernel_rfl) (aF (by kernel_rfl:_= []) ah) (by kernel_rfl) (fun x=>lz x.1)
  (fun x=>Eq.trans (by kernel_rfl:_=pK x.1 (fun y=>ret (aE [.st .server] y) fun v g=>some (v,g))) (JS x.1 _)) fun _ _ h=>h
abbrev CL:List (Nat×bn):= [(132,FF)]
theorem vu:aw Tryz.prog (aJ CL):=ae N2 <| aj _
noncomputable abbrev mO:Code:=b9 (bT Tryz.f52) 0
abbrev dR:dN:=⟨[(0, .cl (.ro (.st .server))),(3, .cl (.own 0 (.st .server))),(4, .cl (.int .i64))],[],[.st .server],0,23⟩
abbrev jc:List (X×dN):= [(.ext 0,⟨[(3, .cl (.own 0 (.st .server)))],[],[.st .server],0,23⟩)]
def oo {ρ:Type} (v1:List ak) (v2:List ak) (v3:Int) (fn: (((List ak)×Unit×Int×Unit)×(Unit)×((List ak)×Unit))→Option ρ) (fe: ((Unit×Unit)×(Unit)×((List ak)×Unit))→Option ρ):Option ρ:=
 br (decide (v3 < (v2.length:Int))) (ap (0≤v3) ((v2[v3.toNat]?).bind fun x4=>(lz x4).bind fun y5=>ap (0≤v3∧v3 < (v1.length:Int)) ((v1[v3.toNat]?).bind fun _=>fn ((v2,(),(IntKind.wrap .i64 (v3+1)),()),(()),((v1.set v3.toNat y5.1),()))) none) none) (fe (((),()),(()),(v1,())))
def gt (s:dR.D):Option (dR.D⊕bk.D jc):=oo s.2.2.1 s.1.1 s.1.2.2.1 (fun s=>some (.inl s)) (fun e=>some (.inr e))
def sB:dR.D→Option (bk.D jc):=jr gt
theorem Dp {ρ:Type} (s:dR.D) (fn:dR.D→Option ρ) (fe:bk.D jc→Option ρ):oo s.2.2.1 s.1.1 s.1.2.2.1 fn fe=(gt s).bind (Sum.elim fn fe):=by
 simp only [gt,oo,am,aq,Option.bind_none,Option.bind_assoc,Option.bind_some,Sum.elim_inl,Sum.elim_inr]
abbrev xm:cL:=cX [] [0,3,4] dR jc sB
theorem Bw (s:dR.D):ei Θ (aJ CL) (aI []) mO (dR.mk' s) (cO [0,3,4] [3] fun x S=>some (x,S))=(gt s).bind (Sum.elim (fun s'=>some (.nor,dR.mk' s')) fun e=>some (bk.e jc e)):=
 Eq.trans (by kernel_rfl:_=oo s.2.2.1 s.1.1 s.1.2.2.1 (fun s'=>some (.nor,dR.mk' s')) (fun e=>some (bk.e jc e))) (Dp s _ _)
theorem Bx:bS Tryz.prog mO xm:=aZ aM vu af (by kernel_rfl) (df (by kernel_rfl:_= []) ah) [] [0,3,4] [3] dR jc (by kernel_rfl) gt Bw sB (fT gt) (aQ gt)
def qx {ρ:Type} (a0:List ak) (k: (List ak)×Unit→Option ρ):Option ρ:=
 ap (0≤(a0.length:Int)∧(a0.length:Int)=(a0.length:Int)∧(a0.length:Int)*((152:Nat):Int)≤2 ^ 40) ((sB ((a0,(),0,()),(()),((List.replicate (a0.length:Int).toNat (⟨false,false,0,0,(⟨0,0,([]:List Int),([]:List Int)⟩:ai),0,([]:List aK),0,([]:List aK)⟩:ak)),()))).bind fun e8=>k (e8.2.2.1,())) none
def lA (a0:List ak):Option ((List ak)×Unit):=qx a0 some
theorem Hl {ρ:Type} (a0:List ak) (k: (List ak)×Unit→Option ρ):qx a0 k=(lA a0).bind k:=by
 simp only [lA,qx,aq,Option.bind_none,Option.bind_assoc,Option.bind_some]
abbrev CM:bn:=bA [.ty (.ls (.st .server))] [.ls (.st .server)] fun x=>lA x.1
theorem L0:aD Tryz.prog 52 CM:=
 al (Λ:=aI [(ca mO,xm)]) (fn:=Tryz.f52) aM vu af (by kernel_rfl) (aF (by kernel_rfl:_= [mO]) (aP (q:=ca mO) rfl Bx fun _ _ _=>by kernel_rfl)) (by kernel_rfl) (fun x=>lA x.1)
  (fun x=>Eq.trans (by kernel_rfl:_=qx x.1 (fun y=>ret (aE [.ls (.st .server)] y) fun v g=>some (v,g))) (Hl x.1 _)) fun _ _ h=>h
abbrev CN:List (Nat×bn):= [(208,yk)]
theorem vv:aw Tryz.prog (aJ CN):=ae FA <| aj _
noncomputable abbrev mQ:Code:=b9 (bT Tryz.f133) 0
abbrev dS:dN:=⟨[(0, .cl (.ro (.st .config))),(3, .cl (.own 0 (.st .config))),(4, .cl (.int .i64))],[],[.st .config],0,23⟩
abbrev jd:List (X×dN):= [(.ext 0,⟨[(3, .cl (.own 0 (.st .config)))],[],[.st .config],0,23⟩)]
def oq {ρ:Type} (v1:List ai) (v2:List ai) (v3:Int) (fn: (((List ai)×Unit×Int×Unit)×(Unit)×((List ai)×Unit))→Option ρ) (fe: ((Unit×Unit)×(Unit)×((List ai)×Unit))→Option ρ):Option ρ:=
 br (decide (v3 < (v2.length:Int))) (ap (0≤v3) ((v2[v3.toNat]?).bind fun x4=>(kg x4).bind fun y5=>ap (0≤v3∧v3 < (v1.length:Int)) ((v1[v3.toNat]?).bind fun _=>fn ((v2,(),(IntKind.wrap .i64 (v3+1)),()),(()),((v1.set v3.toNat y5.1),()))) none) none) (fe (((),()),(()),(v1,())))
def gv (s:dS.D):Option (dS.D⊕bk.D jd):=oq s.2.2.1 s.1.1 s.1.2.2.1 (fun s=>some (.inl s)) (fun e=>some (.inr e))
def sC:dS.D→Option (bk.D jd):=jr gv
theorem Dq {ρ:Type} (s:dS.D) (fn:dS.D→Option ρ) (fe:bk.D jd→Option ρ):oq s.2.2.1 s.1.1 s.1.2.2.1 fn fe=(gv s).bind (Sum.elim fn fe):=by
 simp only [gv,oq,am,aq,Option.bind_none,Option.bind_assoc,Option.bind_some,Sum.elim_inl,Sum.elim_inr]
abbrev xn:cL:=cX [] [0,3,4] dS jd sC
theorem Bz (s:dS.D):ei Θ (aJ CN) (aI []) mQ (dS.mk' s) (cO [0,3,4] [3] fun x S=>some (x,S))=(gv s).bind (Sum.elim (fun s'=>some (.nor,dS.mk' s')) fun e=>some (bk.e jd e)):=
 Eq.trans (by kernel_rfl:_=oq s.2.2.1 s.1.1 s.1.2.2.1 (fun s'=>some (.nor,dS.mk' s')) (fun e=>some (bk.e jd e))) (Dq s _ _)
theorem BA:bS Tryz.prog mQ xn:=aZ aM vv af (by kernel_rfl) (df (by kernel_rfl:_= []) ah) [] [0,3,4] [3] dS jd (by kernel_rfl) gv Bz sC (fT gv) (aQ gv)
def qy {ρ:Type} (a0:List ai) (k: (List ai)×Unit→Option ρ):Option ρ:=
 ap (0≤(a0.length:Int)∧(a0.length:Int)=(a0.length:Int)∧(a0.length:Int)*((64:Nat):Int)≤2 ^ 40) ((sC ((a0,(),0,()),(()),((List.replicate (a0.length:Int).toNat (⟨0,0,([]:List Int),([]:List Int)⟩:ai)),()))).bind fun e8=>k (e8.2.2.1,())) none
def lB (a0:List ai):Option ((List ai)×Unit):=qy a0 some
theorem Hm {ρ:Type} (a0:List ai) (k: (List ai)×Unit→Option ρ):qy a0 k=(lB a0).bind k:=by
 simp only [lB,qy,aq,Option.bind_none,Option.bind_assoc,Option.bind_some]
abbrev CO:bn:=bA [.ty (.ls (.st .config))] [.ls (.st .config)] fun x=>lB x.1
theorem L3:aD Tryz.prog 133 CO:=
 al (Λ:=aI [(ca mQ,xn)]) (fn:=Tryz.f133) aM vv af (by kernel_rfl) (aF (by kernel_rfl:_= [mQ]) (aP (q:=ca mQ) rfl BA fun _ _ _=>by kernel_rfl)) (by kernel_rfl) (fun x=>lB x.1)
  (fun x=>Eq.trans (by kernel_rfl:_=qy x.1 (fun y=>ret (aE [.ls (.st .config)] y) fun v g=>some (v,g))) (Hm x.1 _)) fun _ _ h=>h
abbrev Hn:List (Nat×bn):= [(133,CO)]
theorem BB:aw Tryz.prog (aJ Hn):=ae L3 <| aj _
def lC {ρ:Type} (a0:an) (k:an×Unit→Option ρ):Option ρ:=
 (lB a0.configs).bind fun y1=>k ((⟨y1.1,a0.activated⟩:an),())
def je (a0:an):Option (an×Unit):=lC a0 some
theorem Dr {ρ:Type} (a0:an) (k:an×Unit→Option ρ):lC a0 k=(je a0).bind k:=by
 simp only [je,lC,Option.bind_assoc,Option.bind_some]
abbrev xp:bn:=bA [.ty (.st .masterLog)] [.st .masterLog] fun x=>je x.1
theorem Ho:aD Tryz.prog 54 xp:=
 al (Λ:=aI []) (fn:=Tryz.f54) aM BB af (by kernel_rfl) (aF (by kernel_rfl:_= []) ah) (by kernel_rfl) (fun x=>je x.1)
  (fun x=>Eq.trans (by kernel_rfl:_=lC x.1 (fun y=>ret (aE [.st .masterLog] y) fun v g=>some (v,g))) (Dr x.1 _)) fun _ _ h=>h
abbrev P2:List (Nat×bn):= []
theorem JT:aw Tryz.prog (aJ P2):=aj _
def tV {ρ:Type} (a0:jC) (k:jC×Unit→Option ρ):Option ρ:=
 k (a0,())
def qJ (a0:jC):Option (jC×Unit):=tV a0 some
theorem L4 {ρ:Type} (a0:jC) (k:jC×Unit→Option ρ):tV a0 k=(qJ a0).bind k:=by
 simp only [qJ,tV,Option.bind_some]
abbrev Ix:bn:=bA [.ty (.st .lease)] [.st .lease] fun x=>qJ x.1
theorem P3:aD Tryz.prog 55 Ix:=
 al (Λ:=aI []) (fn:=Tryz.f55) aM JT af (by kernel_rfl) (aF (by kernel_rfl:_= []) ah) (by kernel_rfl) (fun x=>qJ x.1)
  (fun x=>Eq.trans (by kernel_rfl:_=tV x.1 (fun y=>ret (aE [.st .lease] y) fun v g=>some (v,g))) (L4 x.1 _)) fun _ _ h=>h
abbrev P4:List (Nat×bn):= []
theorem JU:aw Tryz.prog (aJ P4):=aj _
def tW {ρ:Type} (a0:aU) (k:aU×Unit→Option ρ):Option ρ:=
 k (a0,())
def qK (a0:aU):Option (aU×Unit):=tW a0 some
theorem L5 {ρ:Type} (a0:aU) (k:aU×Unit→Option ρ):tW a0 k=(qK a0).bind k:=by
 simp only [qK,tW,Option.bind_some]
abbrev Iy:bn:=bA [.ty (.st .place)] [.st .place] fun x=>qK x.1
theorem P5:aD Tryz.prog 134 Iy:=
 al (Λ:=aI []) (fn:=Tryz.f134) aM JU af (by kernel_rfl) (aF (by kernel_rfl:_= []) ah) (by kernel_rfl) (fun x=>qK x.1)
  (fun x=>Eq.trans (by kernel_rfl:_=tW x.1 (fun y=>ret (aE [.st .place] y) fun v g=>some (v,g))) (L5 x.1 _)) fun _ _ h=>h
abbrev FG:List (Nat×bn):= [(134,Iy)]
theorem xq:aw Tryz.prog (aJ FG):=ae P5 <| aj _
noncomputable abbrev ot:Code:=b9 (bT Tryz.f56) 0
abbrev eF:dN:=⟨[(0, .cl (.ro (.st .place))),(3, .cl (.own 0 (.st .place))),(4, .cl (.int .i64))],[],[.st .place],0,23⟩
abbrev ki:List (X×dN):= [(.ext 0,⟨[(3, .cl (.own 0 (.st .place)))],[],[.st .place],0,23⟩)]
def pw {ρ:Type} (v1:List aU) (v2:List aU) (v3:Int) (fn: (((List aU)×Unit×Int×Unit)×(Unit)×((List aU)×Unit))→Option ρ) (fe: ((Unit×Unit)×(Unit)×((List aU)×Unit))→Option ρ):Option ρ:=
 br (decide (v3 < (v2.length:Int))) (ap (0≤v3) ((v2[v3.toNat]?).bind fun x4=>(qK x4).bind fun y5=>ap (0≤v3∧v3 < (v1.length:Int)) ((v1[v3.toNat]?).bind fun _=>fn ((v2,(),(IntKind.wrap .i64 (v3+1)),()),(()),((v1.set v3.toNat y5.1),()))) none) none) (fe (((),()),(()),(v1,())))
def iO (s:eF.D):Option (eF.D⊕bk.D ki):=pw s.2.2.1 s.1.1 s.1.2.2.1 (fun s=>some (.inl s)) (fun e=>some (.inr e))
def tX:eF.D→Option (bk.D ki):=jr iO
theorem FH {ρ:Type} (s:eF.D) (fn:eF.D→Option ρ) (fe:bk.D ki→Option ρ):pw s.2.2.1 s.1.1 s.1.2.2.1 fn fe=(iO s).bind (Sum.elim fn fe):=by
 simp only [iO,pw,am,aq,Option.bind_none,Option.bind_assoc,Option.bind_some,Sum.elim_inl,Sum.elim_inr]
abbrev zC:cL:=cX [] [0,3,4] eF ki tX
theorem Ds (s:eF.D):ei Θ (aJ FG) (aI []) ot (eF.mk' s) (cO [0,3,4] [3] fun x S=>some (x,S))=(iO s).bind (Sum.elim (fun s'=>some (.nor,eF.mk' s')) fun e=>some (bk.e ki e)):=
 Eq.trans (by kernel_rfl:_=pw s.2.2.1 s.1.1 s.1.2.2.1 (fun s'=>some (.nor,eF.mk' s')) (fun e=>some (bk.e ki e))) (FH s _ _)
theorem Dt:bS Tryz.prog ot zC:=aZ aM xq af (by kernel_rfl) (df (by kernel_rfl:_= []) ah) [] [0,3,4] [3] eF ki (by kernel_rfl) iO Ds tX (fT iO) (aQ iO)
def rQ {ρ:Type} (a0:List aU) (k: (List aU)×Unit→Option ρ):Option ρ:=
 ap (0≤(a0.length:Int)∧(a0.length:Int)=(a0.length:Int)∧(a0.length:Int)*((24:Nat):Int)≤2 ^ 40) ((tX ((a0,(),0,()),(()),((List.replicate (a0.length:Int).toNat (⟨0,0,0⟩:aU)),()))).bind fun e8=>k (e8.2.2.1,())) none
def nA (a0:List aU):Option ((List aU)×Unit):=rQ a0 some
theorem JV {ρ:Type} (a0:List aU) (k: (List aU)×Unit→Option ρ):rQ a0 k=(nA a0).bind k:=by
 simp only [nA,rQ,aq,Option.bind_none,Option.bind_assoc,Option.bind_some]
abbrev FI:bn:=bA [.ty (.ls (.st .place))] [.ls (.st .place)] fun x=>nA x.1
theorem N3:aD Tryz.prog 56 FI:=
 al (Λ:=aI [(ca ot,zC)]) (fn:=Tryz.f56) aM xq af (by kernel_rfl) (aF (by kernel_rfl:_= [ot]) (aP (q:=ca ot) rfl Dt fun _ _ _=>by kernel_rfl)) (by kernel_rfl) (fun x=>nA x.1)
  (fun x=>Eq.trans (by kernel_rfl:_=rQ x.1 (fun y=>ret (aE [.ls (.st .place)] y) fun v g=>some (v,g))) (JV x.1 _)) fun _ _ h=>h
abbrev L6:List (Nat×bn):= [(52,CM),(53,Fz),(54,xp),(55,Ix),(56,FI)]
theorem FJ:aw Tryz.prog (aJ L6):=ae L0 <| ae LY <| ae Ho <| ae P3 <| ae N3 <| aj _
def ou {ρ:Type} (a0:ao) (k:ao×Unit→Option ρ):Option ρ:=
 (lA a0.servers).bind fun y1=>(ol a0.sides).bind fun y2=>(je a0.master).bind fun y3=>(qJ a0.lease).bind fun y4=>(nA a0.places).bind fun y5=>k ((⟨a0.now,y1.1,y2.1,y3.1,a0.masterUp,y4.1,y5.1⟩:ao),())
def fK (a0:ao):Option (ao×Unit):=ou a0 some
theorem Hp {ρ:Type} (a0:ao) (k:ao×Unit→Option ρ):ou a0 k=(fK a0).bind k:=by
 simp only [fK,ou,Option.bind_assoc,Option.bind_some]
abbrev CP:bn:=bA [.ty (.st .cluster)] [.st .cluster] fun x=>fK x.1
theorem L7:aD Tryz.prog 14 CP:=
 al (Λ:=aI []) (fn:=Tryz.f14) aM FJ af (by kernel_rfl) (aF (by kernel_rfl:_= []) ah) (by kernel_rfl) (fun x=>fK x.1)
  (fun x=>Eq.trans (by kernel_rfl:_=ou x.1 (fun y=>ret (aE [.st .cluster] y) fun v g=>some (v,g))) (Hp x.1 _)) fun _ _ h=>h
abbrev R4:List (Nat×bn):= []
theorem L8:aw Tryz.prog (aJ R4):=aj _
def qL {ρ:Type} (a0:ai) (k:ai×Unit→Option ρ):Option ρ:=
 ap ((([]:List Int)++a0.replicas).length*8≤2 ^ 40) (ap ((([]:List Int)++a0.witnesses).length*8≤2 ^ 40) (k ((⟨a0.epoch,a0.primary,(([]:List Int)++a0.replicas),(([]:List Int)++a0.witnesses)⟩:ai),())) none) none
def lD (a0:ai):Option (ai×Unit):=qL a0 some
theorem N4 {ρ:Type} (a0:ai) (k:ai×Unit→Option ρ):qL a0 k=(lD a0).bind k:=by
 simp only [lD,qL,aq,Option.bind_none,Option.bind_some]
abbrev zD:bn:=bA [.ty (.st .config)] [.st .config] fun x=>lD x.1
theorem FK:aD Tryz.prog 170 zD:=
 al (Λ:=aI []) (fn:=Tryz.f170) aM L8 af (by kernel_rfl) (aF (by kernel_rfl:_= []) ah) (by kernel_rfl) (fun x=>lD x.1)
  (fun x=>Eq.trans (by kernel_rfl:_=qL x.1 (fun y=>ret (aE [.st .config] y) fun v g=>some (v,g))) (N4 x.1 _)) fun _ _ h=>h
abbrev R5:List (Nat×bn):= []
theorem L9:aw Tryz.prog (aJ R5):=aj _
def s4 {ρ:Type} (a0:List aK) (k: (List aK)×Unit→Option ρ):Option ρ:=
 ap ((([]:List aK)++a0).length*56≤2 ^ 40) (k ((([]:List aK)++a0),())) none
def pL (a0:List aK):Option ((List aK)×Unit):=s4 a0 some
theorem N5 {ρ:Type} (a0:List aK) (k: (List aK)×Unit→Option ρ):s4 a0 k=(pL a0).bind k:=by
 simp only [pL,s4,aq,Option.bind_none,Option.bind_some]
abbrev Ma:bn:=bA [.ty (.ls (.st .entry))] [.ls (.st .entry)] fun x=>pL x.1
theorem R6:aD Tryz.prog 79 Ma:=
 al (Λ:=aI []) (fn:=Tryz.f79) aM L9 af (by kernel_rfl) (aF (by kernel_rfl:_= []) ah) (by kernel_rfl) (fun x=>pL x.1)
  (fun x=>Eq.trans (by kernel_rfl:_=s4 x.1 (fun y=>ret (aE [.ls (.st .entry)] y) fun v g=>some (v,g))) (N5 x.1 _)) fun _ _ h=>h
abbrev P6:List (Nat×bn):= [(170,zD),(79,Ma)]
theorem JW:aw Tryz.prog (aJ P6):=ae FK <| ae R6 <| aj _
def qU {ρ:Type} (a0:ak) (k:ak×Unit→Option ρ):Option ρ:=
 (lD a0.config).bind fun y1=>(pL a0.log).bind fun y2=>(pL a0.learned).bind fun y3=>k ((⟨a0.up,a0.intact,a0.version,a0.epoch,y1.1,a0.first,y2.1,a0.commit,y3.1⟩:ak),())
def pd (a0:ak):Option (ak×Unit):=qU a0 some
theorem Mb {ρ:Type} (a0:ak) (k:ak×Unit→Option ρ):qU a0 k=(pd a0).bind k:=by
 simp only [pd,qU,Option.bind_assoc,Option.bind_some]
abbrev Iz:bn:=bA [.ty (.st .server)] [.st .server] fun x=>pd x.1
theorem P7:aD Tryz.prog 154 Iz:=
 al (Λ:=aI []) (fn:=Tryz.f154) aM JW af (by kernel_rfl) (aF (by kernel_rfl:_= []) ah) (by kernel_rfl) (fun x=>pd x.1)
  (fun x=>Eq.trans (by kernel_rfl:_=qU x.1 (fun y=>ret (aE [.st .server] y) fun v g=>some (v,g))) (Mb x.1 _)) fun _ _ h=>h
abbrev IA:List (Nat×bn):= [(170,zD)]
theorem zE:aw Tryz.prog (aJ IA):=ae FK <| aj _
noncomputable abbrev pM:Code:=b9 (bT Tryz.f155) 0
abbrev fL:dN:=⟨[(1, .cl (.ptr 0 0)),(2, .cl (.ptr 1 0)),(3, .cl (.ptr 2 0)),(4, .cl (.int .i64))],[[.ro (.st .config), .int .i64],[.em, .int .i64],[.own 0 (.st .config), .int .i64]],[.st .config],0,29⟩
abbrev lE:List (X×dN):= [(.ext 0,⟨[(2, .cl (.ptr 0 0)),(3, .cl (.ptr 1 0))],[[.em, .int .i64],[.own 0 (.st .config), .int .i64]],[.st .config],0,29⟩)]
def mh {ρ:Type} (v8:List ai) (v9:Int) (v10:List ai) (v11:Int) (v12:Int) (v13:Int) (fn: ((Unit×Unit×Unit×Int×Unit)×(((List ai)×Int×Unit)×(Unit×Int×Unit)×(Unit×Int×Unit)×Unit)×((List ai)×Unit))→Option ρ) (fe: ((Unit×Unit×Unit)×((Unit×Int×Unit)×(Unit×Int×Unit)×Unit)×((List ai)×Unit))→Option ρ):Option ρ:=
 br (decide (v9 < (v10.length:Int))) (ap (0≤v9) ((v10[v9.toNat]?).bind fun x14=>(lD x14).bind fun y15=>ap ((v8++([y15.1]:List ai)).length*64≤2 ^ 40) (fn (((),(),(),(IntKind.wrap .i64 (v9+1)),()),((v10,v11,()),((),v12,()),((),v13,()),()),((v8++([y15.1]:List ai)),()))) none) none) (fe (((),(),()),(((),v12,()),((),v13,()),()),(v8,())))
def gx (s:fL.D):Option (fL.D⊕bk.D lE):=mh s.2.2.1 s.1.2.2.2.1 s.2.1.1.1 s.2.1.1.2.1 s.2.1.2.1.2.1 s.2.1.2.2.1.2.1 (fun s=>some (.inl s)) (fun e=>some (.inr e))
def rR:fL.D→Option (bk.D lE):=jr gx
theorem Hq {ρ:Type} (s:fL.D) (fn:fL.D→Option ρ) (fe:bk.D lE→Option ρ):mh s.2.2.1 s.1.2.2.2.1 s.2.1.1.1 s.2.1.1.2.1 s.2.1.2.1.2.1 s.2.1.2.2.1.2.1 fn fe=(gx s).bind (Sum.elim fn fe):=by
 simp only [gx,mh,am,aq,Option.bind_none,Option.bind_assoc,Option.bind_some,Sum.elim_inl,Sum.elim_inr]
abbrev CQ:cL:=cX [.b 2 0 (.st .config)] [1,2,3,4] fL lE rR
theorem FL (s:fL.D):ei Θ (aJ IA) (aI []) pM (fL.mk' s) (cO [1,2,3,4] [2,3] fun x S=>some (x,S))=(gx s).bind (Sum.elim (fun s'=>some (.nor,fL.mk' s')) fun e=>some (bk.e lE e)):=
 Eq.trans (by kernel_rfl:_=mh s.2.2.1 s.1.2.2.2.1 s.2.1.1.1 s.2.1.1.2.1 s.2.1.2.1.2.1 s.2.1.2.2.1.2.1 (fun s'=>some (.nor,fL.mk' s')) (fun e=>some (bk.e lE e))) (Hq s _ _)
theorem FM:bS Tryz.prog pM CQ:=aZ aM zE af (by kernel_rfl) (df (by kernel_rfl:_= []) ah) [.b 2 0 (.st .config)] [1,2,3,4] [2,3] fL lE (by kernel_rfl) gx FL rR (fT gx) (aQ gx)
def qV {ρ:Type} (a0:an) (k:an×Unit→Option ρ):Option ρ:=
 (rR (((),(),(),0,()),((a0.configs,a0.activated,()),((),0,()),((),a0.activated,()),()),(([]:List ai),()))).bind fun e16=>k ((⟨e16.2.2.1,e16.2.1.2.1.2.1⟩:an),())
def pe (a0:an):Option (an×Unit):=qV a0 some
theorem Mc {ρ:Type} (a0:an) (k:an×Unit→Option ρ):qV a0 k=(pe a0).bind k:=by
 simp only [pe,qV,Option.bind_assoc,Option.bind_some]
abbrev IB:bn:=bA [.ty (.st .masterLog)] [.st .masterLog] fun x=>pe x.1
theorem P8:aD Tryz.prog 155 IB:=
 al (Λ:=aI [(ca pM,CQ)]) (fn:=Tryz.f155) aM zE af (by kernel_rfl) (aF (by kernel_rfl:_= [pM]) (aP (q:=ca pM) rfl FM fun _ _ _=>by kernel_rfl)) (by kernel_rfl) (fun x=>pe x.1)
  (fun x=>Eq.trans (by kernel_rfl:_=qV x.1 (fun y=>ret (aE [.st .masterLog] y) fun v g=>some (v,g))) (Mc x.1 _)) fun _ _ h=>h
abbrev IC:List (Nat×bn):= [(154,Iz),(155,IB)]
theorem zF:aw Tryz.prog (aJ IC):=ae P7 <| ae P8 <| aj _
noncomputable abbrev pN:Code:=b9 (bT Tryz.f82) 0
abbrev fM:dN:=⟨[(1, .cl (.ptr 0 0)),(2, .cl (.ptr 1 0)),(3, .cl (.ptr 2 0)),(4, .cl (.int .i64))],[[.int .i64, .ro (.st .server), .ro (.i .i64), .ro (.st .config), .int .i64, .int .i64, .int .i64, .int .i64, .int .i64, .ro (.st .place)],[.int .i64, .em, .em, .em, .int .i64, .int .i64, .int .i64, .int .i64, .int .i64, .em],[.int .i64, .own 0 (.st .server), .ro (.i .i64), .ro (.st .config), .int .i64, .int .i64, .int .i64, .int .i64, .int .i64, .ro (.st .place)]],[.st .server],0,42⟩
abbrev lF:List (X×dN):= [(.ext 0,⟨[(1, .cl (.ptr 0 0)),(2, .cl (.ptr 1 0)),(3, .cl (.ptr 2 0))],[[.int .i64, .ro (.st .server), .ro (.i .i64), .ro (.st .config), .int .i64, .int .i64, .int .i64, .int .i64, .int .i64, .ro (.st .place)],[.int .i64, .em, .em, .em, .int .i64, .int .i64, .int .i64, .int .i64, .int .i64, .em],[.int .i64, .own 0 (.st .server), .ro (.i .i64), .ro (.st .config), .int .i64, .int .i64, .int .i64, .int .i64, .int .i64, .ro (.st .place)]],[.st .server],0,42⟩)]
def mi {ρ:Type} (v29:List ak) (v30:Int) (v31:Int) (v32:List ak) (v33:List Int) (v34:List ai) (v35:Int) (v36:Int) (v37:Int) (v38:Int) (v39:Int) (v40:List aU) (v41:Int) (v42:Int) (v43:Int) (v44:Int) (v45:Int) (v46:Int) (v47:Int) (v48:List Int) (v49:List ai) (v50:Int) (v51:Int) (v52:Int) (v53:Int) (v54:Int) (v55:List aU) (fn: ((Unit×Unit×Unit×Int×Unit)×((Int×(List ak)×(List Int)×(List ai)×Int×Int×Int×Int×Int×(List aU)×Unit)×(Int×Unit×Unit×Unit×Int×Int×Int×Int×Int×Unit×Unit)×(Int×Unit×(List Int)×(List ai)×Int×Int×Int×Int×Int×(List aU)×Unit)×Unit)×((List ak)×Unit))→Option ρ) (fe: ((Unit×Unit×Unit×Unit)×((Int×(List ak)×(List Int)×(List ai)×Int×Int×Int×Int×Int×(List aU)×Unit)×(Int×Unit×Unit×Unit×Int×Int×Int×Int×Int×Unit×Unit)×(Int×Unit×(List Int)×(List ai)×Int×Int×Int×Int×Int×(List aU)×Unit)×Unit)×((List ak)×Unit))→Option ρ):Option ρ:=
 br (decide (v30 < (v32.length:Int))) (ap (0≤v30) ((v32[v30.toNat]?).bind fun x56=>(pd x56).bind fun y57=>ap ((v29++([y57.1]:List ak)).length*152≤2 ^ 40) (fn (((),(),(),(IntKind.wrap .i64 (v30+1)),()),((v31,v32,v33,v34,v35,v36,v37,v38,v39,v40,()),(v41,(),(),(),v42,v43,v44,v45,v46,(),()),(v47,(),v48,v49,v50,v51,v52,v53,v54,v55,()),()),((v29++([y57.1]:List ak)),()))) none) none) (fe (((),(),(),()),((v31,v32,v33,v34,v35,v36,v37,v38,v39,v40,()),(v41,(),(),(),v42,v43,v44,v45,v46,(),()),(v47,(),v48,v49,v50,v51,v52,v53,v54,v55,()),()),(v29,())))
def gy (s:fM.D):Option (fM.D⊕bk.D lF):=mi s.2.2.1 s.1.2.2.2.1 s.2.1.1.1 s.2.1.1.2.1 s.2.1.1.2.2.1 s.2.1.1.2.2.2.1 s.2.1.1.2.2.2.2.1 s.2.1.1.2.2.2.2.2.1 s.2.1.1.2.2.2.2.2.2.1 s.2.1.1.2.2.2.2.2.2.2.1 s.2.1.1.2.2.2.2.2.2.2.2.1 s.2.1.1.2.2.2.2.2.2.2.2.2.1 s.2.1.2.1.1 s.2.1.2.1.2.2.2.2.1 s.2.1.2.1.2.2.2.2.2.1 s.2.1.2.1.2.2.2.2.2.2.1 s.2.1.2.1.2.2.2.2.2.2.2.1 s.2.1.2.1.2.2.2.2.2.2.2.2.1 s.2.1.2.2.1.1 s.2.1.2.2.1.2.2.1 s.2.1.2.2.1.2.2.2.1 s.2.1.2.2.1.2.2.2.2.1 s.2.1.2.2.1.2.2.2.2.2.1 s.2.1.2.2.1.2.2.2.2.2.2.1 s.2.1.2.2.1.2.2.2.2.2.2.2.1 s.2.1.2.2.1.2.2.2.2.2.2.2.2.1 s.2.1.2.2.1.2.2.2.2.2.2.2.2.2.1 (fun s=>some (.inl s)) (fun e=>some (.inr e))
def rS:fM.D→Option (bk.D lF):=jr gy
theorem Hr {ρ:Type} (s:fM.D) (fn:fM.D→Option ρ) (fe:bk.D lF→Option ρ):mi s.2.2.1 s.1.2.2.2.1 s.2.1.1.1 s.2.1.1.2.1 s.2.1.1.2.2.1 s.2.1.1.2.2.2.1 s.2.1.1.2.2.2.2.1 s.2.1.1.2.2.2.2.2.1 s.2.1.1.2.2.2.2.2.2.1 s.2.1.1.2.2.2.2.2.2.2.1 s.2.1.1.2.2.2.2.2.2.2.2.1 s.2.1.1.2.2.2.2.2.2.2.2.2.1 s.2.1.2.1.1 s.2.1.2.1.2.2.2.2.1 s.2.1.2.1.2.2.2.2.2.1 s.2.1.2.1.2.2.2.2.2.2.1 s.2.1.2.1.2.2.2.2.2.2.2.1 s.2.1.2.1.2.2.2.2.2.2.2.2.1 s.2.1.2.2.1.1 s.2.1.2.2.1.2.2.1 s.2.1.2.2.1.2.2.2.1 s.2.1.2.2.1.2.2.2.2.1 s.2.1.2.2.1.2.2.2.2.2.1 s.2.1.2.2.1.2.2.2.2.2.2.1 s.2.1.2.2.1.2.2.2.2.2.2.2.1 s.2.1.2.2.1.2.2.2.2.2.2.2.2.1 s.2.1.2.2.1.2.2.2.2.2.2.2.2.2.1 fn fe=(gy s).bind (Sum.elim fn fe):=by
 simp only [gy,mi,am,aq,Option.bind_none,Option.bind_assoc,Option.bind_some,Sum.elim_inl,Sum.elim_inr]
abbrev CS:cL:=cX [.b 2 1 (.st .server)] [1,2,3,4] fM lF rS
theorem FN (s:fM.D):ei Θ (aJ IC) (aI []) pN (fM.mk' s) (cO [1,2,3,4] [1,2,3] fun x S=>some (x,S))=(gy s).bind (Sum.elim (fun s'=>some (.nor,fM.mk' s')) fun e=>some (bk.e lF e)):=
 Eq.trans (by kernel_rfl:_=mi s.2.2.1 s.1.2.2.2.1 s.2.1.1.1 s.2.1.1.2.1 s.2.1.1.2.2.1 s.2.1.1.2.2.2.1 s.2.1.1.2.2.2.2.1 s.2.1.1.2.2.2.2.2.1 s.2.1.1.2.2.2.2.2.2.1 s.2.1.1.2.2.2.2.2.2.2.1 s.2.1.1.2.2.2.2.2.2.2.2.1 s.2.1.1.2.2.2.2.2.2.2.2.2.1 s.2.1.2.1.1 s.2.1.2.1.2.2.2.2.1 s.2.1.2.1.2.2.2.2.2.1 s.2.1.2.1.2.2.2.2.2.2.1 s.2.1.2.1.2.2.2.2.2.2.2.1 s.2.1.2.1.2.2.2.2.2.2.2.2.1 s.2.1.2.2.1.1 s.2.1.2.2.1.2.2.1 s.2.1.2.2.1.2.2.2.1 s.2.1.2.2.1.2.2.2.2.1 s.2.1.2.2.1.2.2.2.2.2.1 s.2.1.2.2.1.2.2.2.2.2.2.1 s.2.1.2.2.1.2.2.2.2.2.2.2.1 s.2.1.2.2.1.2.2.2.2.2.2.2.2.1 s.2.1.2.2.1.2.2.2.2.2.2.2.2.2.1 (fun s'=>some (.nor,fM.mk' s')) (fun e=>some (bk.e lF e))) (Hr s _ _)
theorem FO:bS Tryz.prog pN CS:=aZ aM zF af (by kernel_rfl) (df (by kernel_rfl:_= []) ah) [.b 2 1 (.st .server)] [1,2,3,4] [1,2,3] fM lF (by kernel_rfl) gy FN rS (fT gy) (aQ gy)
def qW {ρ:Type} (a0:ao) (k:ao×Unit→Option ρ):Option ρ:=
 (rS (((),(),(),0,()),((a0.now,a0.servers,a0.sides,a0.master.configs,a0.master.activated,a0.masterUp,a0.lease.epoch,a0.lease.holder,a0.lease.ends,a0.places,()),(0,(),(),(),0,0,0,0,0,(),()),(a0.now,(),a0.sides,a0.master.configs,a0.master.activated,a0.masterUp,a0.lease.epoch,a0.lease.holder,a0.lease.ends,a0.places,()),()),(([]:List ak),()))).bind fun e58=>ap ((([]:List Int)++e58.2.1.1.2.2.1).length*8≤2 ^ 40) ((pe (⟨e58.2.1.1.2.2.2.1,e58.2.1.1.2.2.2.2.1⟩:an)).bind fun y59=>ap ((([]:List aU)++e58.2.1.1.2.2.2.2.2.2.2.2.2.1).length*24≤2 ^ 40) (k ((⟨e58.2.1.2.2.1.1,e58.2.2.1,(([]:List Int)++e58.2.1.1.2.2.1),y59.1,e58.2.1.2.2.1.2.2.2.2.2.1,(⟨e58.2.1.2.2.1.2.2.2.2.2.2.1,e58.2.1.2.2.1.2.2.2.2.2.2.2.1,e58.2.1.2.2.1.2.2.2.2.2.2.2.2.1⟩:jC),(([]:List aU)++e58.2.1.1.2.2.2.2.2.2.2.2.2.1)⟩:ao),())) none) none
def pf (a0:ao):Option (ao×Unit):=qW a0 some
theorem Md {ρ:Type} (a0:ao) (k:ao×Unit→Option ρ):qW a0 k=(pf a0).bind k:=by
 simp only [pf,qW,aq,Option.bind_none,Option.bind_assoc,Option.bind_some]
abbrev IE:bn:=bA [.ty (.st .cluster)] [.st .cluster] fun x=>pf x.1
theorem P9:aD Tryz.prog 82 IE:=
 al (Λ:=aI [(ca pN,CS)]) (fn:=Tryz.f82) aM zF af (by kernel_rfl) (aF (by kernel_rfl:_= [pN]) (aP (q:=ca pN) rfl FO fun _ _ _=>by kernel_rfl)) (by kernel_rfl) (fun x=>pf x.1)
  (fun x=>Eq.trans (by kernel_rfl:_=qW x.1 (fun y=>ret (aE [.st .cluster] y) fun v g=>some (v,g))) (Md x.1 _)) fun _ _ h=>h
abbrev UZ:List (Nat×bn):= []
theorem Qa:aw Tryz.prog (aJ UZ):=aj _
def zG {ρ:Type} (a0:Int) (a1:Int) (a2:Int) (k:Bool×Unit→Option ρ):Option ρ:=
 br (decide (a0≥a1)) (k ((decide (a0≤a2)),())) (k (false,()))
def dT (a0:Int) (a1:Int) (a2:Int):Option (Bool×Unit):=zG a0 a1 a2 some
theorem R7 {ρ:Type} (a0:Int) (a1:Int) (a2:Int) (k:Bool×Unit→Option ρ):zG a0 a1 a2 k=(dT a0 a1 a2).bind k:=by
 simp only [dT,zG,am,Option.bind_some]
abbrev pg:bn:=bA [.ty (.i .i64), .ty (.i .i64), .ty (.i .i64)] [.b] fun x=>dT x.1 x.2.1 x.2.2.1
theorem p6:aD Tryz.prog 120 pg:=
 al (Λ:=aI []) (fn:=Tryz.f120) aM Qa af (by kernel_rfl) (aF (by kernel_rfl:_= []) ah) (by kernel_rfl) (fun x=>dT x.1 x.2.1 x.2.2.1)
  (fun x=>Eq.trans (by kernel_rfl:_=zG x.1 x.2.1 x.2.2.1 (fun y=>ret (aE [.b] y) fun v g=>some (v,g))) (R7 x.1 x.2.1 x.2.2.1 _)) fun _ _ h=>h
abbrev FP:List (Nat×bn):= [(120,pg)]
theorem xt:aw Tryz.prog (aJ FP):=ae p6 <| aj _
noncomputable abbrev ov:Code:=b9 (bT Tryz.f121) 0
abbrev eG:dN:=⟨[(0, .cl (.ro (.i .i64))),(3, .cl (.int .i64))],[],[],0,19⟩
abbrev kj:List (X×dN):= [(.ret,⟨[(0, .cl (.ro (.i .i64))),(2, .cl (.bl))],[],[],0,19⟩),(.ext 0,⟨[(0, .cl (.ro (.i .i64))),(2, .cl (.dead))],[],[],0,19⟩)]
def kN {ρ:Type} (v1:List Int) (v2:Int) (fn: (((List Int)×Int×Unit)×(Unit)×(Unit))→Option ρ) (fe: (((List Int)×Bool×Unit)×(Unit)×(Unit))⊕(((List Int)×Unit×Unit)×(Unit)×(Unit))→Option ρ):Option ρ:=
 br (decide (v2 < (v1.length:Int))) (ap (0≤v2) ((v1[v2.toNat]?).bind fun x3=>(dT x3 0 3).bind fun y4=>br (!y4.1) (fe (.inl ((v1,false,()),(()),(())))) (fn ((v1,(IntKind.wrap .i64 (v2+1)),()),(()),(())))) none) (fe (.inr ((v1,(),()),(()),(()))))
def fH (s:eG.D):Option (eG.D⊕bk.D kj):=kN s.1.1 s.1.2.1 (fun s=>some (.inl s)) (fun e=>some (.inr e))
def ow:eG.D→Option (bk.D kj):=jr fH
theorem FQ {ρ:Type} (s:eG.D) (fn:eG.D→Option ρ) (fe:bk.D kj→Option ρ):kN s.1.1 s.1.2.1 fn fe=(fH s).bind (Sum.elim fn fe):=by
 simp only [fH,kN,am,aq,Option.bind_none,Option.bind_assoc,Option.bind_some,Sum.elim_inl,Sum.elim_inr]
abbrev zH:cL:=cX [] [0,3] eG kj ow
theorem Du (s:eG.D):ei Θ (aJ FP) (aI []) ov (eG.mk' s) (cO [0,3] [0,2] fun x S=>some (x,S))=(fH s).bind (Sum.elim (fun s'=>some (.nor,eG.mk' s')) fun e=>some (bk.e kj e)):=
 Eq.trans (by kernel_rfl:_=kN s.1.1 s.1.2.1 (fun s'=>some (.nor,eG.mk' s')) (fun e=>some (bk.e kj e))) (FQ s _ _)
theorem Dv:bS Tryz.prog ov zH:=aZ aM xt af (by kernel_rfl) (df (by kernel_rfl:_= []) ah) [] [0,3] [0,2] eG kj (by kernel_rfl) fH Du ow (fT fH) (aQ fH)
def pO {ρ:Type} (a0:List Int) (k:Bool×Unit→Option ρ):Option ρ:=
 (ow ((a0,0,()),(()),(()))).bind fun e5=>Sum.elim (fun e5_=>k (e5_.1.2.1,())) (fun e5_=>k (((e5_.1.1.length:Int)==5),())) e5
def lG (a0:List Int):Option (Bool×Unit):=pO a0 some
theorem JX {ρ:Type} (a0:List Int) (k:Bool×Unit→Option ρ):pO a0 k=(lG a0).bind k:=by
 simp only [lG,pO,bW,Option.bind_assoc,Option.bind_some]
abbrev FR:bn:=bA [.ty (.ls (.i .i64))] [.b] fun x=>lG x.1
theorem N6:aD Tryz.prog 121 FR:=
 al (Λ:=aI [(ca ov,zH)]) (fn:=Tryz.f121) aM xt af (by kernel_rfl) (aF (by kernel_rfl:_= [ov]) (aP (q:=ca ov) rfl Dv fun _ _ _=>by kernel_rfl)) (by kernel_rfl) (fun x=>lG x.1)
  (fun x=>Eq.trans (by kernel_rfl:_=pO x.1 (fun y=>ret (aE [.b] y) fun v g=>some (v,g))) (JX x.1 _)) fun _ _ h=>h
abbrev zI:List (Nat×bn):= [(120,pg)]
theorem uq:aw Tryz.prog (aJ zI):=ae p6 <| aj _
noncomputable abbrev lH:Code:=b9 (bT Tryz.f224) 0
abbrev dt:dN:=⟨[(0, .cl (.ro (.i .i64))),(3, .cl (.int .i64))],[],[],0,32⟩
abbrev hQ:List (X×dN):= [(.ret,⟨[(2, .cl (.bl))],[],[],0,32⟩),(.ext 0,⟨[(2, .cl (.dead))],[],[],0,32⟩)]
def iA {ρ:Type} (v1:List Int) (v2:Int) (fn: (((List Int)×Int×Unit)×(Unit)×(Unit))→Option ρ) (fe: ((Bool×Unit)×(Unit)×(Unit))⊕((Unit×Unit)×(Unit)×(Unit))→Option ρ):Option ρ:=
 br (decide (v2 < (v1.length:Int))) (ap (0≤v2) ((v1[v2.toNat]?).bind fun x3=>(dT x3 0 4).bind fun y4=>br (!y4.1) (fe (.inl ((false,()),(()),(())))) (br (decide (v2 > 0)) (ap (0≤(IntKind.wrap .i64 (v2 - 1))) ((v1[(IntKind.wrap .i64 (v2 - 1)).toNat]?).bind fun x5=>ap (0≤v2) ((v1[v2.toNat]?).bind fun x6=>br (decide (x5≥x6)) (fe (.inl ((false,()),(()),(())))) (fn ((v1,(IntKind.wrap .i64 (v2+1)),()),(()),(())))) none) none) (fn ((v1,(IntKind.wrap .i64 (v2+1)),()),(()),(()))))) none) (fe (.inr (((),()),(()),(()))))
def dU (s:dt.D):Option (dt.D⊕bk.D hQ):=iA s.1.1 s.1.2.1 (fun s=>some (.inl s)) (fun e=>some (.inr e))
def lI:dt.D→Option (bk.D hQ):=jr dU
theorem BC {ρ:Type} (s:dt.D) (fn:dt.D→Option ρ) (fe:bk.D hQ→Option ρ):iA s.1.1 s.1.2.1 fn fe=(dU s).bind (Sum.elim fn fe):=by
 simp only [dU,iA,am,aq,Option.bind_none,Option.bind_assoc,Option.bind_some,Sum.elim_inl,Sum.elim_inr]
abbrev vw:cL:=cX [] [0,3] dt hQ lI
theorem zJ (s:dt.D):ei Θ (aJ zI) (aI []) lH (dt.mk' s) (cO [0,3] [2] fun x S=>some (x,S))=(dU s).bind (Sum.elim (fun s'=>some (.nor,dt.mk' s')) fun e=>some (bk.e hQ e)):=
 Eq.trans (by kernel_rfl:_=iA s.1.1 s.1.2.1 (fun s'=>some (.nor,dt.mk' s')) (fun e=>some (bk.e hQ e))) (BC s _ _)
theorem zK:bS Tryz.prog lH vw:=aZ aM uq af (by kernel_rfl) (df (by kernel_rfl:_= []) ah) [] [0,3] [2] dt hQ (by kernel_rfl) dU zJ lI (fT dU) (aQ dU)
def mR {ρ:Type} (a0:List Int) (k:Bool×Unit→Option ρ):Option ρ:=
 (lI ((a0,0,()),(()),(()))).bind fun e7=>Sum.elim (fun e7_=>k (e7_.1.1,())) (fun e7_=>k (true,())) e7
def gp (a0:List Int):Option (Bool×Unit):=mR a0 some
theorem FS {ρ:Type} (a0:List Int) (k:Bool×Unit→Option ρ):mR a0 k=(gp a0).bind k:=by
 simp only [gp,mR,bW,Option.bind_assoc,Option.bind_some]
abbrev zL:bn:=bA [.ty (.ls (.i .i64))] [.b] fun x=>gp x.1
theorem JY:aD Tryz.prog 224 zL:=
 al (Λ:=aI [(ca lH,vw)]) (fn:=Tryz.f224) aM uq af (by kernel_rfl) (aF (by kernel_rfl:_= [lH]) (aP (q:=ca lH) rfl zK fun _ _ _=>by kernel_rfl)) (by kernel_rfl) (fun x=>gp x.1)
  (fun x=>Eq.trans (by kernel_rfl:_=mR x.1 (fun y=>ret (aE [.b] y) fun v g=>some (v,g))) (FS x.1 _)) fun _ _ h=>h
abbrev CT:List (Nat×bn):= []
theorem vx:aw Tryz.prog (aJ CT):=aj _
noncomputable abbrev mT:Code:=b9 (bT Tryz.f51) 0
abbrev dV:dN:=⟨[(0, .cl (.ro (.i .i64))),(1, .cl (.int .i64)),(5, .cl (.int .i64))],[],[],0,18⟩
abbrev jf:List (X×dN):= [(.ret,⟨[(4, .cl (.bl))],[],[],0,18⟩),(.ext 0,⟨[(4, .cl (.dead))],[],[],0,18⟩)]
def jF {ρ:Type} (v1:List Int) (v2:Int) (v3:Int) (fn: (((List Int)×Int×Int×Unit)×(Unit)×(Unit))→Option ρ) (fe: ((Bool×Unit)×(Unit)×(Unit))⊕((Unit×Unit)×(Unit)×(Unit))→Option ρ):Option ρ:=
 br (decide (v3 < (v1.length:Int))) (ap (0≤v3) ((v1[v3.toNat]?).bind fun x4=>br (x4==v2) (fe (.inl ((true,()),(()),(())))) (fn ((v1,v2,(IntKind.wrap .i64 (v3+1)),()),(()),(())))) none) (fe (.inr (((),()),(()),(()))))
def eA (s:dV.D):Option (dV.D⊕bk.D jf):=jF s.1.1 s.1.2.1 s.1.2.2.1 (fun s=>some (.inl s)) (fun e=>some (.inr e))
def mU:dV.D→Option (bk.D jf):=jr eA
theorem Dw {ρ:Type} (s:dV.D) (fn:dV.D→Option ρ) (fe:bk.D jf→Option ρ):jF s.1.1 s.1.2.1 s.1.2.2.1 fn fe=(eA s).bind (Sum.elim fn fe):=by
 simp only [eA,jF,am,aq,Option.bind_none,Option.bind_assoc,Option.bind_some,Sum.elim_inl,Sum.elim_inr]
abbrev xu:cL:=cX [] [0,1,5] dV jf mU
theorem BD (s:dV.D):ei Θ (aJ CT) (aI []) mT (dV.mk' s) (cO [0,1,5] [4] fun x S=>some (x,S))=(eA s).bind (Sum.elim (fun s'=>some (.nor,dV.mk' s')) fun e=>some (bk.e jf e)):=
 Eq.trans (by kernel_rfl:_=jF s.1.1 s.1.2.1 s.1.2.2.1 (fun s'=>some (.nor,dV.mk' s')) (fun e=>some (bk.e jf e))) (Dw s _ _)
theorem BE:bS Tryz.prog mT xu:=aZ aM vx af (by kernel_rfl) (df (by kernel_rfl:_= []) ah) [] [0,1,5] [4] dV jf (by kernel_rfl) eA BD mU (fT eA) (aQ eA)
def ox {ρ:Type} (a0:List Int) (a1:Int) (k:Bool×Unit→Option ρ):Option ρ:=
 (mU ((a0,a1,0,()),(()),(()))).bind fun e5=>Sum.elim (fun e5_=>k (e5_.1.1,())) (fun e5_=>k (false,())) e5
def gz (a0:List Int) (a1:Int):Option (Bool×Unit):=ox a0 a1 some
theorem Hs {ρ:Type} (a0:List Int) (a1:Int) (k:Bool×Unit→Option ρ):ox a0 a1 k=(gz a0 a1).bind k:=by
 simp only [gz,ox,bW,Option.bind_assoc,Option.bind_some]
abbrev rT:bn:=bA [.ty (.ls (.i .i64)), .ty (.i .i64)] [.b] fun x=>gz x.1 x.2.1
theorem vy:aD Tryz.prog 51 rT:=
 al (Λ:=aI [(ca mT,xu)]) (fn:=Tryz.f51) aM vx af (by kernel_rfl) (aF (by kernel_rfl:_= [mT]) (aP (q:=ca mT) rfl BE fun _ _ _=>by kernel_rfl)) (by kernel_rfl) (fun x=>gz x.1 x.2.1)
  (fun x=>Eq.trans (by kernel_rfl:_=ox x.1 x.2.1 (fun y=>ret (aE [.b] y) fun v g=>some (v,g))) (Hs x.1 x.2.1 _)) fun _ _ h=>h
abbrev Pf:List (Nat×bn):= []
theorem FT:aw Tryz.prog (aJ Pf):=aj _
noncomputable abbrev s5:Code:=b9 (bT Tryz.f148) 0
abbrev jG:dN:=⟨[(0, .cl (.ro (.i .i64))),(1, .cl (.int .i64)),(5, .cl (.int .i64))],[],[],0,47⟩
abbrev ph:List (X×dN):= [(.ext 0,⟨[(0, .cl (.ro (.i .i64))),(1, .cl (.int .i64)),(5, .cl (.int .i64))],[],[],0,47⟩)]
def pi {ρ:Type} (v1:List Int) (v2:Int) (v3:Int) (fn: (((List Int)×Int×Int×Unit)×(Unit)×(Unit))→Option ρ) (fe: (((List Int)×Int×Int×Unit)×(Unit)×(Unit))→Option ρ):Option ρ:=
 br (decide (v3 < (v1.length:Int))) (ap (0≤v3) ((v1[v3.toNat]?).bind fun x4=>br (decide (x4 < v2)) (fn ((v1,v2,(IntKind.wrap .i64 (v3+1)),()),(()),(()))) (fe ((v1,v2,v3,()),(()),(())))) none) (fe ((v1,v2,v3,()),(()),(())))
def kO (s:jG.D):Option (jG.D⊕bk.D ph):=pi s.1.1 s.1.2.1 s.1.2.2.1 (fun s=>some (.inl s)) (fun e=>some (.inr e))
def wN:jG.D→Option (bk.D ph):=jr kO
theorem Me {ρ:Type} (s:jG.D) (fn:jG.D→Option ρ) (fe:bk.D ph→Option ρ):pi s.1.1 s.1.2.1 s.1.2.2.1 fn fe=(kO s).bind (Sum.elim fn fe):=by
 simp only [kO,pi,am,aq,Option.bind_none,Option.bind_assoc,Option.bind_some,Sum.elim_inl,Sum.elim_inr]
abbrev IG:cL:=cX [] [0,1,5] jG ph wN
theorem JZ (s:jG.D):ei Θ (aJ Pf) (aI []) s5 (jG.mk' s) (cO [0,1,5] [0,1,5] fun x S=>some (x,S))=(kO s).bind (Sum.elim (fun s'=>some (.nor,jG.mk' s')) fun e=>some (bk.e ph e)):=
 Eq.trans (by kernel_rfl:_=pi s.1.1 s.1.2.1 s.1.2.2.1 (fun s'=>some (.nor,jG.mk' s')) (fun e=>some (bk.e ph e))) (Me s _ _)
theorem J0:bS Tryz.prog s5 IG:=aZ aM FT af (by kernel_rfl) (df (by kernel_rfl:_= []) ah) [] [0,1,5] [0,1,5] jG ph (by kernel_rfl) kO JZ wN (fT kO) (aQ kO)
def vz {ρ:Type} (a0:List Int) (a1:Int) (k: (List Int)×Unit→Option ρ):Option ρ:=
 (wN ((a0,a1,0,()),(()),(()))).bind fun e5=>br (decide (e5.1.2.2.1 < (e5.1.1.length:Int))) (ap (0≤e5.1.2.2.1) ((e5.1.1[e5.1.2.2.1.toNat]?).bind fun x6=>br (x6==e5.1.2.1) (ap ((([]:List Int)++e5.1.1).length*8≤2 ^ 40) (k ((([]:List Int)++e5.1.1),())) none) (ap (0≤(0:Int)∧(0:Int)≤e5.1.2.2.1∧e5.1.2.2.1≤(e5.1.1.length:Int)) (ap ((([]:List Int)++((e5.1.1.drop (0:Int).toNat).take (e5.1.2.2.1.toNat - (0:Int).toNat))).length*8≤2 ^ 40) (ap (((([]:List Int)++((e5.1.1.drop (0:Int).toNat).take (e5.1.2.2.1.toNat - (0:Int).toNat)))++([e5.1.2.1]:List Int)).length*8≤2 ^ 40) (ap (0≤e5.1.2.2.1∧e5.1.2.2.1≤(e5.1.1.length:Int)∧(e5.1.1.length:Int)≤(e5.1.1.length:Int)) (ap ((((([]:List Int)++((e5.1.1.drop (0:Int).toNat).take (e5.1.2.2.1.toNat - (0:Int).toNat)))++([e5.1.2.1]:List Int))++((e5.1.1.drop e5.1.2.2.1.toNat).take ((e5.1.1.length:Int).toNat - e5.1.2.2.1.toNat))).length*8≤2 ^ 40) (k ((((([]:List Int)++((e5.1.1.drop (0:Int).toNat).take (e5.1.2.2.1.toNat - (0:Int).toNat)))++([e5.1.2.1]:List Int))++((e5.1.1.drop e5.1.2.2.1.toNat).take ((e5.1.1.length:Int).toNat - e5.1.2.2.1.toNat))),())) none) none) none) none) none)) none) (ap (0≤(0:Int)∧(0:Int)≤e5.1.2.2.1∧e5.1.2.2.1≤(e5.1.1.length:Int)) (ap ((([]:List Int)++((e5.1.1.drop (0:Int).toNat).take (e5.1.2.2.1.toNat - (0:Int).toNat))).length*8≤2 ^ 40) (ap (((([]:List Int)++((e5.1.1.drop (0:Int).toNat).take (e5.1.2.2.1.toNat - (0:Int).toNat)))++([e5.1.2.1]:List Int)).length*8≤2 ^ 40) (ap (0≤e5.1.2.2.1∧e5.1.2.2.1≤(e5.1.1.length:Int)∧(e5.1.1.length:Int)≤(e5.1.1.length:Int)) (ap ((((([]:List Int)++((e5.1.1.drop (0:Int).toNat).take (e5.1.2.2.1.toNat - (0:Int).toNat)))++([e5.1.2.1]:List Int))++((e5.1.1.drop e5.1.2.2.1.toNat).take ((e5.1.1.length:Int).toNat - e5.1.2.2.1.toNat))).length*8≤2 ^ 40) (k ((((([]:List Int)++((e5.1.1.drop (0:Int).toNat).take (e5.1.2.2.1.toNat - (0:Int).toNat)))++([e5.1.2.1]:List Int))++((e5.1.1.drop e5.1.2.2.1.toNat).take ((e5.1.1.length:Int).toNat - e5.1.2.2.1.toNat))),())) none) none) none) none) none)
def tY (a0:List Int) (a1:Int):Option ((List Int)×Unit):=vz a0 a1 some
theorem Qb {ρ:Type} (a0:List Int) (a1:Int) (k: (List Int)×Unit→Option ρ):vz a0 a1 k=(tY a0 a1).bind k:=by
 simp only [tY,vz,am,aq,Option.bind_none,Option.bind_assoc,Option.bind_some]
abbrev Pg:bn:=bA [.ty (.ls (.i .i64)), .ty (.i .i64)] [.ls (.i .i64)] fun x=>tY x.1 x.2.1
theorem TL:aD Tryz.prog 148 Pg:=
 al (Λ:=aI [(ca s5,IG)]) (fn:=Tryz.f148) aM FT af (by kernel_rfl) (aF (by kernel_rfl:_= [s5]) (aP (q:=ca s5) rfl J0 fun _ _ _=>by kernel_rfl)) (by kernel_rfl) (fun x=>tY x.1 x.2.1)
  (fun x=>Eq.trans (by kernel_rfl:_=vz x.1 x.2.1 (fun y=>ret (aE [.ls (.i .i64)] y) fun v g=>some (v,g))) (Qb x.1 x.2.1 _)) fun _ _ h=>h
abbrev ur:List (Nat×bn):= [(51,rT),(148,Pg)]
theorem qX:aw Tryz.prog (aJ ur):=ae vy <| ae TL <| aj _
noncomputable abbrev iP:Code:=b9 (bT Tryz.f128) 0
abbrev cw:dN:=⟨[(0, .cl (.ro (.i .i64))),(1, .cl (.ro (.i .i64))),(5, .cl (.own 0 (.i .i64))),(6, .cl (.int .i64))],[],[.i .i64],0,27⟩
abbrev eH:List (X×dN):= [(.ext 0,⟨[(5, .cl (.own 0 (.i .i64)))],[],[.i .i64],0,27⟩)]
def fm {ρ:Type} (v1:List Int) (v2:List Int) (v3:List Int) (v4:Int) (fn: (((List Int)×(List Int)×Unit×Int×Unit)×(Unit)×((List Int)×Unit))→Option ρ) (fe: ((Unit×Unit)×(Unit)×((List Int)×Unit))→Option ρ):Option ρ:=
 br (decide (v4 < (v2.length:Int))) (ap (0≤v4) ((v2[v4.toNat]?).bind fun x5=>(gz v3 x5).bind fun y6=>br y6.1 (ap (0≤v4) ((v2[v4.toNat]?).bind fun x7=>(tY v1 x7).bind fun y8=>fn ((v2,v3,(),(IntKind.wrap .i64 (v4+1)),()),(()),(y8.1,()))) none) (fn ((v2,v3,(),(IntKind.wrap .i64 (v4+1)),()),(()),(v1,())))) none) (fe (((),()),(()),(v1,())))
def cP (s:cw.D):Option (cw.D⊕bk.D eH):=fm s.2.2.1 s.1.1 s.1.2.1 s.1.2.2.2.1 (fun s=>some (.inl s)) (fun e=>some (.inr e))
def kZ:cw.D→Option (bk.D eH):=jr cP
theorem wV {ρ:Type} (s:cw.D) (fn:cw.D→Option ρ) (fe:bk.D eH→Option ρ):fm s.2.2.1 s.1.1 s.1.2.1 s.1.2.2.2.1 fn fe=(cP s).bind (Sum.elim fn fe):=by
 simp only [cP,fm,am,aq,Option.bind_none,Option.bind_assoc,Option.bind_some,Sum.elim_inl,Sum.elim_inr]
abbrev rU:cL:=cX [] [0,1,5,6] cw eH kZ
theorem vA (s:cw.D):ei Θ (aJ ur) (aI []) iP (cw.mk' s) (cO [0,1,5,6] [5] fun x S=>some (x,S))=(cP s).bind (Sum.elim (fun s'=>some (.nor,cw.mk' s')) fun e=>some (bk.e eH e)):=
 Eq.trans (by kernel_rfl:_=fm s.2.2.1 s.1.1 s.1.2.1 s.1.2.2.2.1 (fun s'=>some (.nor,cw.mk' s')) (fun e=>some (bk.e eH e))) (wV s _ _)
theorem vB:bS Tryz.prog iP rU:=aZ aM qX af (by kernel_rfl) (df (by kernel_rfl:_= []) ah) [] [0,1,5,6] [5] cw eH (by kernel_rfl) cP vA kZ (fT cP) (aQ cP)
def jH {ρ:Type} (a0:List Int) (a1:List Int) (k: (List Int)×Unit→Option ρ):Option ρ:=
 (kZ ((a0,a1,(),0,()),(()),(([]:List Int),()))).bind fun e9=>k (e9.2.2.1,())
def fZ (a0:List Int) (a1:List Int):Option ((List Int)×Unit):=jH a0 a1 some
theorem zM {ρ:Type} (a0:List Int) (a1:List Int) (k: (List Int)×Unit→Option ρ):jH a0 a1 k=(fZ a0 a1).bind k:=by
 simp only [fZ,jH,Option.bind_assoc,Option.bind_some]
abbrev ut:bn:=bA [.ty (.ls (.i .i64)), .ty (.ls (.i .i64))] [.ls (.i .i64)] fun x=>fZ x.1 x.2.1
theorem Dx:aD Tryz.prog 128 ut:=
 al (Λ:=aI [(ca iP,rU)]) (fn:=Tryz.f128) aM qX af (by kernel_rfl) (aF (by kernel_rfl:_= [iP]) (aP (q:=ca iP) rfl vB fun _ _ _=>by kernel_rfl)) (by kernel_rfl) (fun x=>fZ x.1 x.2.1)
  (fun x=>Eq.trans (by kernel_rfl:_=jH x.1 x.2.1 (fun y=>ret (aE [.ls (.i .i64)] y) fun v g=>some (v,g))) (zM x.1 x.2.1 _)) fun _ _ h=>h
abbrev Dy:List (Nat×bn):= [(120,pg),(224,zL),(51,rT),(128,ut)]
theorem yl:aw Tryz.prog (aJ Dy):=ae p6 <| ae JY <| ae vy <| ae Dx <| aj _
def jI {ρ:Type} (a0:ai) (k:Bool×Unit→Option ρ):Option ρ:=
 (dT a0.epoch 1 20).bind fun y1=>br y1.1 ((gp a0.replicas).bind fun y2=>br y2.1 ((gp a0.witnesses).bind fun y3=>br y3.1 ((gz a0.replicas a0.primary).bind fun y4=>br y4.1 ((fZ a0.replicas a0.witnesses).bind fun y5=>k (((y5.1.length:Int)==0),())) (k (false,()))) (k (false,()))) (k (false,()))) (k (false,()))
def eX (a0:ai):Option (Bool×Unit):=jI a0 some
theorem zN {ρ:Type} (a0:ai) (k:Bool×Unit→Option ρ):jI a0 k=(eX a0).bind k:=by
 simp only [eX,jI,am,Option.bind_assoc,Option.bind_some]
abbrev p7:bn:=bA [.ty (.st .config)] [.b] fun x=>eX x.1
theorem uu:aD Tryz.prog 169 p7:=
 al (Λ:=aI []) (fn:=Tryz.f169) aM yl af (by kernel_rfl) (aF (by kernel_rfl:_= []) ah) (by kernel_rfl) (fun x=>eX x.1)
  (fun x=>Eq.trans (by kernel_rfl:_=jI x.1 (fun y=>ret (aE [.b] y) fun v g=>some (v,g))) (zN x.1 _)) fun _ _ h=>h
abbrev xw:List (Nat×bn):= [(169,p7),(120,pg)]
theorem s6:aw Tryz.prog (aJ xw):=ae uu <| ae p6 <| aj _
noncomputable abbrev kw:Code:=b9 (bT Tryz.f122) 0
abbrev cY:dN:=⟨[(1, .cl (.ptr 0 0)),(3, .cl (.int .i64))],[[.ro (.st .config), .int .i64]],[],0,35⟩
abbrev f7:List (X×dN):= [(.ret,⟨[(1, .cl (.ptr 0 0)),(2, .cl (.bl))],[[.ro (.st .config), .int .i64]],[],0,35⟩),(.ext 0,⟨[(1, .cl (.ptr 0 0)),(2, .cl (.dead))],[[.ro (.st .config), .int .i64]],[],0,35⟩)]
def gM {ρ:Type} (v1:Int) (v2:List ai) (v3:Int) (fn: ((Unit×Int×Unit)×(((List ai)×Int×Unit)×Unit)×(Unit))→Option ρ) (fe: ((Unit×Bool×Unit)×(((List ai)×Int×Unit)×Unit)×(Unit))⊕((Unit×Unit×Unit)×(((List ai)×Int×Unit)×Unit)×(Unit))→Option ρ):Option ρ:=
 br (decide (v1 < (v2.length:Int))) (ap (0≤v1) ((v2[v1.toNat]?).bind fun x4=>(eX x4).bind fun y5=>br (!y5.1) (fe (.inl (((),false,()),((v2,v3,()),()),(())))) (ap (0≤v1) ((v2[v1.toNat]?).bind fun x6=>br (!(x6.epoch==(IntKind.wrap .i64 (v1+1)))) (fe (.inl (((),false,()),((v2,v3,()),()),(())))) (fn (((),(IntKind.wrap .i64 (v1+1)),()),((v2,v3,()),()),(())))) none)) none) (fe (.inr (((),(),()),((v2,v3,()),()),(()))))
def dB (s:cY.D):Option (cY.D⊕bk.D f7):=gM s.1.2.1 s.2.1.1.1 s.2.1.1.2.1 (fun s=>some (.inl s)) (fun e=>some (.inr e))
def kx:cY.D→Option (bk.D f7):=jr dB
theorem zO {ρ:Type} (s:cY.D) (fn:cY.D→Option ρ) (fe:bk.D f7→Option ρ):gM s.1.2.1 s.2.1.1.1 s.2.1.1.2.1 fn fe=(dB s).bind (Sum.elim fn fe):=by
 simp only [dB,gM,am,aq,Option.bind_none,Option.bind_assoc,Option.bind_some,Sum.elim_inl,Sum.elim_inr]
abbrev uv:cL:=cX [] [1,3] cY f7 kx
theorem ym (s:cY.D):ei Θ (aJ xw) (aI []) kw (cY.mk' s) (cO [1,3] [1,2] fun x S=>some (x,S))=(dB s).bind (Sum.elim (fun s'=>some (.nor,cY.mk' s')) fun e=>some (bk.e f7 e)):=
 Eq.trans (by kernel_rfl:_=gM s.1.2.1 s.2.1.1.1 s.2.1.1.2.1 (fun s'=>some (.nor,cY.mk' s')) (fun e=>some (bk.e f7 e))) (zO s _ _)
theorem yn:bS Tryz.prog kw uv:=aZ aM s6 af (by kernel_rfl) (df (by kernel_rfl:_= []) ah) [] [1,3] [1,2] cY f7 (by kernel_rfl) dB ym kx (fT dB) (aQ dB)
def lJ {ρ:Type} (a0:an) (k:Bool×Unit→Option ρ):Option ρ:=
 (kx (((),0,()),((a0.configs,a0.activated,()),()),(()))).bind fun e7=>Sum.elim (fun e7_=>k (e7_.1.2.1,())) (fun e7_=>(dT e7_.2.1.1.2.1 0 (e7_.2.1.1.1.length:Int)).bind fun y8=>k (y8.1,())) e7
def fI (a0:an):Option (Bool×Unit):=lJ a0 some
theorem Dz {ρ:Type} (a0:an) (k:Bool×Unit→Option ρ):lJ a0 k=(fI a0).bind k:=by
 simp only [fI,lJ,bW,Option.bind_assoc,Option.bind_some]
abbrev sD:bn:=bA [.ty (.st .masterLog)] [.b] fun x=>fI x.1
theorem xx:aD Tryz.prog 122 sD:=
 al (Λ:=aI [(ca kw,uv)]) (fn:=Tryz.f122) aM s6 af (by kernel_rfl) (aF (by kernel_rfl:_= [kw]) (aP (q:=ca kw) rfl yn fun _ _ _=>by kernel_rfl)) (by kernel_rfl) (fun x=>fI x.1)
  (fun x=>Eq.trans (by kernel_rfl:_=lJ x.1 (fun y=>ret (aE [.b] y) fun v g=>some (v,g))) (Dz x.1 _)) fun _ _ h=>h
abbrev Qc:List (Nat×bn):= [(120,pg)]
theorem J1:aw Tryz.prog (aJ Qc):=ae p6 <| aj _
def qY {ρ:Type} (a0:jC) (k:Bool×Unit→Option ρ):Option ρ:=
 br ((a0.epoch==0)&&((a0.holder==0)&&((a0.ends==0)&&true))) (k (true,())) ((dT a0.epoch 1 20).bind fun y1=>br y1.1 ((dT a0.holder 0 4).bind fun y2=>br y2.1 ((dT a0.ends 1 1049).bind fun y3=>k (y3.1,())) (k (false,()))) (k (false,())))
def nV (a0:jC):Option (Bool×Unit):=qY a0 some
theorem Mf {ρ:Type} (a0:jC) (k:Bool×Unit→Option ρ):qY a0 k=(nV a0).bind k:=by
 simp only [nV,qY,am,Option.bind_assoc,Option.bind_some]
abbrev IH:bn:=bA [.ty (.st .lease)] [.b] fun x=>nV x.1
theorem Qd:aD Tryz.prog 123 IH:=
 al (Λ:=aI []) (fn:=Tryz.f123) aM J1 af (by kernel_rfl) (aF (by kernel_rfl:_= []) ah) (by kernel_rfl) (fun x=>nV x.1)
  (fun x=>Eq.trans (by kernel_rfl:_=qY x.1 (fun y=>ret (aE [.b] y) fun v g=>some (v,g))) (Mf x.1 _)) fun _ _ h=>h
abbrev CU:List (Nat×bn):= [(120,pg)]
theorem vC:aw Tryz.prog (aJ CU):=ae p6 <| aj _
noncomputable abbrev mW:Code:=b9 (bT Tryz.f124) 0
abbrev dW:dN:=⟨[(0, .cl (.ro (.st .place))),(3, .cl (.int .i64))],[],[],0,38⟩
abbrev jg:List (X×dN):= [(.ret,⟨[(0, .cl (.ro (.st .place))),(2, .cl (.bl))],[],[],0,38⟩),(.ext 0,⟨[(0, .cl (.ro (.st .place))),(2, .cl (.dead))],[],[],0,38⟩)]
def jJ {ρ:Type} (v1:List aU) (v2:Int) (fn: (((List aU)×Int×Unit)×(Unit)×(Unit))→Option ρ) (fe: (((List aU)×Bool×Unit)×(Unit)×(Unit))⊕(((List aU)×Unit×Unit)×(Unit)×(Unit))→Option ρ):Option ρ:=
 br (decide (v2 < (v1.length:Int))) (ap (0≤v2) ((v1[v2.toNat]?).bind fun x3=>(dT x3.rack 0 9).bind fun y4=>br (!y4.1) (fe (.inl ((v1,false,()),(()),(())))) (ap (0≤v2) ((v1[v2.toNat]?).bind fun x5=>(dT x5.capacity 0 9).bind fun y6=>br (!y6.1) (fe (.inl ((v1,false,()),(()),(())))) (ap (0≤v2) ((v1[v2.toNat]?).bind fun x7=>(dT x7.load 0 99).bind fun y8=>br (!y8.1) (fe (.inl ((v1,false,()),(()),(())))) (fn ((v1,(IntKind.wrap .i64 (v2+1)),()),(()),(())))) none)) none)) none) (fe (.inr ((v1,(),()),(()),(()))))
def eB (s:dW.D):Option (dW.D⊕bk.D jg):=jJ s.1.1 s.1.2.1 (fun s=>some (.inl s)) (fun e=>some (.inr e))
def mX:dW.D→Option (bk.D jg):=jr eB
theorem DA {ρ:Type} (s:dW.D) (fn:dW.D→Option ρ) (fe:bk.D jg→Option ρ):jJ s.1.1 s.1.2.1 fn fe=(eB s).bind (Sum.elim fn fe):=by
 simp only [eB,jJ,am,aq,Option.bind_none,Option.bind_assoc,Option.bind_some,Sum.elim_inl,Sum.elim_inr]
abbrev xy:cL:=cX [] [0,3] dW jg mX
theorem BF (s:dW.D):ei Θ (aJ CU) (aI []) mW (dW.mk' s) (cO [0,3] [0,2] fun x S=>some (x,S))=(eB s).bind (Sum.elim (fun s'=>some (.nor,dW.mk' s')) fun e=>some (bk.e jg e)):=
 Eq.trans (by kernel_rfl:_=jJ s.1.1 s.1.2.1 (fun s'=>some (.nor,dW.mk' s')) (fun e=>some (bk.e jg e))) (DA s _ _)
theorem BG:bS Tryz.prog mW xy:=aZ aM vC af (by kernel_rfl) (df (by kernel_rfl:_= []) ah) [] [0,3] [0,2] dW jg (by kernel_rfl) eB BF mX (fT eB) (aQ eB)
def oz {ρ:Type} (a0:List aU) (k:Bool×Unit→Option ρ):Option ρ:=
 (mX ((a0,0,()),(()),(()))).bind fun e9=>Sum.elim (fun e9_=>k (e9_.1.2.1,())) (fun e9_=>k (((e9_.1.1.length:Int)==5),())) e9
def j8 (a0:List aU):Option (Bool×Unit):=oz a0 some
theorem Ht {ρ:Type} (a0:List aU) (k:Bool×Unit→Option ρ):oz a0 k=(j8 a0).bind k:=by
 simp only [j8,oz,bW,Option.bind_assoc,Option.bind_some]
abbrev CV:bn:=bA [.ty (.ls (.st .place))] [.b] fun x=>j8 x.1
theorem Mg:aD Tryz.prog 124 CV:=
 al (Λ:=aI [(ca mW,xy)]) (fn:=Tryz.f124) aM vC af (by kernel_rfl) (aF (by kernel_rfl:_= [mW]) (aP (q:=ca mW) rfl BG fun _ _ _=>by kernel_rfl)) (by kernel_rfl) (fun x=>j8 x.1)
  (fun x=>Eq.trans (by kernel_rfl:_=oz x.1 (fun y=>ret (aE [.b] y) fun v g=>some (v,g))) (Ht x.1 _)) fun _ _ h=>h
abbrev Mh:List (Nat×bn):= [(120,pg)]
theorem FU:aw Tryz.prog (aJ Mh):=ae p6 <| aj _
def oA {ρ:Type} (a0:Op) (k:Bool×Unit→Option ρ):Option ρ:=
 (dT a0.client 0 2).bind fun y1=>br (!y1.1) (k (false,())) ((dT a0.seq 1 99).bind fun y2=>br (!y2.1) (k (false,())) ((dT a0.object 0 2).bind fun y3=>br (!y3.1) (k (false,())) ((dT a0.value 0 9).bind fun y4=>br (!y4.1) (k (false,())) (br (a0.kind==1) (br (a0.old==0) (k (true,())) (br (a0.kind==2) ((dT a0.old 0 9).bind fun y5=>k (y5.1,())) (k (false,())))) (br (a0.kind==2) ((dT a0.old 0 9).bind fun y6=>k (y6.1,())) (k (false,())))))))
def lK (a0:Op):Option (Bool×Unit):=oA a0 some
theorem Hu {ρ:Type} (a0:Op) (k:Bool×Unit→Option ρ):oA a0 k=(lK a0).bind k:=by
 simp only [lK,oA,am,Option.bind_assoc,Option.bind_some]
abbrev CW:bn:=bA [.ty (.st .op)] [.b] fun x=>lK x.1
theorem Mi:aD Tryz.prog 225 CW:=
 al (Λ:=aI []) (fn:=Tryz.f225) aM FU af (by kernel_rfl) (aF (by kernel_rfl:_= []) ah) (by kernel_rfl) (fun x=>lK x.1)
  (fun x=>Eq.trans (by kernel_rfl:_=oA x.1 (fun y=>ret (aE [.b] y) fun v g=>some (v,g))) (Hu x.1 _)) fun _ _ h=>h
abbrev Ph:List (Nat×bn):= [(120,pg),(225,CW)]
theorem FV:aw Tryz.prog (aJ Ph):=ae p6 <| ae Mi <| aj _
noncomputable abbrev s7:Code:=b9 (bT Tryz.f172) 0
abbrev jK:dN:=⟨[(0, .cl (.ro (.st .entry))),(3, .cl (.int .i64))],[],[],0,47⟩
abbrev pj:List (X×dN):= [(.ret,⟨[(0, .cl (.ro (.st .entry))),(2, .cl (.bl))],[],[],0,47⟩),(.ext 0,⟨[(0, .cl (.ro (.st .entry))),(2, .cl (.dead))],[],[],0,47⟩)]
def pk {ρ:Type} (v1:List aK) (v2:Int) (fn: (((List aK)×Int×Unit)×(Unit)×(Unit))→Option ρ) (fe: (((List aK)×Bool×Unit)×(Unit)×(Unit))⊕(((List aK)×Unit×Unit)×(Unit)×(Unit))→Option ρ):Option ρ:=
 br (decide (v2 < (v1.length:Int))) (ap (0≤v2) ((v1[v2.toNat]?).bind fun x3=>(dT x3.epoch 1 20).bind fun y4=>br (!y4.1) (fe (.inl ((v1,false,()),(()),(())))) (ap (0≤v2) ((v1[v2.toNat]?).bind fun x5=>(lK x5.op).bind fun y6=>br (!y6.1) (fe (.inl ((v1,false,()),(()),(())))) (br (decide (v2 > 0)) (ap (0≤(IntKind.wrap .i64 (v2 - 1))) ((v1[(IntKind.wrap .i64 (v2 - 1)).toNat]?).bind fun x7=>ap (0≤v2) ((v1[v2.toNat]?).bind fun x8=>br (decide (x7.epoch > x8.epoch)) (fe (.inl ((v1,false,()),(()),(())))) (fn ((v1,(IntKind.wrap .i64 (v2+1)),()),(()),(())))) none) none) (fn ((v1,(IntKind.wrap .i64 (v2+1)),()),(()),(()))))) none)) none) (fe (.inr ((v1,(),()),(()),(()))))
def kP (s:jK.D):Option (jK.D⊕bk.D pj):=pk s.1.1 s.1.2.1 (fun s=>some (.inl s)) (fun e=>some (.inr e))
def s8:jK.D→Option (bk.D pj):=jr kP
theorem Mj {ρ:Type} (s:jK.D) (fn:jK.D→Option ρ) (fe:bk.D pj→Option ρ):pk s.1.1 s.1.2.1 fn fe=(kP s).bind (Sum.elim fn fe):=by
 simp only [kP,pk,am,aq,Option.bind_none,Option.bind_assoc,Option.bind_some,Sum.elim_inl,Sum.elim_inr]
abbrev II:cL:=cX [] [0,3] jK pj s8
theorem J2 (s:jK.D):ei Θ (aJ Ph) (aI []) s7 (jK.mk' s) (cO [0,3] [0,2] fun x S=>some (x,S))=(kP s).bind (Sum.elim (fun s'=>some (.nor,jK.mk' s')) fun e=>some (bk.e pj e)):=
 Eq.trans (by kernel_rfl:_=pk s.1.1 s.1.2.1 (fun s'=>some (.nor,jK.mk' s')) (fun e=>some (bk.e pj e))) (Mj s _ _)
theorem J3:bS Tryz.prog s7 II:=aZ aM FV af (by kernel_rfl) (df (by kernel_rfl:_= []) ah) [] [0,3] [0,2] jK pj (by kernel_rfl) kP J2 s8 (fT kP) (aQ kP)
def vD {ρ:Type} (a0:List aK) (k:Bool×Unit→Option ρ):Option ρ:=
 (s8 ((a0,0,()),(()),(()))).bind fun e9=>Sum.elim (fun e9_=>k (e9_.1.2.1,())) (fun e9_=>k ((decide ((e9_.1.1.length:Int)≤16)),())) e9
def qz (a0:List aK):Option (Bool×Unit):=vD a0 some
theorem Qe {ρ:Type} (a0:List aK) (k:Bool×Unit→Option ρ):vD a0 k=(qz a0).bind k:=by
 simp only [qz,vD,bW,Option.bind_assoc,Option.bind_some]
abbrev Pi:bn:=bA [.ty (.ls (.st .entry))] [.b] fun x=>qz x.1
theorem TM:aD Tryz.prog 172 Pi:=
 al (Λ:=aI [(ca s7,II)]) (fn:=Tryz.f172) aM FV af (by kernel_rfl) (aF (by kernel_rfl:_= [s7]) (aP (q:=ca s7) rfl J3 fun _ _ _=>by kernel_rfl)) (by kernel_rfl) (fun x=>qz x.1)
  (fun x=>Eq.trans (by kernel_rfl:_=vD x.1 (fun y=>ret (aE [.b] y) fun v g=>some (v,g))) (Qe x.1 _)) fun _ _ h=>h
abbrev vE:List (Nat×bn):= []
theorem rV:aw Tryz.prog (aJ vE):=aj _
noncomputable abbrev jL:Code:=b9 (bT Tryz.f159) 0
abbrev cM:dN:=⟨[(0, .cl (.ro (.i .i64))),(1, .cl (.ro (.i .i64))),(5, .cl (.int .i64))],[],[],0,26⟩
abbrev fo:List (X×dN):= [(.ret,⟨[(4, .cl (.bl))],[],[],0,26⟩),(.ext 0,⟨[(4, .cl (.dead))],[],[],0,26⟩)]
def fV {ρ:Type} (v1:List Int) (v2:List Int) (v3:Int) (fn: (((List Int)×(List Int)×Int×Unit)×(Unit)×(Unit))→Option ρ) (fe: ((Bool×Unit)×(Unit)×(Unit))⊕((Unit×Unit)×(Unit)×(Unit))→Option ρ):Option ρ:=
 br (decide (v3 < (v1.length:Int))) (ap (0≤v3) ((v1[v3.toNat]?).bind fun x4=>ap (0≤v3) ((v2[v3.toNat]?).bind fun x5=>br (!(x4==x5)) (fe (.inl ((false,()),(()),(())))) (fn ((v1,v2,(IntKind.wrap .i64 (v3+1)),()),(()),(())))) none) none) (fe (.inr (((),()),(()),(()))))
def db (s:cM.D):Option (cM.D⊕bk.D fo):=fV s.1.1 s.1.2.1 s.1.2.2.1 (fun s=>some (.inl s)) (fun e=>some (.inr e))
def jM:cM.D→Option (bk.D fo):=jr db
theorem yp {ρ:Type} (s:cM.D) (fn:cM.D→Option ρ) (fe:bk.D fo→Option ρ):fV s.1.1 s.1.2.1 s.1.2.2.1 fn fe=(db s).bind (Sum.elim fn fe):=by
 simp only [db,fV,am,aq,Option.bind_none,Option.bind_assoc,Option.bind_some,Sum.elim_inl,Sum.elim_inr]
abbrev s9:cL:=cX [] [0,1,5] cM fo jM
theorem wW (s:cM.D):ei Θ (aJ vE) (aI []) jL (cM.mk' s) (cO [0,1,5] [4] fun x S=>some (x,S))=(db s).bind (Sum.elim (fun s'=>some (.nor,cM.mk' s')) fun e=>some (bk.e fo e)):=
 Eq.trans (by kernel_rfl:_=fV s.1.1 s.1.2.1 s.1.2.2.1 (fun s'=>some (.nor,cM.mk' s')) (fun e=>some (bk.e fo e))) (yp s _ _)
theorem wX:bS Tryz.prog jL s9:=aZ aM rV af (by kernel_rfl) (df (by kernel_rfl:_= []) ah) [] [0,1,5] [4] cM fo (by kernel_rfl) db wW jM (fT db) (aQ db)
def ky {ρ:Type} (a0:List Int) (a1:List Int) (k:Bool×Unit→Option ρ):Option ρ:=
 br (!((a0.length:Int)==(a1.length:Int))) (k (false,())) ((jM ((a0,a1,0,()),(()),(()))).bind fun e6=>Sum.elim (fun e6_=>k (e6_.1.1,())) (fun e6_=>k (true,())) e6)
def fO (a0:List Int) (a1:List Int):Option (Bool×Unit):=ky a0 a1 some
theorem BH {ρ:Type} (a0:List Int) (a1:List Int) (k:Bool×Unit→Option ρ):ky a0 a1 k=(fO a0 a1).bind k:=by
 simp only [fO,ky,am,bW,Option.bind_assoc,Option.bind_some]
abbrev vF:bn:=bA [.ty (.ls (.i .i64)), .ty (.ls (.i .i64))] [.b] fun x=>fO x.1 x.2.1
theorem FW:aD Tryz.prog 159 vF:=
 al (Λ:=aI [(ca jL,s9)]) (fn:=Tryz.f159) aM rV af (by kernel_rfl) (aF (by kernel_rfl:_= [jL]) (aP (q:=ca jL) rfl wX fun _ _ _=>by kernel_rfl)) (by kernel_rfl) (fun x=>fO x.1 x.2.1)
  (fun x=>Eq.trans (by kernel_rfl:_=ky x.1 x.2.1 (fun y=>ret (aE [.b] y) fun v g=>some (v,g))) (BH x.1 x.2.1 _)) fun _ _ h=>h
abbrev FX:List (Nat×bn):= [(159,vF)]
theorem zP:aw Tryz.prog (aJ FX):=ae FW <| aj _
def kz {ρ:Type} (a0:ai) (a1:ai) (k:Bool×Unit→Option ρ):Option ρ:=
 br (a0.epoch==a1.epoch) (br (a0.primary==a1.primary) ((fO a0.replicas a1.replicas).bind fun y1=>br y1.1 ((fO a0.witnesses a1.witnesses).bind fun y2=>k (y2.1,())) (k (false,()))) (k (false,()))) (k (false,()))
def fP (a0:ai) (a1:ai):Option (Bool×Unit):=kz a0 a1 some
theorem BI {ρ:Type} (a0:ai) (a1:ai) (k:Bool×Unit→Option ρ):kz a0 a1 k=(fP a0 a1).bind k:=by
 simp only [fP,kz,am,Option.bind_assoc,Option.bind_some]
abbrev qZ:bn:=bA [.ty (.st .config), .ty (.st .config)] [.b] fun x=>fP x.1 x.2.1
theorem vG:aD Tryz.prog 90 qZ:=
 al (Λ:=aI []) (fn:=Tryz.f90) aM zP af (by kernel_rfl) (aF (by kernel_rfl:_= []) ah) (by kernel_rfl) (fun x=>fP x.1 x.2.1)
  (fun x=>Eq.trans (by kernel_rfl:_=kz x.1 x.2.1 (fun y=>ret (aE [.b] y) fun v g=>some (v,g))) (BI x.1 x.2.1 _)) fun _ _ h=>h
abbrev Qf:List (Nat×bn):= [(90,qZ)]
theorem J4:aw Tryz.prog (aJ Qf):=ae vG <| aj _
def q7 {ρ:Type} (a0:ai) (k:Bool×Unit→Option ρ):Option ρ:=
 (fP a0 (⟨0,0,([]:List Int),([]:List Int)⟩:ai)).bind fun y1=>k (y1.1,())
def nW (a0:ai):Option (Bool×Unit):=q7 a0 some
theorem Ml {ρ:Type} (a0:ai) (k:Bool×Unit→Option ρ):q7 a0 k=(nW a0).bind k:=by
 simp only [nW,q7,Option.bind_assoc,Option.bind_some]
abbrev BJ:bn:=bA [.ty (.st .config)] [.b] fun x=>nW x.1
theorem IJ:aD Tryz.prog 89 BJ:=
 al (Λ:=aI []) (fn:=Tryz.f89) aM J4 af (by kernel_rfl) (aF (by kernel_rfl:_= []) ah) (by kernel_rfl) (fun x=>nW x.1)
  (fun x=>Eq.trans (by kernel_rfl:_=q7 x.1 (fun y=>ret (aE [.b] y) fun v g=>some (v,g))) (Ml x.1 _)) fun _ _ h=>h
abbrev Qg:List (Nat×bn):= []
theorem J5:aw Tryz.prog (aJ Qg):=aj _
def q8 {ρ:Type} (a0:List aK) (k:Int×Unit→Option ρ):Option ρ:=
 br ((a0.length:Int)==0) (k (0,())) (ap (0≤(IntKind.wrap .i64 ((a0.length:Int) - 1))) ((a0[(IntKind.wrap .i64 ((a0.length:Int) - 1)).toNat]?).bind fun x1=>k (x1.epoch,())) none)
def nX (a0:List aK):Option (Int×Unit):=q8 a0 some
theorem Mm {ρ:Type} (a0:List aK) (k:Int×Unit→Option ρ):q8 a0 k=(nX a0).bind k:=by
 simp only [nX,q8,am,aq,Option.bind_none,Option.bind_assoc,Option.bind_some]
abbrev BK:bn:=bA [.ty (.ls (.st .entry))] [.i .i64] fun x=>nX x.1
theorem IK:aD Tryz.prog 126 BK:=
 al (Λ:=aI []) (fn:=Tryz.f126) aM J5 af (by kernel_rfl) (aF (by kernel_rfl:_= []) ah) (by kernel_rfl) (fun x=>nX x.1)
  (fun x=>Eq.trans (by kernel_rfl:_=q8 x.1 (fun y=>ret (aE [.i .i64] y) fun v g=>some (v,g))) (Mm x.1 _)) fun _ _ h=>h
abbrev R8:List (Nat×bn):= [(169,p7),(51,rT)]
theorem Mn:aw Tryz.prog (aJ R8):=ae uu <| ae vy <| aj _
def ta {ρ:Type} (a0:ai) (a1:Int) (k:Int×Unit→Option ρ):Option ρ:=
 (eX a0).bind fun y1=>br (!y1.1) (k (0,())) (br (a1==a0.primary) (k (1,())) ((gz a0.replicas a1).bind fun y2=>br y2.1 (k (2,())) ((gz a0.witnesses a1).bind fun y3=>br y3.1 (k (3,())) (k (0,())))))
def q9 (a0:ai) (a1:Int):Option (Int×Unit):=ta a0 a1 some
theorem N7 {ρ:Type} (a0:ai) (a1:Int) (k:Int×Unit→Option ρ):ta a0 a1 k=(q9 a0 a1).bind k:=by
 simp only [q9,ta,am,Option.bind_assoc,Option.bind_some]
abbrev Mo:bn:=bA [.ty (.st .config), .ty (.i .i64)] [.i .i64] fun x=>q9 x.1 x.2.1
theorem R9:aD Tryz.prog 171 Mo:=
 al (Λ:=aI []) (fn:=Tryz.f171) aM Mn af (by kernel_rfl) (aF (by kernel_rfl:_= []) ah) (by kernel_rfl) (fun x=>q9 x.1 x.2.1)
  (fun x=>Eq.trans (by kernel_rfl:_=ta x.1 x.2.1 (fun y=>ret (aE [.i .i64] y) fun v g=>some (v,g))) (N7 x.1 x.2.1 _)) fun _ _ h=>h
abbrev DB:List (Nat×bn):= [(120,pg),(172,Pi),(89,BJ),(126,BK),(171,Mo)]
theorem yq:aw Tryz.prog (aJ DB):=ae p6 <| ae TM <| ae IJ <| ae IK <| ae R9 <| aj _
def gO {ρ:Type} (a0:ak) (a1:Int) (k:Bool×Unit→Option ρ):Option ρ:=
 (dT a0.version 1 2).bind fun y1=>br (!y1.1) (k (false,())) ((dT a0.epoch 0 20).bind fun y2=>br (!y2.1) (k (false,())) ((qz a0.log).bind fun y3=>br (!y3.1) (k (false,())) ((qz a0.learned).bind fun y4=>br (!y4.1) (k (false,())) ((dT a0.first 0 16).bind fun y5=>br (!y5.1) (k (false,())) ((dT (IntKind.wrap .i64 (a0.first+(a0.log.length:Int))) 0 16).bind fun y6=>br (!y6.1) (k (false,())) ((dT a0.commit 0 (IntKind.wrap .i64 (a0.first+(a0.log.length:Int)))).bind fun y7=>br (!y7.1) (k (false,())) ((nW a0.config).bind fun y8=>br y8.1 (br (a0.first==0) (br ((a0.log.length:Int)==0) (k ((a0.commit==0),())) (k (false,()))) (k (false,()))) (br (!a0.intact) (k (false,())) (br (decide (a0.epoch < a0.config.epoch)) (k (false,())) ((nX a0.log).bind fun y9=>br (decide (y9.1 > a0.config.epoch)) (k (false,())) ((q9 a0.config a1).bind fun y10=>br (y10.1==0) (k (false,())) (br (y10.1==3) (br (decide ((a0.log.length:Int)≤3)) (br ((a0.log.length:Int)==3) (k (true,())) (k ((a0.first==0),()))) (k (false,()))) (k ((a0.first==0),()))))))))))))))
def cZ (a0:ak) (a1:Int):Option (Bool×Unit):=gO a0 a1 some
theorem zQ {ρ:Type} (a0:ak) (a1:Int) (k:Bool×Unit→Option ρ):gO a0 a1 k=(cZ a0 a1).bind k:=by
 simp only [cZ,gO,am,Option.bind_assoc,Option.bind_some]
abbrev uw:bn:=bA [.ty (.st .server), .ty (.i .i64)] [.b] fun x=>cZ x.1 x.2.1
theorem DC:aD Tryz.prog 125 uw:=
 al (Λ:=aI []) (fn:=Tryz.f125) aM yq af (by kernel_rfl) (aF (by kernel_rfl:_= []) ah) (by kernel_rfl) (fun x=>cZ x.1 x.2.1)
  (fun x=>Eq.trans (by kernel_rfl:_=gO x.1 x.2.1 (fun y=>ret (aE [.b] y) fun v g=>some (v,g))) (zQ x.1 x.2.1 _)) fun _ _ h=>h
abbrev N8:List (Nat×bn):= [(122,sD),(120,pg),(170,zD)]
theorem Hv:aw Tryz.prog (aJ N8):=ae xx <| ae p6 <| ae FK <| aj _
def pP {ρ:Type} (a0:an) (a1:Int) (k:ai×Bool×Unit→Option ρ):Option ρ:=
 (fI a0).bind fun y1=>br (!y1.1) (k ((⟨0,0,([]:List Int),([]:List Int)⟩:ai),false,())) ((dT a1 1 (a0.configs.length:Int)).bind fun y2=>br (!y2.1) (k ((⟨0,0,([]:List Int),([]:List Int)⟩:ai),false,())) (ap (0≤(IntKind.wrap .i64 (a1 - 1))) ((a0.configs[(IntKind.wrap .i64 (a1 - 1)).toNat]?).bind fun x3=>(lD x3).bind fun y4=>k (y4.1,true,())) none))
def nB (a0:an) (a1:Int):Option (ai×Bool×Unit):=pP a0 a1 some
theorem J6 {ρ:Type} (a0:an) (a1:Int) (k:ai×Bool×Unit→Option ρ):pP a0 a1 k=(nB a0 a1).bind k:=by
 simp only [nB,pP,am,aq,Option.bind_none,Option.bind_assoc,Option.bind_some]
abbrev FY:bn:=bA [.ty (.st .masterLog), .ty (.i .i64)] [.st .config, .b] fun x=>nB x.1 x.2.1
theorem N9:aD Tryz.prog 127 FY:=
 al (Λ:=aI []) (fn:=Tryz.f127) aM Hv af (by kernel_rfl) (aF (by kernel_rfl:_= []) ah) (by kernel_rfl) (fun x=>nB x.1 x.2.1)
  (fun x=>Eq.trans (by kernel_rfl:_=pP x.1 x.2.1 (fun y=>ret (aE [.st .config, .b] y) fun v g=>some (v,g))) (J6 x.1 x.2.1 _)) fun _ _ h=>h
abbrev tb:List (Nat×bn):= [(120,pg),(121,FR),(122,sD),(123,IH),(124,CV),(125,uw),(126,BK),(127,FY),(89,BJ),(90,qZ)]
theorem qh:aw Tryz.prog (aJ tb):=ae p6 <| ae N6 <| ae xx <| ae Qd <| ae Mg <| ae DC <| ae IK <| ae N9 <| ae IJ <| ae vG <| aj _
noncomputable abbrev hU:Code:=b9 (bT Tryz.f46) 0
abbrev ch:dN:=⟨[(1, .cl (.ptr 0 0)),(3, .cl (.int .i64))],[[.int .i64, .ro (.st .server), .ro (.i .i64), .ro (.st .config), .int .i64, .int .i64, .int .i64, .int .i64, .int .i64, .ro (.st .place)]],[],0,123⟩
abbrev ek:List (X×dN):= [(.ret,⟨[(2, .cl (.bl))],[],[],0,123⟩),(.ext 0,⟨[(2, .cl (.dead))],[],[],0,123⟩)]
def cK {ρ:Type} (v7:Int) (v8:Int) (v9:List ak) (v10:List Int) (v11:List ai) (v12:Int) (v13:Int) (v14:Int) (v15:Int) (v16:Int) (v17:List aU) (fn: ((Unit×Int×Unit)×((Int×(List ak)×(List Int)×(List ai)×Int×Int×Int×Int×Int×(List aU)×Unit)×Unit)×(Unit))→Option ρ) (fe: ((Bool×Unit)×(Unit)×(Unit))⊕((Unit×Unit)×(Unit)×(Unit))→Option ρ):Option ρ:=
 br (decide (v7 < (v9.length:Int))) (ap (0≤v7) ((v9[v7.toNat]?).bind fun x18=>(cZ x18 v7).bind fun y19=>br (!y19.1) (fe (.inl ((false,()),(()),(())))) (br (decide (x18.epoch > (v11.length:Int))) (fe (.inl ((false,()),(()),(())))) ((nX x18.learned).bind fun y20=>br (decide (y20.1 > v12)) (fe (.inl ((false,()),(()),(())))) ((nB (⟨v11,v12⟩:an) x18.config.epoch).bind fun y21=>(nW x18.config).bind fun y22=>br (!y22.1) (br (!y21.2.1) (fe (.inl ((false,()),(()),(())))) ((fP y21.1 x18.config).bind fun y23=>br (!y23.1) (fe (.inl ((false,()),(()),(())))) (br (decide (x18.config.epoch > v12)) (fe (.inl ((false,()),(()),(())))) (fn (((),(IntKind.wrap .i64 (v7+1)),()),((v8,v9,v10,v11,v12,v13,v14,v15,v16,v17,()),()),(())))))) (fn (((),(IntKind.wrap .i64 (v7+1)),()),((v8,v9,v10,v11,v12,v13,v14,v15,v16,v17,()),()),(()))))))) none) (fe (.inr (((),()),(()),(()))))
def be (s:ch.D):Option (ch.D⊕bk.D ek):=cK s.1.2.1 s.2.1.1.1 s.2.1.1.2.1 s.2.1.1.2.2.1 s.2.1.1.2.2.2.1 s.2.1.1.2.2.2.2.1 s.2.1.1.2.2.2.2.2.1 s.2.1.1.2.2.2.2.2.2.1 s.2.1.1.2.2.2.2.2.2.2.1 s.2.1.1.2.2.2.2.2.2.2.2.1 s.2.1.1.2.2.2.2.2.2.2.2.2.1 (fun s=>some (.inl s)) (fun e=>some (.inr e))
def fp:ch.D→Option (bk.D ek):=jr be
theorem vH {ρ:Type} (s:ch.D) (fn:ch.D→Option ρ) (fe:bk.D ek→Option ρ):cK s.1.2.1 s.2.1.1.1 s.2.1.1.2.1 s.2.1.1.2.2.1 s.2.1.1.2.2.2.1 s.2.1.1.2.2.2.2.1 s.2.1.1.2.2.2.2.2.1 s.2.1.1.2.2.2.2.2.2.1 s.2.1.1.2.2.2.2.2.2.2.1 s.2.1.1.2.2.2.2.2.2.2.2.1 s.2.1.1.2.2.2.2.2.2.2.2.2.1 fn fe=(be s).bind (Sum.elim fn fe):=by
 simp only [be,cK,am,aq,Option.bind_none,Option.bind_assoc,Option.bind_some,Sum.elim_inl,Sum.elim_inr]
abbrev rc:cL:=cX [] [1,3] ch ek fp
theorem uW (s:ch.D):ei Θ (aJ tb) (aI []) hU (ch.mk' s) (cO [1,3] [2] fun x S=>some (x,S))=(be s).bind (Sum.elim (fun s'=>some (.nor,ch.mk' s')) fun e=>some (bk.e ek e)):=
 Eq.trans (by kernel_rfl:_=cK s.1.2.1 s.2.1.1.1 s.2.1.1.2.1 s.2.1.1.2.2.1 s.2.1.1.2.2.2.1 s.2.1.1.2.2.2.2.1 s.2.1.1.2.2.2.2.2.1 s.2.1.1.2.2.2.2.2.2.1 s.2.1.1.2.2.2.2.2.2.2.1 s.2.1.1.2.2.2.2.2.2.2.2.1 s.2.1.1.2.2.2.2.2.2.2.2.2.1 (fun s'=>some (.nor,ch.mk' s')) (fun e=>some (bk.e ek e))) (vH s _ _)
theorem uX:bS Tryz.prog hU rc:=aZ aM qh af (by kernel_rfl) (df (by kernel_rfl:_= []) ah) [] [1,3] [2] ch ek (by kernel_rfl) be uW fp (fT be) (aQ be)
def fW {ρ:Type} (a0:ao) (k:Bool×Unit→Option ρ):Option ρ:=
 (dT a0.now 0 999).bind fun y1=>br (!y1.1) (k (false,())) (br (!((a0.servers.length:Int)==5)) (k (false,())) ((lG a0.sides).bind fun y2=>br (!y2.1) (k (false,())) ((fI a0.master).bind fun y3=>br (!y3.1) (k (false,())) ((dT a0.masterUp 0 3).bind fun y4=>br (!y4.1) (k (false,())) ((nV a0.lease).bind fun y5=>br (!y5.1) (k (false,())) ((j8 a0.places).bind fun y6=>br (!y6.1) (k (false,())) (br (decide (a0.lease.epoch > a0.master.activated)) (k (false,())) ((fp (((),0,()),((a0.now,a0.servers,a0.sides,a0.master.configs,a0.master.activated,a0.masterUp,a0.lease.epoch,a0.lease.holder,a0.lease.ends,a0.places,()),()),(()))).bind fun e24=>Sum.elim (fun e24_=>k (e24_.1.1,())) (fun e24_=>k (true,())) e24))))))))
def dc (a0:ao):Option (Bool×Unit):=fW a0 some
theorem yr {ρ:Type} (a0:ao) (k:Bool×Unit→Option ρ):fW a0 k=(dc a0).bind k:=by
 simp only [dc,fW,am,bW,Option.bind_assoc,Option.bind_some]
abbrev tc:bn:=bA [.ty (.st .cluster)] [.b] fun x=>dc x.1
theorem BL:aD Tryz.prog 46 tc:=
 al (Λ:=aI [(ca hU,rc)]) (fn:=Tryz.f46) aM qh af (by kernel_rfl) (aF (by kernel_rfl:_= [hU]) (aP (q:=ca hU) rfl uX fun _ _ _=>by kernel_rfl)) (by kernel_rfl) (fun x=>dc x.1)
  (fun x=>Eq.trans (by kernel_rfl:_=fW x.1 (fun y=>ret (aE [.b] y) fun v g=>some (v,g))) (yr x.1 _)) fun _ _ h=>h
abbrev Qh:List (Nat×bn):= [(46,tc),(120,pg)]
theorem J7:aw Tryz.prog (aJ Qh):=ae BL <| ae p6 <| aj _
def rd {ρ:Type} (a0:ao) (a1:Int) (k:Bool×Unit→Option ρ):Option ρ:=
 (dc a0).bind fun y1=>br y1.1 ((dT a1 0 4).bind fun y2=>k (y2.1,())) (k (false,()))
def pm (a0:ao) (a1:Int):Option (Bool×Unit):=rd a0 a1 some
theorem Mp {ρ:Type} (a0:ao) (a1:Int) (k:Bool×Unit→Option ρ):rd a0 a1 k=(pm a0 a1).bind k:=by
 simp only [pm,rd,am,Option.bind_assoc,Option.bind_some]
abbrev IL:bn:=bA [.ty (.st .cluster), .ty (.i .i64)] [.b] fun x=>pm x.1 x.2.1
theorem Qi:aD Tryz.prog 83 IL:=
 al (Λ:=aI []) (fn:=Tryz.f83) aM J7 af (by kernel_rfl) (aF (by kernel_rfl:_= []) ah) (by kernel_rfl) (fun x=>pm x.1 x.2.1)
  (fun x=>Eq.trans (by kernel_rfl:_=rd x.1 x.2.1 (fun y=>ret (aE [.b] y) fun v g=>some (v,g))) (Mp x.1 x.2.1 _)) fun _ _ h=>h
abbrev DD:List (Nat×bn):= [(82,IE),(83,IL)]
theorem yt:aw Tryz.prog (aJ DD):=ae P9 <| ae Qi <| aj _
def jN {ρ:Type} (a0:ao) (a1:Int) (k:ao×Int×Unit→Option ρ):Option ρ:=
 (pf a0).bind fun y1=>(pm a0 a1).bind fun y2=>br (!y2.1) (k (y1.1,1,())) (ap (0≤a1) ((a0.servers[a1.toNat]?).bind fun x3=>br (x3.version==2) (k (y1.1,1,())) (ap (0≤a1) ((a0.servers[a1.toNat]?).bind fun x4=>br (!x4.up) (k (y1.1,2,())) (ap (0≤a1∧a1 < (y1.1.servers.length:Int)) ((y1.1.servers[a1.toNat]?).bind fun x5=>k ((⟨y1.1.now,(y1.1.servers.set a1.toNat (⟨x5.up,x5.intact,2,x5.epoch,x5.config,x5.first,x5.log,x5.commit,x5.learned⟩:ak)),y1.1.sides,y1.1.master,y1.1.masterUp,y1.1.lease,y1.1.places⟩:ao),0,())) none)) none)) none)
def f8 (a0:ao) (a1:Int):Option (ao×Int×Unit):=jN a0 a1 some
theorem zR {ρ:Type} (a0:ao) (a1:Int) (k:ao×Int×Unit→Option ρ):jN a0 a1 k=(f8 a0 a1).bind k:=by
 simp only [f8,jN,am,aq,Option.bind_none,Option.bind_assoc,Option.bind_some]
abbrev ux:bn:=bA [.ty (.st .cluster), .ty (.i .i64)] [.st .cluster, .i .i64] fun x=>f8 x.1 x.2.1
theorem DE:aD Tryz.prog 28 ux:=
 al (Λ:=aI []) (fn:=Tryz.f28) aM yt af (by kernel_rfl) (aF (by kernel_rfl:_= []) ah) (by kernel_rfl) (fun x=>f8 x.1 x.2.1)
  (fun x=>Eq.trans (by kernel_rfl:_=jN x.1 x.2.1 (fun y=>ret (aE [.st .cluster, .i .i64] y) fun v g=>some (v,g))) (zR x.1 x.2.1 _)) fun _ _ h=>h
abbrev J8:List (Nat×bn):= []
theorem DF:aw Tryz.prog (aJ J8):=aj _
def kQ {ρ:Type} (a0:ai) (k:ai×Unit→Option ρ):Option ρ:=
 ap ((([]:List Int)++a0.replicas).length*8≤2 ^ 40) (ap ((([]:List Int)++a0.witnesses).length*8≤2 ^ 40) (k ((⟨a0.epoch,a0.primary,(([]:List Int)++a0.replicas),(([]:List Int)++a0.witnesses)⟩:ai),())) none) none
def eI (a0:ai):Option (ai×Unit):=kQ a0 some
theorem FZ {ρ:Type} (a0:ai) (k:ai×Unit→Option ρ):kQ a0 k=(eI a0).bind k:=by
 simp only [eI,kQ,aq,Option.bind_none,Option.bind_some]
abbrev qA:bn:=bA [.ty (.st .config)] [.st .config] fun x=>eI x.1
theorem tZ:aD Tryz.prog 177 qA:=
 al (Λ:=aI []) (fn:=Tryz.f177) aM DF af (by kernel_rfl) (aF (by kernel_rfl:_= []) ah) (by kernel_rfl) (fun x=>eI x.1)
  (fun x=>Eq.trans (by kernel_rfl:_=kQ x.1 (fun y=>ret (aE [.st .config] y) fun v g=>some (v,g))) (FZ x.1 _)) fun _ _ h=>h
abbrev F0:List (Nat×bn):= []
theorem zS:aw Tryz.prog (aJ F0):=aj _
def uy {ρ:Type} (a0:List aK) (k: (List aK)×Unit→Option ρ):Option ρ:=
 ap (a0.length*56≤2 ^ 40) (k (a0,())) none
def jO (a0:List aK):Option ((List aK)×Unit):=uy a0 some
abbrev vI:bn:=bA [.ty (.ls (.st .entry))] [.ls (.st .entry)] fun x=>jO x.1
abbrev oB (y: (List aK)×Unit):Option (V×List bJ):=ret (aE [.ls (.st .entry)] y) fun v g=>some (v,g)
theorem F1:aD Tryz.prog 80 vI:=
 al (Λ:=aI []) (fn:=Tryz.f80) aM zS af (by kernel_rfl) (aF (by kernel_rfl:_= []) ah) (by kernel_rfl) (fun x=>jO x.1)
  (fun x=>Eq.trans (by kernel_rfl:_=Q7 x.1 (Q6 (oB ([],())) (ap ((([]:List aK)++x.1).length*56≤2 ^ 40) (oB (([]:List aK)++x.1,())) none) none) (ap ((([]:List aK)++x.1).length*56≤2 ^ 40) (oB (([]:List aK)++x.1,())) none)) (JI x.1 56 oB)) fun _ _ h=>h
abbrev J9:List (Nat×bn):= [(177,qA),(80,vI)]
theorem DG:aw Tryz.prog (aJ J9):=ae tZ <| ae F1 <| aj _
def mY {ρ:Type} (a0:ak) (k:ak×Unit→Option ρ):Option ρ:=
 (eI a0.config).bind fun y1=>(jO a0.log).bind fun y2=>(jO a0.learned).bind fun y3=>k ((⟨a0.up,a0.intact,a0.version,a0.epoch,y1.1,a0.first,y2.1,a0.commit,y3.1⟩:ak),())
def kk (a0:ak):Option (ak×Unit):=mY a0 some
theorem F2 {ρ:Type} (a0:ak) (k:ak×Unit→Option ρ):mY a0 k=(kk a0).bind k:=by
 simp only [kk,mY,Option.bind_assoc,Option.bind_some]
abbrev zT:bn:=bA [.ty (.st .server)] [.st .server] fun x=>kk x.1
theorem Ka:aD Tryz.prog 163 zT:=
 al (Λ:=aI []) (fn:=Tryz.f163) aM DG af (by kernel_rfl) (aF (by kernel_rfl:_= []) ah) (by kernel_rfl) (fun x=>kk x.1)
  (fun x=>Eq.trans (by kernel_rfl:_=mY x.1 (fun y=>ret (aE [.st .server] y) fun v g=>some (v,g))) (F2 x.1 _)) fun _ _ h=>h
abbrev Kb:List (Nat×bn):= []
theorem DH:aw Tryz.prog (aJ Kb):=aj _
def sE {ρ:Type} (a0:List Int) (k: (List Int)×Unit→Option ρ):Option ρ:=
 ap (a0.length*8≤2 ^ 40) (k (a0,())) none
def km (a0:List Int):Option ((List Int)×Unit):=sE a0 some
abbrev t4:bn:=bA [.ty (.ls (.i .i64))] [.ls (.i .i64)] fun x=>km x.1
abbrev qB (y: (List Int)×Unit):Option (V×List bJ):=ret (aE [.ls (.i .i64)] y) fun v g=>some (v,g)
theorem zU:aD Tryz.prog 164 t4:=
 al (Λ:=aI []) (fn:=Tryz.f164) aM DH af (by kernel_rfl) (aF (by kernel_rfl:_= []) ah) (by kernel_rfl) (fun x=>km x.1)
  (fun x=>Eq.trans (by kernel_rfl:_=Q7 x.1 (Q6 (qB ([],())) (ap ((([]:List Int)++x.1).length*8≤2 ^ 40) (qB (([]:List Int)++x.1,())) none) none) (ap ((([]:List Int)++x.1).length*8≤2 ^ 40) (qB (([]:List Int)++x.1,())) none)) (JI x.1 8 qB)) fun _ _ h=>h
abbrev zV:List (Nat×bn):= [(177,qA)]
theorem uz:aw Tryz.prog (aJ zV):=ae tZ <| aj _
noncomputable abbrev lL:Code:=b9 (bT Tryz.f165) 0
abbrev du:dN:=⟨[(2, .cl (.ptr 0 0)),(3, .cl (.ptr 1 0)),(10, .cl (.ro (.st .config))),(11, .cl (.int .i64)),(12, .cl (.int .i64))],[[.em, .int .i64],[.own 0 (.st .config), .int .i64]],[.st .config],0,25⟩
abbrev hZ:List (X×dN):= [(.ext 0,⟨[(2, .cl (.ptr 0 0)),(3, .cl (.ptr 1 0))],[[.em, .int .i64],[.own 0 (.st .config), .int .i64]],[.st .config],0,25⟩)]
def iB {ρ:Type} (v8:List ai) (v9:List ai) (v10:Int) (v11:Int) (v12:Int) (v13:Int) (fn: ((Unit×Unit×(List ai)×Int×Int×Unit)×((Unit×Int×Unit)×(Unit×Int×Unit)×Unit)×((List ai)×Unit))→Option ρ) (fe: ((Unit×Unit×Unit)×((Unit×Int×Unit)×(Unit×Int×Unit)×Unit)×((List ai)×Unit))→Option ρ):Option ρ:=
 br (decide (v11 < v10)) (ap (0≤v11) ((v9[v11.toNat]?).bind fun x14=>(eI x14).bind fun y15=>ap ((v8++([y15.1]:List ai)).length*64≤2 ^ 40) (fn (((),(),v9,v10,(IntKind.wrap .i64 (v11+1)),()),(((),v12,()),((),v13,()),()),((v8++([y15.1]:List ai)),()))) none) none) (fe (((),(),()),(((),v12,()),((),v13,()),()),(v8,())))
def dX (s:du.D):Option (du.D⊕bk.D hZ):=iB s.2.2.1 s.1.2.2.1 s.1.2.2.2.1 s.1.2.2.2.2.1 s.2.1.1.2.1 s.2.1.2.1.2.1 (fun s=>some (.inl s)) (fun e=>some (.inr e))
def oC:du.D→Option (bk.D hZ):=jr dX
theorem BM {ρ:Type} (s:du.D) (fn:du.D→Option ρ) (fe:bk.D hZ→Option ρ):iB s.2.2.1 s.1.2.2.1 s.1.2.2.2.1 s.1.2.2.2.2.1 s.2.1.1.2.1 s.2.1.2.1.2.1 fn fe=(dX s).bind (Sum.elim fn fe):=by
 simp only [dX,iB,am,aq,Option.bind_none,Option.bind_assoc,Option.bind_some,Sum.elim_inl,Sum.elim_inr]
abbrev vJ:cL:=cX [.b 2 0 (.st .config)] [2,3,10,11,12] du hZ oC
theorem zW (s:du.D):ei Θ (aJ zV) (aI []) lL (du.mk' s) (cO [2,3,10,11,12] [2,3] fun x S=>some (x,S))=(dX s).bind (Sum.elim (fun s'=>some (.nor,du.mk' s')) fun e=>some (bk.e hZ e)):=
 Eq.trans (by kernel_rfl:_=iB s.2.2.1 s.1.2.2.1 s.1.2.2.2.1 s.1.2.2.2.2.1 s.2.1.1.2.1 s.2.1.2.1.2.1 (fun s'=>some (.nor,du.mk' s')) (fun e=>some (bk.e hZ e))) (BM s _ _)
theorem zX:bS Tryz.prog lL vJ:=aZ aM uz af (by kernel_rfl) (df (by kernel_rfl:_= []) ah) [.b 2 0 (.st .config)] [2,3,10,11,12] [2,3] du hZ (by kernel_rfl) dX zW oC (fT dX) (aQ dX)
def mZ {ρ:Type} (a0:an) (k:an×Unit→Option ρ):Option ρ:=
 (oC (((),(),a0.configs,(a0.configs.length:Int),0,()),(((),0,()),((),a0.activated,()),()),(([]:List ai),()))).bind fun e16=>k ((⟨e16.2.2.1,e16.2.1.2.1.2.1⟩:an),())
def kn (a0:an):Option (an×Unit):=mZ a0 some
theorem F3 {ρ:Type} (a0:an) (k:an×Unit→Option ρ):mZ a0 k=(kn a0).bind k:=by
 simp only [kn,mZ,Option.bind_assoc,Option.bind_some]
abbrev zY:bn:=bA [.ty (.st .masterLog)] [.st .masterLog] fun x=>kn x.1
theorem Kd:aD Tryz.prog 165 zY:=
 al (Λ:=aI [(ca lL,vJ)]) (fn:=Tryz.f165) aM uz af (by kernel_rfl) (aF (by kernel_rfl:_= [lL]) (aP (q:=ca lL) rfl zX fun _ _ _=>by kernel_rfl)) (by kernel_rfl) (fun x=>kn x.1)
  (fun x=>Eq.trans (by kernel_rfl:_=mZ x.1 (fun y=>ret (aE [.st .masterLog] y) fun v g=>some (v,g))) (F3 x.1 _)) fun _ _ h=>h
abbrev F4:List (Nat×bn):= []
theorem zZ:aw Tryz.prog (aJ F4):=aj _
def uA {ρ:Type} (a0:List aU) (k: (List aU)×Unit→Option ρ):Option ρ:=
 ap (a0.length*24≤2 ^ 40) (k (a0,())) none
def lM (a0:List aU):Option ((List aU)×Unit):=uA a0 some
abbrev vK:bn:=bA [.ty (.ls (.st .place))] [.ls (.st .place)] fun x=>lM x.1
abbrev oD (y: (List aU)×Unit):Option (V×List bJ):=ret (aE [.ls (.st .place)] y) fun v g=>some (v,g)
theorem F5:aD Tryz.prog 166 vK:=
 al (Λ:=aI []) (fn:=Tryz.f166) aM zZ af (by kernel_rfl) (aF (by kernel_rfl:_= []) ah) (by kernel_rfl) (fun x=>lM x.1)
  (fun x=>Eq.trans (by kernel_rfl:_=Q7 x.1 (Q6 (oD ([],())) (ap ((([]:List aU)++x.1).length*24≤2 ^ 40) (oD (([]:List aU)++x.1,())) none) none) (ap ((([]:List aU)++x.1).length*24≤2 ^ 40) (oD (([]:List aU)++x.1,())) none)) (JI x.1 24 oD)) fun _ _ h=>h
abbrev xz:List (Nat×bn):= [(163,zT),(164,t4),(165,zY),(166,vK)]
theorem td:aw Tryz.prog (aJ xz):=ae Ka <| ae zU <| ae Kd <| ae F5 <| aj _
noncomputable abbrev kA:Code:=b9 (bT Tryz.f95) 0
abbrev c5:dN:=⟨[(1, .cl (.ptr 0 0)),(2, .cl (.ptr 1 0)),(3, .cl (.ptr 2 0)),(9, .cl (.ro (.st .server))),(10, .cl (.int .i64)),(11, .cl (.int .i64))],[[.int .i64, .ro (.st .server), .ro (.i .i64), .ro (.st .config), .int .i64, .int .i64, .int .i64, .int .i64, .int .i64, .ro (.st .place)],[.int .i64, .em, .em, .em, .int .i64, .int .i64, .int .i64, .int .i64, .int .i64, .em],[.int .i64, .own 0 (.st .server), .ro (.i .i64), .ro (.st .config), .int .i64, .int .i64, .int .i64, .int .i64, .int .i64, .ro (.st .place)]],[.st .server],0,36⟩
abbrev f9:List (X×dN):= [(.ext 0,⟨[(1, .cl (.ptr 0 0)),(2, .cl (.ptr 1 0)),(3, .cl (.ptr 2 0))],[[.int .i64, .ro (.st .server), .ro (.i .i64), .ro (.st .config), .int .i64, .int .i64, .int .i64, .int .i64, .int .i64, .ro (.st .place)],[.int .i64, .em, .em, .em, .int .i64, .int .i64, .int .i64, .int .i64, .int .i64, .em],[.int .i64, .own 0 (.st .server), .ro (.i .i64), .ro (.st .config), .int .i64, .int .i64, .int .i64, .int .i64, .int .i64, .ro (.st .place)]],[.st .server],0,36⟩)]
def gP {ρ:Type} (v31:List ak) (v32:List ak) (v33:Int) (v34:Int) (v35:Int) (v36:List ak) (v37:List Int) (v38:List ai) (v39:Int) (v40:Int) (v41:Int) (v42:Int) (v43:Int) (v44:List aU) (v45:Int) (v46:Int) (v47:Int) (v48:Int) (v49:Int) (v50:Int) (v51:Int) (v52:List Int) (v53:List ai) (v54:Int) (v55:Int) (v56:Int) (v57:Int) (v58:Int) (v59:List aU) (fn: ((Unit×Unit×Unit×(List ak)×Int×Int×Unit)×((Int×(List ak)×(List Int)×(List ai)×Int×Int×Int×Int×Int×(List aU)×Unit)×(Int×Unit×Unit×Unit×Int×Int×Int×Int×Int×Unit×Unit)×(Int×Unit×(List Int)×(List ai)×Int×Int×Int×Int×Int×(List aU)×Unit)×Unit)×((List ak)×Unit))→Option ρ) (fe: ((Unit×Unit×Unit×Unit)×((Int×(List ak)×(List Int)×(List ai)×Int×Int×Int×Int×Int×(List aU)×Unit)×(Int×Unit×Unit×Unit×Int×Int×Int×Int×Int×Unit×Unit)×(Int×Unit×(List Int)×(List ai)×Int×Int×Int×Int×Int×(List aU)×Unit)×Unit)×((List ak)×Unit))→Option ρ):Option ρ:=
 br (decide (v34 < v33)) (ap (0≤v34) ((v32[v34.toNat]?).bind fun x60=>(kk x60).bind fun y61=>ap ((v31++([y61.1]:List ak)).length*152≤2 ^ 40) (fn (((),(),(),v32,v33,(IntKind.wrap .i64 (v34+1)),()),((v35,v36,v37,v38,v39,v40,v41,v42,v43,v44,()),(v45,(),(),(),v46,v47,v48,v49,v50,(),()),(v51,(),v52,v53,v54,v55,v56,v57,v58,v59,()),()),((v31++([y61.1]:List ak)),()))) none) none) (fe (((),(),(),()),((v35,v36,v37,v38,v39,v40,v41,v42,v43,v44,()),(v45,(),(),(),v46,v47,v48,v49,v50,(),()),(v51,(),v52,v53,v54,v55,v56,v57,v58,v59,()),()),(v31,())))
def dC (s:c5.D):Option (c5.D⊕bk.D f9):=gP s.2.2.1 s.1.2.2.2.1 s.1.2.2.2.2.1 s.1.2.2.2.2.2.1 s.2.1.1.1 s.2.1.1.2.1 s.2.1.1.2.2.1 s.2.1.1.2.2.2.1 s.2.1.1.2.2.2.2.1 s.2.1.1.2.2.2.2.2.1 s.2.1.1.2.2.2.2.2.2.1 s.2.1.1.2.2.2.2.2.2.2.1 s.2.1.1.2.2.2.2.2.2.2.2.1 s.2.1.1.2.2.2.2.2.2.2.2.2.1 s.2.1.2.1.1 s.2.1.2.1.2.2.2.2.1 s.2.1.2.1.2.2.2.2.2.1 s.2.1.2.1.2.2.2.2.2.2.1 s.2.1.2.1.2.2.2.2.2.2.2.1 s.2.1.2.1.2.2.2.2.2.2.2.2.1 s.2.1.2.2.1.1 s.2.1.2.2.1.2.2.1 s.2.1.2.2.1.2.2.2.1 s.2.1.2.2.1.2.2.2.2.1 s.2.1.2.2.1.2.2.2.2.2.1 s.2.1.2.2.1.2.2.2.2.2.2.1 s.2.1.2.2.1.2.2.2.2.2.2.2.1 s.2.1.2.2.1.2.2.2.2.2.2.2.2.1 s.2.1.2.2.1.2.2.2.2.2.2.2.2.2.1 (fun s=>some (.inl s)) (fun e=>some (.inr e))
def nv:c5.D→Option (bk.D f9):=jr dC
theorem z0 {ρ:Type} (s:c5.D) (fn:c5.D→Option ρ) (fe:bk.D f9→Option ρ):gP s.2.2.1 s.1.2.2.2.1 s.1.2.2.2.2.1 s.1.2.2.2.2.2.1 s.2.1.1.1 s.2.1.1.2.1 s.2.1.1.2.2.1 s.2.1.1.2.2.2.1 s.2.1.1.2.2.2.2.1 s.2.1.1.2.2.2.2.2.1 s.2.1.1.2.2.2.2.2.2.1 s.2.1.1.2.2.2.2.2.2.2.1 s.2.1.1.2.2.2.2.2.2.2.2.1 s.2.1.1.2.2.2.2.2.2.2.2.2.1 s.2.1.2.1.1 s.2.1.2.1.2.2.2.2.1 s.2.1.2.1.2.2.2.2.2.1 s.2.1.2.1.2.2.2.2.2.2.1 s.2.1.2.1.2.2.2.2.2.2.2.1 s.2.1.2.1.2.2.2.2.2.2.2.2.1 s.2.1.2.2.1.1 s.2.1.2.2.1.2.2.1 s.2.1.2.2.1.2.2.2.1 s.2.1.2.2.1.2.2.2.2.1 s.2.1.2.2.1.2.2.2.2.2.1 s.2.1.2.2.1.2.2.2.2.2.2.1 s.2.1.2.2.1.2.2.2.2.2.2.2.1 s.2.1.2.2.1.2.2.2.2.2.2.2.2.1 s.2.1.2.2.1.2.2.2.2.2.2.2.2.2.1 fn fe=(dC s).bind (Sum.elim fn fe):=by
 simp only [dC,gP,am,aq,Option.bind_none,Option.bind_assoc,Option.bind_some,Sum.elim_inl,Sum.elim_inr]
abbrev uB:cL:=cX [.b 2 1 (.st .server)] [1,2,3,9,10,11] c5 f9 nv
theorem yu (s:c5.D):ei Θ (aJ xz) (aI []) kA (c5.mk' s) (cO [1,2,3,9,10,11] [1,2,3] fun x S=>some (x,S))=(dC s).bind (Sum.elim (fun s'=>some (.nor,c5.mk' s')) fun e=>some (bk.e f9 e)):=
 Eq.trans (by kernel_rfl:_=gP s.2.2.1 s.1.2.2.2.1 s.1.2.2.2.2.1 s.1.2.2.2.2.2.1 s.2.1.1.1 s.2.1.1.2.1 s.2.1.1.2.2.1 s.2.1.1.2.2.2.1 s.2.1.1.2.2.2.2.1 s.2.1.1.2.2.2.2.2.1 s.2.1.1.2.2.2.2.2.2.1 s.2.1.1.2.2.2.2.2.2.2.1 s.2.1.1.2.2.2.2.2.2.2.2.1 s.2.1.1.2.2.2.2.2.2.2.2.2.1 s.2.1.2.1.1 s.2.1.2.1.2.2.2.2.1 s.2.1.2.1.2.2.2.2.2.1 s.2.1.2.1.2.2.2.2.2.2.1 s.2.1.2.1.2.2.2.2.2.2.2.1 s.2.1.2.1.2.2.2.2.2.2.2.2.1 s.2.1.2.2.1.1 s.2.1.2.2.1.2.2.1 s.2.1.2.2.1.2.2.2.1 s.2.1.2.2.1.2.2.2.2.1 s.2.1.2.2.1.2.2.2.2.2.1 s.2.1.2.2.1.2.2.2.2.2.2.1 s.2.1.2.2.1.2.2.2.2.2.2.2.1 s.2.1.2.2.1.2.2.2.2.2.2.2.2.1 s.2.1.2.2.1.2.2.2.2.2.2.2.2.2.1 (fun s'=>some (.nor,c5.mk' s')) (fun e=>some (bk.e f9 e))) (z0 s _ _)
theorem yw:bS Tryz.prog kA uB:=aZ aM td af (by kernel_rfl) (df (by kernel_rfl:_= []) ah) [.b 2 1 (.st .server)] [1,2,3,9,10,11] [1,2,3] c5 f9 (by kernel_rfl) dC yu nv (fT dC) (aQ dC)
def lN {ρ:Type} (a0:ao) (k:ao×Unit→Option ρ):Option ρ:=
 (nv (((),(),(),a0.servers,(a0.servers.length:Int),0,()),((a0.now,a0.servers,a0.sides,a0.master.configs,a0.master.activated,a0.masterUp,a0.lease.epoch,a0.lease.holder,a0.lease.ends,a0.places,()),(0,(),(),(),0,0,0,0,0,(),()),(a0.now,(),a0.sides,a0.master.configs,a0.master.activated,a0.masterUp,a0.lease.epoch,a0.lease.holder,a0.lease.ends,a0.places,()),()),(([]:List ak),()))).bind fun e62=>(km e62.2.1.1.2.2.1).bind fun y63=>(kn (⟨e62.2.1.1.2.2.2.1,e62.2.1.1.2.2.2.2.1⟩:an)).bind fun y64=>(lM e62.2.1.1.2.2.2.2.2.2.2.2.2.1).bind fun y65=>k ((⟨e62.2.1.2.2.1.1,e62.2.2.1,y63.1,y64.1,e62.2.1.2.2.1.2.2.2.2.2.1,(⟨e62.2.1.2.2.1.2.2.2.2.2.2.1,e62.2.1.2.2.1.2.2.2.2.2.2.2.1,e62.2.1.2.2.1.2.2.2.2.2.2.2.2.1⟩:jC),y65.1⟩:ao),())
def jh (a0:ao):Option (ao×Unit):=lN a0 some
theorem DI {ρ:Type} (a0:ao) (k:ao×Unit→Option ρ):lN a0 k=(jh a0).bind k:=by
 simp only [jh,lN,Option.bind_assoc,Option.bind_some]
abbrev xA:bn:=bA [.ty (.st .cluster)] [.st .cluster] fun x=>jh x.1
theorem Hw:aD Tryz.prog 95 xA:=
 al (Λ:=aI [(ca kA,uB)]) (fn:=Tryz.f95) aM td af (by kernel_rfl) (aF (by kernel_rfl:_= [kA]) (aP (q:=ca kA) rfl yw fun _ _ _=>by kernel_rfl)) (by kernel_rfl) (fun x=>jh x.1)
  (fun x=>Eq.trans (by kernel_rfl:_=lN x.1 (fun y=>ret (aE [.st .cluster] y) fun v g=>some (v,g))) (DI x.1 _)) fun _ _ h=>h
abbrev Sa:List (Nat×bn):= []
theorem Mq:aw Tryz.prog (aJ Sa):=aj _
def te {ρ:Type} (a0:Int) (a1:Int) (a2:Int) (k:Bool×Unit→Option ρ):Option ρ:=
 br (decide (a1≤a0)) (k ((decide (a0≤a2)),())) (k (false,()))
def ce (a0:Int) (a1:Int) (a2:Int):Option (Bool×Unit):=te a0 a1 a2 some
theorem Oa {ρ:Type} (a0:Int) (a1:Int) (a2:Int) (k:Bool×Unit→Option ρ):te a0 a1 a2 k=(ce a0 a1 a2).bind k:=by
 simp only [ce,te,am,Option.bind_some]
abbrev iQ:bn:=bA [.ty (.i .i64), .ty (.i .i64), .ty (.i .i64)] [.b] fun x=>ce x.1 x.2.1 x.2.2.1
theorem jP:aD Tryz.prog 135 iQ:=
 al (Λ:=aI []) (fn:=Tryz.f135) aM Mq af (by kernel_rfl) (aF (by kernel_rfl:_= []) ah) (by kernel_rfl) (fun x=>ce x.1 x.2.1 x.2.2.1)
  (fun x=>Eq.trans (by kernel_rfl:_=te x.1 x.2.1 x.2.2.1 (fun y=>ret (aE [.b] y) fun v g=>some (v,g))) (Oa x.1 x.2.1 x.2.2.1 _)) fun _ _ h=>h
abbrev Hx:List (Nat×bn):= [(135,iQ)]
theorem BN:aw Tryz.prog (aJ Hx):=ae jP <| aj _
def lO {ρ:Type} (a0:Int) (k:Bool×Unit→Option ρ):Option ρ:=
 (ce a0 0 3).bind fun y1=>k ((!y1.1),())
def kR (a0:Int):Option (Bool×Unit):=lO a0 some
theorem DJ {ρ:Type} (a0:Int) (k:Bool×Unit→Option ρ):lO a0 k=(kR a0).bind k:=by
 simp only [kR,lO,Option.bind_assoc,Option.bind_some]
abbrev xB:bn:=bA [.ty (.i .i64)] [.b] fun x=>kR x.1
theorem Hy:aD Tryz.prog 210 xB:=
 al (Λ:=aI []) (fn:=Tryz.f210) aM BN af (by kernel_rfl) (aF (by kernel_rfl:_= []) ah) (by kernel_rfl) (fun x=>kR x.1)
  (fun x=>Eq.trans (by kernel_rfl:_=lO x.1 (fun y=>ret (aE [.b] y) fun v g=>some (v,g))) (DJ x.1 _)) fun _ _ h=>h
abbrev j9:List (Nat×bn):= [(210,xB)]
theorem iR:aw Tryz.prog (aJ j9):=ae Hy <| aj _
noncomputable abbrev cG:Code:=b9 (bT Tryz.f143) 0
abbrev aV:dN:=⟨[(0, .cl (.ro (.i .i64))),(1, .cl (.fc 210)),(7, .cl (.int .i64)),(8, .cl (.int .i64))],[],[],0,19⟩
abbrev bF:List (X×dN):= [(.ret,⟨[(4, .cl (.int .i64))],[],[],0,19⟩),(.ext 0,⟨[(4, .cl (.dead))],[],[],0,19⟩)]
def bX {ρ:Type} (v1:List Int) (v2:Int) (v3:Int) (fn: (((List Int)×Unit×Int×Int×Unit)×(Unit)×(Unit))→Option ρ) (fe: ((Int×Unit)×(Unit)×(Unit))⊕((Unit×Unit)×(Unit)×(Unit))→Option ρ):Option ρ:=
 br (decide (v3 < v2)) (ap (0≤v3) ((v1[v3.toNat]?).bind fun x4=>(kR x4).bind fun y5=>br y5.1 (fe (.inl ((v3,()),(()),(())))) (fn ((v1,(),v2,(IntKind.wrap .i64 (v3+1)),()),(()),(())))) none) (fe (.inr (((),()),(()),(()))))
def aX (s:aV.D):Option (aV.D⊕bk.D bF):=bX s.1.1 s.1.2.2.1 s.1.2.2.2.1 (fun s=>some (.inl s)) (fun e=>some (.inr e))
def cH:aV.D→Option (bk.D bF):=jr aX
theorem n6 {ρ:Type} (s:aV.D) (fn:aV.D→Option ρ) (fe:bk.D bF→Option ρ):bX s.1.1 s.1.2.2.1 s.1.2.2.2.1 fn fe=(aX s).bind (Sum.elim fn fe):=by
 simp only [aX,bX,am,aq,Option.bind_none,Option.bind_assoc,Option.bind_some,Sum.elim_inl,Sum.elim_inr]
abbrev js:cL:=cX [] [0,1,7,8] aV bF cH
theorem nC (s:aV.D):ei Θ (aJ j9) (aI []) cG (aV.mk' s) (cO [0,1,7,8] [4] fun x S=>some (x,S))=(aX s).bind (Sum.elim (fun s'=>some (.nor,aV.mk' s')) fun e=>some (bk.e bF e)):=
 Eq.trans (by kernel_rfl:_=bX s.1.1 s.1.2.2.1 s.1.2.2.2.1 (fun s'=>some (.nor,aV.mk' s')) (fun e=>some (bk.e bF e))) (n6 s _ _)
theorem nD:bS Tryz.prog cG js:=aZ aM iR af (by kernel_rfl) (df (by kernel_rfl:_= []) ah) [] [0,1,7,8] [4] aV bF (by kernel_rfl) aX nC cH (fT aX) (aQ aX)
def cN {ρ:Type} (a0:List Int) (k:Int×Unit→Option ρ):Option ρ:=
 (cH ((a0,(),(a0.length:Int),0,()),(()),(()))).bind fun e6=>Sum.elim (fun e6_=>k (e6_.1.1,())) (fun e6_=>k ((-1),())) e6
def cq (a0:List Int):Option (Int×Unit):=cN a0 some
theorem o5 {ρ:Type} (a0:List Int) (k:Int×Unit→Option ρ):cN a0 k=(cq a0).bind k:=by
 simp only [cq,cN,bW,Option.bind_assoc,Option.bind_some]
abbrev ka:bn:=bA [.ty (.ls (.i .i64)), .fc 210] [.i .i64] fun x=>cq x.1
theorem pQ:aD Tryz.prog 143 ka:=
 al (Λ:=aI [(ca cG,js)]) (fn:=Tryz.f143) aM iR af (by kernel_rfl) (aF (by kernel_rfl:_= [cG]) (aP (q:=ca cG) rfl nD fun _ _ _=>by kernel_rfl)) (by kernel_rfl) (fun x=>cq x.1)
  (fun x=>Eq.trans (by kernel_rfl:_=cN x.1 (fun y=>ret (aE [.i .i64] y) fun v g=>some (v,g))) (o5 x.1 _)) fun _ _ h=>h
abbrev oE:List (Nat×bn):= [(143,ka)]
theorem m0:aw Tryz.prog (aJ oE):=ae pQ <| aj _
def ct {ρ:Type} (a0:List Int) (k:Bool×Unit→Option ρ):Option ρ:=
 (cq a0).bind fun y1=>k ((decide (y1.1≥0)),())
def bZ (a0:List Int):Option (Bool×Unit):=ct a0 some
theorem nE {ρ:Type} (a0:List Int) (k:Bool×Unit→Option ρ):ct a0 k=(bZ a0).bind k:=by
 simp only [bZ,ct,Option.bind_assoc,Option.bind_some]
abbrev iT:bn:=bA [.ty (.ls (.i .i64)), .fc 210] [.b] fun x=>bZ x.1
theorem oF:aD Tryz.prog 61 iT:=
 al (Λ:=aI []) (fn:=Tryz.f61) aM m0 af (by kernel_rfl) (aF (by kernel_rfl:_= []) ah) (by kernel_rfl) (fun x=>bZ x.1)
  (fun x=>Eq.trans (by kernel_rfl:_=ct x.1 (fun y=>ret (aE [.b] y) fun v g=>some (v,g))) (nE x.1 _)) fun _ _ h=>h
abbrev Ob:List (Nat×bn):= [(61,iT)]
theorem Hz:aw Tryz.prog (aJ Ob):=ae oF <| aj _
def pR {ρ:Type} (a0:List Int) (k:Bool×Unit→Option ρ):Option ρ:=
 br ((a0.length:Int)==5) ((bZ a0).bind fun y1=>k ((!y1.1),())) (k (false,()))
def nF (a0:List Int):Option (Bool×Unit):=pR a0 some
theorem Ke {ρ:Type} (a0:List Int) (k:Bool×Unit→Option ρ):pR a0 k=(nF a0).bind k:=by
 simp only [nF,pR,am,Option.bind_assoc,Option.bind_some]
abbrev F6:bn:=bA [.ty (.ls (.i .i64))] [.b] fun x=>nF x.1
theorem Oc:aD Tryz.prog 136 F6:=
 al (Λ:=aI []) (fn:=Tryz.f136) aM Hz af (by kernel_rfl) (aF (by kernel_rfl:_= []) ah) (by kernel_rfl) (fun x=>nF x.1)
  (fun x=>Eq.trans (by kernel_rfl:_=pR x.1 (fun y=>ret (aE [.b] y) fun v g=>some (v,g))) (Ke x.1 _)) fun _ _ h=>h
abbrev z6:List (Nat×bn):= [(135,iQ)]
theorem uC:aw Tryz.prog (aJ z6):=ae jP <| aj _
noncomputable abbrev lP:Code:=b9 (bT Tryz.f227) 0
abbrev dv:dN:=⟨[(0, .cl (.ro (.i .i64))),(5, .cl (.ro (.i .i64))),(6, .cl (.int .i64)),(7, .cl (.int .i64))],[],[],0,29⟩
abbrev ia:List (X×dN):= [(.ret,⟨[(2, .cl (.bl))],[],[],0,29⟩),(.ext 0,⟨[(2, .cl (.dead))],[],[],0,29⟩)]
def iC {ρ:Type} (v1:List Int) (v2:List Int) (v3:Int) (v4:Int) (fn: (((List Int)×(List Int)×Int×Int×Unit)×(Unit)×(Unit))→Option ρ) (fe: ((Bool×Unit)×(Unit)×(Unit))⊕((Unit×Unit)×(Unit)×(Unit))→Option ρ):Option ρ:=
 br (decide (v4 < v3)) (ap (0≤v4) ((v2[v4.toNat]?).bind fun x5=>(ce x5 0 4).bind fun y6=>br (!y6.1) (fe (.inl ((false,()),(()),(())))) (br (decide (v4 > 0)) (ap (0≤(IntKind.wrap .i64 (v4 - 1))) ((v1[(IntKind.wrap .i64 (v4 - 1)).toNat]?).bind fun x7=>br (decide (x5≤x7)) (fe (.inl ((false,()),(()),(())))) (fn ((v1,v2,v3,(IntKind.wrap .i64 (v4+1)),()),(()),(())))) none) (fn ((v1,v2,v3,(IntKind.wrap .i64 (v4+1)),()),(()),(()))))) none) (fe (.inr (((),()),(()),(()))))
def dY (s:dv.D):Option (dv.D⊕bk.D ia):=iC s.1.1 s.1.2.1 s.1.2.2.1 s.1.2.2.2.1 (fun s=>some (.inl s)) (fun e=>some (.inr e))
def lQ:dv.D→Option (bk.D ia):=jr dY
theorem BO {ρ:Type} (s:dv.D) (fn:dv.D→Option ρ) (fe:bk.D ia→Option ρ):iC s.1.1 s.1.2.1 s.1.2.2.1 s.1.2.2.2.1 fn fe=(dY s).bind (Sum.elim fn fe):=by
 simp only [dY,iC,am,aq,Option.bind_none,Option.bind_assoc,Option.bind_some,Sum.elim_inl,Sum.elim_inr]
abbrev vL:cL:=cX [] [0,5,6,7] dv ia lQ
theorem z8 (s:dv.D):ei Θ (aJ z6) (aI []) lP (dv.mk' s) (cO [0,5,6,7] [2] fun x S=>some (x,S))=(dY s).bind (Sum.elim (fun s'=>some (.nor,dv.mk' s')) fun e=>some (bk.e ia e)):=
 Eq.trans (by kernel_rfl:_=iC s.1.1 s.1.2.1 s.1.2.2.1 s.1.2.2.2.1 (fun s'=>some (.nor,dv.mk' s')) (fun e=>some (bk.e ia e))) (BO s _ _)
theorem Aa:bS Tryz.prog lP vL:=aZ aM uC af (by kernel_rfl) (df (by kernel_rfl:_= []) ah) [] [0,5,6,7] [2] dv ia (by kernel_rfl) dY z8 lQ (fT dY) (aQ dY)
def m8 {ρ:Type} (a0:List Int) (k:Bool×Unit→Option ρ):Option ρ:=
 (lQ ((a0,a0,(a0.length:Int),0,()),(()),(()))).bind fun e8=>Sum.elim (fun e8_=>k (e8_.1.1,())) (fun e8_=>k (true,())) e8
def gq (a0:List Int):Option (Bool×Unit):=m8 a0 some
theorem F7 {ρ:Type} (a0:List Int) (k:Bool×Unit→Option ρ):m8 a0 k=(gq a0).bind k:=by
 simp only [gq,m8,bW,Option.bind_assoc,Option.bind_some]
abbrev Ab:bn:=bA [.ty (.ls (.i .i64))] [.b] fun x=>gq x.1
theorem Kf:aD Tryz.prog 227 Ab:=
 al (Λ:=aI [(ca lP,vL)]) (fn:=Tryz.f227) aM uC af (by kernel_rfl) (aF (by kernel_rfl:_= [lP]) (aP (q:=ca lP) rfl Aa fun _ _ _=>by kernel_rfl)) (by kernel_rfl) (fun x=>gq x.1)
  (fun x=>Eq.trans (by kernel_rfl:_=m8 x.1 (fun y=>ret (aE [.b] y) fun v g=>some (v,g))) (F7 x.1 _)) fun _ _ h=>h
abbrev Ad:List (Nat×bn):= []
theorem uD:aw Tryz.prog (aJ Ad):=aj _
noncomputable abbrev lR:Code:=b9 (bT Tryz.f214) 0
abbrev dw:dN:=⟨[(0, .cl (.ro (.i .i64))),(1, .cl (.int .i64)),(7, .cl (.int .i64)),(8, .cl (.int .i64))],[],[],0,19⟩
abbrev ib:List (X×dN):= [(.ret,⟨[(4, .cl (.int .i64))],[],[],0,19⟩),(.ext 0,⟨[(4, .cl (.dead))],[],[],0,19⟩)]
def iE {ρ:Type} (v1:List Int) (v2:Int) (v3:Int) (v4:Int) (fn: (((List Int)×Int×Int×Int×Unit)×(Unit)×(Unit))→Option ρ) (fe: ((Int×Unit)×(Unit)×(Unit))⊕((Unit×Unit)×(Unit)×(Unit))→Option ρ):Option ρ:=
 br (decide (v4 < v3)) (ap (0≤v4) ((v1[v4.toNat]?).bind fun x5=>br (v2==x5) (fe (.inl ((v4,()),(()),(())))) (fn ((v1,v2,v3,(IntKind.wrap .i64 (v4+1)),()),(()),(())))) none) (fe (.inr (((),()),(()),(()))))
def dZ (s:dw.D):Option (dw.D⊕bk.D ib):=iE s.1.1 s.1.2.1 s.1.2.2.1 s.1.2.2.2.1 (fun s=>some (.inl s)) (fun e=>some (.inr e))
def lS:dw.D→Option (bk.D ib):=jr dZ
theorem BP {ρ:Type} (s:dw.D) (fn:dw.D→Option ρ) (fe:bk.D ib→Option ρ):iE s.1.1 s.1.2.1 s.1.2.2.1 s.1.2.2.2.1 fn fe=(dZ s).bind (Sum.elim fn fe):=by
 simp only [dZ,iE,am,aq,Option.bind_none,Option.bind_assoc,Option.bind_some,Sum.elim_inl,Sum.elim_inr]
abbrev vM:cL:=cX [] [0,1,7,8] dw ib lS
theorem Ae (s:dw.D):ei Θ (aJ Ad) (aI []) lR (dw.mk' s) (cO [0,1,7,8] [4] fun x S=>some (x,S))=(dZ s).bind (Sum.elim (fun s'=>some (.nor,dw.mk' s')) fun e=>some (bk.e ib e)):=
 Eq.trans (by kernel_rfl:_=iE s.1.1 s.1.2.1 s.1.2.2.1 s.1.2.2.2.1 (fun s'=>some (.nor,dw.mk' s')) (fun e=>some (bk.e ib e))) (BP s _ _)
theorem Af:bS Tryz.prog lR vM:=aZ aM uD af (by kernel_rfl) (df (by kernel_rfl:_= []) ah) [] [0,1,7,8] [4] dw ib (by kernel_rfl) dZ Ae lS (fT dZ) (aQ dZ)
def m9 {ρ:Type} (a0:List Int) (a1:Int) (k:Int×Unit→Option ρ):Option ρ:=
 (lS ((a0,a1,(a0.length:Int),0,()),(()),(()))).bind fun e6=>Sum.elim (fun e6_=>k (e6_.1.1,())) (fun e6_=>k ((-1),())) e6
def mm (a0:List Int) (a1:Int):Option (Int×Unit):=m9 a0 a1 some
theorem F8 {ρ:Type} (a0:List Int) (a1:Int) (k:Int×Unit→Option ρ):m9 a0 a1 k=(mm a0 a1).bind k:=by
 simp only [mm,m9,bW,Option.bind_assoc,Option.bind_some]
abbrev Ag:bn:=bA [.ty (.ls (.i .i64)), .ty (.i .i64)] [.i .i64] fun x=>mm x.1 x.2.1
theorem Kg:aD Tryz.prog 214 Ag:=
 al (Λ:=aI [(ca lR,vM)]) (fn:=Tryz.f214) aM uD af (by kernel_rfl) (aF (by kernel_rfl:_= [lR]) (aP (q:=ca lR) rfl Af fun _ _ _=>by kernel_rfl)) (by kernel_rfl) (fun x=>mm x.1 x.2.1)
  (fun x=>Eq.trans (by kernel_rfl:_=m9 x.1 x.2.1 (fun y=>ret (aE [.i .i64] y) fun v g=>some (v,g))) (F8 x.1 x.2.1 _)) fun _ _ h=>h
abbrev DK:List (Nat×bn):= [(214,Ag)]
theorem yx:aw Tryz.prog (aJ DK):=ae Kg <| aj _
def jQ {ρ:Type} (a0:List Int) (a1:Int) (k:Bool×Unit→Option ρ):Option ρ:=
 (mm a0 a1).bind fun y1=>k ((decide (y1.1≥0)),())
def iG (a0:List Int) (a1:Int):Option (Bool×Unit):=jQ a0 a1 some
theorem Ah {ρ:Type} (a0:List Int) (a1:Int) (k:Bool×Unit→Option ρ):jQ a0 a1 k=(iG a0 a1).bind k:=by
 simp only [iG,jQ,Option.bind_assoc,Option.bind_some]
abbrev uE:bn:=bA [.ty (.ls (.i .i64)), .ty (.i .i64)] [.b] fun x=>iG x.1 x.2.1
theorem DL:aD Tryz.prog 144 uE:=
 al (Λ:=aI []) (fn:=Tryz.f144) aM yx af (by kernel_rfl) (aF (by kernel_rfl:_= []) ah) (by kernel_rfl) (fun x=>iG x.1 x.2.1)
  (fun x=>Eq.trans (by kernel_rfl:_=jQ x.1 x.2.1 (fun y=>ret (aE [.b] y) fun v g=>some (v,g))) (Ah x.1 x.2.1 _)) fun _ _ h=>h
abbrev Mr:List (Nat×bn):= [(144,uE)]
theorem F9:aw Tryz.prog (aJ Mr):=ae DL <| aj _
def oG {ρ:Type} (a0:List Int) (a1:Int) (k:Bool×Unit→Option ρ):Option ρ:=
 (iG a0 a1).bind fun y1=>k (y1.1,())
def gA (a0:List Int) (a1:Int):Option (Bool×Unit):=oG a0 a1 some
theorem HA {ρ:Type} (a0:List Int) (a1:Int) (k:Bool×Unit→Option ρ):oG a0 a1 k=(gA a0 a1).bind k:=by
 simp only [gA,oG,Option.bind_assoc,Option.bind_some]
abbrev rX:bn:=bA [.ty (.ls (.i .i64)), .ty (.i .i64)] [.b] fun x=>gA x.1 x.2.1
theorem vN:aD Tryz.prog 66 rX:=
 al (Λ:=aI []) (fn:=Tryz.f66) aM F9 af (by kernel_rfl) (aF (by kernel_rfl:_= []) ah) (by kernel_rfl) (fun x=>gA x.1 x.2.1)
  (fun x=>Eq.trans (by kernel_rfl:_=oG x.1 x.2.1 (fun y=>ret (aE [.b] y) fun v g=>some (v,g))) (HA x.1 x.2.1 _)) fun _ _ h=>h
abbrev Od:List (Nat×bn):= []
theorem HB:aw Tryz.prog (aJ Od):=aj _
def rY {ρ:Type} (a0:Int) (k:Int×Unit→Option ρ):Option ρ:=
 br (decide (a0≥4294967296)) (none) (br (decide (a0≥65536)) (none) (br (decide (a0≥256)) (none) (ap (0≤(IntKind.wrap .u8 a0)) ((Wr[(IntKind.wrap .u8 a0).toNat]?).bind fun x1=>k ((IntKind.wrap .i64 (0+(IntKind.wrap .i64 (x1.toNat:Int)))),())) none)))
def rf (a0:Int):Option (Int×Unit):=rY a0 some
theorem Kh {ρ:Type} (a0:Int) (k:Int×Unit→Option ρ):rY a0 k=(rf a0).bind k:=by
 simp only [rf,rY,am,aq,Option.bind_none,Option.bind_assoc,Option.bind_some]
abbrev Ga:bn:=bA [.ty (.i .u64)] [.i .i64] fun x=>rf x.1
theorem Oe:aD Tryz.prog 298 Ga:=
 al (Λ:=aI []) (fn:=Tryz.f298) aM HB af (by kernel_rfl) (aF (by kernel_rfl:_= []) ah) (by kernel_rfl) (fun x=>rf x.1)
  (fun x=>Eq.trans (by kernel_rfl:_=rY x.1 (fun y=>ret (aE [.i .i64] y) fun v g=>some (v,g))) (Kh x.1 _)) fun _ _ h=>h
abbrev Sb:List (Nat×bn):= [(298,Ga)]
theorem Ms:aw Tryz.prog (aJ Sb):=ae Oe <| aj _
def wO {ρ:Type} (a0:Int) (k:Int×Unit→Option ρ):Option ρ:=
 (rf a0).bind fun y1=>k (y1.1,())
def tf (a0:Int):Option (Int×Unit):=wO a0 some
theorem Of {ρ:Type} (a0:Int) (k:Int×Unit→Option ρ):wO a0 k=(tf a0).bind k:=by
 simp only [tf,wO,Option.bind_assoc,Option.bind_some]
abbrev Mt:bn:=bA [.ty (.i .u64)] [.i .i64] fun x=>tf x.1
theorem Sc:aD Tryz.prog 268 Mt:=
 al (Λ:=aI []) (fn:=Tryz.f268) aM Ms af (by kernel_rfl) (aF (by kernel_rfl:_= []) ah) (by kernel_rfl) (fun x=>tf x.1)
  (fun x=>Eq.trans (by kernel_rfl:_=wO x.1 (fun y=>ret (aE [.i .i64] y) fun v g=>some (v,g))) (Of x.1 _)) fun _ _ h=>h
abbrev HC:List (Nat×bn):= []
theorem BQ:aw Tryz.prog (aJ HC):=aj _
def lT {ρ:Type} (a0:Int) (k:Bool×Unit→Option ρ):Option ρ:=
 k ((!(a0==a0)),())
def ji (a0:Int):Option (Bool×Unit):=lT a0 some
theorem DM {ρ:Type} (a0:Int) (k:Bool×Unit→Option ρ):lT a0 k=(ji a0).bind k:=by
 simp only [ji,lT,Option.bind_some]
abbrev xC:bn:=bA [.ty (.i .i64)] [.b] fun x=>ji x.1
theorem HD:aD Tryz.prog 314 xC:=
 al (Λ:=aI []) (fn:=Tryz.f314) aM BQ af (by kernel_rfl) (aF (by kernel_rfl:_= []) ah) (by kernel_rfl) (fun x=>ji x.1)
  (fun x=>Eq.trans (by kernel_rfl:_=lT x.1 (fun y=>ret (aE [.b] y) fun v g=>some (v,g))) (DM x.1 _)) fun _ _ h=>h
abbrev Ki:List (Nat×bn):= [(314,xC)]
theorem DN:aw Tryz.prog (aJ Ki):=ae HD <| aj _
def na {ρ:Type} (a0:Int) (a1:Int) (k:Bool×Unit→Option ρ):Option ρ:=
 (ji a0).bind fun y1=>br y1.1 ((ji a1).bind fun y2=>br (!y2.1) (k (true,())) (k ((decide (a0 < a1)),()))) (k ((decide (a0 < a1)),()))
def ko (a0:Int) (a1:Int):Option (Bool×Unit):=na a0 a1 some
theorem Gb {ρ:Type} (a0:Int) (a1:Int) (k:Bool×Unit→Option ρ):na a0 a1 k=(ko a0 a1).bind k:=by
 simp only [ko,na,am,Option.bind_assoc,Option.bind_some]
abbrev Ai:bn:=bA [.ty (.i .i64), .ty (.i .i64)] [.b] fun x=>ko x.1 x.2.1
theorem Kj:aD Tryz.prog 294 Ai:=
 al (Λ:=aI []) (fn:=Tryz.f294) aM DN af (by kernel_rfl) (aF (by kernel_rfl:_= []) ah) (by kernel_rfl) (fun x=>ko x.1 x.2.1)
  (fun x=>Eq.trans (by kernel_rfl:_=na x.1 x.2.1 (fun y=>ret (aE [.b] y) fun v g=>some (v,g))) (Gb x.1 x.2.1 _)) fun _ _ h=>h
abbrev fq:List (Nat×bn):= [(294,Ai)]
theorem ez:aw Tryz.prog (aJ fq):=ae Kj <| aj _
noncomputable abbrev b0:Code:=b9 (bT Tryz.f288) 0
noncomputable abbrev cx:Code:=b9 b0 0
abbrev aN:dN:=⟨[(0, .cl (.own 0 (.i .i64))),(1, .cl (.int .i64)),(2, .cl (.int .i64)),(6, .cl (.int .i64)),(7, .cl (.int .i64))],[],[.i .i64],1,49⟩
abbrev bC:List (X×dN):= [(.ext 2,⟨[(0, .cl (.own 0 (.i .i64))),(1, .cl (.int .i64)),(2, .cl (.int .i64)),(6, .cl (.int .i64))],[],[.i .i64],1,49⟩)]
def cu {ρ:Type} (v5:List Int) (v6:Int) (v7:Int) (v8:Int) (v9:Int) (fn: ((Unit×Int×Int×Int×Int×Unit)×(Unit)×((List Int)×Unit))→Option ρ) (fe: ((Unit×Int×Int×Int×Unit)×(Unit)×((List Int)×Unit))→Option ρ):Option ρ:=
 br (decide (v9 > v6)) (ap (0≤v9∧v9 < (v5.length:Int)) ((v5[v9.toNat]?).bind fun x10=>ap (0≤(IntKind.wrap .i64 (v9 - 1))∧(IntKind.wrap .i64 (v9 - 1)) < (v5.length:Int)) ((v5[(IntKind.wrap .i64 (v9 - 1)).toNat]?).bind fun x11=>(ko x10 x11).bind fun y12=>br y12.1 (ap (0≤(IntKind.wrap .i64 (v9 - 1))∧(IntKind.wrap .i64 (v9 - 1)) < (v5.length:Int)) ((v5[(IntKind.wrap .i64 (v9 - 1)).toNat]?).bind fun x13=>ap (0≤v9∧v9 < (v5.length:Int)) ((v5[v9.toNat]?).bind fun x14=>ap (0≤v9∧v9 < (v5.length:Int)) (ap (0≤(IntKind.wrap .i64 (v9 - 1))∧(IntKind.wrap .i64 (v9 - 1)) < (v5.length:Int)) ((v5[v9.toNat]?).bind fun _=>let z16:=v5.set v9.toNat x13; (z16[(IntKind.wrap .i64 (v9 - 1)).toNat]?).bind fun _=>fn (((),v6,v7,v8,(IntKind.wrap .i64 (v9 - 1)),()),(()),((z16.set ((IntKind.wrap .i64 (v9 - 1)).toNat) x14),()))) none) none) none) none) (fe (((),v6,v7,v8,()),(()),(v5,())))) none) none) (fe (((),v6,v7,v8,()),(()),(v5,())))
def bm (s:aN.D):Option (aN.D⊕bk.D bC):=cu s.2.2.1 s.1.2.1 s.1.2.2.1 s.1.2.2.2.1 s.1.2.2.2.2.1 (fun s=>some (.inl s)) (fun e=>some (.inr e))
def dl:aN.D→Option (bk.D bC):=jr bm
theorem nG {ρ:Type} (s:aN.D) (fn:aN.D→Option ρ) (fe:bk.D bC→Option ρ):cu s.2.2.1 s.1.2.1 s.1.2.2.1 s.1.2.2.2.1 s.1.2.2.2.2.1 fn fe=(bm s).bind (Sum.elim fn fe):=by
 simp only [bm,cu,am,aq,Option.bind_none,Option.bind_assoc,Option.bind_some,Sum.elim_inl,Sum.elim_inr]
abbrev iU:cL:=cX [] [0,1,2,6,7] aN bC dl
theorem nc (s:aN.D):ei Θ (aJ fq) (aI []) cx (aN.mk' s) (cO [0,1,2,6,7] [0,1,2,6] fun x S=>some (x,S))=(bm s).bind (Sum.elim (fun s'=>some (.nor,aN.mk' s')) fun e=>some (bk.e bC e)):=
 Eq.trans (by kernel_rfl:_=cu s.2.2.1 s.1.2.1 s.1.2.2.1 s.1.2.2.2.1 s.1.2.2.2.2.1 (fun s'=>some (.nor,aN.mk' s')) (fun e=>some (bk.e bC e))) (nG s _ _)
theorem ne:bS Tryz.prog cx iU:=aZ aM ez af (by kernel_rfl) (df (by kernel_rfl:_= []) ah) [] [0,1,2,6,7] [0,1,2,6] aN bC (by kernel_rfl) bm nc dl (fT bm) (aQ bm)
abbrev aO:dN:=⟨[(0, .cl (.own 0 (.i .i64))),(1, .cl (.int .i64)),(2, .cl (.int .i64)),(6, .cl (.int .i64))],[],[.i .i64],1,49⟩
abbrev bD:List (X×dN):= [(.ext 0,⟨[],[],[.i .i64],1,49⟩)]
def bN {ρ:Type} (v1:List Int) (v2:Int) (v3:Int) (v4:Int) (fn: ((Unit×Int×Int×Int×Unit)×(Unit)×((List Int)×Unit))→Option ρ) (fe: ((Unit)×(Unit)×((List Int)×Unit))→Option ρ):Option ρ:=
 br (decide (v4 < v3)) ((dl (((),v2,v3,v4,v4,()),(()),(v1,()))).bind fun e19=>fn (((),e19.1.2.1,e19.1.2.2.1,(IntKind.wrap .i64 (e19.1.2.2.2.1+1)),()),(()),(e19.2.2.1,()))) (fe ((()),(()),(v1,())))
def aW (s:aO.D):Option (aO.D⊕bk.D bD):=bN s.2.2.1 s.1.2.1 s.1.2.2.1 s.1.2.2.2.1 (fun s=>some (.inl s)) (fun e=>some (.inr e))
def dn:aO.D→Option (bk.D bD):=jr aW
theorem nH {ρ:Type} (s:aO.D) (fn:aO.D→Option ρ) (fe:bk.D bD→Option ρ):bN s.2.2.1 s.1.2.1 s.1.2.2.1 s.1.2.2.2.1 fn fe=(aW s).bind (Sum.elim fn fe):=by
 simp only [aW,bN,am,Option.bind_assoc,Option.bind_some,Sum.elim_inl,Sum.elim_inr]
abbrev iV:cL:=cX [] [0,1,2,6] aO bD dn
theorem nf (s:aO.D):ei Θ (aJ fq) (aI [(ca cx,iU)]) b0 (aO.mk' s) (cO [0,1,2,6] [] fun x S=>some (x,S))=(aW s).bind (Sum.elim (fun s'=>some (.nor,aO.mk' s')) fun e=>some (bk.e bD e)):=
 Eq.trans (by kernel_rfl:_=bN s.2.2.1 s.1.2.1 s.1.2.2.1 s.1.2.2.2.1 (fun s'=>some (.nor,aO.mk' s')) (fun e=>some (bk.e bD e))) (nH s _ _)
theorem nh:bS Tryz.prog b0 iV:=aZ aM ez af (by kernel_rfl) (df (by kernel_rfl:_= [cx]) (aP (q:=ca cx) rfl ne fun _ _ _=>by kernel_rfl)) [] [0,1,2,6] [] aO bD (by kernel_rfl) aW nf dn (fT aW) (aQ aW)
def cI {ρ:Type} (a0:List Int) (a1:Int) (a2:Int) (k: (List Int)×Unit→Option ρ):Option ρ:=
 (dn (((),a1,a2,(IntKind.wrap .i64 (a1+1)),()),(()),(a0,()))).bind fun e20=>k (e20.2.2.1,())
def bL (a0:List Int) (a1:Int) (a2:Int):Option ((List Int)×Unit):=cI a0 a1 a2 some
theorem oH {ρ:Type} (a0:List Int) (a1:Int) (a2:Int) (k: (List Int)×Unit→Option ρ):cI a0 a1 a2 k=(bL a0 a1 a2).bind k:=by
 simp only [bL,cI,Option.bind_assoc,Option.bind_some]
abbrev jR:bn:=G7 (.i .i64) [.ty (.i .i64), .ty (.i .i64)] [] fun l x=>bL l x.1 x.2.1
theorem pn:aD Tryz.prog (mB 288) jR:=
 rL (Λ:=aI [(ca b0,iV)]) (fn:=Tryz.f288) aM ez af (by kernel_rfl) (aF (by kernel_rfl:_= [b0]) (aP (q:=ca b0) rfl nh fun _ _ _=>by kernel_rfl)) (by kernel_rfl) (fun l x=>bL l x.1 x.2.1)
  (fun l x=>Eq.trans (by kernel_rfl:_=cI l x.1 x.2.1 (fun y=>G6 (.i .i64) [] y fun v g=>some (v,g))) (oH l x.1 x.2.1 _)) fun _ _ _ h=>h
abbrev ni:List (Nat×bn):= [(mB 288,jR)]
theorem k9:aw Tryz.prog (aJ ni):=ae pn <| aj _
noncomputable abbrev dx:Code:=b9 (bT Tryz.f267) 0
abbrev bf:dN:=⟨[(0, .cl (.own 0 (.i .i64))),(1, .cl (.int .i64)),(2, .cl (.int .i64)),(3, .cl (.int .i64)),(8, .cl (.bl)),(9, .cl (.bl))],[],[.i .i64],1,134⟩
abbrev ci:List (X×dN):= [(.ret,⟨[],[],[.i .i64],1,134⟩)]
def dp {ρ:Type} (v1:List Int) (v2:Int) (v3:Int) (v4:Int) (v5:Bool) (_v6:Bool) (fn: ((Unit×Int×Int×Int×Bool×Bool×Unit)×(Unit)×((List Int)×Unit))→Option ρ) (fe: ((Unit)×(Unit)×((List Int)×Unit))→Option ρ):Option ρ:=
 br (decide ((IntKind.wrap .i64 (v3 - v2))≤12)) ((bL v1 v2 v3).bind fun y7=>ap (y7.1.length=v1.length) (fe ((()),(()),(y7.1,()))) none) (br (v4==0) (none) (br (!v5) (none) (none)))
def bP (s:bf.D):Option (bf.D⊕bk.D ci):=dp s.2.2.1 s.1.2.1 s.1.2.2.1 s.1.2.2.2.1 s.1.2.2.2.2.1 s.1.2.2.2.2.2.1 (fun s=>some (.inl s)) (fun e=>some (.inr e))
def eJ:bf.D→Option (bk.D ci):=jr bP
theorem p8 {ρ:Type} (s:bf.D) (fn:bf.D→Option ρ) (fe:bk.D ci→Option ρ):dp s.2.2.1 s.1.2.1 s.1.2.2.1 s.1.2.2.2.1 s.1.2.2.2.2.1 s.1.2.2.2.2.2.1 fn fe=(bP s).bind (Sum.elim fn fe):=by
 simp only [bP,dp,am,aq,Option.bind_none,Option.bind_assoc,Option.bind_some,Sum.elim_inr]
abbrev lU:cL:=cX [] [0,1,2,3,8,9] bf ci eJ
theorem pS (s:bf.D):ei Θ (aJ ni) (aI []) dx (bf.mk' s) (cO [0,1,2,3,8,9] [] fun x S=>some (x,S))=(bP s).bind (Sum.elim (fun s'=>some (.nor,bf.mk' s')) fun e=>some (bk.e ci e)):=
 Eq.trans (by kernel_rfl:_=dp s.2.2.1 s.1.2.1 s.1.2.2.1 s.1.2.2.2.1 s.1.2.2.2.2.1 s.1.2.2.2.2.2.1 (fun s'=>some (.nor,bf.mk' s')) (fun e=>some (bk.e ci e))) (p8 s _ _)
theorem pT:bS Tryz.prog dx lU:=aZ aM k9 af (by kernel_rfl) (df (by kernel_rfl:_= []) ah) [] [0,1,2,3,8,9] [] bf ci (by kernel_rfl) bP pS eJ (fT bP) (aQ bP)
def dJ {ρ:Type} (a0:List Int) (a1:Int) (a2:Int) (a3:Int) (k: (List Int)×Unit→Option ρ):Option ρ:=
 (eJ (((),a1,a2,a3,true,true,()),(()),(a0,()))).bind fun e8=>k (e8.2.2.1,())
def cA (a0:List Int) (a1:Int) (a2:Int) (a3:Int):Option ((List Int)×Unit):=dJ a0 a1 a2 a3 some
theorem rg {ρ:Type} (a0:List Int) (a1:Int) (a2:Int) (a3:Int) (k: (List Int)×Unit→Option ρ):dJ a0 a1 a2 a3 k=(cA a0 a1 a2 a3).bind k:=by
 simp only [cA,dJ,Option.bind_assoc,Option.bind_some]
abbrev nj:bn:=G7 (.i .i64) [.ty (.i .i64), .ty (.i .i64), .ty (.i .i64)] [] fun l x=>cA l x.1 x.2.1 x.2.2.1
theorem sF:aD Tryz.prog (mB 267) nj:=
 rL (Λ:=aI [(ca dx,lU)]) (fn:=Tryz.f267) aM k9 af (by kernel_rfl) (aF (by kernel_rfl:_= [dx]) (aP (q:=ca dx) rfl pT fun _ _ _=>by kernel_rfl)) (by kernel_rfl) (fun l x=>cA l x.1 x.2.1 x.2.2.1)
  (fun l x=>Eq.trans (by kernel_rfl:_=dJ l x.1 x.2.1 x.2.2.1 (fun y=>G6 (.i .i64) [] y fun v g=>some (v,g))) (rg l x.1 x.2.1 x.2.2.1 _)) fun _ _ _ h=>h
abbrev Gc:List (Nat×bn):= [(268,Mt),(mB 267,nj)]
theorem Aj:aw Tryz.prog (aJ Gc):=ae Sc <| ae sF <| aj _
def kB {ρ:Type} (a0:List Int) (k: (List Int)×Unit→Option ρ):Option ρ:=
 (tf (IntKind.wrap .u64 (a0.length:Int))).bind fun y1=>(cA a0 0 (a0.length:Int) y1.1).bind fun y2=>ap (y2.1.length=a0.length) (k (y2.1,())) none
def ic (a0:List Int):Option ((List Int)×Unit):=kB a0 some
theorem BR {ρ:Type} (a0:List Int) (k: (List Int)×Unit→Option ρ):kB a0 k=(ic a0).bind k:=by
 simp only [ic,kB,aq,Option.bind_none,Option.bind_assoc,Option.bind_some]
abbrev vO:bn:=G7 (.i .i64) [] [] fun l _=>ic l
theorem Gd:aD Tryz.prog (mB 216) vO:=
 rL (Λ:=aI []) (fn:=Tryz.f216) aM Aj af (by kernel_rfl) (aF (by kernel_rfl:_= []) ah) (by kernel_rfl) (fun l _=>ic l)
  (fun l _=>Eq.trans (by kernel_rfl:_=kB l (fun y=>G6 (.i .i64) [] y fun v g=>some (v,g))) (BR l _)) fun _ _ _ h=>h
abbrev rZ:List (Nat×bn):= []
theorem pU:aw Tryz.prog (aJ rZ):=aj _
noncomputable abbrev eT:Code:=b9 (bT Tryz.f217) 0
noncomputable abbrev qi:Code:=b9 eT 0
abbrev cb:dN:=⟨[(0, .cl (.own 0 (.i .i64))),(3, .cl (.int .i64))],[],[.i .i64],0,61⟩
abbrev dK:List (X×dN):= [(.ext 0,⟨[(0, .cl (.own 0 (.i .i64))),(2, .cl (.dead))],[],[.i .i64],0,61⟩)]
def ev {ρ:Type} (v1:List Int) (v2:Int) (fn: ((Unit×Int×Unit)×(Unit)×((List Int)×Unit))→Option ρ) (fe: ((Unit×Unit×Unit)×(Unit)×((List Int)×Unit))→Option ρ):Option ρ:=
 br (decide (v2 < (v1.length:Int))) (ap (0≤v2∧v2 < (v1.length:Int)) ((v1[v2.toNat]?).bind fun x3=>ap (0≤(IntKind.wrap .i64 (v2 - 1))∧(IntKind.wrap .i64 (v2 - 1)) < (v1.length:Int)) ((v1[(IntKind.wrap .i64 (v2 - 1)).toNat]?).bind fun x4=>br (x3==x4) (ap (0≤v2∧v2≤(v1.length:Int)∧(v1.length:Int)≤((v1.length:Nat):Int)) (none) none) (fn (((),(IntKind.wrap .i64 (v2+1)),()),(()),(v1,())))) none) none) (fe (((),(),()),(()),(v1,())))
def cr (s:cb.D):Option (cb.D⊕bk.D dK):=ev s.2.2.1 s.1.2.1 (fun s=>some (.inl s)) (fun e=>some (.inr e))
def jw:cb.D→Option (bk.D dK):=jr cr
theorem uY {ρ:Type} (s:cb.D) (fn:cb.D→Option ρ) (fe:bk.D dK→Option ρ):ev s.2.2.1 s.1.2.1 fn fe=(cr s).bind (Sum.elim fn fe):=by
 simp only [cr,ev,am,aq,Option.bind_none,Option.bind_assoc,Option.bind_some,Sum.elim_inl,Sum.elim_inr]
abbrev qj:cL:=cX [] [0,3] cb dK jw
theorem t5 (s:cb.D):ei Θ (aJ rZ) (aI []) eT (cb.mk' s) (cO [0,3] [0,2] fun x S=>some (x,S))=(cr s).bind (Sum.elim (fun s'=>some (.nor,cb.mk' s')) fun e=>some (bk.e dK e)):=
 Eq.trans (by kernel_rfl:_=ev s.2.2.1 s.1.2.1 (fun s'=>some (.nor,cb.mk' s')) (fun e=>some (bk.e dK e))) (uY s _ _)
theorem t6:bS Tryz.prog eT qj:=aZ aM pU af (by kernel_rfl) (df (by kernel_rfl:_= [qi]) (RU (q:=ca qi) rfl fun _ _ _=>by kernel_rfl)) [] [0,3] [0,2] cb dK (by kernel_rfl) cr t5 jw (fT cr) (aQ cr)
def ig {ρ:Type} (a0:List Int) (k: (List Int)×Unit→Option ρ):Option ρ:=
 br (decide ((a0.length:Int) < 2)) (k (a0,())) ((jw (((),1,()),(()),(a0,()))).bind fun e5=>k (e5.2.2.1,()))
def eK (a0:List Int):Option ((List Int)×Unit):=ig a0 some
theorem wY {ρ:Type} (a0:List Int) (k: (List Int)×Unit→Option ρ):ig a0 k=(eK a0).bind k:=by
 simp only [eK,ig,am,Option.bind_assoc,Option.bind_some]
abbrev sa:bn:=TF (.i .i64) [] [.ls (.i .i64)] fun l _=>eK l
theorem Ak:aD Tryz.prog (E6 217) sa:=
 Pa (Λ:=aI [(ca eT,qj)]) (fn:=Tryz.f217) aM pU af (by kernel_rfl) (aF (by kernel_rfl:_= [eT]) (aP (q:=ca eT) rfl t6 fun _ _ _=>by kernel_rfl)) (fun l _=>eK l)
  (fun l _=>Eq.trans (by kernel_rfl:_=ig l (fun y=>ret (aE [.ls (.i .i64)] y) fun v g=>some (v,g))) (wY l _)) fun _ _ _ h=>h
abbrev Mu:List (Nat×bn):= [(164,t4),(mB 216,vO),(E6 217,sa)]
theorem Ge:aw Tryz.prog (aJ Mu):=ae zU <| ae Gd <| ae Ak <| aj _
def oI {ρ:Type} (a0:List Int) (k: (List Int)×Unit→Option ρ):Option ρ:=
 (km a0).bind fun y1=>(ic y1.1).bind fun y2=>ap (y2.1.length=y1.1.length) ((eK y2.1).bind fun y3=>k (y3.1,())) none
def lV (a0:List Int):Option ((List Int)×Unit):=oI a0 some
theorem HE {ρ:Type} (a0:List Int) (k: (List Int)×Unit→Option ρ):oI a0 k=(lV a0).bind k:=by
 simp only [lV,oI,aq,Option.bind_none,Option.bind_assoc,Option.bind_some]
abbrev CX:bn:=bA [.ty (.ls (.i .i64))] [.ls (.i .i64)] fun x=>lV x.1
theorem Mv:aD Tryz.prog 150 CX:=
 al (Λ:=aI []) (fn:=Tryz.f150) aM Ge af (by kernel_rfl) (aF (by kernel_rfl:_= []) ah) (by kernel_rfl) (fun x=>lV x.1)
  (fun x=>Eq.trans (by kernel_rfl:_=oI x.1 (fun y=>ret (aE [.ls (.i .i64)] y) fun v g=>some (v,g))) (HE x.1 _)) fun _ _ h=>h
abbrev wZ:List (Nat×bn):= [(66,rX)]
theorem t7:aw Tryz.prog (aJ wZ):=ae vN <| aj _
def fQ {ρ:Type} (a0:Int) (a1:List Int) (k:Bool×Unit→Option ρ):Option ρ:=
 (gA a1 a0).bind fun y1=>k (y1.1,())
def dg (a0:Int) (a1:List Int):Option (Bool×Unit):=fQ a0 a1 some
theorem uZ {ρ:Type} (a0:Int) (a1:List Int) (k:Bool×Unit→Option ρ):fQ a0 a1 k=(dg a0 a1).bind k:=by
 simp only [dg,fQ,Option.bind_assoc,Option.bind_some]
abbrev mF:bn:=bA [.ty (.i .i64), .pr (.ls (.i .i64))] [.b] fun x=>dg x.1 x.2.1
theorem qk:aD Tryz.prog 151 mF:=
 al (Λ:=aI []) (fn:=Tryz.f151) aM t7 af (by kernel_rfl) (aF (by kernel_rfl:_= []) ah) (by kernel_rfl) (fun x=>dg x.1 x.2.1)
  (fun x=>Eq.trans (by kernel_rfl:_=fQ x.1 x.2.1 (fun y=>ret (aE [.b] y) fun v g=>some (v,g))) (uZ x.1 x.2.1 _)) fun _ _ h=>h
abbrev gC:List (Nat×bn):= [(151,mF)]
theorem fR:aw Tryz.prog (aJ gC):=ae qk <| aj _
noncomputable abbrev b6:Code:=b9 (bT Tryz.f143) 0
abbrev aA:dN:=⟨[(0, .cl (.ro (.i .i64))),(1, .fn 151 [.pro (.ls (.i .i64))]),(7, .cl (.int .i64)),(8, .cl (.int .i64))],[],[],0,19⟩
abbrev bh:List (X×dN):= [(.ret,⟨[(4, .cl (.int .i64))],[],[],0,19⟩),(.ext 0,⟨[(4, .cl (.dead))],[],[],0,19⟩)]
def bu {ρ:Type} (v1:List Int) (v2:List Int) (v3:Int) (v4:Int) (fn: (((List Int)×((List Int)×Unit)×Int×Int×Unit)×(Unit)×(Unit))→Option ρ) (fe: ((Int×Unit)×(Unit)×(Unit))⊕((Unit×Unit)×(Unit)×(Unit))→Option ρ):Option ρ:=
 br (decide (v4 < v3)) (ap (0≤v4) ((v1[v4.toNat]?).bind fun x5=>(dg x5 v2).bind fun y6=>br y6.1 (fe (.inl ((v4,()),(()),(())))) (fn ((v1,(v2,()),v3,(IntKind.wrap .i64 (v4+1)),()),(()),(())))) none) (fe (.inr (((),()),(()),(()))))
def aG (s:aA.D):Option (aA.D⊕bk.D bh):=bu s.1.1 s.1.2.1.1 s.1.2.2.1 s.1.2.2.2.1 (fun s=>some (.inl s)) (fun e=>some (.inr e))
def b7:aA.D→Option (bk.D bh):=jr aG
theorem ld {ρ:Type} (s:aA.D) (fn:aA.D→Option ρ) (fe:bk.D bh→Option ρ):bu s.1.1 s.1.2.1.1 s.1.2.2.1 s.1.2.2.2.1 fn fe=(aG s).bind (Sum.elim fn fe):=by
 simp only [aG,bu,am,aq,Option.bind_none,Option.bind_assoc,Option.bind_some,Sum.elim_inl,Sum.elim_inr]
abbrev fX:cL:=cX [] [0,1,7,8] aA bh b7
theorem kU (s:aA.D):ei Θ (aJ gC) (aI []) b6 (aA.mk' s) (cO [0,1,7,8] [4] fun x S=>some (x,S))=(aG s).bind (Sum.elim (fun s'=>some (.nor,aA.mk' s')) fun e=>some (bk.e bh e)):=
 Eq.trans (by kernel_rfl:_=bu s.1.1 s.1.2.1.1 s.1.2.2.1 s.1.2.2.2.1 (fun s'=>some (.nor,aA.mk' s')) (fun e=>some (bk.e bh e))) (ld s _ _)
theorem kV:bS Tryz.prog b6 fX:=aZ aM fR af (by kernel_rfl) (df (by kernel_rfl:_= []) ah) [] [0,1,7,8] [4] aA bh (by kernel_rfl) aG kU b7 (fT aG) (aQ aG)
def cc {ρ:Type} (a0:List Int) (a1_0:List Int) (k:Int×Unit→Option ρ):Option ρ:=
 (b7 ((a0,(a1_0,()),(a0.length:Int),0,()),(()),(()))).bind fun e7=>Sum.elim (fun e7_=>k (e7_.1.1,())) (fun e7_=>k ((-1),())) e7
def bG (a0:List Int) (a1_0:List Int):Option (Int×Unit):=cc a0 a1_0 some
theorem mn {ρ:Type} (a0:List Int) (a1_0:List Int) (k:Int×Unit→Option ρ):cc a0 a1_0 k=(bG a0 a1_0).bind k:=by
 simp only [bG,cc,bW,Option.bind_assoc,Option.bind_some]
abbrev gD:bn:=bA [.ty (.ls (.i .i64)), .fn 151 [.ls (.i .i64)]] [.i .i64] fun x=>bG x.1 x.2.1.1
theorem nk:aD Tryz.prog 143 gD:=
 al (Λ:=aI [(ca b6,fX)]) (fn:=Tryz.f143) aM fR af (by kernel_rfl) (aF (by kernel_rfl:_= [b6]) (aP (q:=ca b6) rfl kV fun _ _ _=>by kernel_rfl)) (by kernel_rfl) (fun x=>bG x.1 x.2.1.1)
  (fun x=>Eq.trans (by kernel_rfl:_=cc x.1 x.2.1.1 (fun y=>ret (aE [.i .i64] y) fun v g=>some (v,g))) (mn x.1 x.2.1.1 _)) fun _ _ h=>h
abbrev fA:List (Nat×bn):= [(143,gD),(151,mF)]
theorem eL:aw Tryz.prog (aJ fA):=ae nk <| ae qk <| aj _
noncomputable abbrev bE:Code:=b9 (bT Tryz.f74) 0
abbrev au:dN:=⟨[(0, .cl (.own 0 (.i .i64))),(1, .fn 151 [.pro (.ls (.i .i64))]),(5, .cl (.int .i64)),(6, .cl (.int .i64))],[],[.i .i64],0,42⟩
abbrev aY:List (X×dN):= [(.ext 0,⟨[(0, .cl (.own 0 (.i .i64))),(5, .cl (.int .i64))],[],[.i .i64],0,42⟩)]
def bi {ρ:Type} (v2:List Int) (v3:List Int) (v4:Int) (v5:Int) (fn: ((Unit×((List Int)×Unit)×Int×Int×Unit)×(Unit)×((List Int)×Unit))→Option ρ) (fe: ((Unit×Int×Unit)×(Unit)×((List Int)×Unit))→Option ρ):Option ρ:=
 br (decide (v5 < (v2.length:Int))) (ap (0≤v5∧v5 < (v2.length:Int)) ((v2[v5.toNat]?).bind fun x6=>(dg x6 v3).bind fun y7=>br (!y7.1) (ap (0≤v4∧v4 < (v2.length:Int)) ((v2[v4.toNat]?).bind fun _=>fn (((),(v3,()),(IntKind.wrap .i64 (v4+1)),(IntKind.wrap .i64 (v5+1)),()),(()),((v2.set v4.toNat x6),()))) none) (fn (((),(v3,()),v4,(IntKind.wrap .i64 (v5+1)),()),(()),(v2,())))) none) (fe (((),v4,()),(()),(v2,())))
def ay (s:au.D):Option (au.D⊕bk.D aY):=bi s.2.2.1 s.1.2.1.1 s.1.2.2.1 s.1.2.2.2.1 (fun s=>some (.inl s)) (fun e=>some (.inr e))
def cg:au.D→Option (bk.D aY):=jr ay
theorem j7 {ρ:Type} (s:au.D) (fn:au.D→Option ρ) (fe:bk.D aY→Option ρ):bi s.2.2.1 s.1.2.1.1 s.1.2.2.1 s.1.2.2.2.1 fn fe=(ay s).bind (Sum.elim fn fe):=by
 simp only [ay,bi,am,aq,Option.bind_none,Option.bind_assoc,Option.bind_some,Sum.elim_inl,Sum.elim_inr]
abbrev eY:cL:=cX [] [0,1,5,6] au aY cg
theorem jS (s:au.D):ei Θ (aJ fA) (aI []) bE (au.mk' s) (cO [0,1,5,6] [0,5] fun x S=>some (x,S))=(ay s).bind (Sum.elim (fun s'=>some (.nor,au.mk' s')) fun e=>some (bk.e aY e)):=
 Eq.trans (by kernel_rfl:_=bi s.2.2.1 s.1.2.1.1 s.1.2.2.1 s.1.2.2.2.1 (fun s'=>some (.nor,au.mk' s')) (fun e=>some (bk.e aY e))) (j7 s _ _)
theorem jT:bS Tryz.prog bE eY:=aZ aM eL af (by kernel_rfl) (df (by kernel_rfl:_= []) ah) [] [0,1,5,6] [0,5] au aY (by kernel_rfl) ay jS cg (fT ay) (aQ ay)
def bK {ρ:Type} (a0:List Int) (a1_0:List Int) (k: (List Int)×Unit→Option ρ):Option ρ:=
 (bG a0 a1_0).bind fun y1=>br (y1.1==(-1)) (k (a0,())) ((cg (((),(a1_0,()),y1.1,(IntKind.wrap .i64 (y1.1+1)),()),(()),(a0,()))).bind fun e10=>ap (0≤e10.1.2.1∧e10.1.2.1≤(e10.2.2.1.length:Int)∧(e10.2.2.1.length:Int)≤((e10.2.2.1.length:Nat):Int)) (ap ((0+e10.1.2.1.toNat)+((e10.2.2.1.length:Int).toNat - e10.1.2.1.toNat)≤e10.2.2.1.length) (ap (0≤(0:Int)∧(0:Int)≤e10.1.2.1∧e10.1.2.1≤((e10.2.2.1.length:Nat):Int)) (ap ((0+(0:Int).toNat)=0∧(e10.1.2.1.toNat - (0:Int).toNat)≤(e10.2.2.1.take (0+e10.1.2.1.toNat)++List.replicate ((e10.2.2.1.length:Int).toNat - e10.1.2.1.toNat) (0:Int)++e10.2.2.1.drop ((0+e10.1.2.1.toNat)+((e10.2.2.1.length:Int).toNat - e10.1.2.1.toNat))).length) (k (((e10.2.2.1.take (0+e10.1.2.1.toNat)++List.replicate ((e10.2.2.1.length:Int).toNat - e10.1.2.1.toNat) (0:Int)++e10.2.2.1.drop ((0+e10.1.2.1.toNat)+((e10.2.2.1.length:Int).toNat - e10.1.2.1.toNat))).take (e10.1.2.1.toNat - (0:Int).toNat)),())) none) none) none) none)
def ba (a0:List Int) (a1_0:List Int):Option ((List Int)×Unit):=bK a0 a1_0 some
theorem kC {ρ:Type} (a0:List Int) (a1_0:List Int) (k: (List Int)×Unit→Option ρ):bK a0 a1_0 k=(ba a0 a1_0).bind k:=by
 simp only [ba,bK,am,aq,Option.bind_none,Option.bind_assoc,Option.bind_some]
abbrev fB:bn:=TF (.i .i64) [.fn 151 [.ls (.i .i64)]] [.ls (.i .i64)] fun l x=>ba l x.1.1
theorem lf:aD Tryz.prog (E6 74) fB:=
 Pa (Λ:=aI [(ca bE,eY)]) (fn:=Tryz.f74) aM eL af (by kernel_rfl) (aF (by kernel_rfl:_= [bE]) (aP (q:=ca bE) rfl jT fun _ _ _=>by kernel_rfl)) (fun l x=>ba l x.1.1)
  (fun l x=>Eq.trans (by kernel_rfl:_=bK l x.1.1 (fun y=>ret (aE [.ls (.i .i64)] y) fun v g=>some (v,g))) (kC l x.1.1 _)) fun _ _ _ h=>h
abbrev BS:List (Nat×bn):= [(150,CX),(E6 74,fB)]
theorem w3:aw Tryz.prog (aJ BS):=ae Mv <| ae lf <| aj _
def iW {ρ:Type} (a0:List Int) (a1:List Int) (k: (List Int)×Unit→Option ρ):Option ρ:=
 (lV a0).bind fun y1=>(ba y1.1 a1).bind fun y2=>k (y2.1,())
def ew (a0:List Int) (a1:List Int):Option ((List Int)×Unit):=iW a0 a1 some
theorem yy {ρ:Type} (a0:List Int) (a1:List Int) (k: (List Int)×Unit→Option ρ):iW a0 a1 k=(ew a0 a1).bind k:=by
 simp only [ew,iW,Option.bind_assoc,Option.bind_some]
abbrev tg:bn:=bA [.ty (.ls (.i .i64)), .ty (.ls (.i .i64))] [.ls (.i .i64)] fun x=>ew x.1 x.2.1
theorem BT:aD Tryz.prog 73 tg:=
 al (Λ:=aI []) (fn:=Tryz.f73) aM w3 af (by kernel_rfl) (aF (by kernel_rfl:_= []) ah) (by kernel_rfl) (fun x=>ew x.1 x.2.1)
  (fun x=>Eq.trans (by kernel_rfl:_=iW x.1 x.2.1 (fun y=>ret (aE [.ls (.i .i64)] y) fun v g=>some (v,g))) (yy x.1 x.2.1 _)) fun _ _ h=>h
abbrev DP:List (Nat×bn):= [(73,tg)]
theorem yz:aw Tryz.prog (aJ DP):=ae BT <| aj _
def jU {ρ:Type} (a0:List Int) (a1:List Int) (k: (List Int)×Unit→Option ρ):Option ρ:=
 (ew a0 a1).bind fun y1=>(ew a0 y1.1).bind fun y2=>k (y2.1,())
def ga (a0:List Int) (a1:List Int):Option ((List Int)×Unit):=jU a0 a1 some
theorem Al {ρ:Type} (a0:List Int) (a1:List Int) (k: (List Int)×Unit→Option ρ):jU a0 a1 k=(ga a0 a1).bind k:=by
 simp only [ga,jU,Option.bind_assoc,Option.bind_some]
abbrev uF:bn:=bA [.ty (.ls (.i .i64)), .ty (.ls (.i .i64))] [.ls (.i .i64)] fun x=>ga x.1 x.2.1
theorem DQ:aD Tryz.prog 228 uF:=
 al (Λ:=aI []) (fn:=Tryz.f228) aM yz af (by kernel_rfl) (aF (by kernel_rfl:_= []) ah) (by kernel_rfl) (fun x=>ga x.1 x.2.1)
  (fun x=>Eq.trans (by kernel_rfl:_=jU x.1 x.2.1 (fun y=>ret (aE [.ls (.i .i64)] y) fun v g=>some (v,g))) (Al x.1 x.2.1 _)) fun _ _ h=>h
abbrev DR:List (Nat×bn):= [(135,iQ),(227,Ab),(66,rX),(228,uF)]
theorem yA:aw Tryz.prog (aJ DR):=ae jP <| ae Kf <| ae vN <| ae DQ <| aj _
def jV {ρ:Type} (a0:ai) (k:Bool×Unit→Option ρ):Option ρ:=
 (ce a0.epoch 1 20).bind fun y1=>br y1.1 ((gq a0.replicas).bind fun y2=>br y2.1 ((gq a0.witnesses).bind fun y3=>br y3.1 ((gA a0.replicas a0.primary).bind fun y4=>br y4.1 ((ga a0.replicas a0.witnesses).bind fun y5=>k (((y5.1.length:Int)==0),())) (k (false,()))) (k (false,()))) (k (false,()))) (k (false,()))
def eZ (a0:ai):Option (Bool×Unit):=jV a0 some
theorem Am {ρ:Type} (a0:ai) (k:Bool×Unit→Option ρ):jV a0 k=(eZ a0).bind k:=by
 simp only [eZ,jV,am,Option.bind_assoc,Option.bind_some]
abbrev p9:bn:=bA [.ty (.st .config)] [.b] fun x=>eZ x.1
theorem uG:aD Tryz.prog 176 p9:=
 al (Λ:=aI []) (fn:=Tryz.f176) aM yA af (by kernel_rfl) (aF (by kernel_rfl:_= []) ah) (by kernel_rfl) (fun x=>eZ x.1)
  (fun x=>Eq.trans (by kernel_rfl:_=jV x.1 (fun y=>ret (aE [.b] y) fun v g=>some (v,g))) (Am x.1 _)) fun _ _ h=>h
abbrev xD:List (Nat×bn):= [(176,p9),(135,iQ)]
theorem th:aw Tryz.prog (aJ xD):=ae uG <| ae jP <| aj _
noncomputable abbrev kD:Code:=b9 (bT Tryz.f137) 0
abbrev c6:dN:=⟨[(1, .cl (.ptr 0 0)),(6, .cl (.ro (.st .config))),(7, .cl (.int .i64)),(8, .cl (.int .i64))],[[.ro (.st .config), .int .i64]],[],0,30⟩
abbrev gb:List (X×dN):= [(.ret,⟨[(1, .cl (.ptr 0 0)),(2, .cl (.bl))],[[.ro (.st .config), .int .i64]],[],0,30⟩),(.ext 0,⟨[(1, .cl (.ptr 0 0)),(2, .cl (.dead))],[[.ro (.st .config), .int .i64]],[],0,30⟩)]
def gQ {ρ:Type} (v1:List ai) (v2:Int) (v3:Int) (v4:List ai) (v5:Int) (fn: ((Unit×(List ai)×Int×Int×Unit)×(((List ai)×Int×Unit)×Unit)×(Unit))→Option ρ) (fe: ((Unit×Bool×Unit)×(((List ai)×Int×Unit)×Unit)×(Unit))⊕((Unit×Unit×Unit)×(((List ai)×Int×Unit)×Unit)×(Unit))→Option ρ):Option ρ:=
 br (decide (v3 < v2)) (ap (0≤v3) ((v1[v3.toNat]?).bind fun x6=>(eZ x6).bind fun y7=>br (!y7.1) (fe (.inl (((),false,()),((v4,v5,()),()),(())))) (br (!(x6.epoch==(IntKind.wrap .i64 (v3+1)))) (fe (.inl (((),false,()),((v4,v5,()),()),(())))) (fn (((),v1,v2,(IntKind.wrap .i64 (v3+1)),()),((v4,v5,()),()),(()))))) none) (fe (.inr (((),(),()),((v4,v5,()),()),(()))))
def dD (s:c6.D):Option (c6.D⊕bk.D gb):=gQ s.1.2.1 s.1.2.2.1 s.1.2.2.2.1 s.2.1.1.1 s.2.1.1.2.1 (fun s=>some (.inl s)) (fun e=>some (.inr e))
def kE:c6.D→Option (bk.D gb):=jr dD
theorem An {ρ:Type} (s:c6.D) (fn:c6.D→Option ρ) (fe:bk.D gb→Option ρ):gQ s.1.2.1 s.1.2.2.1 s.1.2.2.2.1 s.2.1.1.1 s.2.1.1.2.1 fn fe=(dD s).bind (Sum.elim fn fe):=by
 simp only [dD,gQ,am,aq,Option.bind_none,Option.bind_assoc,Option.bind_some,Sum.elim_inl,Sum.elim_inr]
abbrev uH:cL:=cX [] [1,6,7,8] c6 gb kE
theorem yB (s:c6.D):ei Θ (aJ xD) (aI []) kD (c6.mk' s) (cO [1,6,7,8] [1,2] fun x S=>some (x,S))=(dD s).bind (Sum.elim (fun s'=>some (.nor,c6.mk' s')) fun e=>some (bk.e gb e)):=
 Eq.trans (by kernel_rfl:_=gQ s.1.2.1 s.1.2.2.1 s.1.2.2.2.1 s.2.1.1.1 s.2.1.1.2.1 (fun s'=>some (.nor,c6.mk' s')) (fun e=>some (bk.e gb e))) (An s _ _)
theorem yC:bS Tryz.prog kD uH:=aZ aM th af (by kernel_rfl) (df (by kernel_rfl:_= []) ah) [] [1,6,7,8] [1,2] c6 gb (by kernel_rfl) dD yB kE (fT dD) (aQ dD)
def lW {ρ:Type} (a0:an) (k:Bool×Unit→Option ρ):Option ρ:=
 (kE (((),a0.configs,(a0.configs.length:Int),0,()),((a0.configs,a0.activated,()),()),(()))).bind fun e8=>Sum.elim (fun e8_=>k (e8_.1.2.1,())) (fun e8_=>(ce e8_.2.1.1.2.1 0 (e8_.2.1.1.1.length:Int)).bind fun y9=>k (y9.1,())) e8
def gE (a0:an):Option (Bool×Unit):=lW a0 some
theorem DS {ρ:Type} (a0:an) (k:Bool×Unit→Option ρ):lW a0 k=(gE a0).bind k:=by
 simp only [gE,lW,bW,Option.bind_assoc,Option.bind_some]
abbrev sG:bn:=bA [.ty (.st .masterLog)] [.b] fun x=>gE x.1
theorem xE:aD Tryz.prog 137 sG:=
 al (Λ:=aI [(ca kD,uH)]) (fn:=Tryz.f137) aM th af (by kernel_rfl) (aF (by kernel_rfl:_= [kD]) (aP (q:=ca kD) rfl yC fun _ _ _=>by kernel_rfl)) (by kernel_rfl) (fun x=>gE x.1)
  (fun x=>Eq.trans (by kernel_rfl:_=lW x.1 (fun y=>ret (aE [.b] y) fun v g=>some (v,g))) (DS x.1 _)) fun _ _ h=>h
abbrev Qj:List (Nat×bn):= [(135,iQ)]
theorem Kk:aw Tryz.prog (aJ Qj):=ae jP <| aj _
def rh {ρ:Type} (a0:jC) (k:Bool×Unit→Option ρ):Option ρ:=
 br ((a0.epoch==0)&&((a0.holder==0)&&((a0.ends==0)&&true))) (k (true,())) ((ce a0.epoch 1 20).bind fun y1=>br y1.1 ((ce a0.holder 0 4).bind fun y2=>br y2.1 ((ce a0.ends 1 1049).bind fun y3=>k (y3.1,())) (k (false,()))) (k (false,())))
def po (a0:jC):Option (Bool×Unit):=rh a0 some
theorem Mw {ρ:Type} (a0:jC) (k:Bool×Unit→Option ρ):rh a0 k=(po a0).bind k:=by
 simp only [po,rh,am,Option.bind_assoc,Option.bind_some]
abbrev IM:bn:=bA [.ty (.st .lease)] [.b] fun x=>po x.1
theorem Qk:aD Tryz.prog 138 IM:=
 al (Λ:=aI []) (fn:=Tryz.f138) aM Kk af (by kernel_rfl) (aF (by kernel_rfl:_= []) ah) (by kernel_rfl) (fun x=>po x.1)
  (fun x=>Eq.trans (by kernel_rfl:_=rh x.1 (fun y=>ret (aE [.b] y) fun v g=>some (v,g))) (Mw x.1 _)) fun _ _ h=>h
abbrev Gf:List (Nat×bn):= [(135,iQ)]
theorem Ao:aw Tryz.prog (aJ Gf):=ae jP <| aj _
def kF {ρ:Type} (a0:aU) (k:Bool×Unit→Option ρ):Option ρ:=
 (ce a0.rack 0 9).bind fun y1=>br (!y1.1) (k (true,())) ((ce a0.capacity 0 9).bind fun y2=>br (!y2.1) (k (true,())) ((ce a0.load 0 99).bind fun y3=>k ((!y3.1),())))
def jW (a0:aU):Option (Bool×Unit):=kF a0 some
theorem BU {ρ:Type} (a0:aU) (k:Bool×Unit→Option ρ):kF a0 k=(jW a0).bind k:=by
 simp only [jW,kF,am,Option.bind_assoc,Option.bind_some]
abbrev vP:bn:=bA [.ty (.st .place)] [.b] fun x=>jW x.1
theorem Gg:aD Tryz.prog 212 vP:=
 al (Λ:=aI []) (fn:=Tryz.f212) aM Ao af (by kernel_rfl) (aF (by kernel_rfl:_= []) ah) (by kernel_rfl) (fun x=>jW x.1)
  (fun x=>Eq.trans (by kernel_rfl:_=kF x.1 (fun y=>ret (aE [.b] y) fun v g=>some (v,g))) (BU x.1 _)) fun _ _ h=>h
abbrev iX:List (Nat×bn):= [(212,vP)]
theorem gF:aw Tryz.prog (aJ iX):=ae Gg <| aj _
noncomputable abbrev cj:Code:=b9 (bT Tryz.f266) 0
abbrev aH:dN:=⟨[(0, .cl (.ro (.st .place))),(1, .cl (.fc 212)),(7, .cl (.int .i64)),(8, .cl (.int .i64))],[],[],0,19⟩
abbrev bq:List (X×dN):= [(.ret,⟨[(4, .cl (.int .i64))],[],[],0,19⟩),(.ext 0,⟨[(4, .cl (.dead))],[],[],0,19⟩)]
def bH {ρ:Type} (v1:List aU) (v2:Int) (v3:Int) (fn: (((List aU)×Unit×Int×Int×Unit)×(Unit)×(Unit))→Option ρ) (fe: ((Int×Unit)×(Unit)×(Unit))⊕((Unit×Unit)×(Unit)×(Unit))→Option ρ):Option ρ:=
 br (decide (v3 < v2)) (ap (0≤v3) ((v1[v3.toNat]?).bind fun x4=>(jW x4).bind fun y5=>br y5.1 (fe (.inl ((v3,()),(()),(())))) (fn ((v1,(),v2,(IntKind.wrap .i64 (v3+1)),()),(()),(())))) none) (fe (.inr (((),()),(()),(()))))
def aR (s:aH.D):Option (aH.D⊕bk.D bq):=bH s.1.1 s.1.2.2.1 s.1.2.2.2.1 (fun s=>some (.inl s)) (fun e=>some (.inr e))
def ck:aH.D→Option (bk.D bq):=jr aR
theorem mG {ρ:Type} (s:aH.D) (fn:aH.D→Option ρ) (fe:bk.D bq→Option ρ):bH s.1.1 s.1.2.2.1 s.1.2.2.2.1 fn fe=(aR s).bind (Sum.elim fn fe):=by
 simp only [aR,bH,am,aq,Option.bind_none,Option.bind_assoc,Option.bind_some,Sum.elim_inl,Sum.elim_inr]
abbrev ii:cL:=cX [] [0,1,7,8] aH bq ck
theorem mo (s:aH.D):ei Θ (aJ iX) (aI []) cj (aH.mk' s) (cO [0,1,7,8] [4] fun x S=>some (x,S))=(aR s).bind (Sum.elim (fun s'=>some (.nor,aH.mk' s')) fun e=>some (bk.e bq e)):=
 Eq.trans (by kernel_rfl:_=bH s.1.1 s.1.2.2.1 s.1.2.2.2.1 (fun s'=>some (.nor,aH.mk' s')) (fun e=>some (bk.e bq e))) (mG s _ _)
theorem mp:bS Tryz.prog cj ii:=aZ aM gF af (by kernel_rfl) (df (by kernel_rfl:_= []) ah) [] [0,1,7,8] [4] aH bq (by kernel_rfl) aR mo ck (fT aR) (aQ aR)
def cv {ρ:Type} (a0:List aU) (k:Int×Unit→Option ρ):Option ρ:=
 (ck ((a0,(),(a0.length:Int),0,()),(()),(()))).bind fun e6=>Sum.elim (fun e6_=>k (e6_.1.1,())) (fun e6_=>k ((-1),())) e6
def b8 (a0:List aU):Option (Int×Unit):=cv a0 some
theorem nI {ρ:Type} (a0:List aU) (k:Int×Unit→Option ρ):cv a0 k=(b8 a0).bind k:=by
 simp only [b8,cv,bW,Option.bind_assoc,Option.bind_some]
abbrev iY:bn:=bA [.ty (.ls (.st .place)), .fc 212] [.i .i64] fun x=>b8 x.1
theorem oJ:aD Tryz.prog 266 iY:=
 al (Λ:=aI [(ca cj,ii)]) (fn:=Tryz.f266) aM gF af (by kernel_rfl) (aF (by kernel_rfl:_= [cj]) (aP (q:=ca cj) rfl mp fun _ _ _=>by kernel_rfl)) (by kernel_rfl) (fun x=>b8 x.1)
  (fun x=>Eq.trans (by kernel_rfl:_=cv x.1 (fun y=>ret (aE [.i .i64] y) fun v g=>some (v,g))) (nI x.1 _)) fun _ _ h=>h
abbrev nl:List (Nat×bn):= [(266,iY)]
theorem lX:aw Tryz.prog (aJ nl):=ae oJ <| aj _
def cd {ρ:Type} (a0:List aU) (k:Bool×Unit→Option ρ):Option ρ:=
 (b8 a0).bind fun y1=>k ((decide (y1.1≥0)),())
def bI (a0:List aU):Option (Bool×Unit):=cd a0 some
theorem mq {ρ:Type} (a0:List aU) (k:Bool×Unit→Option ρ):cd a0 k=(bI a0).bind k:=by
 simp only [bI,cd,Option.bind_assoc,Option.bind_some]
abbrev gG:bn:=bA [.ty (.ls (.st .place)), .fc 212] [.b] fun x=>bI x.1
theorem nm:aD Tryz.prog 211 gG:=
 al (Λ:=aI []) (fn:=Tryz.f211) aM lX af (by kernel_rfl) (aF (by kernel_rfl:_= []) ah) (by kernel_rfl) (fun x=>bI x.1)
  (fun x=>Eq.trans (by kernel_rfl:_=cd x.1 (fun y=>ret (aE [.b] y) fun v g=>some (v,g))) (mq x.1 _)) fun _ _ h=>h
abbrev Mx:List (Nat×bn):= [(211,gG)]
theorem Gh:aw Tryz.prog (aJ Mx):=ae nm <| aj _
def oK {ρ:Type} (a0:List aU) (k:Bool×Unit→Option ρ):Option ρ:=
 br ((a0.length:Int)==5) ((bI a0).bind fun y1=>k ((!y1.1),())) (k (false,()))
def lY (a0:List aU):Option (Bool×Unit):=oK a0 some
theorem HF {ρ:Type} (a0:List aU) (k:Bool×Unit→Option ρ):oK a0 k=(lY a0).bind k:=by
 simp only [lY,oK,am,Option.bind_assoc,Option.bind_some]
abbrev CY:bn:=bA [.ty (.ls (.st .place))] [.b] fun x=>lY x.1
theorem My:aD Tryz.prog 139 CY:=
 al (Λ:=aI []) (fn:=Tryz.f139) aM Gh af (by kernel_rfl) (aF (by kernel_rfl:_= []) ah) (by kernel_rfl) (fun x=>lY x.1)
  (fun x=>Eq.trans (by kernel_rfl:_=oK x.1 (fun y=>ret (aE [.b] y) fun v g=>some (v,g))) (HF x.1 _)) fun _ _ h=>h
abbrev Mz:List (Nat×bn):= [(135,iQ)]
theorem Gi:aw Tryz.prog (aJ Mz):=ae jP <| aj _
def oL {ρ:Type} (a0:Op) (k:Bool×Unit→Option ρ):Option ρ:=
 (ce a0.client 0 2).bind fun y1=>br (!y1.1) (k (false,())) ((ce a0.seq 1 99).bind fun y2=>br (!y2.1) (k (false,())) ((ce a0.object 0 2).bind fun y3=>br (!y3.1) (k (false,())) ((ce a0.value 0 9).bind fun y4=>br (!y4.1) (k (false,())) (br (a0.kind==1) (br (a0.old==0) (k (true,())) (br (a0.kind==2) ((ce a0.old 0 9).bind fun y5=>k (y5.1,())) (k (false,())))) (br (a0.kind==2) ((ce a0.old 0 9).bind fun y6=>k (y6.1,())) (k (false,())))))))
def kb (a0:Op):Option (Bool×Unit):=oL a0 some
theorem HG {ρ:Type} (a0:Op) (k:Bool×Unit→Option ρ):oL a0 k=(kb a0).bind k:=by
 simp only [kb,oL,am,Option.bind_assoc,Option.bind_some]
abbrev CZ:bn:=bA [.ty (.st .op)] [.b] fun x=>kb x.1
theorem MA:aD Tryz.prog 229 CZ:=
 al (Λ:=aI []) (fn:=Tryz.f229) aM Gi af (by kernel_rfl) (aF (by kernel_rfl:_= []) ah) (by kernel_rfl) (fun x=>kb x.1)
  (fun x=>Eq.trans (by kernel_rfl:_=oL x.1 (fun y=>ret (aE [.b] y) fun v g=>some (v,g))) (HG x.1 _)) fun _ _ h=>h
abbrev Pj:List (Nat×bn):= [(135,iQ),(229,CZ)]
theorem Gj:aw Tryz.prog (aJ Pj):=ae jP <| ae MA <| aj _
noncomputable abbrev tj:Code:=b9 (bT Tryz.f179) 0
abbrev jX:dN:=⟨[(0, .cl (.ro (.st .entry))),(5, .cl (.ro (.st .entry))),(6, .cl (.int .i64)),(7, .cl (.int .i64))],[],[],0,41⟩
abbrev pp:List (X×dN):= [(.ret,⟨[(0, .cl (.ro (.st .entry))),(2, .cl (.bl))],[],[],0,41⟩),(.ext 0,⟨[(0, .cl (.ro (.st .entry))),(2, .cl (.dead))],[],[],0,41⟩)]
def pq {ρ:Type} (v1:List aK) (v2:List aK) (v3:Int) (v4:Int) (fn: (((List aK)×(List aK)×Int×Int×Unit)×(Unit)×(Unit))→Option ρ) (fe: (((List aK)×Bool×Unit)×(Unit)×(Unit))⊕(((List aK)×Unit×Unit)×(Unit)×(Unit))→Option ρ):Option ρ:=
 br (decide (v4 < v3)) (ap (0≤v4) ((v2[v4.toNat]?).bind fun x5=>(ce x5.epoch 1 20).bind fun y6=>br (!y6.1) (fe (.inl ((v1,false,()),(()),(())))) (br (decide (v4 > 0)) (ap (0≤(IntKind.wrap .i64 (v4 - 1))) ((v1[(IntKind.wrap .i64 (v4 - 1)).toNat]?).bind fun x7=>br (decide (x5.epoch < x7.epoch)) (fe (.inl ((v1,false,()),(()),(())))) ((kb x5.op).bind fun y8=>br (!y8.1) (fe (.inl ((v1,false,()),(()),(())))) (fn ((v1,v2,v3,(IntKind.wrap .i64 (v4+1)),()),(()),(()))))) none) ((kb x5.op).bind fun y9=>br (!y9.1) (fe (.inl ((v1,false,()),(()),(())))) (fn ((v1,v2,v3,(IntKind.wrap .i64 (v4+1)),()),(()),(())))))) none) (fe (.inr ((v1,(),()),(()),(()))))
def kS (s:jX.D):Option (jX.D⊕bk.D pp):=pq s.1.1 s.1.2.1 s.1.2.2.1 s.1.2.2.2.1 (fun s=>some (.inl s)) (fun e=>some (.inr e))
def tm:jX.D→Option (bk.D pp):=jr kS
theorem MB {ρ:Type} (s:jX.D) (fn:jX.D→Option ρ) (fe:bk.D pp→Option ρ):pq s.1.1 s.1.2.1 s.1.2.2.1 s.1.2.2.2.1 fn fe=(kS s).bind (Sum.elim fn fe):=by
 simp only [kS,pq,am,aq,Option.bind_none,Option.bind_assoc,Option.bind_some,Sum.elim_inl,Sum.elim_inr]
abbrev IP:cL:=cX [] [0,5,6,7] jX pp tm
theorem Kl (s:jX.D):ei Θ (aJ Pj) (aI []) tj (jX.mk' s) (cO [0,5,6,7] [0,2] fun x S=>some (x,S))=(kS s).bind (Sum.elim (fun s'=>some (.nor,jX.mk' s')) fun e=>some (bk.e pp e)):=
 Eq.trans (by kernel_rfl:_=pq s.1.1 s.1.2.1 s.1.2.2.1 s.1.2.2.2.1 (fun s'=>some (.nor,jX.mk' s')) (fun e=>some (bk.e pp e))) (MB s _ _)
theorem Km:bS Tryz.prog tj IP:=aZ aM Gj af (by kernel_rfl) (df (by kernel_rfl:_= []) ah) [] [0,5,6,7] [0,2] jX pp (by kernel_rfl) kS Kl tm (fT kS) (aQ kS)
def vQ {ρ:Type} (a0:List aK) (k:Bool×Unit→Option ρ):Option ρ:=
 (tm ((a0,a0,(a0.length:Int),0,()),(()),(()))).bind fun e10=>Sum.elim (fun e10_=>k (e10_.1.2.1,())) (fun e10_=>k ((decide ((e10_.1.1.length:Int)≤16)),())) e10
def pz (a0:List aK):Option (Bool×Unit):=vQ a0 some
theorem Ql {ρ:Type} (a0:List aK) (k:Bool×Unit→Option ρ):vQ a0 k=(pz a0).bind k:=by
 simp only [pz,vQ,bW,Option.bind_assoc,Option.bind_some]
abbrev Kn:bn:=bA [.ty (.ls (.st .entry))] [.b] fun x=>pz x.1
theorem Pk:aD Tryz.prog 179 Kn:=
 al (Λ:=aI [(ca tj,IP)]) (fn:=Tryz.f179) aM Gj af (by kernel_rfl) (aF (by kernel_rfl:_= [tj]) (aP (q:=ca tj) rfl Km fun _ _ _=>by kernel_rfl)) (by kernel_rfl) (fun x=>pz x.1)
  (fun x=>Eq.trans (by kernel_rfl:_=vQ x.1 (fun y=>ret (aE [.b] y) fun v g=>some (v,g))) (Ql x.1 _)) fun _ _ h=>h
abbrev Ap:List (Nat×bn):= []
theorem uI:aw Tryz.prog (aJ Ap):=aj _
noncomputable abbrev lZ:Code:=b9 (bT Tryz.f219) 0
abbrev dy:dN:=⟨[(0, .cl (.ro (.i .i64))),(1, .cl (.ro (.i .i64))),(12, .cl (.int .i64)),(13, .cl (.int .i64))],[],[],0,26⟩
abbrev ij:List (X×dN):= [(.ret,⟨[(4, .cl (.bl))],[],[],0,26⟩),(.ext 0,⟨[(4, .cl (.dead))],[],[],0,26⟩)]
def iH {ρ:Type} (v1:List Int) (v2:List Int) (v3:Int) (v4:Int) (fn: (((List Int)×(List Int)×Int×Int×Unit)×(Unit)×(Unit))→Option ρ) (fe: ((Bool×Unit)×(Unit)×(Unit))⊕((Unit×Unit)×(Unit)×(Unit))→Option ρ):Option ρ:=
 br (decide (v4 < v3)) (ap (0≤v4) ((v1[v4.toNat]?).bind fun x5=>ap (0≤v4) ((v2[v4.toNat]?).bind fun x6=>br (!(x5==x6)) (fe (.inl ((false,()),(()),(())))) (fn ((v1,v2,v3,(IntKind.wrap .i64 (v4+1)),()),(()),(())))) none) none) (fe (.inr (((),()),(()),(()))))
def ea (s:dy.D):Option (dy.D⊕bk.D ij):=iH s.1.1 s.1.2.1 s.1.2.2.1 s.1.2.2.2.1 (fun s=>some (.inl s)) (fun e=>some (.inr e))
def l4:dy.D→Option (bk.D ij):=jr ea
theorem BV {ρ:Type} (s:dy.D) (fn:dy.D→Option ρ) (fe:bk.D ij→Option ρ):iH s.1.1 s.1.2.1 s.1.2.2.1 s.1.2.2.2.1 fn fe=(ea s).bind (Sum.elim fn fe):=by
 simp only [ea,iH,am,aq,Option.bind_none,Option.bind_assoc,Option.bind_some,Sum.elim_inl,Sum.elim_inr]
abbrev vR:cL:=cX [] [0,1,12,13] dy ij l4
theorem Aq (s:dy.D):ei Θ (aJ Ap) (aI []) lZ (dy.mk' s) (cO [0,1,12,13] [4] fun x S=>some (x,S))=(ea s).bind (Sum.elim (fun s'=>some (.nor,dy.mk' s')) fun e=>some (bk.e ij e)):=
 Eq.trans (by kernel_rfl:_=iH s.1.1 s.1.2.1 s.1.2.2.1 s.1.2.2.2.1 (fun s'=>some (.nor,dy.mk' s')) (fun e=>some (bk.e ij e))) (BV s _ _)
theorem Ar:bS Tryz.prog lZ vR:=aZ aM uI af (by kernel_rfl) (df (by kernel_rfl:_= []) ah) [] [0,1,12,13] [4] dy ij (by kernel_rfl) ea Aq l4 (fT ea) (aQ ea)
def nn {ρ:Type} (a0:List Int) (a1:List Int) (k:Bool×Unit→Option ρ):Option ρ:=
 br (!((a0.length:Int)==(a1.length:Int))) (k (false,())) ((l4 ((a0,a1,(a0.length:Int),0,()),(()),(()))).bind fun e7=>Sum.elim (fun e7_=>k (e7_.1.1,())) (fun e7_=>k (true,())) e7)
def mr (a0:List Int) (a1:List Int):Option (Bool×Unit):=nn a0 a1 some
theorem Gk {ρ:Type} (a0:List Int) (a1:List Int) (k:Bool×Unit→Option ρ):nn a0 a1 k=(mr a0 a1).bind k:=by
 simp only [mr,nn,am,bW,Option.bind_assoc,Option.bind_some]
abbrev Au:bn:=bA [.ty (.ls (.i .i64)), .ty (.ls (.i .i64))] [.b] fun x=>mr x.1 x.2.1
theorem Ko:aD Tryz.prog 219 Au:=
 al (Λ:=aI [(ca lZ,vR)]) (fn:=Tryz.f219) aM uI af (by kernel_rfl) (aF (by kernel_rfl:_= [lZ]) (aP (q:=ca lZ) rfl Ar fun _ _ _=>by kernel_rfl)) (by kernel_rfl) (fun x=>mr x.1 x.2.1)
  (fun x=>Eq.trans (by kernel_rfl:_=nn x.1 x.2.1 (fun y=>ret (aE [.b] y) fun v g=>some (v,g))) (Gk x.1 x.2.1 _)) fun _ _ h=>h
abbrev Gl:List (Nat×bn):= [(219,Au)]
theorem Av:aw Tryz.prog (aJ Gl):=ae Ko <| aj _
def kG {ρ:Type} (a0:List Int) (a1:List Int) (k:Bool×Unit→Option ρ):Option ρ:=
 (mr a0 a1).bind fun y1=>k (y1.1,())
def fS (a0:List Int) (a1:List Int):Option (Bool×Unit):=kG a0 a1 some
theorem BW {ρ:Type} (a0:List Int) (a1:List Int) (k:Bool×Unit→Option ρ):kG a0 a1 k=(fS a0 a1).bind k:=by
 simp only [fS,kG,Option.bind_assoc,Option.bind_some]
abbrev vS:bn:=bA [.ty (.ls (.i .i64)), .ty (.ls (.i .i64))] [.b] fun x=>fS x.1 x.2.1
theorem Gm:aD Tryz.prog 160 vS:=
 al (Λ:=aI []) (fn:=Tryz.f160) aM Av af (by kernel_rfl) (aF (by kernel_rfl:_= []) ah) (by kernel_rfl) (fun x=>fS x.1 x.2.1)
  (fun x=>Eq.trans (by kernel_rfl:_=kG x.1 x.2.1 (fun y=>ret (aE [.b] y) fun v g=>some (v,g))) (BW x.1 x.2.1 _)) fun _ _ h=>h
abbrev Gn:List (Nat×bn):= [(160,vS)]
theorem Aw:aw Tryz.prog (aJ Gn):=ae Gm <| aj _
def kH {ρ:Type} (a0:ai) (a1:ai) (k:Bool×Unit→Option ρ):Option ρ:=
 br (a0.epoch==a1.epoch) (br (a0.primary==a1.primary) ((fS a0.replicas a1.replicas).bind fun y1=>br y1.1 ((fS a0.witnesses a1.witnesses).bind fun y2=>k (y2.1,())) (k (false,()))) (k (false,()))) (k (false,()))
def eM (a0:ai) (a1:ai):Option (Bool×Unit):=kH a0 a1 some
theorem BX {ρ:Type} (a0:ai) (a1:ai) (k:Bool×Unit→Option ρ):kH a0 a1 k=(eM a0 a1).bind k:=by
 simp only [eM,kH,am,Option.bind_assoc,Option.bind_some]
abbrev ri:bn:=bA [.ty (.st .config), .ty (.st .config)] [.b] fun x=>eM x.1 x.2.1
theorem vT:aD Tryz.prog 91 ri:=
 al (Λ:=aI []) (fn:=Tryz.f91) aM Aw af (by kernel_rfl) (aF (by kernel_rfl:_= []) ah) (by kernel_rfl) (fun x=>eM x.1 x.2.1)
  (fun x=>Eq.trans (by kernel_rfl:_=kH x.1 x.2.1 (fun y=>ret (aE [.b] y) fun v g=>some (v,g))) (BX x.1 x.2.1 _)) fun _ _ h=>h
abbrev MC:List (Nat×bn):= []
theorem Gp:aw Tryz.prog (aJ MC):=aj _
def oM {ρ:Type} (a0:List aK) (k:Int×Unit→Option ρ):Option ρ:=
 br ((a0.length:Int)==0) (k (0,())) (ap (0≤(IntKind.wrap .i64 ((a0.length:Int) - 1))) ((a0[(IntKind.wrap .i64 ((a0.length:Int) - 1)).toNat]?).bind fun x1=>k (x1.epoch,())) none)
def ke (a0:List aK):Option (Int×Unit):=oM a0 some
theorem HH {ρ:Type} (a0:List aK) (k:Int×Unit→Option ρ):oM a0 k=(ke a0).bind k:=by
 simp only [ke,oM,am,aq,Option.bind_none,Option.bind_assoc,Option.bind_some]
abbrev vU:bn:=bA [.ty (.ls (.st .entry))] [.i .i64] fun x=>ke x.1
theorem C0:aD Tryz.prog 141 vU:=
 al (Λ:=aI []) (fn:=Tryz.f141) aM Gp af (by kernel_rfl) (aF (by kernel_rfl:_= []) ah) (by kernel_rfl) (fun x=>ke x.1)
  (fun x=>Eq.trans (by kernel_rfl:_=oM x.1 (fun y=>ret (aE [.i .i64] y) fun v g=>some (v,g))) (HH x.1 _)) fun _ _ h=>h
abbrev Sd:List (Nat×bn):= [(176,p9),(66,rX)]
theorem MD:aw Tryz.prog (aJ Sd):=ae uG <| ae vN <| aj _
def tn {ρ:Type} (a0:ai) (a1:Int) (k:Int×Unit→Option ρ):Option ρ:=
 (eZ a0).bind fun y1=>br (!y1.1) (k (0,())) (br (a1==a0.primary) (k (1,())) ((gA a0.replicas a1).bind fun y2=>br y2.1 (k (2,())) ((gA a0.witnesses a1).bind fun y3=>br y3.1 (k (3,())) (k (0,())))))
def rj (a0:ai) (a1:Int):Option (Int×Unit):=tn a0 a1 some
theorem Og {ρ:Type} (a0:ai) (a1:Int) (k:Int×Unit→Option ρ):tn a0 a1 k=(rj a0 a1).bind k:=by
 simp only [rj,tn,am,Option.bind_assoc,Option.bind_some]
abbrev ME:bn:=bA [.ty (.st .config), .ty (.i .i64)] [.i .i64] fun x=>rj x.1 x.2.1
theorem Se:aD Tryz.prog 178 ME:=
 al (Λ:=aI []) (fn:=Tryz.f178) aM MD af (by kernel_rfl) (aF (by kernel_rfl:_= []) ah) (by kernel_rfl) (fun x=>rj x.1 x.2.1)
  (fun x=>Eq.trans (by kernel_rfl:_=tn x.1 x.2.1 (fun y=>ret (aE [.i .i64] y) fun v g=>some (v,g))) (Og x.1 x.2.1 _)) fun _ _ h=>h
abbrev Sf:List (Nat×bn):= [(179,Kn),(135,iQ)]
theorem MF:aw Tryz.prog (aJ Sf):=ae Pk <| ae jP <| aj _
def to {ρ:Type} (a0:Int) (a1:List aK) (k:Bool×Unit→Option ρ):Option ρ:=
 (pz a1).bind fun y1=>br y1.1 (br (decide ((a1.length:Int)≤3)) ((ce a0 0 (IntKind.wrap .i64 (16 - (a1.length:Int)))).bind fun y2=>br y2.1 (br (a0==0) (k (true,())) (k (((a1.length:Int)==3),()))) (k (false,()))) (k (false,()))) (k (false,()))
def rk (a0:Int) (a1:List aK):Option (Bool×Unit):=to a0 a1 some
theorem Oh {ρ:Type} (a0:Int) (a1:List aK) (k:Bool×Unit→Option ρ):to a0 a1 k=(rk a0 a1).bind k:=by
 simp only [rk,to,am,Option.bind_assoc,Option.bind_some]
abbrev MG:bn:=bA [.ty (.i .i64), .ty (.ls (.st .entry))] [.b] fun x=>rk x.1 x.2.1
theorem Sg:aD Tryz.prog 213 MG:=
 al (Λ:=aI []) (fn:=Tryz.f213) aM MF af (by kernel_rfl) (aF (by kernel_rfl:_= []) ah) (by kernel_rfl) (fun x=>rk x.1 x.2.1)
  (fun x=>Eq.trans (by kernel_rfl:_=to x.1 x.2.1 (fun y=>ret (aE [.b] y) fun v g=>some (v,g))) (Oh x.1 x.2.1 _)) fun _ _ h=>h
abbrev DT:List (Nat×bn):= [(135,iQ),(179,Kn),(91,ri),(141,vU),(178,ME),(213,MG)]
theorem yD:aw Tryz.prog (aJ DT):=ae jP <| ae Pk <| ae vT <| ae C0 <| ae Se <| ae Sg <| aj _
def jY {ρ:Type} (a0:ak) (a1:Int) (k:Bool×Unit→Option ρ):Option ρ:=
 (ce a0.version 1 2).bind fun y1=>br (!y1.1) (k (false,())) ((ce a0.epoch 0 20).bind fun y2=>br (!y2.1) (k (false,())) ((pz a0.log).bind fun y3=>br (!y3.1) (k (false,())) ((pz a0.learned).bind fun y4=>br (!y4.1) (k (false,())) ((ce a0.first 0 16).bind fun y5=>br (!y5.1) (k (false,())) (br (decide ((IntKind.wrap .i64 (a0.first+(a0.log.length:Int))) > 16)) (k (false,())) ((ce a0.commit 0 (IntKind.wrap .i64 (a0.first+(a0.log.length:Int)))).bind fun y6=>br (!y6.1) (k (false,())) ((eM a0.config (⟨0,0,([]:List Int),([]:List Int)⟩:ai)).bind fun y7=>br y7.1 (br (a0.first==0) (br (a0.commit==0) (k (((a0.log.length:Int)==0),())) (k (false,()))) (k (false,()))) (br (!a0.intact) (k (false,())) (br (decide (a0.epoch < a0.config.epoch)) (k (false,())) ((ke a0.log).bind fun y8=>br (decide (y8.1 > a0.config.epoch)) (k (false,())) ((rj a0.config a1).bind fun y9=>br (y9.1==1) (k ((a0.first==0),())) (br (y9.1==2) (k ((a0.first==0),())) (br (y9.1==3) ((rk a0.first a0.log).bind fun y10=>k (y10.1,())) (k (false,())))))))))))))))
def gf (a0:ak) (a1:Int):Option (Bool×Unit):=jY a0 a1 some
theorem Ax {ρ:Type} (a0:ak) (a1:Int) (k:Bool×Unit→Option ρ):jY a0 a1 k=(gf a0 a1).bind k:=by
 simp only [gf,jY,am,Option.bind_assoc,Option.bind_some]
abbrev uJ:bn:=bA [.ty (.st .server), .ty (.i .i64)] [.b] fun x=>gf x.1 x.2.1
theorem DU:aD Tryz.prog 140 uJ:=
 al (Λ:=aI []) (fn:=Tryz.f140) aM yD af (by kernel_rfl) (aF (by kernel_rfl:_= []) ah) (by kernel_rfl) (fun x=>gf x.1 x.2.1)
  (fun x=>Eq.trans (by kernel_rfl:_=jY x.1 x.2.1 (fun y=>ret (aE [.b] y) fun v g=>some (v,g))) (Ax x.1 x.2.1 _)) fun _ _ h=>h
abbrev Oi:List (Nat×bn):= [(137,sG),(135,iQ),(177,qA)]
theorem HI:aw Tryz.prog (aJ Oi):=ae xE <| ae jP <| ae tZ <| aj _
def pV {ρ:Type} (a0:an) (a1:Int) (k:ai×Bool×Unit→Option ρ):Option ρ:=
 (gE a0).bind fun y1=>br (!y1.1) (k ((⟨0,0,([]:List Int),([]:List Int)⟩:ai),false,())) ((ce a1 1 (a0.configs.length:Int)).bind fun y2=>br (!y2.1) (k ((⟨0,0,([]:List Int),([]:List Int)⟩:ai),false,())) (ap (0≤(IntKind.wrap .i64 (a1 - 1))) ((a0.configs[(IntKind.wrap .i64 (a1 - 1)).toNat]?).bind fun x3=>(eI x3).bind fun y4=>k (y4.1,true,())) none))
def nJ (a0:an) (a1:Int):Option (ai×Bool×Unit):=pV a0 a1 some
theorem Kp {ρ:Type} (a0:an) (a1:Int) (k:ai×Bool×Unit→Option ρ):pV a0 a1 k=(nJ a0 a1).bind k:=by
 simp only [nJ,pV,am,aq,Option.bind_none,Option.bind_assoc,Option.bind_some]
abbrev Gq:bn:=bA [.ty (.st .masterLog), .ty (.i .i64)] [.st .config, .b] fun x=>nJ x.1 x.2.1
theorem Oj:aD Tryz.prog 142 Gq:=
 al (Λ:=aI []) (fn:=Tryz.f142) aM HI af (by kernel_rfl) (aF (by kernel_rfl:_= []) ah) (by kernel_rfl) (fun x=>nJ x.1 x.2.1)
  (fun x=>Eq.trans (by kernel_rfl:_=pV x.1 x.2.1 (fun y=>ret (aE [.st .config, .b] y) fun v g=>some (v,g))) (Kp x.1 x.2.1 _)) fun _ _ h=>h
abbrev tp:List (Nat×bn):= [(135,iQ),(136,F6),(137,sG),(138,IM),(139,CY),(140,uJ),(141,vU),(91,ri),(142,Gq)]
theorem qm:aw Tryz.prog (aJ tp):=ae jP <| ae Oc <| ae xE <| ae Qk <| ae My <| ae DU <| ae C0 <| ae vT <| ae Oj <| aj _
noncomputable abbrev ik:Code:=b9 (bT Tryz.f57) 0
abbrev cm:dN:=⟨[(1, .cl (.ptr 0 0)),(57, .cl (.ro (.st .server))),(58, .cl (.int .i64)),(59, .cl (.int .i64))],[[.int .i64, .ro (.st .server), .ro (.i .i64), .ro (.st .config), .int .i64, .int .i64, .int .i64, .int .i64, .int .i64, .ro (.st .place)]],[],0,118⟩
abbrev en:List (X×dN):= [(.ret,⟨[(2, .cl (.bl))],[],[],0,118⟩),(.ext 0,⟨[(2, .cl (.dead))],[],[],0,118⟩)]
def eU {ρ:Type} (v7:List ak) (v8:Int) (v9:Int) (v10:Int) (v11:List ak) (v12:List Int) (v13:List ai) (v14:Int) (v15:Int) (v16:Int) (v17:Int) (v18:Int) (v19:List aU) (fn: ((Unit×(List ak)×Int×Int×Unit)×((Int×(List ak)×(List Int)×(List ai)×Int×Int×Int×Int×Int×(List aU)×Unit)×Unit)×(Unit))→Option ρ) (fe: ((Bool×Unit)×(Unit)×(Unit))⊕((Unit×Unit)×(Unit)×(Unit))→Option ρ):Option ρ:=
 br (decide (v9 < v8)) (ap (0≤v9) ((v7[v9.toNat]?).bind fun x20=>(gf x20 v9).bind fun y21=>br (!y21.1) (fe (.inl ((false,()),(()),(())))) (br (decide (x20.epoch > (v13.length:Int))) (fe (.inl ((false,()),(()),(())))) ((ke x20.learned).bind fun y22=>br (decide (y22.1 > v14)) (fe (.inl ((false,()),(()),(())))) ((eM x20.config (⟨0,0,([]:List Int),([]:List Int)⟩:ai)).bind fun y23=>br y23.1 (fn (((),v7,v8,(IntKind.wrap .i64 (v9+1)),()),((v10,v11,v12,v13,v14,v15,v16,v17,v18,v19,()),()),(()))) ((nJ (⟨v13,v14⟩:an) x20.config.epoch).bind fun y24=>br (!y24.2.1) (fe (.inl ((false,()),(()),(())))) ((eM y24.1 x20.config).bind fun y25=>br (!y25.1) (fe (.inl ((false,()),(()),(())))) (br (decide (x20.config.epoch > v14)) (fe (.inl ((false,()),(()),(())))) (fn (((),v7,v8,(IntKind.wrap .i64 (v9+1)),()),((v10,v11,v12,v13,v14,v15,v16,v17,v18,v19,()),()),(())))))))))) none) (fe (.inr (((),()),(()),(()))))
def cB (s:cm.D):Option (cm.D⊕bk.D en):=eU s.1.2.1 s.1.2.2.1 s.1.2.2.2.1 s.2.1.1.1 s.2.1.1.2.1 s.2.1.1.2.2.1 s.2.1.1.2.2.2.1 s.2.1.1.2.2.2.2.1 s.2.1.1.2.2.2.2.2.1 s.2.1.1.2.2.2.2.2.2.1 s.2.1.1.2.2.2.2.2.2.2.1 s.2.1.1.2.2.2.2.2.2.2.2.1 s.2.1.1.2.2.2.2.2.2.2.2.2.1 (fun s=>some (.inl s)) (fun e=>some (.inr e))
def il:cm.D→Option (bk.D en):=jr cB
theorem vV {ρ:Type} (s:cm.D) (fn:cm.D→Option ρ) (fe:bk.D en→Option ρ):eU s.1.2.1 s.1.2.2.1 s.1.2.2.2.1 s.2.1.1.1 s.2.1.1.2.1 s.2.1.1.2.2.1 s.2.1.1.2.2.2.1 s.2.1.1.2.2.2.2.1 s.2.1.1.2.2.2.2.2.1 s.2.1.1.2.2.2.2.2.2.1 s.2.1.1.2.2.2.2.2.2.2.1 s.2.1.1.2.2.2.2.2.2.2.2.1 s.2.1.1.2.2.2.2.2.2.2.2.2.1 fn fe=(cB s).bind (Sum.elim fn fe):=by
 simp only [cB,eU,am,aq,Option.bind_none,Option.bind_assoc,Option.bind_some,Sum.elim_inl,Sum.elim_inr]
abbrev rl:cL:=cX [] [1,57,58,59] cm en il
theorem u1 (s:cm.D):ei Θ (aJ tp) (aI []) ik (cm.mk' s) (cO [1,57,58,59] [2] fun x S=>some (x,S))=(cB s).bind (Sum.elim (fun s'=>some (.nor,cm.mk' s')) fun e=>some (bk.e en e)):=
 Eq.trans (by kernel_rfl:_=eU s.1.2.1 s.1.2.2.1 s.1.2.2.2.1 s.2.1.1.1 s.2.1.1.2.1 s.2.1.1.2.2.1 s.2.1.1.2.2.2.1 s.2.1.1.2.2.2.2.1 s.2.1.1.2.2.2.2.2.1 s.2.1.1.2.2.2.2.2.2.1 s.2.1.1.2.2.2.2.2.2.2.1 s.2.1.1.2.2.2.2.2.2.2.2.1 s.2.1.1.2.2.2.2.2.2.2.2.2.1 (fun s'=>some (.nor,cm.mk' s')) (fun e=>some (bk.e en e))) (vV s _ _)
theorem u2:bS Tryz.prog ik rl:=aZ aM qm af (by kernel_rfl) (df (by kernel_rfl:_= []) ah) [] [1,57,58,59] [2] cm en (by kernel_rfl) cB u1 il (fT cB) (aQ cB)
def iZ {ρ:Type} (a0:ao) (k:Bool×Unit→Option ρ):Option ρ:=
 (ce a0.now 0 999).bind fun y1=>br (!y1.1) (k (false,())) (br (!((a0.servers.length:Int)==5)) (k (false,())) ((nF a0.sides).bind fun y2=>br (!y2.1) (k (false,())) ((gE a0.master).bind fun y3=>br (!y3.1) (k (false,())) ((po a0.lease).bind fun y4=>br (!y4.1) (k (false,())) ((lY a0.places).bind fun y5=>br (!y5.1) (k (false,())) ((ce a0.masterUp 0 3).bind fun y6=>br (!y6.1) (k (false,())) (br (decide (a0.lease.epoch > a0.master.activated)) (k (false,())) ((il (((),a0.servers,(a0.servers.length:Int),0,()),((a0.now,a0.servers,a0.sides,a0.master.configs,a0.master.activated,a0.masterUp,a0.lease.epoch,a0.lease.holder,a0.lease.ends,a0.places,()),()),(()))).bind fun e26=>Sum.elim (fun e26_=>k (e26_.1.1,())) (fun e26_=>k (true,())) e26))))))))
def fr (a0:ao):Option (Bool×Unit):=iZ a0 some
theorem yE {ρ:Type} (a0:ao) (k:Bool×Unit→Option ρ):iZ a0 k=(fr a0).bind k:=by
 simp only [fr,iZ,am,bW,Option.bind_assoc,Option.bind_some]
abbrev tu:bn:=bA [.ty (.st .cluster)] [.b] fun x=>fr x.1
theorem BZ:aD Tryz.prog 57 tu:=
 al (Λ:=aI [(ca ik,rl)]) (fn:=Tryz.f57) aM qm af (by kernel_rfl) (aF (by kernel_rfl:_= [ik]) (aP (q:=ca ik) rfl u2 fun _ _ _=>by kernel_rfl)) (by kernel_rfl) (fun x=>fr x.1)
  (fun x=>Eq.trans (by kernel_rfl:_=iZ x.1 (fun y=>ret (aE [.b] y) fun v g=>some (v,g))) (yE x.1 _)) fun _ _ h=>h
abbrev HJ:List (Nat×bn):= [(57,tu),(135,iQ)]
theorem B0:aw Tryz.prog (aJ HJ):=ae BZ <| ae jP <| aj _
def l5 {ρ:Type} (a0:ao) (a1:Int) (k:Bool×Unit→Option ρ):Option ρ:=
 (fr a0).bind fun y1=>br y1.1 ((ce a1 0 4).bind fun y2=>k (y2.1,())) (k (false,()))
def jj (a0:ao) (a1:Int):Option (Bool×Unit):=l5 a0 a1 some
theorem DV {ρ:Type} (a0:ao) (a1:Int) (k:Bool×Unit→Option ρ):l5 a0 a1 k=(jj a0 a1).bind k:=by
 simp only [jj,l5,am,Option.bind_assoc,Option.bind_some]
abbrev xF:bn:=bA [.ty (.st .cluster), .ty (.i .i64)] [.b] fun x=>jj x.1 x.2.1
theorem HK:aD Tryz.prog 156 xF:=
 al (Λ:=aI []) (fn:=Tryz.f156) aM B0 af (by kernel_rfl) (aF (by kernel_rfl:_= []) ah) (by kernel_rfl) (fun x=>jj x.1 x.2.1)
  (fun x=>Eq.trans (by kernel_rfl:_=l5 x.1 x.2.1 (fun y=>ret (aE [.b] y) fun v g=>some (v,g))) (DV x.1 x.2.1 _)) fun _ _ h=>h
abbrev MH:List (Nat×bn):= [(95,xA),(156,xF)]
theorem Gr:aw Tryz.prog (aJ MH):=ae Hw <| ae HK <| aj _
def oO {ρ:Type} (a0:ao) (a1:Int) (a2:Int) (k:ao×Int×Unit→Option ρ):Option ρ:=
 (jh a0).bind fun y1=>(jj a0 a1).bind fun y2=>br (!y2.1) (k (y1.1,1,())) (ap (0≤a1) ((a0.servers[a1.toNat]?).bind fun x3=>br (!(x3.version==a2)) (k (y1.1,1,())) (ap (0≤a1) ((a0.servers[a1.toNat]?).bind fun x4=>br (!x4.up) (k (y1.1,2,())) (ap (0≤a1∧a1 < (y1.1.servers.length:Int)) ((y1.1.servers[a1.toNat]?).bind fun x5=>k ((⟨y1.1.now,(y1.1.servers.set a1.toNat (⟨x5.up,x5.intact,(IntKind.wrap .i64 (3 - a2)),x5.epoch,x5.config,x5.first,x5.log,x5.commit,x5.learned⟩:ak)),y1.1.sides,y1.1.master,y1.1.masterUp,y1.1.lease,y1.1.places⟩:ao),0,())) none)) none)) none)
def nY (a0:ao) (a1:Int) (a2:Int):Option (ao×Int×Unit):=oO a0 a1 a2 some
theorem HL {ρ:Type} (a0:ao) (a1:Int) (a2:Int) (k:ao×Int×Unit→Option ρ):oO a0 a1 a2 k=(nY a0 a1 a2).bind k:=by
 simp only [nY,oO,am,aq,Option.bind_none,Option.bind_assoc,Option.bind_some]
abbrev C1:bn:=bA [.ty (.st .cluster), .ty (.i .i64), .ty (.i .i64)] [.st .cluster, .i .i64] fun x=>nY x.1 x.2.1 x.2.2.1
theorem MI:aD Tryz.prog 84 C1:=
 al (Λ:=aI []) (fn:=Tryz.f84) aM Gr af (by kernel_rfl) (aF (by kernel_rfl:_= []) ah) (by kernel_rfl) (fun x=>nY x.1 x.2.1 x.2.2.1)
  (fun x=>Eq.trans (by kernel_rfl:_=oO x.1 x.2.1 x.2.2.1 (fun y=>ret (aE [.st .cluster, .i .i64] y) fun v g=>some (v,g))) (HL x.1 x.2.1 x.2.2.1 _)) fun _ _ h=>h
abbrev DW:List (Nat×bn):= [(84,C1)]
theorem yF:aw Tryz.prog (aJ DW):=ae MI <| aj _
def jZ {ρ:Type} (a0:ao) (a1:Int) (k:ao×Int×Unit→Option ρ):Option ρ:=
 (nY a0 a1 1).bind fun y1=>k (y1.1,y1.2.1,())
def fa (a0:ao) (a1:Int):Option (ao×Int×Unit):=jZ a0 a1 some
theorem Ay {ρ:Type} (a0:ao) (a1:Int) (k:ao×Int×Unit→Option ρ):jZ a0 a1 k=(fa a0 a1).bind k:=by
 simp only [fa,jZ,Option.bind_assoc,Option.bind_some]
abbrev uK:bn:=bA [.ty (.st .cluster), .ty (.i .i64)] [.st .cluster, .i .i64] fun x=>fa x.1 x.2.1
theorem DX:aD Tryz.prog 29 uK:=
 al (Λ:=aI []) (fn:=Tryz.f29) aM yF af (by kernel_rfl) (aF (by kernel_rfl:_= []) ah) (by kernel_rfl) (fun x=>fa x.1 x.2.1)
  (fun x=>Eq.trans (by kernel_rfl:_=jZ x.1 x.2.1 (fun y=>ret (aE [.st .cluster, .i .i64] y) fun v g=>some (v,g))) (Ay x.1 x.2.1 _)) fun _ _ h=>h
abbrev MJ:List (Nat×bn):= []
theorem C2:aw Tryz.prog (aJ MJ):=aj _
noncomputable abbrev rm:Code:=b9 (bT Tryz.f19) 0
abbrev im:dN:=⟨[(0, .cl (.ro (.i .i64))),(1, .cl (.ro (.i .i64))),(5, .cl (.int .i64))],[],[],0,26⟩
abbrev nK:List (X×dN):= [(.ret,⟨[(4, .cl (.bl))],[],[],0,26⟩),(.ext 0,⟨[(4, .cl (.dead))],[],[],0,26⟩)]
def sb {ρ:Type} (v1:List Int) (v2:List Int) (v3:Int) (fn: (((List Int)×(List Int)×Int×Unit)×(Unit)×(Unit))→Option ρ) (fe: ((Bool×Unit)×(Unit)×(Unit))⊕((Unit×Unit)×(Unit)×(Unit))→Option ρ):Option ρ:=
 br (decide (v3 < (v1.length:Int))) (ap (0≤v3) ((v1[v3.toNat]?).bind fun x4=>ap (0≤v3) ((v2[v3.toNat]?).bind fun x5=>br (!(x4==x5)) (fe (.inl ((false,()),(()),(())))) (fn ((v1,v2,(IntKind.wrap .i64 (v3+1)),()),(()),(())))) none) none) (fe (.inr (((),()),(()),(()))))
def l6 (s:im.D):Option (im.D⊕bk.D nK):=sb s.1.1 s.1.2.1 s.1.2.2.1 (fun s=>some (.inl s)) (fun e=>some (.inr e))
def yG:im.D→Option (bk.D nK):=jr l6
theorem Kq {ρ:Type} (s:im.D) (fn:im.D→Option ρ) (fe:bk.D nK→Option ρ):sb s.1.1 s.1.2.1 s.1.2.2.1 fn fe=(l6 s).bind (Sum.elim fn fe):=by
 simp only [l6,sb,am,aq,Option.bind_none,Option.bind_assoc,Option.bind_some,Sum.elim_inl,Sum.elim_inr]
abbrev Gs:cL:=cX [] [0,1,5] im nK yG
theorem HM (s:im.D):ei Θ (aJ MJ) (aI []) rm (im.mk' s) (cO [0,1,5] [4] fun x S=>some (x,S))=(l6 s).bind (Sum.elim (fun s'=>some (.nor,im.mk' s')) fun e=>some (bk.e nK e)):=
 Eq.trans (by kernel_rfl:_=sb s.1.1 s.1.2.1 s.1.2.2.1 (fun s'=>some (.nor,im.mk' s')) (fun e=>some (bk.e nK e))) (Kq s _ _)
theorem HN:bS Tryz.prog rm Gs:=aZ aM C2 af (by kernel_rfl) (df (by kernel_rfl:_= []) ah) [] [0,1,5] [4] im nK (by kernel_rfl) l6 HM yG (fT l6) (aQ l6)
def wP {ρ:Type} (a0:List Int) (a1:List Int) (k:Bool×Unit→Option ρ):Option ρ:=
 br (!((a0.length:Int)==(a1.length:Int))) (k (false,())) ((yG ((a0,a1,0,()),(()),(()))).bind fun e6=>Sum.elim (fun e6_=>k (e6_.1.1,())) (fun e6_=>k (true,())) e6)
def oP (a0:List Int) (a1:List Int):Option (Bool×Unit):=wP a0 a1 some
theorem Ok {ρ:Type} (a0:List Int) (a1:List Int) (k:Bool×Unit→Option ρ):wP a0 a1 k=(oP a0 a1).bind k:=by
 simp only [oP,wP,am,bW,Option.bind_assoc,Option.bind_some]
abbrev Gt:bn:=bA [.ty (.ls (.i .i64)), .ty (.ls (.i .i64))] [.b] fun x=>oP x.1 x.2.1
theorem ML:aD Tryz.prog 19 Gt:=
 al (Λ:=aI [(ca rm,Gs)]) (fn:=Tryz.f19) aM C2 af (by kernel_rfl) (aF (by kernel_rfl:_= [rm]) (aP (q:=ca rm) rfl HN fun _ _ _=>by kernel_rfl)) (by kernel_rfl) (fun x=>oP x.1 x.2.1)
  (fun x=>Eq.trans (by kernel_rfl:_=wP x.1 x.2.1 (fun y=>ret (aE [.b] y) fun v g=>some (v,g))) (Ok x.1 x.2.1 _)) fun _ _ h=>h
abbrev Ol:List (Nat×bn):= [(19,Gt)]
theorem HO:aw Tryz.prog (aJ Ol):=ae ML <| aj _
def pW {ρ:Type} (a0:ai) (a1:ai) (k:Bool×Unit→Option ρ):Option ρ:=
 br (!(a0.epoch==a1.epoch)) (k (false,())) (br (!(a0.primary==a1.primary)) (k (false,())) ((oP a0.replicas a1.replicas).bind fun y1=>br (!y1.1) (k (false,())) ((oP a0.witnesses a1.witnesses).bind fun y2=>br (!y2.1) (k (false,())) (k (true,())))))
def kp (a0:ai) (a1:ai):Option (Bool×Unit):=pW a0 a1 some
theorem Kr {ρ:Type} (a0:ai) (a1:ai) (k:Bool×Unit→Option ρ):pW a0 a1 k=(kp a0 a1).bind k:=by
 simp only [kp,pW,am,Option.bind_assoc,Option.bind_some]
abbrev yH:bn:=bA [.ty (.st .config), .ty (.st .config)] [.b] fun x=>kp x.1 x.2.1
theorem Gu:aD Tryz.prog 215 yH:=
 al (Λ:=aI []) (fn:=Tryz.f215) aM HO af (by kernel_rfl) (aF (by kernel_rfl:_= []) ah) (by kernel_rfl) (fun x=>kp x.1 x.2.1)
  (fun x=>Eq.trans (by kernel_rfl:_=pW x.1 x.2.1 (fun y=>ret (aE [.b] y) fun v g=>some (v,g))) (Kr x.1 x.2.1 _)) fun _ _ h=>h
abbrev U0:List (Nat×bn):= []
theorem Qm:aw Tryz.prog (aJ U0):=aj _
def Az {ρ:Type} (a0:Op) (a1:Op) (k:Bool×Unit→Option ρ):Option ρ:=
 br (!(a0.client==a1.client)) (k (false,())) (br (!(a0.seq==a1.seq)) (k (false,())) (br (!(a0.kind==a1.kind)) (k (false,())) (br (!(a0.object==a1.object)) (k (false,())) (br (!(a0.old==a1.old)) (k (false,())) (br (!(a0.value==a1.value)) (k (false,())) (k (true,())))))))
def yI (a0:Op) (a1:Op):Option (Bool×Unit):=Az a0 a1 some
theorem Si {ρ:Type} (a0:Op) (a1:Op) (k:Bool×Unit→Option ρ):Az a0 a1 k=(yI a0 a1).bind k:=by
 simp only [yI,Az,am,Option.bind_some]
abbrev Sj:bn:=bA [.ty (.st .op), .ty (.st .op)] [.b] fun x=>yI x.1 x.2.1
theorem U1:aD Tryz.prog 153 Sj:=
 al (Λ:=aI []) (fn:=Tryz.f153) aM Qm af (by kernel_rfl) (aF (by kernel_rfl:_= []) ah) (by kernel_rfl) (fun x=>yI x.1 x.2.1)
  (fun x=>Eq.trans (by kernel_rfl:_=Az x.1 x.2.1 (fun y=>ret (aE [.b] y) fun v g=>some (v,g))) (Si x.1 x.2.1 _)) fun _ _ h=>h
abbrev Qn:List (Nat×bn):= [(153,Sj)]
theorem Ks:aw Tryz.prog (aJ Qn):=ae U1 <| aj _
def rn {ρ:Type} (a0:aK) (a1:aK) (k:Bool×Unit→Option ρ):Option ρ:=
 br (!(a0.epoch==a1.epoch)) (k (false,())) ((yI a0.op a1.op).bind fun y1=>br (!y1.1) (k (false,())) (k (true,())))
def nZ (a0:aK) (a1:aK):Option (Bool×Unit):=rn a0 a1 some
theorem MM {ρ:Type} (a0:aK) (a1:aK) (k:Bool×Unit→Option ρ):rn a0 a1 k=(nZ a0 a1).bind k:=by
 simp only [nZ,rn,am,Option.bind_assoc,Option.bind_some]
abbrev IQ:bn:=bA [.ty (.st .entry), .ty (.st .entry)] [.b] fun x=>nZ x.1 x.2.1
theorem Qo:aD Tryz.prog 81 IQ:=
 al (Λ:=aI []) (fn:=Tryz.f81) aM Ks af (by kernel_rfl) (aF (by kernel_rfl:_= []) ah) (by kernel_rfl) (fun x=>nZ x.1 x.2.1)
  (fun x=>Eq.trans (by kernel_rfl:_=rn x.1 x.2.1 (fun y=>ret (aE [.b] y) fun v g=>some (v,g))) (MM x.1 x.2.1 _)) fun _ _ h=>h
abbrev Gv:List (Nat×bn):= [(81,IQ)]
theorem xG:aw Tryz.prog (aJ Gv):=ae Qo <| aj _
noncomputable abbrev oQ:Code:=b9 (bT Tryz.f25) 0
abbrev eN:dN:=⟨[(0, .cl (.ro (.st .entry))),(1, .cl (.ro (.st .entry))),(5, .cl (.int .i64))],[],[],0,27⟩
abbrev kq:List (X×dN):= [(.ret,⟨[(4, .cl (.bl))],[],[],0,27⟩),(.ext 0,⟨[(4, .cl (.dead))],[],[],0,27⟩)]
def pA {ρ:Type} (v1:List aK) (v2:List aK) (v3:Int) (fn: (((List aK)×(List aK)×Int×Unit)×(Unit)×(Unit))→Option ρ) (fe: ((Bool×Unit)×(Unit)×(Unit))⊕((Unit×Unit)×(Unit)×(Unit))→Option ρ):Option ρ:=
 br (decide (v3 < (v1.length:Int))) (ap (0≤v3) ((v1[v3.toNat]?).bind fun x4=>ap (0≤v3) ((v2[v3.toNat]?).bind fun x5=>(nZ x4 x5).bind fun y6=>br (!y6.1) (fe (.inl ((false,()),(()),(())))) (fn ((v1,v2,(IntKind.wrap .i64 (v3+1)),()),(()),(())))) none) none) (fe (.inr (((),()),(()),(()))))
def i4 (s:eN.D):Option (eN.D⊕bk.D kq):=pA s.1.1 s.1.2.1 s.1.2.2.1 (fun s=>some (.inl s)) (fun e=>some (.inr e))
def t8:eN.D→Option (bk.D kq):=jr i4
theorem Gw {ρ:Type} (s:eN.D) (fn:eN.D→Option ρ) (fe:bk.D kq→Option ρ):pA s.1.1 s.1.2.1 s.1.2.2.1 fn fe=(i4 s).bind (Sum.elim fn fe):=by
 simp only [i4,pA,am,aq,Option.bind_none,Option.bind_assoc,Option.bind_some,Sum.elim_inl,Sum.elim_inr]
abbrev AA:cL:=cX [] [0,1,5] eN kq t8
theorem DY (s:eN.D):ei Θ (aJ Gv) (aI []) oQ (eN.mk' s) (cO [0,1,5] [4] fun x S=>some (x,S))=(i4 s).bind (Sum.elim (fun s'=>some (.nor,eN.mk' s')) fun e=>some (bk.e kq e)):=
 Eq.trans (by kernel_rfl:_=pA s.1.1 s.1.2.1 s.1.2.2.1 (fun s'=>some (.nor,eN.mk' s')) (fun e=>some (bk.e kq e))) (Gw s _ _)
theorem DZ:bS Tryz.prog oQ AA:=aZ aM xG af (by kernel_rfl) (df (by kernel_rfl:_= []) ah) [] [0,1,5] [4] eN kq (by kernel_rfl) i4 DY t8 (fT i4) (aQ i4)
def sd {ρ:Type} (a0:List aK) (a1:List aK) (k:Bool×Unit→Option ρ):Option ρ:=
 br (!((a0.length:Int)==(a1.length:Int))) (k (false,())) ((t8 ((a0,a1,0,()),(()),(()))).bind fun e7=>Sum.elim (fun e7_=>k (e7_.1.1,())) (fun e7_=>k (true,())) e7)
def l7 (a0:List aK) (a1:List aK):Option (Bool×Unit):=sd a0 a1 some
theorem Kt {ρ:Type} (a0:List aK) (a1:List aK) (k:Bool×Unit→Option ρ):sd a0 a1 k=(l7 a0 a1).bind k:=by
 simp only [l7,sd,am,bW,Option.bind_assoc,Option.bind_some]
abbrev Gx:bn:=bA [.ty (.ls (.st .entry)), .ty (.ls (.st .entry))] [.b] fun x=>l7 x.1 x.2.1
theorem Om:aD Tryz.prog 25 Gx:=
 al (Λ:=aI [(ca oQ,AA)]) (fn:=Tryz.f25) aM xG af (by kernel_rfl) (aF (by kernel_rfl:_= [oQ]) (aP (q:=ca oQ) rfl DZ fun _ _ _=>by kernel_rfl)) (by kernel_rfl) (fun x=>l7 x.1 x.2.1)
  (fun x=>Eq.trans (by kernel_rfl:_=sd x.1 x.2.1 (fun y=>ret (aE [.b] y) fun v g=>some (v,g))) (Kt x.1 x.2.1 _)) fun _ _ h=>h
abbrev Oo:List (Nat×bn):= [(215,yH),(25,Gx)]
theorem HP:aw Tryz.prog (aJ Oo):=ae Gu <| ae Om <| aj _
def pX {ρ:Type} (a0:ak) (a1:ak) (k:Bool×Unit→Option ρ):Option ρ:=
 br (!(a0.up==a1.up)) (k (false,())) (br (!(a0.intact==a1.intact)) (k (false,())) (br (!(a0.version==a1.version)) (k (false,())) (br (!(a0.epoch==a1.epoch)) (k (false,())) ((kp a0.config a1.config).bind fun y1=>br (!y1.1) (k (false,())) (br (!(a0.first==a1.first)) (k (false,())) ((l7 a0.log a1.log).bind fun y2=>br (!y2.1) (k (false,())) (br (!(a0.commit==a1.commit)) (k (false,())) ((l7 a0.learned a1.learned).bind fun y3=>br (!y3.1) (k (false,())) (k (true,()))))))))))
def l8 (a0:ak) (a1:ak):Option (Bool×Unit):=pX a0 a1 some
theorem Ku {ρ:Type} (a0:ak) (a1:ak) (k:Bool×Unit→Option ρ):pX a0 a1 k=(l8 a0 a1).bind k:=by
 simp only [l8,pX,am,Option.bind_assoc,Option.bind_some]
abbrev Gy:bn:=bA [.ty (.st .server), .ty (.st .server)] [.b] fun x=>l8 x.1 x.2.1
theorem Oq:aD Tryz.prog 145 Gy:=
 al (Λ:=aI []) (fn:=Tryz.f145) aM HP af (by kernel_rfl) (aF (by kernel_rfl:_= []) ah) (by kernel_rfl) (fun x=>l8 x.1 x.2.1)
  (fun x=>Eq.trans (by kernel_rfl:_=pX x.1 x.2.1 (fun y=>ret (aE [.b] y) fun v g=>some (v,g))) (Ku x.1 x.2.1 _)) fun _ _ h=>h
abbrev C3:List (Nat×bn):= [(145,Gy)]
theorem vW:aw Tryz.prog (aJ C3):=ae Oq <| aj _
noncomputable abbrev np:Code:=b9 (bT Tryz.f67) 0
abbrev eb:dN:=⟨[(0, .cl (.ro (.st .server))),(1, .cl (.ro (.st .server))),(5, .cl (.int .i64))],[],[],0,27⟩
abbrev jk:List (X×dN):= [(.ret,⟨[(4, .cl (.bl))],[],[],0,27⟩),(.ext 0,⟨[(4, .cl (.dead))],[],[],0,27⟩)]
def oS {ρ:Type} (v1:List ak) (v2:List ak) (v3:Int) (fn: (((List ak)×(List ak)×Int×Unit)×(Unit)×(Unit))→Option ρ) (fe: ((Bool×Unit)×(Unit)×(Unit))⊕((Unit×Unit)×(Unit)×(Unit))→Option ρ):Option ρ:=
 br (decide (v3 < (v1.length:Int))) (ap (0≤v3) ((v1[v3.toNat]?).bind fun x4=>ap (0≤v3) ((v2[v3.toNat]?).bind fun x5=>(l8 x4 x5).bind fun y6=>br (!y6.1) (fe (.inl ((false,()),(()),(())))) (fn ((v1,v2,(IntKind.wrap .i64 (v3+1)),()),(()),(())))) none) none) (fe (.inr (((),()),(()),(()))))
def gH (s:eb.D):Option (eb.D⊕bk.D jk):=oS s.1.1 s.1.2.1 s.1.2.2.1 (fun s=>some (.inl s)) (fun e=>some (.inr e))
def sH:eb.D→Option (bk.D jk):=jr gH
theorem D0 {ρ:Type} (s:eb.D) (fn:eb.D→Option ρ) (fe:bk.D jk→Option ρ):oS s.1.1 s.1.2.1 s.1.2.2.1 fn fe=(gH s).bind (Sum.elim fn fe):=by
 simp only [gH,oS,am,aq,Option.bind_none,Option.bind_assoc,Option.bind_some,Sum.elim_inl,Sum.elim_inr]
abbrev xH:cL:=cX [] [0,1,5] eb jk sH
theorem B3 (s:eb.D):ei Θ (aJ C3) (aI []) np (eb.mk' s) (cO [0,1,5] [4] fun x S=>some (x,S))=(gH s).bind (Sum.elim (fun s'=>some (.nor,eb.mk' s')) fun e=>some (bk.e jk e)):=
 Eq.trans (by kernel_rfl:_=oS s.1.1 s.1.2.1 s.1.2.2.1 (fun s'=>some (.nor,eb.mk' s')) (fun e=>some (bk.e jk e))) (D0 s _ _)
theorem B4:bS Tryz.prog np xH:=aZ aM vW af (by kernel_rfl) (df (by kernel_rfl:_= []) ah) [] [0,1,5] [4] eb jk (by kernel_rfl) gH B3 sH (fT gH) (aQ gH)
def qC {ρ:Type} (a0:List ak) (a1:List ak) (k:Bool×Unit→Option ρ):Option ρ:=
 br (!((a0.length:Int)==(a1.length:Int))) (k (false,())) ((sH ((a0,a1,0,()),(()),(()))).bind fun e7=>Sum.elim (fun e7_=>k (e7_.1.1,())) (fun e7_=>k (true,())) e7)
def l9 (a0:List ak) (a1:List ak):Option (Bool×Unit):=qC a0 a1 some
theorem HQ {ρ:Type} (a0:List ak) (a1:List ak) (k:Bool×Unit→Option ρ):qC a0 a1 k=(l9 a0 a1).bind k:=by
 simp only [l9,qC,am,bW,Option.bind_assoc,Option.bind_some]
abbrev C4:bn:=bA [.ty (.ls (.st .server)), .ty (.ls (.st .server))] [.b] fun x=>l9 x.1 x.2.1
theorem MN:aD Tryz.prog 67 C4:=
 al (Λ:=aI [(ca np,xH)]) (fn:=Tryz.f67) aM vW af (by kernel_rfl) (aF (by kernel_rfl:_= [np]) (aP (q:=ca np) rfl B4 fun _ _ _=>by kernel_rfl)) (by kernel_rfl) (fun x=>l9 x.1 x.2.1)
  (fun x=>Eq.trans (by kernel_rfl:_=qC x.1 x.2.1 (fun y=>ret (aE [.b] y) fun v g=>some (v,g))) (HQ x.1 x.2.1 _)) fun _ _ h=>h
abbrev C5:List (Nat×bn):= [(215,yH)]
theorem vX:aw Tryz.prog (aJ C5):=ae Gu <| aj _
noncomputable abbrev nq:Code:=b9 (bT Tryz.f146) 0
abbrev ec:dN:=⟨[(0, .cl (.ro (.st .config))),(1, .cl (.ro (.st .config))),(5, .cl (.int .i64))],[],[],0,27⟩
abbrev jl:List (X×dN):= [(.ret,⟨[(4, .cl (.bl))],[],[],0,27⟩),(.ext 0,⟨[(4, .cl (.dead))],[],[],0,27⟩)]
def oT {ρ:Type} (v1:List ai) (v2:List ai) (v3:Int) (fn: (((List ai)×(List ai)×Int×Unit)×(Unit)×(Unit))→Option ρ) (fe: ((Bool×Unit)×(Unit)×(Unit))⊕((Unit×Unit)×(Unit)×(Unit))→Option ρ):Option ρ:=
 br (decide (v3 < (v1.length:Int))) (ap (0≤v3) ((v1[v3.toNat]?).bind fun x4=>ap (0≤v3) ((v2[v3.toNat]?).bind fun x5=>(kp x4 x5).bind fun y6=>br (!y6.1) (fe (.inl ((false,()),(()),(())))) (fn ((v1,v2,(IntKind.wrap .i64 (v3+1)),()),(()),(())))) none) none) (fe (.inr (((),()),(()),(()))))
def gJ (s:ec.D):Option (ec.D⊕bk.D jl):=oT s.1.1 s.1.2.1 s.1.2.2.1 (fun s=>some (.inl s)) (fun e=>some (.inr e))
def sI:ec.D→Option (bk.D jl):=jr gJ
theorem D3 {ρ:Type} (s:ec.D) (fn:ec.D→Option ρ) (fe:bk.D jl→Option ρ):oT s.1.1 s.1.2.1 s.1.2.2.1 fn fe=(gJ s).bind (Sum.elim fn fe):=by
 simp only [gJ,oT,am,aq,Option.bind_none,Option.bind_assoc,Option.bind_some,Sum.elim_inl,Sum.elim_inr]
abbrev xI:cL:=cX [] [0,1,5] ec jl sI
theorem B5 (s:ec.D):ei Θ (aJ C5) (aI []) nq (ec.mk' s) (cO [0,1,5] [4] fun x S=>some (x,S))=(gJ s).bind (Sum.elim (fun s'=>some (.nor,ec.mk' s')) fun e=>some (bk.e jl e)):=
 Eq.trans (by kernel_rfl:_=oT s.1.1 s.1.2.1 s.1.2.2.1 (fun s'=>some (.nor,ec.mk' s')) (fun e=>some (bk.e jl e))) (D3 s _ _)
theorem B6:bS Tryz.prog nq xI:=aZ aM vX af (by kernel_rfl) (df (by kernel_rfl:_= []) ah) [] [0,1,5] [4] ec jl (by kernel_rfl) gJ B5 sI (fT gJ) (aQ gJ)
def qD {ρ:Type} (a0:List ai) (a1:List ai) (k:Bool×Unit→Option ρ):Option ρ:=
 br (!((a0.length:Int)==(a1.length:Int))) (k (false,())) ((sI ((a0,a1,0,()),(()),(()))).bind fun e7=>Sum.elim (fun e7_=>k (e7_.1.1,())) (fun e7_=>k (true,())) e7)
def ma (a0:List ai) (a1:List ai):Option (Bool×Unit):=qD a0 a1 some
theorem HS {ρ:Type} (a0:List ai) (a1:List ai) (k:Bool×Unit→Option ρ):qD a0 a1 k=(ma a0 a1).bind k:=by
 simp only [ma,qD,am,bW,Option.bind_assoc,Option.bind_some]
abbrev C6:bn:=bA [.ty (.ls (.st .config)), .ty (.ls (.st .config))] [.b] fun x=>ma x.1 x.2.1
theorem MO:aD Tryz.prog 146 C6:=
 al (Λ:=aI [(ca nq,xI)]) (fn:=Tryz.f146) aM vX af (by kernel_rfl) (aF (by kernel_rfl:_= [nq]) (aP (q:=ca nq) rfl B6 fun _ _ _=>by kernel_rfl)) (by kernel_rfl) (fun x=>ma x.1 x.2.1)
  (fun x=>Eq.trans (by kernel_rfl:_=qD x.1 x.2.1 (fun y=>ret (aE [.b] y) fun v g=>some (v,g))) (HS x.1 x.2.1 _)) fun _ _ h=>h
abbrev HT:List (Nat×bn):= [(146,C6)]
theorem B7:aw Tryz.prog (aJ HT):=ae MO <| aj _
def mb {ρ:Type} (a0:an) (a1:an) (k:Bool×Unit→Option ρ):Option ρ:=
 (ma a0.configs a1.configs).bind fun y1=>br (!y1.1) (k (false,())) (br (!(a0.activated==a1.activated)) (k (false,())) (k (true,())))
def jm (a0:an) (a1:an):Option (Bool×Unit):=mb a0 a1 some
theorem D4 {ρ:Type} (a0:an) (a1:an) (k:Bool×Unit→Option ρ):mb a0 a1 k=(jm a0 a1).bind k:=by
 simp only [jm,mb,am,Option.bind_assoc,Option.bind_some]
abbrev xJ:bn:=bA [.ty (.st .masterLog), .ty (.st .masterLog)] [.b] fun x=>jm x.1 x.2.1
theorem HU:aD Tryz.prog 68 xJ:=
 al (Λ:=aI []) (fn:=Tryz.f68) aM B7 af (by kernel_rfl) (aF (by kernel_rfl:_= []) ah) (by kernel_rfl) (fun x=>jm x.1 x.2.1)
  (fun x=>Eq.trans (by kernel_rfl:_=mb x.1 x.2.1 (fun y=>ret (aE [.b] y) fun v g=>some (v,g))) (D4 x.1 x.2.1 _)) fun _ _ h=>h
abbrev Qp:List (Nat×bn):= []
theorem Kv:aw Tryz.prog (aJ Qp):=aj _
def rp {ρ:Type} (a0:jC) (a1:jC) (k:Bool×Unit→Option ρ):Option ρ:=
 br (!(a0.epoch==a1.epoch)) (k (false,())) (br (!(a0.holder==a1.holder)) (k (false,())) (br (!(a0.ends==a1.ends)) (k (false,())) (k (true,()))))
def pt (a0:jC) (a1:jC):Option (Bool×Unit):=rp a0 a1 some
theorem MP {ρ:Type} (a0:jC) (a1:jC) (k:Bool×Unit→Option ρ):rp a0 a1 k=(pt a0 a1).bind k:=by
 simp only [pt,rp,am,Option.bind_some]
abbrev IR:bn:=bA [.ty (.st .lease), .ty (.st .lease)] [.b] fun x=>pt x.1 x.2.1
theorem Qq:aD Tryz.prog 69 IR:=
 al (Λ:=aI []) (fn:=Tryz.f69) aM Kv af (by kernel_rfl) (aF (by kernel_rfl:_= []) ah) (by kernel_rfl) (fun x=>pt x.1 x.2.1)
  (fun x=>Eq.trans (by kernel_rfl:_=rp x.1 x.2.1 (fun y=>ret (aE [.b] y) fun v g=>some (v,g))) (MP x.1 x.2.1 _)) fun _ _ h=>h
abbrev Qr:List (Nat×bn):= []
theorem Kw:aw Tryz.prog (aJ Qr):=aj _
def rq {ρ:Type} (a0:aU) (a1:aU) (k:Bool×Unit→Option ρ):Option ρ:=
 br (!(a0.rack==a1.rack)) (k (false,())) (br (!(a0.capacity==a1.capacity)) (k (false,())) (br (!(a0.load==a1.load)) (k (false,())) (k (true,()))))
def n0 (a0:aU) (a1:aU):Option (Bool×Unit):=rq a0 a1 some
theorem MQ {ρ:Type} (a0:aU) (a1:aU) (k:Bool×Unit→Option ρ):rq a0 a1 k=(n0 a0 a1).bind k:=by
 simp only [n0,rq,am,Option.bind_some]
abbrev IT:bn:=bA [.ty (.st .place), .ty (.st .place)] [.b] fun x=>n0 x.1 x.2.1
theorem Qs:aD Tryz.prog 147 IT:=
 al (Λ:=aI []) (fn:=Tryz.f147) aM Kw af (by kernel_rfl) (aF (by kernel_rfl:_= []) ah) (by kernel_rfl) (fun x=>n0 x.1 x.2.1)
  (fun x=>Eq.trans (by kernel_rfl:_=rq x.1 x.2.1 (fun y=>ret (aE [.b] y) fun v g=>some (v,g))) (MQ x.1 x.2.1 _)) fun _ _ h=>h
abbrev Gz:List (Nat×bn):= [(147,IT)]
theorem xK:aw Tryz.prog (aJ Gz):=ae Qs <| aj _
noncomputable abbrev oU:Code:=b9 (bT Tryz.f70) 0
abbrev eO:dN:=⟨[(0, .cl (.ro (.st .place))),(1, .cl (.ro (.st .place))),(5, .cl (.int .i64))],[],[],0,27⟩
abbrev kr:List (X×dN):= [(.ret,⟨[(4, .cl (.bl))],[],[],0,27⟩),(.ext 0,⟨[(4, .cl (.dead))],[],[],0,27⟩)]
def pB {ρ:Type} (v1:List aU) (v2:List aU) (v3:Int) (fn: (((List aU)×(List aU)×Int×Unit)×(Unit)×(Unit))→Option ρ) (fe: ((Bool×Unit)×(Unit)×(Unit))⊕((Unit×Unit)×(Unit)×(Unit))→Option ρ):Option ρ:=
 br (decide (v3 < (v1.length:Int))) (ap (0≤v3) ((v1[v3.toNat]?).bind fun x4=>ap (0≤v3) ((v2[v3.toNat]?).bind fun x5=>(n0 x4 x5).bind fun y6=>br (!y6.1) (fe (.inl ((false,()),(()),(())))) (fn ((v1,v2,(IntKind.wrap .i64 (v3+1)),()),(()),(())))) none) none) (fe (.inr (((),()),(()),(()))))
def i5 (s:eO.D):Option (eO.D⊕bk.D kr):=pB s.1.1 s.1.2.1 s.1.2.2.1 (fun s=>some (.inl s)) (fun e=>some (.inr e))
def t9:eO.D→Option (bk.D kr):=jr i5
theorem GA {ρ:Type} (s:eO.D) (fn:eO.D→Option ρ) (fe:bk.D kr→Option ρ):pB s.1.1 s.1.2.1 s.1.2.2.1 fn fe=(i5 s).bind (Sum.elim fn fe):=by
 simp only [i5,pB,am,aq,Option.bind_none,Option.bind_assoc,Option.bind_some,Sum.elim_inl,Sum.elim_inr]
abbrev AB:cL:=cX [] [0,1,5] eO kr t9
theorem D5 (s:eO.D):ei Θ (aJ Gz) (aI []) oU (eO.mk' s) (cO [0,1,5] [4] fun x S=>some (x,S))=(i5 s).bind (Sum.elim (fun s'=>some (.nor,eO.mk' s')) fun e=>some (bk.e kr e)):=
 Eq.trans (by kernel_rfl:_=pB s.1.1 s.1.2.1 s.1.2.2.1 (fun s'=>some (.nor,eO.mk' s')) (fun e=>some (bk.e kr e))) (GA s _ _)
theorem D6:bS Tryz.prog oU AB:=aZ aM xK af (by kernel_rfl) (df (by kernel_rfl:_= []) ah) [] [0,1,5] [4] eO kr (by kernel_rfl) i5 D5 t9 (fT i5) (aQ i5)
def se {ρ:Type} (a0:List aU) (a1:List aU) (k:Bool×Unit→Option ρ):Option ρ:=
 br (!((a0.length:Int)==(a1.length:Int))) (k (false,())) ((t9 ((a0,a1,0,()),(()),(()))).bind fun e7=>Sum.elim (fun e7_=>k (e7_.1.1,())) (fun e7_=>k (true,())) e7)
def nL (a0:List aU) (a1:List aU):Option (Bool×Unit):=se a0 a1 some
theorem Kx {ρ:Type} (a0:List aU) (a1:List aU) (k:Bool×Unit→Option ρ):se a0 a1 k=(nL a0 a1).bind k:=by
 simp only [nL,se,am,bW,Option.bind_assoc,Option.bind_some]
abbrev GB:bn:=bA [.ty (.ls (.st .place)), .ty (.ls (.st .place))] [.b] fun x=>nL x.1 x.2.1
theorem Ot:aD Tryz.prog 70 GB:=
 al (Λ:=aI [(ca oU,AB)]) (fn:=Tryz.f70) aM xK af (by kernel_rfl) (aF (by kernel_rfl:_= [oU]) (aP (q:=ca oU) rfl D6 fun _ _ _=>by kernel_rfl)) (by kernel_rfl) (fun x=>nL x.1 x.2.1)
  (fun x=>Eq.trans (by kernel_rfl:_=se x.1 x.2.1 (fun y=>ret (aE [.b] y) fun v g=>some (v,g))) (Kx x.1 x.2.1 _)) fun _ _ h=>h
abbrev MR:List (Nat×bn):= [(67,C4),(19,Gt),(68,xJ),(69,IR),(70,GB)]
theorem GC:aw Tryz.prog (aJ MR):=ae MN <| ae ML <| ae HU <| ae Qq <| ae Ot <| aj _
def oV {ρ:Type} (a0:ao) (a1:ao) (k:Bool×Unit→Option ρ):Option ρ:=
 br (!(a0.now==a1.now)) (k (false,())) ((l9 a0.servers a1.servers).bind fun y1=>br (!y1.1) (k (false,())) ((oP a0.sides a1.sides).bind fun y2=>br (!y2.1) (k (false,())) ((jm a0.master a1.master).bind fun y3=>br (!y3.1) (k (false,())) (br (!(a0.masterUp==a1.masterUp)) (k (false,())) ((pt a0.lease a1.lease).bind fun y4=>br (!y4.1) (k (false,())) ((nL a0.places a1.places).bind fun y5=>br (!y5.1) (k (false,())) (k (true,()))))))))
def dL (a0:ao) (a1:ao):Option (Bool×Unit):=oV a0 a1 some
theorem HV {ρ:Type} (a0:ao) (a1:ao) (k:Bool×Unit→Option ρ):oV a0 a1 k=(dL a0 a1).bind k:=by
 simp only [dL,oV,am,Option.bind_assoc,Option.bind_some]
abbrev C7:bn:=bA [.ty (.st .cluster), .ty (.st .cluster)] [.b] fun x=>dL x.1 x.2.1
theorem MS:aD Tryz.prog 16 C7:=
 al (Λ:=aI []) (fn:=Tryz.f16) aM GC af (by kernel_rfl) (aF (by kernel_rfl:_= []) ah) (by kernel_rfl) (fun x=>dL x.1 x.2.1)
  (fun x=>Eq.trans (by kernel_rfl:_=oV x.1 x.2.1 (fun y=>ret (aE [.b] y) fun v g=>some (v,g))) (HV x.1 x.2.1 _)) fun _ _ h=>h
abbrev xL:List (Nat×bn):= []
theorem tw:aw Tryz.prog (aJ xL):=aj _
noncomputable abbrev kI:Code:=b9 (bT Tryz.f21) 0
abbrev c7:dN:=⟨[(0, .cl (.own 0 (.i .i64))),(1, .cl (.int .i64)),(5, .cl (.int .i64))],[],[.i .i64],1,19⟩
abbrev gg:List (X×dN):= [(.ext 0,⟨[(1, .cl (.int .i64))],[],[.i .i64],1,19⟩)]
def gR {ρ:Type} (v1:List Int) (v2:Int) (v3:Int) (fn: ((Unit×Int×Int×Unit)×(Unit)×((List Int)×Unit))→Option ρ) (fe: ((Int×Unit)×(Unit)×((List Int)×Unit))→Option ρ):Option ρ:=
 br (decide (v3 < (v1.length:Int))) (ap (0≤v3∧v3 < (v1.length:Int)) ((v1[v3.toNat]?).bind fun _=>fn (((),(IntKind.wrap .i64 (v2+1)),(IntKind.wrap .i64 (v3+1)),()),(()),((v1.set v3.toNat v2),()))) none) (fe ((v2,()),(()),(v1,())))
def dE (s:c7.D):Option (c7.D⊕bk.D gg):=gR s.2.2.1 s.1.2.1 s.1.2.2.1 (fun s=>some (.inl s)) (fun e=>some (.inr e))
def qa:c7.D→Option (bk.D gg):=jr dE
theorem AD {ρ:Type} (s:c7.D) (fn:c7.D→Option ρ) (fe:bk.D gg→Option ρ):gR s.2.2.1 s.1.2.1 s.1.2.2.1 fn fe=(dE s).bind (Sum.elim fn fe):=by
 simp only [dE,gR,am,aq,Option.bind_none,Option.bind_assoc,Option.bind_some,Sum.elim_inl,Sum.elim_inr]
abbrev uL:cL:=cX [] [0,1,5] c7 gg qa
theorem yJ (s:c7.D):ei Θ (aJ xL) (aI []) kI (c7.mk' s) (cO [0,1,5] [1] fun x S=>some (x,S))=(dE s).bind (Sum.elim (fun s'=>some (.nor,c7.mk' s')) fun e=>some (bk.e gg e)):=
 Eq.trans (by kernel_rfl:_=gR s.2.2.1 s.1.2.1 s.1.2.2.1 (fun s'=>some (.nor,c7.mk' s')) (fun e=>some (bk.e gg e))) (AD s _ _)
theorem yK:bS Tryz.prog kI uL:=aZ aM tw af (by kernel_rfl) (df (by kernel_rfl:_= []) ah) [] [0,1,5] [1] c7 gg (by kernel_rfl) dE yJ qa (fT dE) (aQ dE)
def oW {ρ:Type} (a0:List Int) (a1:Int) (k: (List Int)×Int×Unit→Option ρ):Option ρ:=
 (qa (((),a1,0,()),(()),(a0,()))).bind fun e6=>k (e6.2.2.1,e6.1.1,())
def ed (a0:List Int) (a1:Int):Option ((List Int)×Int×Unit):=oW a0 a1 some
theorem D7 {ρ:Type} (a0:List Int) (a1:Int) (k: (List Int)×Int×Unit→Option ρ):oW a0 a1 k=(ed a0 a1).bind k:=by
 simp only [ed,oW,Option.bind_assoc,Option.bind_some]
abbrev pC:bn:=G7 (.i .i64) [.ty (.i .i64)] [.i .i64] fun l x=>ed l x.1
theorem sJ:aD Tryz.prog (mB 21) pC:=
 rL (Λ:=aI [(ca kI,uL)]) (fn:=Tryz.f21) aM tw af (by kernel_rfl) (aF (by kernel_rfl:_= [kI]) (aP (q:=ca kI) rfl yK fun _ _ _=>by kernel_rfl)) (by kernel_rfl) (fun l x=>ed l x.1)
  (fun l x=>Eq.trans (by kernel_rfl:_=oW l x.1 (fun y=>G6 (.i .i64) [.i .i64] y fun v g=>some (v,g))) (D7 l x.1 _)) fun _ _ _ h=>h
abbrev uM:List (Nat×bn):= []
theorem rr:aw Tryz.prog (aJ uM):=aj _
noncomputable abbrev i6:Code:=b9 (bT Tryz.f26) 0
abbrev cy:dN:=⟨[(0, .cl (.own 0 (.st .entry))),(1, .cl (.int .i64)),(5, .cl (.int .i64))],[],[.st .entry],1,68⟩
abbrev eP:List (X×dN):= [(.ext 0,⟨[(1, .cl (.int .i64))],[],[.st .entry],1,68⟩)]
def ft {ρ:Type} (v1:List aK) (v2:Int) (v3:Int) (fn: ((Unit×Int×Int×Unit)×(Unit)×((List aK)×Unit))→Option ρ) (fe: ((Int×Unit)×(Unit)×((List aK)×Unit))→Option ρ):Option ρ:=
 br (decide (v3 < (v1.length:Int))) (ap (0≤v3∧v3 < (v1.length:Int)) ((v1[v3.toNat]?).bind fun x4=>let z5:=v1.set v3.toNat (⟨v2,x4.op⟩:aK); ap (0≤v3∧v3 < (z5.length:Int)) ((z5[v3.toNat]?).bind fun x6=>let z7:=z5.set v3.toNat (⟨x6.epoch,(⟨(IntKind.wrap .i64 (v2+1)),x6.op.seq,x6.op.kind,x6.op.object,x6.op.old,x6.op.value⟩:Op)⟩:aK); ap (0≤v3∧v3 < (z7.length:Int)) ((z7[v3.toNat]?).bind fun x8=>let z9:=z7.set v3.toNat (⟨x8.epoch,(⟨x8.op.client,(IntKind.wrap .i64 ((IntKind.wrap .i64 (v2+1))+1)),x8.op.kind,x8.op.object,x8.op.old,x8.op.value⟩:Op)⟩:aK); ap (0≤v3∧v3 < (z9.length:Int)) ((z9[v3.toNat]?).bind fun x10=>let z11:=z9.set v3.toNat (⟨x10.epoch,(⟨x10.op.client,x10.op.seq,(IntKind.wrap .i64 ((IntKind.wrap .i64 ((IntKind.wrap .i64 (v2+1))+1))+1)),x10.op.object,x10.op.old,x10.op.value⟩:Op)⟩:aK); ap (0≤v3∧v3 < (z11.length:Int)) ((z11[v3.toNat]?).bind fun x12=>let z13:=z11.set v3.toNat (⟨x12.epoch,(⟨x12.op.client,x12.op.seq,x12.op.kind,(IntKind.wrap .i64 ((IntKind.wrap .i64 ((IntKind.wrap .i64 ((IntKind.wrap .i64 (v2+1))+1))+1))+1)),x12.op.old,x12.op.value⟩:Op)⟩:aK); ap (0≤v3∧v3 < (z13.length:Int)) ((z13[v3.toNat]?).bind fun x14=>let z15:=z13.set v3.toNat (⟨x14.epoch,(⟨x14.op.client,x14.op.seq,x14.op.kind,x14.op.object,(IntKind.wrap .i64 ((IntKind.wrap .i64 ((IntKind.wrap .i64 ((IntKind.wrap .i64 ((IntKind.wrap .i64 (v2+1))+1))+1))+1))+1)),x14.op.value⟩:Op)⟩:aK); ap (0≤v3∧v3 < (z15.length:Int)) ((z15[v3.toNat]?).bind fun x16=>fn (((),(IntKind.wrap .i64 ((IntKind.wrap .i64 ((IntKind.wrap .i64 ((IntKind.wrap .i64 ((IntKind.wrap .i64 ((IntKind.wrap .i64 ((IntKind.wrap .i64 (v2+1))+1))+1))+1))+1))+1))+1)),(IntKind.wrap .i64 (v3+1)),()),(()),((z15.set v3.toNat (⟨x16.epoch,(⟨x16.op.client,x16.op.seq,x16.op.kind,x16.op.object,x16.op.old,(IntKind.wrap .i64 ((IntKind.wrap .i64 ((IntKind.wrap .i64 ((IntKind.wrap .i64 ((IntKind.wrap .i64 ((IntKind.wrap .i64 (v2+1))+1))+1))+1))+1))+1))⟩:Op)⟩:aK)),()))) none) none) none) none) none) none) none) (fe ((v2,()),(()),(v1,())))
def cQ (s:cy.D):Option (cy.D⊕bk.D eP):=ft s.2.2.1 s.1.2.1 s.1.2.2.1 (fun s=>some (.inl s)) (fun e=>some (.inr e))
def oX:cy.D→Option (bk.D eP):=jr cQ
theorem w4 {ρ:Type} (s:cy.D) (fn:cy.D→Option ρ) (fe:bk.D eP→Option ρ):ft s.2.2.1 s.1.2.1 s.1.2.2.1 fn fe=(cQ s).bind (Sum.elim fn fe):=by
 simp only [cQ,ft,am,aq,Option.bind_none,Option.bind_assoc,Option.bind_some,Sum.elim_inl,Sum.elim_inr]
abbrev sf:cL:=cX [] [0,1,5] cy eP oX
theorem vY (s:cy.D):ei Θ (aJ uM) (aI []) i6 (cy.mk' s) (cO [0,1,5] [1] fun x S=>some (x,S))=(cQ s).bind (Sum.elim (fun s'=>some (.nor,cy.mk' s')) fun e=>some (bk.e eP e)):=
 Eq.trans (by kernel_rfl:_=ft s.2.2.1 s.1.2.1 s.1.2.2.1 (fun s'=>some (.nor,cy.mk' s')) (fun e=>some (bk.e eP e))) (w4 s _ _)
theorem vZ:bS Tryz.prog i6 sf:=aZ aM rr af (by kernel_rfl) (df (by kernel_rfl:_= []) ah) [] [0,1,5] [1] cy eP (by kernel_rfl) cQ vY oX (fT cQ) (aQ cQ)
def mt {ρ:Type} (a0:List aK) (a1:Int) (k: (List aK)×Int×Unit→Option ρ):Option ρ:=
 (oX (((),a1,0,()),(()),(a0,()))).bind fun e18=>k (e18.2.2.1,e18.1.1,())
def fb (a0:List aK) (a1:Int):Option ((List aK)×Int×Unit):=mt a0 a1 some
theorem AE {ρ:Type} (a0:List aK) (a1:Int) (k: (List aK)×Int×Unit→Option ρ):mt a0 a1 k=(fb a0 a1).bind k:=by
 simp only [fb,mt,Option.bind_assoc,Option.bind_some]
abbrev uN:bn:=G7 (.st .entry) [.ty (.i .i64)] [.i .i64] fun l x=>fb l x.1
theorem D8:aD Tryz.prog (mB 26) uN:=
 rL (Λ:=aI [(ca i6,sf)]) (fn:=Tryz.f26) aM rr af (by kernel_rfl) (aF (by kernel_rfl:_= [i6]) (aP (q:=ca i6) rfl vZ fun _ _ _=>by kernel_rfl)) (by kernel_rfl) (fun l x=>fb l x.1)
  (fun l x=>Eq.trans (by kernel_rfl:_=mt l x.1 (fun y=>G6 (.st .entry) [.i .i64] y fun v g=>some (v,g))) (AE l x.1 _)) fun _ _ _ h=>h
abbrev tz:List (Nat×bn):= [(mB 21,pC),(mB 26,uN)]
theorem qn:aw Tryz.prog (aJ tz):=ae sJ <| ae D8 <| aj _
noncomputable abbrev ip:Code:=b9 (bT Tryz.f76) 0
abbrev cn:dN:=⟨[(0, .cl (.own 0 (.st .server))),(1, .cl (.int .i64)),(5, .cl (.int .i64))],[],[.st .server],1,105⟩
abbrev eo:List (X×dN):= [(.ext 0,⟨[(1, .cl (.int .i64))],[],[.st .server],1,105⟩)]
def eV {ρ:Type} (v1:List ak) (v2:Int) (v3:Int) (fn: ((Unit×Int×Int×Unit)×(Unit)×((List ak)×Unit))→Option ρ) (fe: ((Int×Unit)×(Unit)×((List ak)×Unit))→Option ρ):Option ρ:=
 br (decide (v3 < (v1.length:Int))) (ap (0≤v3∧v3 < (v1.length:Int)) ((v1[v3.toNat]?).bind fun x4=>let z5:=v1.set v3.toNat (⟨((Int.tmod v2 3)==0),x4.intact,x4.version,x4.epoch,x4.config,x4.first,x4.log,x4.commit,x4.learned⟩:ak); ap (0≤v3∧v3 < (z5.length:Int)) ((z5[v3.toNat]?).bind fun x6=>let z7:=z5.set v3.toNat (⟨x6.up,((Int.tmod (IntKind.wrap .i64 (v2+1)) 3)==0),x6.version,x6.epoch,x6.config,x6.first,x6.log,x6.commit,x6.learned⟩:ak); ap (0≤v3∧v3 < (z7.length:Int)) ((z7[v3.toNat]?).bind fun x8=>let z9:=z7.set v3.toNat (⟨x8.up,x8.intact,(IntKind.wrap .i64 ((IntKind.wrap .i64 (v2+1))+1)),x8.epoch,x8.config,x8.first,x8.log,x8.commit,x8.learned⟩:ak); ap (0≤v3∧v3 < (z9.length:Int)) ((z9[v3.toNat]?).bind fun x10=>let z11:=z9.set v3.toNat (⟨x10.up,x10.intact,x10.version,(IntKind.wrap .i64 ((IntKind.wrap .i64 ((IntKind.wrap .i64 (v2+1))+1))+1)),x10.config,x10.first,x10.log,x10.commit,x10.learned⟩:ak); ap (0≤v3∧v3 < (z11.length:Int)) ((z11[v3.toNat]?).bind fun x12=>let z13:=z11.set v3.toNat (⟨x12.up,x12.intact,x12.version,x12.epoch,(⟨(IntKind.wrap .i64 ((IntKind.wrap .i64 ((IntKind.wrap .i64 ((IntKind.wrap .i64 (v2+1))+1))+1))+1)),x12.config.primary,x12.config.replicas,x12.config.witnesses⟩:ai),x12.first,x12.log,x12.commit,x12.learned⟩:ak); ap (0≤v3∧v3 < (z13.length:Int)) ((z13[v3.toNat]?).bind fun x14=>let z15:=z13.set v3.toNat (⟨x14.up,x14.intact,x14.version,x14.epoch,(⟨x14.config.epoch,(IntKind.wrap .i64 ((IntKind.wrap .i64 ((IntKind.wrap .i64 ((IntKind.wrap .i64 ((IntKind.wrap .i64 (v2+1))+1))+1))+1))+1)),x14.config.replicas,x14.config.witnesses⟩:ai),x14.first,x14.log,x14.commit,x14.learned⟩:ak); ap (0≤v3∧v3 < (z15.length:Int)) ((z15[v3.toNat]?).bind fun x16=>(z15[v3.toNat]?).bind fun x17=>ap ((0:Nat)=0∧x16.config.replicas.length=x17.config.replicas.length) ((ed x17.config.replicas (IntKind.wrap .i64 ((IntKind.wrap .i64 ((IntKind.wrap .i64 ((IntKind.wrap .i64 ((IntKind.wrap .i64 ((IntKind.wrap .i64 (v2+1))+1))+1))+1))+1))+1))).bind fun y18=>ap (y18.1.length=x17.config.replicas.length) (let z19:=z15.set v3.toNat (⟨x17.up,x17.intact,x17.version,x17.epoch,(⟨x17.config.epoch,x17.config.primary,y18.1,x17.config.witnesses⟩:ai),x17.first,x17.log,x17.commit,x17.learned⟩:ak); ap (0≤v3∧v3 < (z19.length:Int)) ((z19[v3.toNat]?).bind fun x20=>(z19[v3.toNat]?).bind fun x21=>ap ((0:Nat)=0∧x20.config.witnesses.length=x21.config.witnesses.length) ((ed x21.config.witnesses y18.2.1).bind fun y22=>ap (y22.1.length=x21.config.witnesses.length) (let z23:=z19.set v3.toNat (⟨x21.up,x21.intact,x21.version,x21.epoch,(⟨x21.config.epoch,x21.config.primary,x21.config.replicas,y22.1⟩:ai),x21.first,x21.log,x21.commit,x21.learned⟩:ak); ap (0≤v3∧v3 < (z23.length:Int)) ((z23[v3.toNat]?).bind fun x24=>let z25:=z23.set v3.toNat (⟨x24.up,x24.intact,x24.version,x24.epoch,x24.config,y22.2.1,x24.log,x24.commit,x24.learned⟩:ak); ap (0≤v3∧v3 < (z25.length:Int)) ((z25[v3.toNat]?).bind fun x26=>(z25[v3.toNat]?).bind fun x27=>ap ((0:Nat)=0∧x26.log.length=x27.log.length) ((fb x27.log (IntKind.wrap .i64 (y22.2.1+1))).bind fun y28=>ap (y28.1.length=x27.log.length) (let z29:=z25.set v3.toNat (⟨x27.up,x27.intact,x27.version,x27.epoch,x27.config,x27.first,y28.1,x27.commit,x27.learned⟩:ak); ap (0≤v3∧v3 < (z29.length:Int)) ((z29[v3.toNat]?).bind fun x30=>let z31:=z29.set v3.toNat (⟨x30.up,x30.intact,x30.version,x30.epoch,x30.config,x30.first,x30.log,y28.2.1,x30.learned⟩:ak); ap (0≤v3∧v3 < (z31.length:Int)) ((z31[v3.toNat]?).bind fun x32=>(z31[v3.toNat]?).bind fun x33=>ap ((0:Nat)=0∧x32.learned.length=x33.learned.length) ((fb x33.learned (IntKind.wrap .i64 (y28.2.1+1))).bind fun y34=>ap (y34.1.length=x33.learned.length) (fn (((),y34.2.1,(IntKind.wrap .i64 (v3+1)),()),(()),((z31.set v3.toNat (⟨x33.up,x33.intact,x33.version,x33.epoch,x33.config,x33.first,x33.log,x33.commit,y34.1⟩:ak)),()))) none) none) none) none) none) none) none) none) none) none) none) none) none) none) none) none) none) none) none) none) (fe ((v2,()),(()),(v1,())))
def cD (s:cn.D):Option (cn.D⊕bk.D eo):=eV s.2.2.1 s.1.2.1 s.1.2.2.1 (fun s=>some (.inl s)) (fun e=>some (.inr e))
def nM:cn.D→Option (bk.D eo):=jr cD
theorem wb {ρ:Type} (s:cn.D) (fn:cn.D→Option ρ) (fe:bk.D eo→Option ρ):eV s.2.2.1 s.1.2.1 s.1.2.2.1 fn fe=(cD s).bind (Sum.elim fn fe):=by
 simp only [cD,eV,am,aq,Option.bind_none,Option.bind_assoc,Option.bind_some,Sum.elim_inl,Sum.elim_inr]
abbrev rt:cL:=cX [] [0,1,5] cn eo nM
theorem u3 (s:cn.D):ei Θ (aJ tz) (aI []) ip (cn.mk' s) (cO [0,1,5] [1] fun x S=>some (x,S))=(cD s).bind (Sum.elim (fun s'=>some (.nor,cn.mk' s')) fun e=>some (bk.e eo e)):=
 Eq.trans (by kernel_rfl:_=eV s.2.2.1 s.1.2.1 s.1.2.2.1 (fun s'=>some (.nor,cn.mk' s')) (fun e=>some (bk.e eo e))) (wb s _ _)
theorem u4:bS Tryz.prog ip rt:=aZ aM qn af (by kernel_rfl) (df (by kernel_rfl:_= []) ah) [] [0,1,5] [1] cn eo (by kernel_rfl) cD u3 nM (fT cD) (aQ cD)
def la {ρ:Type} (a0:List ak) (a1:Int) (k: (List ak)×Int×Unit→Option ρ):Option ρ:=
 (nM (((),a1,0,()),(()),(a0,()))).bind fun e36=>k (e36.2.2.1,e36.1.1,())
def fu (a0:List ak) (a1:Int):Option ((List ak)×Int×Unit):=la a0 a1 some
theorem yL {ρ:Type} (a0:List ak) (a1:Int) (k: (List ak)×Int×Unit→Option ρ):la a0 a1 k=(fu a0 a1).bind k:=by
 simp only [fu,la,Option.bind_assoc,Option.bind_some]
abbrev tA:bn:=G7 (.st .server) [.ty (.i .i64)] [.i .i64] fun l x=>fu l x.1
theorem B8:aD Tryz.prog (mB 76) tA:=
 rL (Λ:=aI [(ca ip,rt)]) (fn:=Tryz.f76) aM qn af (by kernel_rfl) (aF (by kernel_rfl:_= [ip]) (aP (q:=ca ip) rfl u4 fun _ _ _=>by kernel_rfl)) (by kernel_rfl) (fun l x=>fu l x.1)
  (fun l x=>Eq.trans (by kernel_rfl:_=la l x.1 (fun y=>G6 (.st .server) [.i .i64] y fun v g=>some (v,g))) (yL l x.1 _)) fun _ _ _ h=>h
abbrev tB:List (Nat×bn):= [(mB 21,pC)]
theorem qo:aw Tryz.prog (aJ tB):=ae sJ <| aj _
noncomputable abbrev iq:Code:=b9 (bT Tryz.f152) 0
abbrev co:dN:=⟨[(0, .cl (.own 0 (.st .config))),(1, .cl (.int .i64)),(5, .cl (.int .i64))],[],[.st .config],1,41⟩
abbrev ep:List (X×dN):= [(.ext 0,⟨[(1, .cl (.int .i64))],[],[.st .config],1,41⟩)]
def eW {ρ:Type} (v1:List ai) (v2:Int) (v3:Int) (fn: ((Unit×Int×Int×Unit)×(Unit)×((List ai)×Unit))→Option ρ) (fe: ((Int×Unit)×(Unit)×((List ai)×Unit))→Option ρ):Option ρ:=
 br (decide (v3 < (v1.length:Int))) (ap (0≤v3∧v3 < (v1.length:Int)) ((v1[v3.toNat]?).bind fun x4=>let z5:=v1.set v3.toNat (⟨v2,x4.primary,x4.replicas,x4.witnesses⟩:ai); ap (0≤v3∧v3 < (z5.length:Int)) ((z5[v3.toNat]?).bind fun x6=>let z7:=z5.set v3.toNat (⟨x6.epoch,(IntKind.wrap .i64 (v2+1)),x6.replicas,x6.witnesses⟩:ai); ap (0≤v3∧v3 < (z7.length:Int)) ((z7[v3.toNat]?).bind fun x8=>(z7[v3.toNat]?).bind fun x9=>ap ((0:Nat)=0∧x8.replicas.length=x9.replicas.length) ((ed x9.replicas (IntKind.wrap .i64 ((IntKind.wrap .i64 (v2+1))+1))).bind fun y10=>ap (y10.1.length=x9.replicas.length) (let z11:=z7.set v3.toNat (⟨x9.epoch,x9.primary,y10.1,x9.witnesses⟩:ai); ap (0≤v3∧v3 < (z11.length:Int)) ((z11[v3.toNat]?).bind fun x12=>(z11[v3.toNat]?).bind fun x13=>ap ((0:Nat)=0∧x12.witnesses.length=x13.witnesses.length) ((ed x13.witnesses y10.2.1).bind fun y14=>ap (y14.1.length=x13.witnesses.length) (fn (((),y14.2.1,(IntKind.wrap .i64 (v3+1)),()),(()),((z11.set v3.toNat (⟨x13.epoch,x13.primary,x13.replicas,y14.1⟩:ai)),()))) none) none) none) none) none) none) none) none) (fe ((v2,()),(()),(v1,())))
def cE (s:co.D):Option (co.D⊕bk.D ep):=eW s.2.2.1 s.1.2.1 s.1.2.2.1 (fun s=>some (.inl s)) (fun e=>some (.inr e))
def nN:co.D→Option (bk.D ep):=jr cE
theorem wc {ρ:Type} (s:co.D) (fn:co.D→Option ρ) (fe:bk.D ep→Option ρ):eW s.2.2.1 s.1.2.1 s.1.2.2.1 fn fe=(cE s).bind (Sum.elim fn fe):=by
 simp only [cE,eW,am,aq,Option.bind_none,Option.bind_assoc,Option.bind_some,Sum.elim_inl,Sum.elim_inr]
abbrev ru:cL:=cX [] [0,1,5] co ep nN
theorem u5 (s:co.D):ei Θ (aJ tB) (aI []) iq (co.mk' s) (cO [0,1,5] [1] fun x S=>some (x,S))=(cE s).bind (Sum.elim (fun s'=>some (.nor,co.mk' s')) fun e=>some (bk.e ep e)):=
 Eq.trans (by kernel_rfl:_=eW s.2.2.1 s.1.2.1 s.1.2.2.1 (fun s'=>some (.nor,co.mk' s')) (fun e=>some (bk.e ep e))) (wc s _ _)
theorem u6:bS Tryz.prog iq ru:=aZ aM qo af (by kernel_rfl) (df (by kernel_rfl:_= []) ah) [] [0,1,5] [1] co ep (by kernel_rfl) cE u5 nN (fT cE) (aQ cE)
def lb {ρ:Type} (a0:List ai) (a1:Int) (k: (List ai)×Int×Unit→Option ρ):Option ρ:=
 (nN (((),a1,0,()),(()),(a0,()))).bind fun e16=>k (e16.2.2.1,e16.1.1,())
def fv (a0:List ai) (a1:Int):Option ((List ai)×Int×Unit):=lb a0 a1 some
theorem yM {ρ:Type} (a0:List ai) (a1:Int) (k: (List ai)×Int×Unit→Option ρ):lb a0 a1 k=(fv a0 a1).bind k:=by
 simp only [fv,lb,Option.bind_assoc,Option.bind_some]
abbrev tC:bn:=G7 (.st .config) [.ty (.i .i64)] [.i .i64] fun l x=>fv l x.1
theorem B9:aD Tryz.prog (mB 152) tC:=
 rL (Λ:=aI [(ca iq,ru)]) (fn:=Tryz.f152) aM qo af (by kernel_rfl) (aF (by kernel_rfl:_= [iq]) (aP (q:=ca iq) rfl u6 fun _ _ _=>by kernel_rfl)) (by kernel_rfl) (fun l x=>fv l x.1)
  (fun l x=>Eq.trans (by kernel_rfl:_=lb l x.1 (fun y=>G6 (.st .config) [.i .i64] y fun v g=>some (v,g))) (yM l x.1 _)) fun _ _ _ h=>h
abbrev yN:List (Nat×bn):= [(mB 152,tC)]
theorem u7:aw Tryz.prog (aJ yN):=ae B9 <| aj _
def gn {ρ:Type} (a0:an) (a1:Int) (k:an×Int×Unit→Option ρ):Option ρ:=
 (fv a0.configs a1).bind fun y1=>ap (y1.1.length=a0.configs.length) (k ((⟨y1.1,a0.activated⟩:an),y1.2.1,())) none
def fw (a0:an) (a1:Int):Option (an×Int×Unit):=gn a0 a1 some
theorem wd {ρ:Type} (a0:an) (a1:Int) (k:an×Int×Unit→Option ρ):gn a0 a1 k=(fw a0 a1).bind k:=by
 simp only [fw,gn,aq,Option.bind_none,Option.bind_assoc,Option.bind_some]
abbrev rv:bn:=TJ (.st .masterLog) [.ty (.i .i64)] [.i .i64] fun l x=>fw l x.1
theorem yO:aD Tryz.prog (mB 77) rv:=
 Pb (Λ:=aI []) (fn:=Tryz.f77) aM u7 af (by kernel_rfl) (aF (by kernel_rfl:_= []) ah) (by kernel_rfl) (fun l x=>fw l x.1)
  (fun l x=>Eq.trans (by kernel_rfl:_=gn l x.1 (fun y=>TH (.st .masterLog) [.i .i64] y fun v g=>some (v,g))) (wd l x.1 _)) fun _ _ _ h=>h
abbrev uO:List (Nat×bn):= []
theorem rx:aw Tryz.prog (aJ uO):=aj _
noncomputable abbrev i7:Code:=b9 (bT Tryz.f78) 0
abbrev cz:dN:=⟨[(0, .cl (.own 0 (.st .place))),(1, .cl (.int .i64)),(5, .cl (.int .i64))],[],[.st .place],1,34⟩
abbrev eR:List (X×dN):= [(.ext 0,⟨[(1, .cl (.int .i64))],[],[.st .place],1,34⟩)]
def fx {ρ:Type} (v1:List aU) (v2:Int) (v3:Int) (fn: ((Unit×Int×Int×Unit)×(Unit)×((List aU)×Unit))→Option ρ) (fe: ((Int×Unit)×(Unit)×((List aU)×Unit))→Option ρ):Option ρ:=
 br (decide (v3 < (v1.length:Int))) (ap (0≤v3∧v3 < (v1.length:Int)) ((v1[v3.toNat]?).bind fun x4=>let z5:=v1.set v3.toNat (⟨v2,x4.capacity,x4.load⟩:aU); ap (0≤v3∧v3 < (z5.length:Int)) ((z5[v3.toNat]?).bind fun x6=>let z7:=z5.set v3.toNat (⟨x6.rack,(IntKind.wrap .i64 (v2+1)),x6.load⟩:aU); ap (0≤v3∧v3 < (z7.length:Int)) ((z7[v3.toNat]?).bind fun x8=>fn (((),(IntKind.wrap .i64 ((IntKind.wrap .i64 ((IntKind.wrap .i64 (v2+1))+1))+1)),(IntKind.wrap .i64 (v3+1)),()),(()),((z7.set v3.toNat (⟨x8.rack,x8.capacity,(IntKind.wrap .i64 ((IntKind.wrap .i64 (v2+1))+1))⟩:aU)),()))) none) none) none) (fe ((v2,()),(()),(v1,())))
def cR (s:cz.D):Option (cz.D⊕bk.D eR):=fx s.2.2.1 s.1.2.1 s.1.2.2.1 (fun s=>some (.inl s)) (fun e=>some (.inr e))
def oY:cz.D→Option (bk.D eR):=jr cR
theorem w5 {ρ:Type} (s:cz.D) (fn:cz.D→Option ρ) (fe:bk.D eR→Option ρ):fx s.2.2.1 s.1.2.1 s.1.2.2.1 fn fe=(cR s).bind (Sum.elim fn fe):=by
 simp only [cR,fx,am,aq,Option.bind_none,Option.bind_assoc,Option.bind_some,Sum.elim_inl,Sum.elim_inr]
abbrev sg:cL:=cX [] [0,1,5] cz eR oY
theorem we (s:cz.D):ei Θ (aJ uO) (aI []) i7 (cz.mk' s) (cO [0,1,5] [1] fun x S=>some (x,S))=(cR s).bind (Sum.elim (fun s'=>some (.nor,cz.mk' s')) fun e=>some (bk.e eR e)):=
 Eq.trans (by kernel_rfl:_=fx s.2.2.1 s.1.2.1 s.1.2.2.1 (fun s'=>some (.nor,cz.mk' s')) (fun e=>some (bk.e eR e))) (w5 s _ _)
theorem wg:bS Tryz.prog i7 sg:=aZ aM rx af (by kernel_rfl) (df (by kernel_rfl:_= []) ah) [] [0,1,5] [1] cz eR (by kernel_rfl) cR we oY (fT cR) (aQ cR)
def mu {ρ:Type} (a0:List aU) (a1:Int) (k: (List aU)×Int×Unit→Option ρ):Option ρ:=
 (oY (((),a1,0,()),(()),(a0,()))).bind fun e10=>k (e10.2.2.1,e10.1.1,())
def gi (a0:List aU) (a1:Int):Option ((List aU)×Int×Unit):=mu a0 a1 some
theorem AF {ρ:Type} (a0:List aU) (a1:Int) (k: (List aU)×Int×Unit→Option ρ):mu a0 a1 k=(gi a0 a1).bind k:=by
 simp only [gi,mu,Option.bind_assoc,Option.bind_some]
abbrev uP:bn:=G7 (.st .place) [.ty (.i .i64)] [.i .i64] fun l x=>gi l x.1
theorem D9:aD Tryz.prog (mB 78) uP:=
 rL (Λ:=aI [(ca i7,sg)]) (fn:=Tryz.f78) aM rx af (by kernel_rfl) (aF (by kernel_rfl:_= [i7]) (aP (q:=ca i7) rfl wg fun _ _ _=>by kernel_rfl)) (by kernel_rfl) (fun l x=>gi l x.1)
  (fun l x=>Eq.trans (by kernel_rfl:_=mu l x.1 (fun y=>G6 (.st .place) [.i .i64] y fun v g=>some (v,g))) (AF l x.1 _)) fun _ _ _ h=>h
abbrev Ca:List (Nat×bn):= [(mB 76,tA),(mB 21,pC),(mB 77,rv),(mB 78,uP)]
theorem w6:aw Tryz.prog (aJ Ca):=ae B8 <| ae sJ <| ae yO <| ae D9 <| aj _
def i8 {ρ:Type} (a0:ao) (a1:Int) (k:ao×Int×Unit→Option ρ):Option ρ:=
 (fu a0.servers a1).bind fun y1=>ap (y1.1.length=a0.servers.length) ((ed a0.sides y1.2.1).bind fun y2=>ap (y2.1.length=a0.sides.length) ((fw a0.master y2.2.1).bind fun y3=>ap (y3.1.configs.length=a0.master.configs.length) ((gi a0.places y3.2.1).bind fun y4=>ap (y4.1.length=a0.places.length) (k ((⟨a0.now,y1.1,y2.1,(⟨y3.1.configs,a0.master.activated⟩:an),a0.masterUp,a0.lease,y4.1⟩:ao),y4.2.1,())) none) none) none) none
def de (a0:ao) (a1:Int):Option (ao×Int×Unit):=i8 a0 a1 some
theorem yP {ρ:Type} (a0:ao) (a1:Int) (k:ao×Int×Unit→Option ρ):i8 a0 a1 k=(de a0 a1).bind k:=by
 simp only [de,i8,aq,Option.bind_none,Option.bind_assoc,Option.bind_some]
abbrev tD:bn:=TJ (.st .cluster) [.ty (.i .i64)] [.i .i64] fun l x=>de l x.1
theorem Cb:aD Tryz.prog (mB 20) tD:=
 Pb (Λ:=aI []) (fn:=Tryz.f20) aM w6 af (by kernel_rfl) (aF (by kernel_rfl:_= []) ah) (by kernel_rfl) (fun l x=>de l x.1)
  (fun l x=>Eq.trans (by kernel_rfl:_=i8 l x.1 (fun y=>TH (.st .cluster) [.i .i64] y fun v g=>some (v,g))) (yP l x.1 _)) fun _ _ _ h=>h
abbrev GD:List (Nat×bn):= []
theorem xM:aw Tryz.prog (aJ GD):=aj _
noncomputable abbrev oZ:Code:=b9 (bT Tryz.f22) 0
abbrev eS:dN:=⟨[(0, .cl (.ro (.i .i64))),(1, .cl (.int .i64)),(5, .cl (.int .i64))],[],[],0,21⟩
abbrev kt:List (X×dN):= [(.ret,⟨[(1, .cl (.int .i64)),(4, .cl (.int .i64))],[],[],0,21⟩),(.ext 0,⟨[(1, .cl (.int .i64)),(4, .cl (.dead))],[],[],0,21⟩)]
def kT {ρ:Type} (v1:List Int) (v2:Int) (v3:Int) (fn: (((List Int)×Int×Int×Unit)×(Unit)×(Unit))→Option ρ) (fe: ((Int×Int×Unit)×(Unit)×(Unit))⊕((Int×Unit×Unit)×(Unit)×(Unit))→Option ρ):Option ρ:=
 br (decide (v3 < (v1.length:Int))) (ap (0≤v3) ((v1[v3.toNat]?).bind fun x4=>br (!(x4==v2)) (fe (.inl ((v2,(-1),()),(()),(())))) (fn ((v1,(IntKind.wrap .i64 (v2+1)),(IntKind.wrap .i64 (v3+1)),()),(()),(())))) none) (fe (.inr ((v2,(),()),(()),(()))))
def fJ (s:eS.D):Option (eS.D⊕bk.D kt):=kT s.1.1 s.1.2.1 s.1.2.2.1 (fun s=>some (.inl s)) (fun e=>some (.inr e))
def ua:eS.D→Option (bk.D kt):=jr fJ
theorem GF {ρ:Type} (s:eS.D) (fn:eS.D→Option ρ) (fe:bk.D kt→Option ρ):kT s.1.1 s.1.2.1 s.1.2.2.1 fn fe=(fJ s).bind (Sum.elim fn fe):=by
 simp only [fJ,kT,am,aq,Option.bind_none,Option.bind_assoc,Option.bind_some,Sum.elim_inl,Sum.elim_inr]
abbrev AG:cL:=cX [] [0,1,5] eS kt ua
theorem Ea (s:eS.D):ei Θ (aJ GD) (aI []) oZ (eS.mk' s) (cO [0,1,5] [1,4] fun x S=>some (x,S))=(fJ s).bind (Sum.elim (fun s'=>some (.nor,eS.mk' s')) fun e=>some (bk.e kt e)):=
 Eq.trans (by kernel_rfl:_=kT s.1.1 s.1.2.1 s.1.2.2.1 (fun s'=>some (.nor,eS.mk' s')) (fun e=>some (bk.e kt e))) (GF s _ _)
theorem Eb:bS Tryz.prog oZ AG:=aZ aM xM af (by kernel_rfl) (df (by kernel_rfl:_= []) ah) [] [0,1,5] [1,4] eS kt (by kernel_rfl) fJ Ea ua (fT fJ) (aQ fJ)
def sj {ρ:Type} (a0:List Int) (a1:Int) (k:Int×Unit→Option ρ):Option ρ:=
 (ua ((a0,a1,0,()),(()),(()))).bind fun e5=>Sum.elim (fun e5_=>k (e5_.1.2.1,())) (fun e5_=>k (e5_.1.1,())) e5
def ir (a0:List Int) (a1:Int):Option (Int×Unit):=sj a0 a1 some
theorem Ky {ρ:Type} (a0:List Int) (a1:Int) (k:Int×Unit→Option ρ):sj a0 a1 k=(ir a0 a1).bind k:=by
 simp only [ir,sj,bW,Option.bind_assoc,Option.bind_some]
abbrev ub:bn:=bA [.ty (.ls (.i .i64)), .ty (.i .i64)] [.i .i64] fun x=>ir x.1 x.2.1
theorem yQ:aD Tryz.prog 22 ub:=
 al (Λ:=aI [(ca oZ,AG)]) (fn:=Tryz.f22) aM xM af (by kernel_rfl) (aF (by kernel_rfl:_= [oZ]) (aP (q:=ca oZ) rfl Eb fun _ _ _=>by kernel_rfl)) (by kernel_rfl) (fun x=>ir x.1 x.2.1)
  (fun x=>Eq.trans (by kernel_rfl:_=sj x.1 x.2.1 (fun y=>ret (aE [.i .i64] y) fun v g=>some (v,g))) (Ky x.1 x.2.1 _)) fun _ _ h=>h
abbrev AH:List (Nat×bn):= []
theorem uQ:aw Tryz.prog (aJ AH):=aj _
noncomputable abbrev mc:Code:=b9 (bT Tryz.f27) 0
abbrev dz:dN:=⟨[(0, .cl (.ro (.st .entry))),(1, .cl (.int .i64)),(5, .cl (.int .i64))],[],[],0,82⟩
abbrev it:List (X×dN):= [(.ret,⟨[(1, .cl (.int .i64)),(4, .cl (.int .i64))],[],[],0,82⟩),(.ext 0,⟨[(1, .cl (.int .i64)),(4, .cl (.dead))],[],[],0,82⟩)]
def iI {ρ:Type} (v1:List aK) (v2:Int) (v3:Int) (fn: (((List aK)×Int×Int×Unit)×(Unit)×(Unit))→Option ρ) (fe: ((Int×Int×Unit)×(Unit)×(Unit))⊕((Int×Unit×Unit)×(Unit)×(Unit))→Option ρ):Option ρ:=
 br (decide (v3 < (v1.length:Int))) (ap (0≤v3) ((v1[v3.toNat]?).bind fun x4=>br (!(x4.epoch==v2)) (fe (.inl ((v2,(-1),()),(()),(())))) (ap (0≤v3) ((v1[v3.toNat]?).bind fun x5=>br (!(x5.op.client==(IntKind.wrap .i64 (v2+1)))) (fe (.inl (((IntKind.wrap .i64 (v2+1)),(-1),()),(()),(())))) (ap (0≤v3) ((v1[v3.toNat]?).bind fun x6=>br (!(x6.op.seq==(IntKind.wrap .i64 ((IntKind.wrap .i64 (v2+1))+1)))) (fe (.inl (((IntKind.wrap .i64 ((IntKind.wrap .i64 (v2+1))+1)),(-1),()),(()),(())))) (ap (0≤v3) ((v1[v3.toNat]?).bind fun x7=>br (!(x7.op.kind==(IntKind.wrap .i64 ((IntKind.wrap .i64 ((IntKind.wrap .i64 (v2+1))+1))+1)))) (fe (.inl (((IntKind.wrap .i64 ((IntKind.wrap .i64 ((IntKind.wrap .i64 (v2+1))+1))+1)),(-1),()),(()),(())))) (ap (0≤v3) ((v1[v3.toNat]?).bind fun x8=>br (!(x8.op.object==(IntKind.wrap .i64 ((IntKind.wrap .i64 ((IntKind.wrap .i64 ((IntKind.wrap .i64 (v2+1))+1))+1))+1)))) (fe (.inl (((IntKind.wrap .i64 ((IntKind.wrap .i64 ((IntKind.wrap .i64 ((IntKind.wrap .i64 (v2+1))+1))+1))+1)),(-1),()),(()),(())))) (ap (0≤v3) ((v1[v3.toNat]?).bind fun x9=>br (!(x9.op.old==(IntKind.wrap .i64 ((IntKind.wrap .i64 ((IntKind.wrap .i64 ((IntKind.wrap .i64 ((IntKind.wrap .i64 (v2+1))+1))+1))+1))+1)))) (fe (.inl (((IntKind.wrap .i64 ((IntKind.wrap .i64 ((IntKind.wrap .i64 ((IntKind.wrap .i64 ((IntKind.wrap .i64 (v2+1))+1))+1))+1))+1)),(-1),()),(()),(())))) (ap (0≤v3) ((v1[v3.toNat]?).bind fun x10=>br (!(x10.op.value==(IntKind.wrap .i64 ((IntKind.wrap .i64 ((IntKind.wrap .i64 ((IntKind.wrap .i64 ((IntKind.wrap .i64 ((IntKind.wrap .i64 (v2+1))+1))+1))+1))+1))+1)))) (fe (.inl (((IntKind.wrap .i64 ((IntKind.wrap .i64 ((IntKind.wrap .i64 ((IntKind.wrap .i64 ((IntKind.wrap .i64 ((IntKind.wrap .i64 (v2+1))+1))+1))+1))+1))+1)),(-1),()),(()),(())))) (fn ((v1,(IntKind.wrap .i64 ((IntKind.wrap .i64 ((IntKind.wrap .i64 ((IntKind.wrap .i64 ((IntKind.wrap .i64 ((IntKind.wrap .i64 ((IntKind.wrap .i64 (v2+1))+1))+1))+1))+1))+1))+1)),(IntKind.wrap .i64 (v3+1)),()),(()),(())))) none)) none)) none)) none)) none)) none)) none) (fe (.inr ((v2,(),()),(()),(()))))
def ef (s:dz.D):Option (dz.D⊕bk.D it):=iI s.1.1 s.1.2.1 s.1.2.2.1 (fun s=>some (.inl s)) (fun e=>some (.inr e))
def ry:dz.D→Option (bk.D it):=jr ef
theorem Cc {ρ:Type} (s:dz.D) (fn:dz.D→Option ρ) (fe:bk.D it→Option ρ):iI s.1.1 s.1.2.1 s.1.2.2.1 fn fe=(ef s).bind (Sum.elim fn fe):=by
 simp only [ef,iI,am,aq,Option.bind_none,Option.bind_assoc,Option.bind_some,Sum.elim_inl,Sum.elim_inr]
abbrev wi:cL:=cX [] [0,1,5] dz it ry
theorem AI (s:dz.D):ei Θ (aJ AH) (aI []) mc (dz.mk' s) (cO [0,1,5] [1,4] fun x S=>some (x,S))=(ef s).bind (Sum.elim (fun s'=>some (.nor,dz.mk' s')) fun e=>some (bk.e it e)):=
 Eq.trans (by kernel_rfl:_=iI s.1.1 s.1.2.1 s.1.2.2.1 (fun s'=>some (.nor,dz.mk' s')) (fun e=>some (bk.e it e))) (Cc s _ _)
theorem AJ:bS Tryz.prog mc wi:=aZ aM uQ af (by kernel_rfl) (df (by kernel_rfl:_= []) ah) [] [0,1,5] [1,4] dz it (by kernel_rfl) ef AI ry (fT ef) (aQ ef)
def pD {ρ:Type} (a0:List aK) (a1:Int) (k:Int×Unit→Option ρ):Option ρ:=
 (ry ((a0,a1,0,()),(()),(()))).bind fun e11=>Sum.elim (fun e11_=>k (e11_.1.2.1,())) (fun e11_=>k (e11_.1.1,())) e11
def i9 (a0:List aK) (a1:Int):Option (Int×Unit):=pD a0 a1 some
theorem GG {ρ:Type} (a0:List aK) (a1:Int) (k:Int×Unit→Option ρ):pD a0 a1 k=(i9 a0 a1).bind k:=by
 simp only [i9,pD,bW,Option.bind_assoc,Option.bind_some]
abbrev AK:bn:=bA [.ty (.ls (.st .entry)), .ty (.i .i64)] [.i .i64] fun x=>i9 x.1 x.2.1
theorem Kz:aD Tryz.prog 27 AK:=
 al (Λ:=aI [(ca mc,wi)]) (fn:=Tryz.f27) aM uQ af (by kernel_rfl) (aF (by kernel_rfl:_= [mc]) (aP (q:=ca mc) rfl AJ fun _ _ _=>by kernel_rfl)) (by kernel_rfl) (fun x=>i9 x.1 x.2.1)
  (fun x=>Eq.trans (by kernel_rfl:_=pD x.1 x.2.1 (fun y=>ret (aE [.i .i64] y) fun v g=>some (v,g))) (GG x.1 x.2.1 _)) fun _ _ h=>h
abbrev xN:List (Nat×bn):= [(22,ub),(27,AK)]
theorem tE:aw Tryz.prog (aJ xN):=ae yQ <| ae Kz <| aj _
noncomputable abbrev kJ:Code:=b9 (bT Tryz.f85) 0
abbrev c8:dN:=⟨[(0, .cl (.ro (.st .server))),(1, .cl (.int .i64)),(5, .cl (.int .i64))],[],[],0,129⟩
abbrev gk:List (X×dN):= [(.ret,⟨[(1, .cl (.int .i64)),(4, .cl (.int .i64))],[],[],0,129⟩),(.ext 0,⟨[(1, .cl (.int .i64)),(4, .cl (.dead))],[],[],0,129⟩)]
def gT {ρ:Type} (v1:List ak) (v2:Int) (v3:Int) (fn: (((List ak)×Int×Int×Unit)×(Unit)×(Unit))→Option ρ) (fe: ((Int×Int×Unit)×(Unit)×(Unit))⊕((Int×Unit×Unit)×(Unit)×(Unit))→Option ρ):Option ρ:=
 br (decide (v3 < (v1.length:Int))) (ap (0≤v3) ((v1[v3.toNat]?).bind fun x4=>br (!(x4.up==((Int.tmod v2 3)==0))) (fe (.inl ((v2,(-1),()),(()),(())))) (ap (0≤v3) ((v1[v3.toNat]?).bind fun x5=>br (!(x5.intact==((Int.tmod (IntKind.wrap .i64 (v2+1)) 3)==0))) (fe (.inl (((IntKind.wrap .i64 (v2+1)),(-1),()),(()),(())))) (ap (0≤v3) ((v1[v3.toNat]?).bind fun x6=>br (!(x6.version==(IntKind.wrap .i64 ((IntKind.wrap .i64 (v2+1))+1)))) (fe (.inl (((IntKind.wrap .i64 ((IntKind.wrap .i64 (v2+1))+1)),(-1),()),(()),(())))) (ap (0≤v3) ((v1[v3.toNat]?).bind fun x7=>br (!(x7.epoch==(IntKind.wrap .i64 ((IntKind.wrap .i64 ((IntKind.wrap .i64 (v2+1))+1))+1)))) (fe (.inl (((IntKind.wrap .i64 ((IntKind.wrap .i64 ((IntKind.wrap .i64 (v2+1))+1))+1)),(-1),()),(()),(())))) (ap (0≤v3) ((v1[v3.toNat]?).bind fun x8=>br (!(x8.config.epoch==(IntKind.wrap .i64 ((IntKind.wrap .i64 ((IntKind.wrap .i64 ((IntKind.wrap .i64 (v2+1))+1))+1))+1)))) (fe (.inl (((IntKind.wrap .i64 ((IntKind.wrap .i64 ((IntKind.wrap .i64 ((IntKind.wrap .i64 (v2+1))+1))+1))+1)),(-1),()),(()),(())))) (ap (0≤v3) ((v1[v3.toNat]?).bind fun x9=>br (!(x9.config.primary==(IntKind.wrap .i64 ((IntKind.wrap .i64 ((IntKind.wrap .i64 ((IntKind.wrap .i64 ((IntKind.wrap .i64 (v2+1))+1))+1))+1))+1)))) (fe (.inl (((IntKind.wrap .i64 ((IntKind.wrap .i64 ((IntKind.wrap .i64 ((IntKind.wrap .i64 ((IntKind.wrap .i64 (v2+1))+1))+1))+1))+1)),(-1),()),(()),(())))) (ap (0≤v3) ((v1[v3.toNat]?).bind fun x10=>(ir x10.config.replicas (IntKind.wrap .i64 ((IntKind.wrap .i64 ((IntKind.wrap .i64 ((IntKind.wrap .i64 ((IntKind.wrap .i64 ((IntKind.wrap .i64 (v2+1))+1))+1))+1))+1))+1))).bind fun y11=>br (decide (y11.1 < 0)) (fe (.inl ((y11.1,(-1),()),(()),(())))) (ap (0≤v3) ((v1[v3.toNat]?).bind fun x12=>(ir x12.config.witnesses y11.1).bind fun y13=>br (decide (y13.1 < 0)) (fe (.inl ((y13.1,(-1),()),(()),(())))) (ap (0≤v3) ((v1[v3.toNat]?).bind fun x14=>br (!(x14.first==y13.1)) (fe (.inl ((y13.1,(-1),()),(()),(())))) (ap (0≤v3) ((v1[v3.toNat]?).bind fun x15=>(i9 x15.log (IntKind.wrap .i64 (y13.1+1))).bind fun y16=>br (decide (y16.1 < 0)) (fe (.inl ((y16.1,(-1),()),(()),(())))) (ap (0≤v3) ((v1[v3.toNat]?).bind fun x17=>br (!(x17.commit==y16.1)) (fe (.inl ((y16.1,(-1),()),(()),(())))) (ap (0≤v3) ((v1[v3.toNat]?).bind fun x18=>(i9 x18.learned (IntKind.wrap .i64 (y16.1+1))).bind fun y19=>br (decide (y19.1 < 0)) (fe (.inl ((y19.1,(-1),()),(()),(())))) (fn ((v1,y19.1,(IntKind.wrap .i64 (v3+1)),()),(()),(())))) none)) none)) none)) none)) none)) none)) none)) none)) none)) none)) none)) none) (fe (.inr ((v2,(),()),(()),(()))))
def dF (s:c8.D):Option (c8.D⊕bk.D gk):=gT s.1.1 s.1.2.1 s.1.2.2.1 (fun s=>some (.inl s)) (fun e=>some (.inr e))
def qb:c8.D→Option (bk.D gk):=jr dF
theorem AL {ρ:Type} (s:c8.D) (fn:c8.D→Option ρ) (fe:bk.D gk→Option ρ):gT s.1.1 s.1.2.1 s.1.2.2.1 fn fe=(dF s).bind (Sum.elim fn fe):=by
 simp only [dF,gT,am,aq,Option.bind_none,Option.bind_assoc,Option.bind_some,Sum.elim_inl,Sum.elim_inr]
abbrev uR:cL:=cX [] [0,1,5] c8 gk qb
theorem yR (s:c8.D):ei Θ (aJ xN) (aI []) kJ (c8.mk' s) (cO [0,1,5] [1,4] fun x S=>some (x,S))=(dF s).bind (Sum.elim (fun s'=>some (.nor,c8.mk' s')) fun e=>some (bk.e gk e)):=
 Eq.trans (by kernel_rfl:_=gT s.1.1 s.1.2.1 s.1.2.2.1 (fun s'=>some (.nor,c8.mk' s')) (fun e=>some (bk.e gk e))) (AL s _ _)
theorem yS:bS Tryz.prog kJ uR:=aZ aM tE af (by kernel_rfl) (df (by kernel_rfl:_= []) ah) [] [0,1,5] [1,4] c8 gk (by kernel_rfl) dF yR qb (fT dF) (aQ dF)
def o0 {ρ:Type} (a0:List ak) (a1:Int) (k:Int×Unit→Option ρ):Option ρ:=
 (qb ((a0,a1,0,()),(()),(()))).bind fun e20=>Sum.elim (fun e20_=>k (e20_.1.2.1,())) (fun e20_=>k (e20_.1.1,())) e20
def jn (a0:List ak) (a1:Int):Option (Int×Unit):=o0 a0 a1 some
theorem Ec {ρ:Type} (a0:List ak) (a1:Int) (k:Int×Unit→Option ρ):o0 a0 a1 k=(jn a0 a1).bind k:=by
 simp only [jn,o0,bW,Option.bind_assoc,Option.bind_some]
abbrev xO:bn:=bA [.ty (.ls (.st .server)), .ty (.i .i64)] [.i .i64] fun x=>jn x.1 x.2.1
theorem HW:aD Tryz.prog 85 xO:=
 al (Λ:=aI [(ca kJ,uR)]) (fn:=Tryz.f85) aM tE af (by kernel_rfl) (aF (by kernel_rfl:_= [kJ]) (aP (q:=ca kJ) rfl yS fun _ _ _=>by kernel_rfl)) (by kernel_rfl) (fun x=>jn x.1 x.2.1)
  (fun x=>Eq.trans (by kernel_rfl:_=o0 x.1 x.2.1 (fun y=>ret (aE [.i .i64] y) fun v g=>some (v,g))) (Ec x.1 x.2.1 _)) fun _ _ h=>h
abbrev xP:List (Nat×bn):= [(22,ub)]
theorem tF:aw Tryz.prog (aJ xP):=ae yQ <| aj _
noncomputable abbrev kK:Code:=b9 (bT Tryz.f157) 0
abbrev c9:dN:=⟨[(0, .cl (.ro (.st .config))),(1, .cl (.int .i64)),(5, .cl (.int .i64))],[],[],0,49⟩
abbrev gl:List (X×dN):= [(.ret,⟨[(1, .cl (.int .i64)),(4, .cl (.int .i64))],[],[],0,49⟩),(.ext 0,⟨[(1, .cl (.int .i64)),(4, .cl (.dead))],[],[],0,49⟩)]
def gU {ρ:Type} (v1:List ai) (v2:Int) (v3:Int) (fn: (((List ai)×Int×Int×Unit)×(Unit)×(Unit))→Option ρ) (fe: ((Int×Int×Unit)×(Unit)×(Unit))⊕((Int×Unit×Unit)×(Unit)×(Unit))→Option ρ):Option ρ:=
 br (decide (v3 < (v1.length:Int))) (ap (0≤v3) ((v1[v3.toNat]?).bind fun x4=>br (!(x4.epoch==v2)) (fe (.inl ((v2,(-1),()),(()),(())))) (ap (0≤v3) ((v1[v3.toNat]?).bind fun x5=>br (!(x5.primary==(IntKind.wrap .i64 (v2+1)))) (fe (.inl (((IntKind.wrap .i64 (v2+1)),(-1),()),(()),(())))) (ap (0≤v3) ((v1[v3.toNat]?).bind fun x6=>(ir x6.replicas (IntKind.wrap .i64 ((IntKind.wrap .i64 (v2+1))+1))).bind fun y7=>br (decide (y7.1 < 0)) (fe (.inl ((y7.1,(-1),()),(()),(())))) (ap (0≤v3) ((v1[v3.toNat]?).bind fun x8=>(ir x8.witnesses y7.1).bind fun y9=>br (decide (y9.1 < 0)) (fe (.inl ((y9.1,(-1),()),(()),(())))) (fn ((v1,y9.1,(IntKind.wrap .i64 (v3+1)),()),(()),(())))) none)) none)) none)) none) (fe (.inr ((v2,(),()),(()),(()))))
def dG (s:c9.D):Option (c9.D⊕bk.D gl):=gU s.1.1 s.1.2.1 s.1.2.2.1 (fun s=>some (.inl s)) (fun e=>some (.inr e))
def qc:c9.D→Option (bk.D gl):=jr dG
theorem AM {ρ:Type} (s:c9.D) (fn:c9.D→Option ρ) (fe:bk.D gl→Option ρ):gU s.1.1 s.1.2.1 s.1.2.2.1 fn fe=(dG s).bind (Sum.elim fn fe):=by
 simp only [dG,gU,am,aq,Option.bind_none,Option.bind_assoc,Option.bind_some,Sum.elim_inl,Sum.elim_inr]
abbrev uS:cL:=cX [] [0,1,5] c9 gl qc
theorem yT (s:c9.D):ei Θ (aJ xP) (aI []) kK (c9.mk' s) (cO [0,1,5] [1,4] fun x S=>some (x,S))=(dG s).bind (Sum.elim (fun s'=>some (.nor,c9.mk' s')) fun e=>some (bk.e gl e)):=
 Eq.trans (by kernel_rfl:_=gU s.1.1 s.1.2.1 s.1.2.2.1 (fun s'=>some (.nor,c9.mk' s')) (fun e=>some (bk.e gl e))) (AM s _ _)
theorem yU:bS Tryz.prog kK uS:=aZ aM tF af (by kernel_rfl) (df (by kernel_rfl:_= []) ah) [] [0,1,5] [1,4] c9 gl (by kernel_rfl) dG yT qc (fT dG) (aQ dG)
def o1 {ρ:Type} (a0:List ai) (a1:Int) (k:Int×Unit→Option ρ):Option ρ:=
 (qc ((a0,a1,0,()),(()),(()))).bind fun e10=>Sum.elim (fun e10_=>k (e10_.1.2.1,())) (fun e10_=>k (e10_.1.1,())) e10
def jo (a0:List ai) (a1:Int):Option (Int×Unit):=o1 a0 a1 some
theorem Ed {ρ:Type} (a0:List ai) (a1:Int) (k:Int×Unit→Option ρ):o1 a0 a1 k=(jo a0 a1).bind k:=by
 simp only [jo,o1,bW,Option.bind_assoc,Option.bind_some]
abbrev xQ:bn:=bA [.ty (.ls (.st .config)), .ty (.i .i64)] [.i .i64] fun x=>jo x.1 x.2.1
theorem HX:aD Tryz.prog 157 xQ:=
 al (Λ:=aI [(ca kK,uS)]) (fn:=Tryz.f157) aM tF af (by kernel_rfl) (aF (by kernel_rfl:_= [kK]) (aP (q:=ca kK) rfl yU fun _ _ _=>by kernel_rfl)) (by kernel_rfl) (fun x=>jo x.1 x.2.1)
  (fun x=>Eq.trans (by kernel_rfl:_=o1 x.1 x.2.1 (fun y=>ret (aE [.i .i64] y) fun v g=>some (v,g))) (Ed x.1 x.2.1 _)) fun _ _ h=>h
abbrev Ee:List (Nat×bn):= [(157,xQ)]
theorem yV:aw Tryz.prog (aJ Ee):=ae HX <| aj _
def j4 {ρ:Type} (a0:an) (a1:Int) (k:Int×Unit→Option ρ):Option ρ:=
 (jo a0.configs a1).bind fun y1=>br (decide (y1.1 < 0)) (k ((-1),())) (k (y1.1,()))
def iJ (a0:an) (a1:Int):Option (Int×Unit):=j4 a0 a1 some
theorem AN {ρ:Type} (a0:an) (a1:Int) (k:Int×Unit→Option ρ):j4 a0 a1 k=(iJ a0 a1).bind k:=by
 simp only [iJ,j4,am,Option.bind_assoc,Option.bind_some]
abbrev uT:bn:=bA [.ty (.st .masterLog), .ty (.i .i64)] [.i .i64] fun x=>iJ x.1 x.2.1
theorem Ef:aD Tryz.prog 86 uT:=
 al (Λ:=aI []) (fn:=Tryz.f86) aM yV af (by kernel_rfl) (aF (by kernel_rfl:_= []) ah) (by kernel_rfl) (fun x=>iJ x.1 x.2.1)
  (fun x=>Eq.trans (by kernel_rfl:_=j4 x.1 x.2.1 (fun y=>ret (aE [.i .i64] y) fun v g=>some (v,g))) (AN x.1 x.2.1 _)) fun _ _ h=>h
abbrev AO:List (Nat×bn):= []
theorem uU:aw Tryz.prog (aJ AO):=aj _
noncomputable abbrev md:Code:=b9 (bT Tryz.f87) 0
abbrev dA:dN:=⟨[(0, .cl (.ro (.st .place))),(1, .cl (.int .i64)),(5, .cl (.int .i64))],[],[],0,40⟩
abbrev iu:List (X×dN):= [(.ret,⟨[(1, .cl (.int .i64)),(4, .cl (.int .i64))],[],[],0,40⟩),(.ext 0,⟨[(1, .cl (.int .i64)),(4, .cl (.dead))],[],[],0,40⟩)]
def iK {ρ:Type} (v1:List aU) (v2:Int) (v3:Int) (fn: (((List aU)×Int×Int×Unit)×(Unit)×(Unit))→Option ρ) (fe: ((Int×Int×Unit)×(Unit)×(Unit))⊕((Int×Unit×Unit)×(Unit)×(Unit))→Option ρ):Option ρ:=
 br (decide (v3 < (v1.length:Int))) (ap (0≤v3) ((v1[v3.toNat]?).bind fun x4=>br (!(x4.rack==v2)) (fe (.inl ((v2,(-1),()),(()),(())))) (ap (0≤v3) ((v1[v3.toNat]?).bind fun x5=>br (!(x5.capacity==(IntKind.wrap .i64 (v2+1)))) (fe (.inl (((IntKind.wrap .i64 (v2+1)),(-1),()),(()),(())))) (ap (0≤v3) ((v1[v3.toNat]?).bind fun x6=>br (!(x6.load==(IntKind.wrap .i64 ((IntKind.wrap .i64 (v2+1))+1)))) (fe (.inl (((IntKind.wrap .i64 ((IntKind.wrap .i64 (v2+1))+1)),(-1),()),(()),(())))) (fn ((v1,(IntKind.wrap .i64 ((IntKind.wrap .i64 ((IntKind.wrap .i64 (v2+1))+1))+1)),(IntKind.wrap .i64 (v3+1)),()),(()),(())))) none)) none)) none) (fe (.inr ((v2,(),()),(()),(()))))
def eg (s:dA.D):Option (dA.D⊕bk.D iu):=iK s.1.1 s.1.2.1 s.1.2.2.1 (fun s=>some (.inl s)) (fun e=>some (.inr e))
def rz:dA.D→Option (bk.D iu):=jr eg
theorem Cd {ρ:Type} (s:dA.D) (fn:dA.D→Option ρ) (fe:bk.D iu→Option ρ):iK s.1.1 s.1.2.1 s.1.2.2.1 fn fe=(eg s).bind (Sum.elim fn fe):=by
 simp only [eg,iK,am,aq,Option.bind_none,Option.bind_assoc,Option.bind_some,Sum.elim_inl,Sum.elim_inr]
abbrev wj:cL:=cX [] [0,1,5] dA iu rz
theorem AP (s:dA.D):ei Θ (aJ AO) (aI []) md (dA.mk' s) (cO [0,1,5] [1,4] fun x S=>some (x,S))=(eg s).bind (Sum.elim (fun s'=>some (.nor,dA.mk' s')) fun e=>some (bk.e iu e)):=
 Eq.trans (by kernel_rfl:_=iK s.1.1 s.1.2.1 s.1.2.2.1 (fun s'=>some (.nor,dA.mk' s')) (fun e=>some (bk.e iu e))) (Cd s _ _)
theorem AQ:bS Tryz.prog md wj:=aZ aM uU af (by kernel_rfl) (df (by kernel_rfl:_= []) ah) [] [0,1,5] [1,4] dA iu (by kernel_rfl) eg AP rz (fT eg) (aQ eg)
def pE {ρ:Type} (a0:List aU) (a1:Int) (k:Int×Unit→Option ρ):Option ρ:=
 (rz ((a0,a1,0,()),(()),(()))).bind fun e7=>Sum.elim (fun e7_=>k (e7_.1.2.1,())) (fun e7_=>k (e7_.1.1,())) e7
def ku (a0:List aU) (a1:Int):Option (Int×Unit):=pE a0 a1 some
theorem GH {ρ:Type} (a0:List aU) (a1:Int) (k:Int×Unit→Option ρ):pE a0 a1 k=(ku a0 a1).bind k:=by
 simp only [ku,pE,bW,Option.bind_assoc,Option.bind_some]
abbrev AR:bn:=bA [.ty (.ls (.st .place)), .ty (.i .i64)] [.i .i64] fun x=>ku x.1 x.2.1
theorem KA:aD Tryz.prog 87 AR:=
 al (Λ:=aI [(ca md,wj)]) (fn:=Tryz.f87) aM uU af (by kernel_rfl) (aF (by kernel_rfl:_= [md]) (aP (q:=ca md) rfl AQ fun _ _ _=>by kernel_rfl)) (by kernel_rfl) (fun x=>ku x.1 x.2.1)
  (fun x=>Eq.trans (by kernel_rfl:_=pE x.1 x.2.1 (fun y=>ret (aE [.i .i64] y) fun v g=>some (v,g))) (GH x.1 x.2.1 _)) fun _ _ h=>h
abbrev HY:List (Nat×bn):= [(85,xO),(22,ub),(86,uT),(87,AR)]
theorem Ce:aw Tryz.prog (aJ HY):=ae HW <| ae yQ <| ae Ef <| ae KA <| aj _
def me {ρ:Type} (a0:ao) (a1:Int) (k:Int×Unit→Option ρ):Option ρ:=
 (jn a0.servers a1).bind fun y1=>br (decide (y1.1 < 0)) (k ((-1),())) ((ir a0.sides y1.1).bind fun y2=>br (decide (y2.1 < 0)) (k ((-1),())) ((iJ a0.master y2.1).bind fun y3=>br (decide (y3.1 < 0)) (k ((-1),())) ((ku a0.places y3.1).bind fun y4=>br (decide (y4.1 < 0)) (k ((-1),())) (k (y4.1,())))))
def eh (a0:ao) (a1:Int):Option (Int×Unit):=me a0 a1 some
theorem Eg {ρ:Type} (a0:ao) (a1:Int) (k:Int×Unit→Option ρ):me a0 a1 k=(eh a0 a1).bind k:=by
 simp only [eh,me,am,Option.bind_assoc,Option.bind_some]
abbrev xR:bn:=bA [.ty (.st .cluster), .ty (.i .i64)] [.i .i64] fun x=>eh x.1 x.2.1
theorem HZ:aD Tryz.prog 30 xR:=
 al (Λ:=aI []) (fn:=Tryz.f30) aM Ce af (by kernel_rfl) (aF (by kernel_rfl:_= []) ah) (by kernel_rfl) (fun x=>eh x.1 x.2.1)
  (fun x=>Eq.trans (by kernel_rfl:_=me x.1 x.2.1 (fun y=>ret (aE [.i .i64] y) fun v g=>some (v,g))) (Eg x.1 x.2.1 _)) fun _ _ h=>h
abbrev uc:List (Nat×bn):= [(12,CJ),(14,CP),(28,ux),(29,uK),(16,C7),(mB 20,tD),(30,xR)]
theorem rD:aw Tryz.prog (aJ uc):=ae LW <| ae L7 <| ae DE <| ae DX <| ae MS <| ae Cb <| ae HZ <| aj _
def ex {ρ:Type} (a0:ao) (a1:Int) (k:Bool×Unit→Option ρ):Option ρ:=
 (gr a0 1048576).bind fun y1=>br (decide (y1.1 < 0)) (k (true,())) ((fK a0).bind fun y2=>(f8 y2.1 a1).bind fun y3=>(fK a0).bind fun y4=>(fa y4.1 a1).bind fun y5=>(dL y5.1 y3.1).bind fun y6=>br (!y6.1) (k (false,())) (br (!(y5.2.1==y3.2.1)) (k (false,())) ((fK a0).bind fun y7=>(dL y4.1 y7.1).bind fun y8=>br (!y8.1) (k (false,())) ((de y4.1 1).bind fun y9=>ap (y9.1.servers.length=y4.1.servers.length) (ap (y9.1.sides.length=y4.1.sides.length) (ap (y9.1.master.configs.length=y4.1.master.configs.length) (ap (y9.1.places.length=y4.1.places.length) (br (decide (y9.2.1 < 0)) (k (false,())) ((dL y5.1 y3.1).bind fun y10=>br (!y10.1) (k (false,())) (br (!(y5.2.1==y3.2.1)) (k (false,())) ((de y5.1 1).bind fun y11=>ap (y11.1.servers.length=y5.1.servers.length) (ap (y11.1.sides.length=y5.1.sides.length) (ap (y11.1.master.configs.length=y5.1.master.configs.length) (ap (y11.1.places.length=y5.1.places.length) ((eh (⟨y5.1.now,y11.1.servers,y11.1.sides,(⟨y11.1.master.configs,y5.1.master.activated⟩:an),y5.1.masterUp,y5.1.lease,y11.1.places⟩:ao) 1).bind fun y12=>br (decide (y12.1 < 0)) (k (false,())) (br (!(y12.1==y11.2.1)) (k (false,())) ((fK a0).bind fun y13=>(fa y13.1 a1).bind fun y14=>(dL y14.1 y3.1).bind fun y15=>br (!y15.1) (k (false,())) (br (!(y14.2.1==y3.2.1)) (k (false,())) ((eh (⟨y5.1.now,y11.1.servers,y11.1.sides,(⟨y11.1.master.configs,y5.1.master.activated⟩:an),y5.1.masterUp,y5.1.lease,y11.1.places⟩:ao) 1).bind fun y16=>br (decide (y16.1 < 0)) (k (false,())) (br (!(y16.1==y11.2.1)) (k (false,())) (k (true,())))))))) none) none) none) none)))) none) none) none) none))))
def dH (a0:ao) (a1:Int):Option (Bool×Unit):=ex a0 a1 some
theorem sK {ρ:Type} (a0:ao) (a1:Int) (k:Bool×Unit→Option ρ):ex a0 a1 k=(dH a0 a1).bind k:=by
 simp only [dH,ex,am,aq,Option.bind_none,Option.bind_assoc,Option.bind_some]
abbrev ud:bn:=bA [.ty (.st .cluster), .ty (.i .i64)] [.b] fun x=>dH x.1 x.2.1
theorem ue:aD Tryz.prog 6 ud:=
 al (Λ:=aI []) (fn:=Tryz.f6) aM rD af (by kernel_rfl) (aF (by kernel_rfl:_= []) ah) (by kernel_rfl) (fun x=>dH x.1 x.2.1)
  (fun x=>Eq.trans (by kernel_rfl:_=ex x.1 x.2.1 (fun y=>ret (aE [.b] y) fun v g=>some (v,g))) (sK x.1 x.2.1 _)) fun _ _ h=>h
end
end Go.Proofs.YtkcgfceffffmoaaGreat.En
