/- Printed by a program: the walk. -/
import Derived.Test.YtkcgfceffffmoaaGreatZTh
namespace Go.Proofs.YtkcgfceffffmoaaGreat.En
open Go
noncomputable section
def TO:ByteArray:=⟨⟨[0,1,2,2,3,3,3,3,4,4,4,4,4,4,4,4,5,5,5,5,5,5,5,5,5,5,5,5,5,5,5,5,6,6,6,6,6,6,6,6,6,6,6,6,6,6,6,6,6,6,6,6,6,6,6,6,6,6,6,6,6,6,6,6,7,7,7,7,7,7,7,7,7,7,7,7,7,7,7,7,7,7,7,7,7,7,7,7,7,7,7,7,7,7,7,7,7,7,7,7,7,7,7,7,7,7,7,7,7,7,7,7,7,7,7,7,7,7,7,7,7,7,7,7,7,7,7,7,8,8,8,8,8,8,8,8,8,8,8,8,8,8,8,8,8,8,8,8,8,8,8,8,8,8,8,8,8,8,8,8,8,8,8,8,8,8,8,8,8,8,8,8,8,8,8,8,8,8,8,8,8,8,8,8,8,8,8,8,8,8,8,8,8,8,8,8,8,8,8,8,8,8,8,8,8,8,8,8,8,8,8,8,8,8,8,8,8,8,8,8,8,8,8,8,8,8,8,8,8,8,8,8,8,8,8,8,8,8,8,8,8,8,8,8,8,8,8,8,8,8,8,8,8,8,8,8]⟩⟩
theorem af:Tryz.prog.follows .mixedOrders=true:=by kernel_rfl
abbrev Pk:List (Nat×bB):= []
theorem Jr:aA Tryz.prog (aQ Pk):=aj _
def ve {ρ:Type} (a0:List Int) (a1:Int) (k:Int×Unit→Option ρ):Option ρ:=
 br (decide ((IntKind.wrap .i64 (a1 - (a0.length:Int))) < 0)) (k ((-1),())) (k ((IntKind.wrap .i64 (a1 - (a0.length:Int))),()))
def nw (a0:List Int) (a1:Int):Option (Int×Unit):=ve a0 a1 some
theorem Lc {ρ:Type} (a0:List Int) (a1:Int) (k:Int×Unit→Option ρ):ve a0 a1 k=(nw a0 a1).bind k:=by
 simp only [nw,ve,al,Option.bind_some]
abbrev Dt:bB:=bP [.ty (.ls (.i .i64)), .ty (.i .i64)] [.i .i64] fun x=>nw x.1 x.2.1
theorem Js:aF Tryz.prog 43 Dt:=
 ak (Λ:=aO []) (fn:=Tryz.f43) aR Jr af (by kernel_rfl) (aM (by kernel_rfl:_= []) ah) (by kernel_rfl) (fun x=>nw x.1 x.2.1)
  (fun x=>Eq.trans (by kernel_rfl:_=ve x.1 x.2.1 (fun y=>ret (aK [.i .i64] y) fun v g=>some (v,g))) (Lc x.1 x.2.1 _)) fun _ _ h=>h
abbrev Ld:List (Nat×bB):= [(43,Dt)]
theorem E4:aA Tryz.prog (aQ Ld):=ae Js <| aj _
def m8 {ρ:Type} (a0:ai) (a1:Int) (k:Int×Unit→Option ρ):Option ρ:=
 (nw a0.replicas a1).bind fun y1=>br (decide (y1.1 < 0)) (k ((-1),())) ((nw a0.witnesses y1.1).bind fun y2=>br (decide (y2.1 < 0)) (k ((-1),())) (k (y2.1,())))
def fK (a0:ai) (a1:Int):Option (Int×Unit):=m8 a0 a1 some
theorem Hh {ρ:Type} (a0:ai) (a1:Int) (k:Int×Unit→Option ρ):m8 a0 a1 k=(fK a0 a1).bind k:=by
 simp only [fK,m8,al,Option.bind_assoc,Option.bind_some]
abbrev wA:bB:=bP [.ty (.st .config), .ty (.i .i64)] [.i .i64] fun x=>fK x.1 x.2.1
theorem Du:aF Tryz.prog 206 wA:=
 ak (Λ:=aO []) (fn:=Tryz.f206) aR E4 af (by kernel_rfl) (aM (by kernel_rfl:_= []) ah) (by kernel_rfl) (fun x=>fK x.1 x.2.1)
  (fun x=>Eq.trans (by kernel_rfl:_=m8 x.1 x.2.1 (fun y=>ret (aK [.i .i64] y) fun v g=>some (v,g))) (Hh x.1 x.2.1 _)) fun _ _ h=>h
abbrev Le:List (Nat×bB):= []
theorem E5:aA Tryz.prog (aQ Le):=aj _
def qD {ρ:Type} (a0:List aB) (a1:Int) (k:Int×Unit→Option ρ):Option ρ:=
 br (decide ((IntKind.wrap .i64 (a1 - (a0.length:Int))) < 0)) (k ((-1),())) (k ((IntKind.wrap .i64 (a1 - (a0.length:Int))),()))
def kM (a0:List aB) (a1:Int):Option (Int×Unit):=qD a0 a1 some
theorem Hi {ρ:Type} (a0:List aB) (a1:Int) (k:Int×Unit→Option ρ):qD a0 a1 k=(kM a0 a1).bind k:=by
 simp only [kM,qD,al,Option.bind_some]
abbrev Dv:bB:=bP [.ty (.ls (.st .entry)), .ty (.i .i64)] [.i .i64] fun x=>kM x.1 x.2.1
theorem Lf:aF Tryz.prog 207 Dv:=
 ak (Λ:=aO []) (fn:=Tryz.f207) aR E5 af (by kernel_rfl) (aM (by kernel_rfl:_= []) ah) (by kernel_rfl) (fun x=>kM x.1 x.2.1)
  (fun x=>Eq.trans (by kernel_rfl:_=qD x.1 x.2.1 (fun y=>ret (aK [.i .i64] y) fun v g=>some (v,g))) (Hi x.1 x.2.1 _)) fun _ _ h=>h
abbrev Lg:List (Nat×bB):= [(206,wA),(207,Dv)]
theorem E6:aA Tryz.prog (aQ Lg):=ae Du <| ae Lf <| aj _
def m9 {ρ:Type} (a0:ay) (a1:Int) (k:Int×Unit→Option ρ):Option ρ:=
 (fK a0.config a1).bind fun y1=>br (decide (y1.1 < 0)) (k ((-1),())) ((kM a0.log y1.1).bind fun y2=>br (decide (y2.1 < 0)) (k ((-1),())) ((kM a0.learned y2.1).bind fun y3=>br (decide (y3.1 < 0)) (k ((-1),())) (k (y3.1,()))))
def gE (a0:ay) (a1:Int):Option (Int×Unit):=m9 a0 a1 some
theorem Hj {ρ:Type} (a0:ay) (a1:Int) (k:Int×Unit→Option ρ):m9 a0 a1 k=(gE a0 a1).bind k:=by
 simp only [gE,m9,al,Option.bind_assoc,Option.bind_some]
abbrev Dw:bB:=bP [.ty (.st .server), .ty (.i .i64)] [.i .i64] fun x=>gE x.1 x.2.1
theorem Lh:aF Tryz.prog 118 Dw:=
 ak (Λ:=aO []) (fn:=Tryz.f118) aR E6 af (by kernel_rfl) (aM (by kernel_rfl:_= []) ah) (by kernel_rfl) (fun x=>gE x.1 x.2.1)
  (fun x=>Eq.trans (by kernel_rfl:_=m9 x.1 x.2.1 (fun y=>ret (aK [.i .i64] y) fun v g=>some (v,g))) (Hj x.1 x.2.1 _)) fun _ _ h=>h
abbrev AO:List (Nat×bB):= [(118,Dw)]
theorem t7:aA Tryz.prog (aQ AO):=ae Lh <| aj _
noncomputable abbrev lX:Code:=cw (co Tryz.f42) 0
abbrev dH:ev:=⟨[(0, .cl (.ro (.st .server))),(1, .cl (.int .i64)),(5, .cl (.int .i64))],[],[],0,27⟩
abbrev iL:List (X×ev):= [(.ret,⟨[(1, .cl (.int .i64)),(4, .cl (.int .i64))],[],[],0,27⟩),(.ext 0,⟨[(1, .cl (.int .i64)),(4, .cl (.dead))],[],[],0,27⟩)]
def nx {ρ:Type} (v1:List ay) (v2:Int) (v3:Int) (fn: (((List ay)×Int×Int×Unit)×(Unit)×(Unit))→Option ρ) (fe: ((Int×Int×Unit)×(Unit)×(Unit))⊕((Int×Unit×Unit)×(Unit)×(Unit))→Option ρ):Option ρ:=
 br (decide (v3 < (v1.length:Int))) (ap (0≤v3) ((v1[v3.toNat]?).bind fun x4=>(gE x4 v2).bind fun y5=>br (decide (y5.1 < 0)) (fe (.inl ((y5.1,(-1),()),(()),(())))) (fn ((v1,y5.1,(IntKind.wrap .i64 (v3+1)),()),(()),(())))) none) (fe (.inr ((v2,(),()),(()),(()))))
def fu (s:dH.D):Option (dH.D⊕bu.D iL):=nx s.1.1 s.1.2.1 s.1.2.2.1 (fun s=>some (.inl s)) (fun e=>some (.inr e))
def rc:dH.D→Option (bu.D iL):=jD fu
theorem Br {ρ:Type} (s:dH.D) (fn:dH.D→Option ρ) (fe:bu.D iL→Option ρ):nx s.1.1 s.1.2.1 s.1.2.2.1 fn fe=(fu s).bind (Sum.elim fn fe):=by
 simp only [fu,nx,al,ao,Option.bind_none,Option.bind_assoc,Option.bind_some,Sum.elim_inl,Sum.elim_inr]
abbrev vF:dg:=dA [] [0,1,5] dH iL rc
theorem zC (s:dH.D):eP Θ (aQ AO) (aO []) lX (dH.mk' s) (dn [0,1,5] [1,4] fun x S=>some (x,S))=(fu s).bind (Sum.elim (fun s'=>some (.nor,dH.mk' s')) fun e=>some (bu.e iL e)):=
 Eq.trans (by kernel_rfl:_=nx s.1.1 s.1.2.1 s.1.2.2.1 (fun s'=>some (.nor,dH.mk' s')) (fun e=>some (bu.e iL e))) (Br s _ _)
theorem zD:cn Tryz.prog lX vF:=bi aR t7 af (by kernel_rfl) (dF (by kernel_rfl:_= []) ah) [] [0,1,5] [1,4] dH iL (by kernel_rfl) fu zC rc (hO fu) (aW fu)
def pu {ρ:Type} (a0:List ay) (a1:Int) (k:Int×Unit→Option ρ):Option ρ:=
 br (decide ((IntKind.wrap .i64 (a1 - (a0.length:Int))) < 0)) (k ((-1),())) ((rc ((a0,(IntKind.wrap .i64 (a1 - (a0.length:Int))),0,()),(()),(()))).bind fun e6=>Sum.elim (fun e6_=>k (e6_.1.2.1,())) (fun e6_=>k (e6_.1.1,())) e6)
def kN (a0:List ay) (a1:Int):Option (Int×Unit):=pu a0 a1 some
theorem E7 {ρ:Type} (a0:List ay) (a1:Int) (k:Int×Unit→Option ρ):pu a0 a1 k=(kN a0 a1).bind k:=by
 simp only [kN,pu,al,cx,Option.bind_assoc,Option.bind_some]
abbrev AP:bB:=bP [.ty (.ls (.st .server)), .ty (.i .i64)] [.i .i64] fun x=>kN x.1 x.2.1
theorem Jt:aF Tryz.prog 42 AP:=
 ak (Λ:=aO [(ca lX,vF)]) (fn:=Tryz.f42) aR t7 af (by kernel_rfl) (aM (by kernel_rfl:_= [lX]) (aV (q:=ca lX) rfl zD fun _ _ _=>by kernel_rfl)) (by kernel_rfl) (fun x=>kN x.1 x.2.1)
  (fun x=>Eq.trans (by kernel_rfl:_=pu x.1 x.2.1 (fun y=>ret (aK [.i .i64] y) fun v g=>some (v,g))) (E7 x.1 x.2.1 _)) fun _ _ h=>h
abbrev AQ:List (Nat×bB):= [(206,wA)]
theorem t8:aA Tryz.prog (aQ AQ):=ae Du <| aj _
noncomputable abbrev lY:Code:=cw (co Tryz.f119) 0
abbrev dI:ev:=⟨[(0, .cl (.ro (.st .config))),(1, .cl (.int .i64)),(5, .cl (.int .i64))],[],[],0,27⟩
abbrev iM:List (X×ev):= [(.ret,⟨[(1, .cl (.int .i64)),(4, .cl (.int .i64))],[],[],0,27⟩),(.ext 0,⟨[(1, .cl (.int .i64)),(4, .cl (.dead))],[],[],0,27⟩)]
def ny {ρ:Type} (v1:List ai) (v2:Int) (v3:Int) (fn: (((List ai)×Int×Int×Unit)×(Unit)×(Unit))→Option ρ) (fe: ((Int×Int×Unit)×(Unit)×(Unit))⊕((Int×Unit×Unit)×(Unit)×(Unit))→Option ρ):Option ρ:=
 br (decide (v3 < (v1.length:Int))) (ap (0≤v3) ((v1[v3.toNat]?).bind fun x4=>(fK x4 v2).bind fun y5=>br (decide (y5.1 < 0)) (fe (.inl ((y5.1,(-1),()),(()),(())))) (fn ((v1,y5.1,(IntKind.wrap .i64 (v3+1)),()),(()),(())))) none) (fe (.inr ((v2,(),()),(()),(()))))
def fv (s:dI.D):Option (dI.D⊕bu.D iM):=ny s.1.1 s.1.2.1 s.1.2.2.1 (fun s=>some (.inl s)) (fun e=>some (.inr e))
def rd:dI.D→Option (bu.D iM):=jD fv
theorem Bs {ρ:Type} (s:dI.D) (fn:dI.D→Option ρ) (fe:bu.D iM→Option ρ):ny s.1.1 s.1.2.1 s.1.2.2.1 fn fe=(fv s).bind (Sum.elim fn fe):=by
 simp only [fv,ny,al,ao,Option.bind_none,Option.bind_assoc,Option.bind_some,Sum.elim_inl,Sum.elim_inr]
abbrev vG:dg:=dA [] [0,1,5] dI iM rd
theorem zE (s:dI.D):eP Θ (aQ AQ) (aO []) lY (dI.mk' s) (dn [0,1,5] [1,4] fun x S=>some (x,S))=(fv s).bind (Sum.elim (fun s'=>some (.nor,dI.mk' s')) fun e=>some (bu.e iM e)):=
 Eq.trans (by kernel_rfl:_=ny s.1.1 s.1.2.1 s.1.2.2.1 (fun s'=>some (.nor,dI.mk' s')) (fun e=>some (bu.e iM e))) (Bs s _ _)
theorem zF:cn Tryz.prog lY vG:=bi aR t8 af (by kernel_rfl) (dF (by kernel_rfl:_= []) ah) [] [0,1,5] [1,4] dI iM (by kernel_rfl) fv zE rd (hO fv) (aW fv)
def pv {ρ:Type} (a0:List ai) (a1:Int) (k:Int×Unit→Option ρ):Option ρ:=
 br (decide ((IntKind.wrap .i64 (a1 - (a0.length:Int))) < 0)) (k ((-1),())) ((rd ((a0,(IntKind.wrap .i64 (a1 - (a0.length:Int))),0,()),(()),(()))).bind fun e6=>Sum.elim (fun e6_=>k (e6_.1.2.1,())) (fun e6_=>k (e6_.1.1,())) e6)
def kO (a0:List ai) (a1:Int):Option (Int×Unit):=pv a0 a1 some
theorem E8 {ρ:Type} (a0:List ai) (a1:Int) (k:Int×Unit→Option ρ):pv a0 a1 k=(kO a0 a1).bind k:=by
 simp only [kO,pv,al,cx,Option.bind_assoc,Option.bind_some]
abbrev AR:bB:=bP [.ty (.ls (.st .config)), .ty (.i .i64)] [.i .i64] fun x=>kO x.1 x.2.1
theorem Ju:aF Tryz.prog 119 AR:=
 ak (Λ:=aO [(ca lY,vG)]) (fn:=Tryz.f119) aR t8 af (by kernel_rfl) (aM (by kernel_rfl:_= [lY]) (aV (q:=ca lY) rfl zF fun _ _ _=>by kernel_rfl)) (by kernel_rfl) (fun x=>kO x.1 x.2.1)
  (fun x=>Eq.trans (by kernel_rfl:_=pv x.1 x.2.1 (fun y=>ret (aK [.i .i64] y) fun v g=>some (v,g))) (E8 x.1 x.2.1 _)) fun _ _ h=>h
abbrev E9:List (Nat×bB):= [(119,AR)]
theorem zG:aA Tryz.prog (aQ E9):=ae Ju <| aj _
def je {ρ:Type} (a0:aw) (a1:Int) (k:Int×Unit→Option ρ):Option ρ:=
 (kO a0.configs a1).bind fun y1=>br (decide (y1.1 < 0)) (k ((-1),())) (k (y1.1,()))
def fw (a0:aw) (a1:Int):Option (Int×Unit):=je a0 a1 some
theorem Bu {ρ:Type} (a0:aw) (a1:Int) (k:Int×Unit→Option ρ):je a0 a1 k=(fw a0 a1).bind k:=by
 simp only [fw,je,al,Option.bind_assoc,Option.bind_some]
abbrev vH:bB:=bP [.ty (.st .masterLog), .ty (.i .i64)] [.i .i64] fun x=>fw x.1 x.2.1
theorem Fa:aF Tryz.prog 44 vH:=
 ak (Λ:=aO []) (fn:=Tryz.f44) aR zG af (by kernel_rfl) (aM (by kernel_rfl:_= []) ah) (by kernel_rfl) (fun x=>fw x.1 x.2.1)
  (fun x=>Eq.trans (by kernel_rfl:_=je x.1 x.2.1 (fun y=>ret (aK [.i .i64] y) fun v g=>some (v,g))) (Bu x.1 x.2.1 _)) fun _ _ h=>h
abbrev Li:List (Nat×bB):= []
theorem Fb:aA Tryz.prog (aQ Li):=aj _
def qE {ρ:Type} (a0:List be) (a1:Int) (k:Int×Unit→Option ρ):Option ρ:=
 br (decide ((IntKind.wrap .i64 (a1 - (a0.length:Int))) < 0)) (k ((-1),())) (k ((IntKind.wrap .i64 (a1 - (a0.length:Int))),()))
def mB (a0:List be) (a1:Int):Option (Int×Unit):=qE a0 a1 some
theorem Hk {ρ:Type} (a0:List be) (a1:Int) (k:Int×Unit→Option ρ):qE a0 a1 k=(mB a0 a1).bind k:=by
 simp only [mB,qE,al,Option.bind_some]
abbrev Dx:bB:=bP [.ty (.ls (.st .place)), .ty (.i .i64)] [.i .i64] fun x=>mB x.1 x.2.1
theorem Lj:aF Tryz.prog 45 Dx:=
 ak (Λ:=aO []) (fn:=Tryz.f45) aR Fb af (by kernel_rfl) (aM (by kernel_rfl:_= []) ah) (by kernel_rfl) (fun x=>mB x.1 x.2.1)
  (fun x=>Eq.trans (by kernel_rfl:_=qE x.1 x.2.1 (fun y=>ret (aK [.i .i64] y) fun v g=>some (v,g))) (Hk x.1 x.2.1 _)) fun _ _ h=>h
abbrev Jv:List (Nat×bB):= [(42,AP),(43,Dt),(44,vH),(45,Dx)]
theorem Dy:aA Tryz.prog (aQ Jv):=ae Jt <| ae Js <| ae Fa <| ae Lj <| aj _
def lD {ρ:Type} (a0:aP) (a1:Int) (k:Int×Unit→Option ρ):Option ρ:=
 (kN a0.servers a1).bind fun y1=>br (decide (y1.1 < 0)) (k ((-1),())) ((nw a0.sides y1.1).bind fun y2=>br (decide (y2.1 < 0)) (k ((-1),())) ((fw a0.master y2.1).bind fun y3=>br (decide (y3.1 < 0)) (k ((-1),())) ((mB a0.places y3.1).bind fun y4=>br (decide (y4.1 < 0)) (k ((-1),())) (k (y4.1,())))))
def f7 (a0:aP) (a1:Int):Option (Int×Unit):=lD a0 a1 some
theorem Fc {ρ:Type} (a0:aP) (a1:Int) (k:Int×Unit→Option ρ):lD a0 a1 k=(f7 a0 a1).bind k:=by
 simp only [f7,lD,al,Option.bind_assoc,Option.bind_some]
abbrev AU:bB:=bP [.ty (.st .cluster), .ty (.i .i64)] [.i .i64] fun x=>f7 x.1 x.2.1
theorem Jw:aF Tryz.prog 12 AU:=
 ak (Λ:=aO []) (fn:=Tryz.f12) aR Dy af (by kernel_rfl) (aM (by kernel_rfl:_= []) ah) (by kernel_rfl) (fun x=>f7 x.1 x.2.1)
  (fun x=>Eq.trans (by kernel_rfl:_=lD x.1 x.2.1 (fun y=>ret (aK [.i .i64] y) fun v g=>some (v,g))) (Fc x.1 x.2.1 _)) fun _ _ h=>h
abbrev Jx:List (Nat×bB):= []
theorem AW:aA Tryz.prog (aQ Jx):=aj _
noncomputable abbrev pU:Code:=cw (co Tryz.f53) 0
abbrev gF:ev:=⟨[(0, .cl (.ro (.i .i64))),(3, .cl (.own 0 (.i .i64))),(4, .cl (.int .i64))],[],[.i .i64],0,22⟩
abbrev mD:List (X×ev):= [(.ext 0,⟨[(3, .cl (.own 0 (.i .i64)))],[],[.i .i64],0,22⟩)]
def qF {ρ:Type} (v1:List Int) (v2:List Int) (v3:Int) (fn: (((List Int)×Unit×Int×Unit)×(Unit)×((List Int)×Unit))→Option ρ) (fe: ((Unit×Unit)×(Unit)×((List Int)×Unit))→Option ρ):Option ρ:=
 br (decide (v3 < (v2.length:Int))) (ap (0≤v3) ((v2[v3.toNat]?).bind fun x4=>ap (0≤v3∧v3 < (v1.length:Int)) ((v1[v3.toNat]?).bind fun _=>fn ((v2,(),(IntKind.wrap .i64 (v3+1)),()),(()),((v1.set v3.toNat x4),()))) none) none) (fe (((),()),(()),(v1,())))
def kP (s:gF.D):Option (gF.D⊕bu.D mD):=qF s.2.2.1 s.1.1 s.1.2.2.1 (fun s=>some (.inl s)) (fun e=>some (.inr e))
def wB:gF.D→Option (bu.D mD):=jD kP
theorem Hl {ρ:Type} (s:gF.D) (fn:gF.D→Option ρ) (fe:bu.D mD→Option ρ):qF s.2.2.1 s.1.1 s.1.2.2.1 fn fe=(kP s).bind (Sum.elim fn fe):=by
 simp only [kP,qF,al,ao,Option.bind_none,Option.bind_assoc,Option.bind_some,Sum.elim_inl,Sum.elim_inr]
abbrev Dz:dg:=dA [] [0,3,4] gF mD wB
theorem Fd (s:gF.D):eP Θ (aQ Jx) (aO []) pU (gF.mk' s) (dn [0,3,4] [3] fun x S=>some (x,S))=(kP s).bind (Sum.elim (fun s'=>some (.nor,gF.mk' s')) fun e=>some (bu.e mD e)):=
 Eq.trans (by kernel_rfl:_=qF s.2.2.1 s.1.1 s.1.2.2.1 (fun s'=>some (.nor,gF.mk' s')) (fun e=>some (bu.e mD e))) (Hl s _ _)
theorem Fe:cn Tryz.prog pU Dz:=bi aR AW af (by kernel_rfl) (dF (by kernel_rfl:_= []) ah) [] [0,3,4] [3] gF mD (by kernel_rfl) kP Fd wB (hO kP) (aW kP)
def vf {ρ:Type} (a0:List Int) (k: (List Int)×Unit→Option ρ):Option ρ:=
 ap (0≤(a0.length:Int)∧(a0.length:Int)=(a0.length:Int)∧(a0.length:Int)*((8:Nat):Int)≤2 ^ 40) ((wB ((a0,(),0,()),(()),((List.replicate (a0.length:Int).toNat (0:Int)),()))).bind fun e7=>k (e7.2.2.1,())) none
def nz (a0:List Int):Option ((List Int)×Unit):=vf a0 some
theorem Lk {ρ:Type} (a0:List Int) (k: (List Int)×Unit→Option ρ):vf a0 k=(nz a0).bind k:=by
 simp only [nz,vf,ao,Option.bind_none,Option.bind_assoc,Option.bind_some]
abbrev DA:bB:=bP [.ty (.ls (.i .i64))] [.ls (.i .i64)] fun x=>nz x.1
theorem Jy:aF Tryz.prog 53 DA:=
 ak (Λ:=aO [(ca pU,Dz)]) (fn:=Tryz.f53) aR AW af (by kernel_rfl) (aM (by kernel_rfl:_= [pU]) (aV (q:=ca pU) rfl Fe fun _ _ _=>by kernel_rfl)) (by kernel_rfl) (fun x=>nz x.1)
  (fun x=>Eq.trans (by kernel_rfl:_=vf x.1 (fun y=>ret (aK [.ls (.i .i64)] y) fun v g=>some (v,g))) (Lk x.1 _)) fun _ _ h=>h
abbrev Ll:List (Nat×bB):= [(53,DA)]
theorem Ff:aA Tryz.prog (aQ Ll):=ae Jy <| aj _
def oS {ρ:Type} (a0:ai) (k:ai×Unit→Option ρ):Option ρ:=
 (nz a0.replicas).bind fun y1=>(nz a0.witnesses).bind fun y2=>k ((⟨a0.epoch,a0.primary,y1.1,y2.1⟩:ai),())
def jL (a0:ai):Option (ai×Unit):=oS a0 some
theorem Hm {ρ:Type} (a0:ai) (k:ai×Unit→Option ρ):oS a0 k=(jL a0).bind k:=by
 simp only [jL,oS,Option.bind_assoc,Option.bind_some]
abbrev wD:bB:=bP [.ty (.st .config)] [.st .config] fun x=>jL x.1
theorem DB:aF Tryz.prog 208 wD:=
 ak (Λ:=aO []) (fn:=Tryz.f208) aR Ff af (by kernel_rfl) (aM (by kernel_rfl:_= []) ah) (by kernel_rfl) (fun x=>jL x.1)
  (fun x=>Eq.trans (by kernel_rfl:_=oS x.1 (fun y=>ret (aK [.st .config] y) fun v g=>some (v,g))) (Hm x.1 _)) fun _ _ h=>h
abbrev R9:List (Nat×bB):= []
theorem Nl:aA Tryz.prog (aQ R9):=aj _
def Cy {ρ:Type} (a0:Op) (k:Op×Unit→Option ρ):Option ρ:=
 k (a0,())
def DC (a0:Op):Option (Op×Unit):=Cy a0 some
theorem Pm {ρ:Type} (a0:Op) (k:Op×Unit→Option ρ):Cy a0 k=(DC a0).bind k:=by
 simp only [DC,Cy,Option.bind_some]
abbrev Pn:bB:=bP [.ty (.st .op)] [.st .op] fun x=>DC x.1
theorem Sa:aF Tryz.prog 40 Pn:=
 ak (Λ:=aO []) (fn:=Tryz.f40) aR Nl af (by kernel_rfl) (aM (by kernel_rfl:_= []) ah) (by kernel_rfl) (fun x=>DC x.1)
  (fun x=>Eq.trans (by kernel_rfl:_=Cy x.1 (fun y=>ret (aK [.st .op] y) fun v g=>some (v,g))) (Pm x.1 _)) fun _ _ h=>h
abbrev Nm:List (Nat×bB):= [(40,Pn)]
theorem Hn:aA Tryz.prog (aQ Nm):=ae Sa <| aj _
def sE {ρ:Type} (a0:aB) (k:aB×Unit→Option ρ):Option ρ:=
 (DC a0.op).bind fun y1=>k ((⟨a0.epoch,y1.1⟩:aB),())
def pI (a0:aB):Option (aB×Unit):=sE a0 some
theorem Jz {ρ:Type} (a0:aB) (k:aB×Unit→Option ρ):sE a0 k=(pI a0).bind k:=by
 simp only [pI,sE,Option.bind_assoc,Option.bind_some]
abbrev Gc:bB:=bP [.ty (.st .entry)] [.st .entry] fun x=>pI x.1
theorem Nn:aF Tryz.prog 265 Gc:=
 ak (Λ:=aO []) (fn:=Tryz.f265) aR Hn af (by kernel_rfl) (aM (by kernel_rfl:_= []) ah) (by kernel_rfl) (fun x=>pI x.1)
  (fun x=>Eq.trans (by kernel_rfl:_=sE x.1 (fun y=>ret (aK [.st .entry] y) fun v g=>some (v,g))) (Jz x.1 _)) fun _ _ h=>h
abbrev DD:List (Nat×bB):= [(265,Gc)]
theorem vI:aA Tryz.prog (aQ DD):=ae Nn <| aj _
noncomputable abbrev nA:Code:=cw (co Tryz.f209) 0
abbrev ew:ev:=⟨[(0, .cl (.ro (.st .entry))),(3, .cl (.own 0 (.st .entry))),(4, .cl (.int .i64))],[],[.st .entry],0,23⟩
abbrev jM:List (X×ev):= [(.ext 0,⟨[(3, .cl (.own 0 (.st .entry)))],[],[.st .entry],0,23⟩)]
def oG {ρ:Type} (v1:List aB) (v2:List aB) (v3:Int) (fn: (((List aB)×Unit×Int×Unit)×(Unit)×((List aB)×Unit))→Option ρ) (fe: ((Unit×Unit)×(Unit)×((List aB)×Unit))→Option ρ):Option ρ:=
 br (decide (v3 < (v2.length:Int))) (ap (0≤v3) ((v2[v3.toNat]?).bind fun x4=>(pI x4).bind fun y5=>ap (0≤v3∧v3 < (v1.length:Int)) ((v1[v3.toNat]?).bind fun _=>fn ((v2,(),(IntKind.wrap .i64 (v3+1)),()),(()),((v1.set v3.toNat y5.1),()))) none) none) (fe (((),()),(()),(v1,())))
def ip (s:ew.D):Option (ew.D⊕bu.D jM):=oG s.2.2.1 s.1.1 s.1.2.2.1 (fun s=>some (.inl s)) (fun e=>some (.inr e))
def sF:ew.D→Option (bu.D jM):=jD ip
theorem DE {ρ:Type} (s:ew.D) (fn:ew.D→Option ρ) (fe:bu.D jM→Option ρ):oG s.2.2.1 s.1.1 s.1.2.2.1 fn fe=(ip s).bind (Sum.elim fn fe):=by
 simp only [ip,oG,al,ao,Option.bind_none,Option.bind_assoc,Option.bind_some,Sum.elim_inl,Sum.elim_inr]
abbrev xM:dg:=dA [] [0,3,4] ew jM sF
theorem Bv (s:ew.D):eP Θ (aQ DD) (aO []) nA (ew.mk' s) (dn [0,3,4] [3] fun x S=>some (x,S))=(ip s).bind (Sum.elim (fun s'=>some (.nor,ew.mk' s')) fun e=>some (bu.e jM e)):=
 Eq.trans (by kernel_rfl:_=oG s.2.2.1 s.1.1 s.1.2.2.1 (fun s'=>some (.nor,ew.mk' s')) (fun e=>some (bu.e jM e))) (DE s _ _)
theorem Bw:cn Tryz.prog nA xM:=bi aR vI af (by kernel_rfl) (dF (by kernel_rfl:_= []) ah) [] [0,3,4] [3] ew jM (by kernel_rfl) ip Bv sF (hO ip) (aW ip)
def qG {ρ:Type} (a0:List aB) (k: (List aB)×Unit→Option ρ):Option ρ:=
 ap (0≤(a0.length:Int)∧(a0.length:Int)=(a0.length:Int)∧(a0.length:Int)*((56:Nat):Int)≤2 ^ 40) ((sF ((a0,(),0,()),(()),((List.replicate (a0.length:Int).toNat (⟨0,(⟨0,0,0,0,0,0⟩:Op)⟩:aB)),()))).bind fun e8=>k (e8.2.2.1,())) none
def kQ (a0:List aB):Option ((List aB)×Unit):=qG a0 some
theorem Ho {ρ:Type} (a0:List aB) (k: (List aB)×Unit→Option ρ):qG a0 k=(kQ a0).bind k:=by
 simp only [kQ,qG,ao,Option.bind_none,Option.bind_assoc,Option.bind_some]
abbrev DF:bB:=bP [.ty (.ls (.st .entry))] [.ls (.st .entry)] fun x=>kQ x.1
theorem Lm:aF Tryz.prog 209 DF:=
 ak (Λ:=aO [(ca nA,xM)]) (fn:=Tryz.f209) aR vI af (by kernel_rfl) (aM (by kernel_rfl:_= [nA]) (aV (q:=ca nA) rfl Bw fun _ _ _=>by kernel_rfl)) (by kernel_rfl) (fun x=>kQ x.1)
  (fun x=>Eq.trans (by kernel_rfl:_=qG x.1 (fun y=>ret (aK [.ls (.st .entry)] y) fun v g=>some (v,g))) (Ho x.1 _)) fun _ _ h=>h
abbrev Ln:List (Nat×bB):= [(208,wD),(209,DF)]
theorem Fg:aA Tryz.prog (aQ Ln):=ae DB <| ae Lm <| aj _
def oT {ρ:Type} (a0:ay) (k:ay×Unit→Option ρ):Option ρ:=
 (jL a0.config).bind fun y1=>(kQ a0.log).bind fun y2=>(kQ a0.learned).bind fun y3=>k ((⟨a0.up,a0.intact,a0.version,a0.epoch,y1.1,a0.first,y2.1,a0.commit,y3.1⟩:ay),())
def kR (a0:ay):Option (ay×Unit):=oT a0 some
theorem Hp {ρ:Type} (a0:ay) (k:ay×Unit→Option ρ):oT a0 k=(kR a0).bind k:=by
 simp only [kR,oT,Option.bind_assoc,Option.bind_some]
abbrev DG:bB:=bP [.ty (.st .server)] [.st .server] fun x=>kR x.1
theorem Lo:aF Tryz.prog 132 DG:=
 ak (Λ:=aO []) (fn:=Tryz.f132) aR Fg af (by kernel_rfl) (aM (by kernel_rfl:_= []) ah) (by kernel_rfl) (fun x=>kR x.1)
  (fun x=>Eq.trans (by kernel_rfl:_=oT x.1 (fun y=>ret (aK [.st .server] y) fun v g=>some (v,g))) (Hp x.1 _)) fun _ _ h=>h
abbrev AX:List (Nat×bB):= [(132,DG)]
theorem t9:aA Tryz.prog (aQ AX):=ae Lo <| aj _
noncomputable abbrev lZ:Code:=cw (co Tryz.f52) 0
abbrev dJ:ev:=⟨[(0, .cl (.ro (.st .server))),(3, .cl (.own 0 (.st .server))),(4, .cl (.int .i64))],[],[.st .server],0,23⟩
abbrev iO:List (X×ev):= [(.ext 0,⟨[(3, .cl (.own 0 (.st .server)))],[],[.st .server],0,23⟩)]
def nB {ρ:Type} (v1:List ay) (v2:List ay) (v3:Int) (fn: (((List ay)×Unit×Int×Unit)×(Unit)×((List ay)×Unit))→Option ρ) (fe: ((Unit×Unit)×(Unit)×((List ay)×Unit))→Option ρ):Option ρ:=
 br (decide (v3 < (v2.length:Int))) (ap (0≤v3) ((v2[v3.toNat]?).bind fun x4=>(kR x4).bind fun y5=>ap (0≤v3∧v3 < (v1.length:Int)) ((v1[v3.toNat]?).bind fun _=>fn ((v2,(),(IntKind.wrap .i64 (v3+1)),()),(()),((v1.set v3.toNat y5.1),()))) none) none) (fe (((),()),(()),(v1,())))
def f8 (s:dJ.D):Option (dJ.D⊕bu.D iO):=nB s.2.2.1 s.1.1 s.1.2.2.1 (fun s=>some (.inl s)) (fun e=>some (.inr e))
def rf:dJ.D→Option (bu.D iO):=jD f8
theorem Bx {ρ:Type} (s:dJ.D) (fn:dJ.D→Option ρ) (fe:bu.D iO→Option ρ):nB s.2.2.1 s.1.1 s.1.2.2.1 fn fe=(f8 s).bind (Sum.elim fn fe):=by
 simp only [f8,nB,al,ao,Option.bind_none,Option.bind_assoc,Option.bind_some,Sum.elim_inl,Sum.elim_inr]
abbrev vJ:dg:=dA [] [0,3,4] dJ iO rf
theorem zH (s:dJ.D):eP Θ (aQ AX) (aO []) lZ (dJ.mk' s) (dn [0,3,4] [3] fun x S=>some (x,S))=(f8 s).bind (Sum.elim (fun s'=>some (.nor,dJ.mk' s')) fun e=>some (bu.e iO e)):=
 Eq.trans (by kernel_rfl:_=nB s.2.2.1 s.1.1 s.1.2.2.1 (fun s'=>some (.nor,dJ.mk' s')) (fun e=>some (bu.e iO e))) (Bx s _ _)
theorem zI:cn Tryz.prog lZ vJ:=bi aR t9 af (by kernel_rfl) (dF (by kernel_rfl:_= []) ah) [] [0,3,4] [3] dJ iO (by kernel_rfl) f8 zH rf (hO f8) (aW f8)
def pw {ρ:Type} (a0:List ay) (k: (List ay)×Unit→Option ρ):Option ρ:=
 ap (0≤(a0.length:Int)∧(a0.length:Int)=(a0.length:Int)∧(a0.length:Int)*((152:Nat):Int)≤2 ^ 40) ((rf ((a0,(),0,()),(()),((List.replicate (a0.length:Int).toNat (⟨false,false,0,0,(⟨0,0,([]:List Int),([]:List Int)⟩:ai),0,([]:List aB),0,([]:List aB)⟩:ay)),()))).bind fun e8=>k (e8.2.2.1,())) none
def kT (a0:List ay):Option ((List ay)×Unit):=pw a0 some
theorem Fh {ρ:Type} (a0:List ay) (k: (List ay)×Unit→Option ρ):pw a0 k=(kT a0).bind k:=by
 simp only [kT,pw,ao,Option.bind_none,Option.bind_assoc,Option.bind_some]
abbrev AY:bB:=bP [.ty (.ls (.st .server))] [.ls (.st .server)] fun x=>kT x.1
theorem JA:aF Tryz.prog 52 AY:=
 ak (Λ:=aO [(ca lZ,vJ)]) (fn:=Tryz.f52) aR t9 af (by kernel_rfl) (aM (by kernel_rfl:_= [lZ]) (aV (q:=ca lZ) rfl zI fun _ _ _=>by kernel_rfl)) (by kernel_rfl) (fun x=>kT x.1)
  (fun x=>Eq.trans (by kernel_rfl:_=pw x.1 (fun y=>ret (aK [.ls (.st .server)] y) fun v g=>some (v,g))) (Fh x.1 _)) fun _ _ h=>h
abbrev AZ:List (Nat×bB):= [(208,wD)]
theorem ua:aA Tryz.prog (aQ AZ):=ae DB <| aj _
noncomputable abbrev l4:Code:=cw (co Tryz.f133) 0
abbrev dK:ev:=⟨[(0, .cl (.ro (.st .config))),(3, .cl (.own 0 (.st .config))),(4, .cl (.int .i64))],[],[.st .config],0,23⟩
abbrev iP:List (X×ev):= [(.ext 0,⟨[(3, .cl (.own 0 (.st .config)))],[],[.st .config],0,23⟩)]
def nC {ρ:Type} (v1:List ai) (v2:List ai) (v3:Int) (fn: (((List ai)×Unit×Int×Unit)×(Unit)×((List ai)×Unit))→Option ρ) (fe: ((Unit×Unit)×(Unit)×((List ai)×Unit))→Option ρ):Option ρ:=
 br (decide (v3 < (v2.length:Int))) (ap (0≤v3) ((v2[v3.toNat]?).bind fun x4=>(jL x4).bind fun y5=>ap (0≤v3∧v3 < (v1.length:Int)) ((v1[v3.toNat]?).bind fun _=>fn ((v2,(),(IntKind.wrap .i64 (v3+1)),()),(()),((v1.set v3.toNat y5.1),()))) none) none) (fe (((),()),(()),(v1,())))
def f9 (s:dK.D):Option (dK.D⊕bu.D iP):=nC s.2.2.1 s.1.1 s.1.2.2.1 (fun s=>some (.inl s)) (fun e=>some (.inr e))
def rg:dK.D→Option (bu.D iP):=jD f9
theorem Bz {ρ:Type} (s:dK.D) (fn:dK.D→Option ρ) (fe:bu.D iP→Option ρ):nC s.2.2.1 s.1.1 s.1.2.2.1 fn fe=(f9 s).bind (Sum.elim fn fe):=by
 simp only [f9,nC,al,ao,Option.bind_none,Option.bind_assoc,Option.bind_some,Sum.elim_inl,Sum.elim_inr]
abbrev vK:dg:=dA [] [0,3,4] dK iP rg
theorem zJ (s:dK.D):eP Θ (aQ AZ) (aO []) l4 (dK.mk' s) (dn [0,3,4] [3] fun x S=>some (x,S))=(f9 s).bind (Sum.elim (fun s'=>some (.nor,dK.mk' s')) fun e=>some (bu.e iP e)):=
 Eq.trans (by kernel_rfl:_=nC s.2.2.1 s.1.1 s.1.2.2.1 (fun s'=>some (.nor,dK.mk' s')) (fun e=>some (bu.e iP e))) (Bz s _ _)
theorem zK:cn Tryz.prog l4 vK:=bi aR ua af (by kernel_rfl) (dF (by kernel_rfl:_= []) ah) [] [0,3,4] [3] dK iP (by kernel_rfl) f9 zJ rg (hO f9) (aW f9)
def pz {ρ:Type} (a0:List ai) (k: (List ai)×Unit→Option ρ):Option ρ:=
 ap (0≤(a0.length:Int)∧(a0.length:Int)=(a0.length:Int)∧(a0.length:Int)*((64:Nat):Int)≤2 ^ 40) ((rg ((a0,(),0,()),(()),((List.replicate (a0.length:Int).toNat (⟨0,0,([]:List Int),([]:List Int)⟩:ai)),()))).bind fun e8=>k (e8.2.2.1,())) none
def kU (a0:List ai):Option ((List ai)×Unit):=pz a0 some
theorem Fi {ρ:Type} (a0:List ai) (k: (List ai)×Unit→Option ρ):pz a0 k=(kU a0).bind k:=by
 simp only [kU,pz,ao,Option.bind_none,Option.bind_assoc,Option.bind_some]
abbrev A0:bB:=bP [.ty (.ls (.st .config))] [.ls (.st .config)] fun x=>kU x.1
theorem JB:aF Tryz.prog 133 A0:=
 ak (Λ:=aO [(ca l4,vK)]) (fn:=Tryz.f133) aR ua af (by kernel_rfl) (aM (by kernel_rfl:_= [l4]) (aV (q:=ca l4) rfl zK fun _ _ _=>by kernel_rfl)) (by kernel_rfl) (fun x=>kU x.1)
  (fun x=>Eq.trans (by kernel_rfl:_=pz x.1 (fun y=>ret (aK [.ls (.st .config)] y) fun v g=>some (v,g))) (Fi x.1 _)) fun _ _ h=>h
abbrev Fj:List (Nat×bB):= [(133,A0)]
theorem zL:aA Tryz.prog (aQ Fj):=ae JB <| aj _
def kV {ρ:Type} (a0:aw) (k:aw×Unit→Option ρ):Option ρ:=
 (kU a0.configs).bind fun y1=>k ((⟨y1.1,a0.activated⟩:aw),())
def iQ (a0:aw):Option (aw×Unit):=kV a0 some
theorem BA {ρ:Type} (a0:aw) (k:aw×Unit→Option ρ):kV a0 k=(iQ a0).bind k:=by
 simp only [iQ,kV,Option.bind_assoc,Option.bind_some]
abbrev vL:bB:=bP [.ty (.st .masterLog)] [.st .masterLog] fun x=>iQ x.1
theorem Fk:aF Tryz.prog 54 vL:=
 ak (Λ:=aO []) (fn:=Tryz.f54) aR zL af (by kernel_rfl) (aM (by kernel_rfl:_= []) ah) (by kernel_rfl) (fun x=>iQ x.1)
  (fun x=>Eq.trans (by kernel_rfl:_=kV x.1 (fun y=>ret (aK [.st .masterLog] y) fun v g=>some (v,g))) (BA x.1 _)) fun _ _ h=>h
abbrev Np:List (Nat×bB):= []
theorem Hq:aA Tryz.prog (aQ Np):=aj _
def sG {ρ:Type} (a0:jW) (k:jW×Unit→Option ρ):Option ρ:=
 k (a0,())
def pJ (a0:jW):Option (jW×Unit):=sG a0 some
theorem JC {ρ:Type} (a0:jW) (k:jW×Unit→Option ρ):sG a0 k=(pJ a0).bind k:=by
 simp only [pJ,sG,Option.bind_some]
abbrev Gd:bB:=bP [.ty (.st .lease)] [.st .lease] fun x=>pJ x.1
theorem Nq:aF Tryz.prog 55 Gd:=
 ak (Λ:=aO []) (fn:=Tryz.f55) aR Hq af (by kernel_rfl) (aM (by kernel_rfl:_= []) ah) (by kernel_rfl) (fun x=>pJ x.1)
  (fun x=>Eq.trans (by kernel_rfl:_=sG x.1 (fun y=>ret (aK [.st .lease] y) fun v g=>some (v,g))) (JC x.1 _)) fun _ _ h=>h
abbrev Nr:List (Nat×bB):= []
theorem Hr:aA Tryz.prog (aQ Nr):=aj _
def sH {ρ:Type} (a0:be) (k:be×Unit→Option ρ):Option ρ:=
 k (a0,())
def pK (a0:be):Option (be×Unit):=sH a0 some
theorem JD {ρ:Type} (a0:be) (k:be×Unit→Option ρ):sH a0 k=(pK a0).bind k:=by
 simp only [pK,sH,Option.bind_some]
abbrev Ge:bB:=bP [.ty (.st .place)] [.st .place] fun x=>pK x.1
theorem Ns:aF Tryz.prog 134 Ge:=
 ak (Λ:=aO []) (fn:=Tryz.f134) aR Hr af (by kernel_rfl) (aM (by kernel_rfl:_= []) ah) (by kernel_rfl) (fun x=>pK x.1)
  (fun x=>Eq.trans (by kernel_rfl:_=sH x.1 (fun y=>ret (aK [.st .place] y) fun v g=>some (v,g))) (JD x.1 _)) fun _ _ h=>h
abbrev DH:List (Nat×bB):= [(134,Ge)]
theorem vM:aA Tryz.prog (aQ DH):=ae Ns <| aj _
noncomputable abbrev nD:Code:=cw (co Tryz.f56) 0
abbrev ex:ev:=⟨[(0, .cl (.ro (.st .place))),(3, .cl (.own 0 (.st .place))),(4, .cl (.int .i64))],[],[.st .place],0,23⟩
abbrev jN:List (X×ev):= [(.ext 0,⟨[(3, .cl (.own 0 (.st .place)))],[],[.st .place],0,23⟩)]
def oH {ρ:Type} (v1:List be) (v2:List be) (v3:Int) (fn: (((List be)×Unit×Int×Unit)×(Unit)×((List be)×Unit))→Option ρ) (fe: ((Unit×Unit)×(Unit)×((List be)×Unit))→Option ρ):Option ρ:=
 br (decide (v3 < (v2.length:Int))) (ap (0≤v3) ((v2[v3.toNat]?).bind fun x4=>(pK x4).bind fun y5=>ap (0≤v3∧v3 < (v1.length:Int)) ((v1[v3.toNat]?).bind fun _=>fn ((v2,(),(IntKind.wrap .i64 (v3+1)),()),(()),((v1.set v3.toNat y5.1),()))) none) none) (fe (((),()),(()),(v1,())))
def iq (s:ex.D):Option (ex.D⊕bu.D jN):=oH s.2.2.1 s.1.1 s.1.2.2.1 (fun s=>some (.inl s)) (fun e=>some (.inr e))
def sI:ex.D→Option (bu.D jN):=jD iq
theorem DI {ρ:Type} (s:ex.D) (fn:ex.D→Option ρ) (fe:bu.D jN→Option ρ):oH s.2.2.1 s.1.1 s.1.2.2.1 fn fe=(iq s).bind (Sum.elim fn fe):=by
 simp only [iq,oH,al,ao,Option.bind_none,Option.bind_assoc,Option.bind_some,Sum.elim_inl,Sum.elim_inr]
abbrev xN:dg:=dA [] [0,3,4] ex jN sI
theorem BB (s:ex.D):eP Θ (aQ DH) (aO []) nD (ex.mk' s) (dn [0,3,4] [3] fun x S=>some (x,S))=(iq s).bind (Sum.elim (fun s'=>some (.nor,ex.mk' s')) fun e=>some (bu.e jN e)):=
 Eq.trans (by kernel_rfl:_=oH s.2.2.1 s.1.1 s.1.2.2.1 (fun s'=>some (.nor,ex.mk' s')) (fun e=>some (bu.e jN e))) (DI s _ _)
theorem BC:cn Tryz.prog nD xN:=bi aR vM af (by kernel_rfl) (dF (by kernel_rfl:_= []) ah) [] [0,3,4] [3] ex jN (by kernel_rfl) iq BB sI (hO iq) (aW iq)
def qH {ρ:Type} (a0:List be) (k: (List be)×Unit→Option ρ):Option ρ:=
 ap (0≤(a0.length:Int)∧(a0.length:Int)=(a0.length:Int)∧(a0.length:Int)*((24:Nat):Int)≤2 ^ 40) ((sI ((a0,(),0,()),(()),((List.replicate (a0.length:Int).toNat (⟨0,0,0⟩:be)),()))).bind fun e8=>k (e8.2.2.1,())) none
def mF (a0:List be):Option ((List be)×Unit):=qH a0 some
theorem Hs {ρ:Type} (a0:List be) (k: (List be)×Unit→Option ρ):qH a0 k=(mF a0).bind k:=by
 simp only [mF,qH,ao,Option.bind_none,Option.bind_assoc,Option.bind_some]
abbrev DJ:bB:=bP [.ty (.ls (.st .place))] [.ls (.st .place)] fun x=>mF x.1
theorem Lp:aF Tryz.prog 56 DJ:=
 ak (Λ:=aO [(ca nD,xN)]) (fn:=Tryz.f56) aR vM af (by kernel_rfl) (aM (by kernel_rfl:_= [nD]) (aV (q:=ca nD) rfl BC fun _ _ _=>by kernel_rfl)) (by kernel_rfl) (fun x=>mF x.1)
  (fun x=>Eq.trans (by kernel_rfl:_=qH x.1 (fun y=>ret (aK [.ls (.st .place)] y) fun v g=>some (v,g))) (Hs x.1 _)) fun _ _ h=>h
abbrev JE:List (Nat×bB):= [(52,AY),(53,DA),(54,vL),(55,Gd),(56,DJ)]
theorem DK:aA Tryz.prog (aQ JE):=ae JA <| ae Jy <| ae Fk <| ae Nq <| ae Lp <| aj _
def nE {ρ:Type} (a0:aP) (k:aP×Unit→Option ρ):Option ρ:=
 (kT a0.servers).bind fun y1=>(nz a0.sides).bind fun y2=>(iQ a0.master).bind fun y3=>(pJ a0.lease).bind fun y4=>(mF a0.places).bind fun y5=>k ((⟨a0.now,y1.1,y2.1,y3.1,a0.masterUp,y4.1,y5.1⟩:aP),())
def ga (a0:aP):Option (aP×Unit):=nE a0 some
theorem Fl {ρ:Type} (a0:aP) (k:aP×Unit→Option ρ):nE a0 k=(ga a0).bind k:=by
 simp only [ga,nE,Option.bind_assoc,Option.bind_some]
abbrev A1:bB:=bP [.ty (.st .cluster)] [.st .cluster] fun x=>ga x.1
theorem JF:aF Tryz.prog 14 A1:=
 ak (Λ:=aO []) (fn:=Tryz.f14) aR DK af (by kernel_rfl) (aM (by kernel_rfl:_= []) ah) (by kernel_rfl) (fun x=>ga x.1)
  (fun x=>Eq.trans (by kernel_rfl:_=nE x.1 (fun y=>ret (aK [.st .cluster] y) fun v g=>some (v,g))) (Fl x.1 _)) fun _ _ h=>h
abbrev Sb:List (Nat×bB):= []
theorem Nt:aA Tryz.prog (aQ Sb):=aj _
def xO {ρ:Type} (a0:Int) (a1:Int) (a2:Int) (k:Bool×Unit→Option ρ):Option ρ:=
 br (decide (a0≥a1)) (k ((decide (a0≤a2)),())) (k (false,()))
def ea (a0:Int) (a1:Int) (a2:Int):Option (Bool×Unit):=xO a0 a1 a2 some
theorem Po {ρ:Type} (a0:Int) (a1:Int) (a2:Int) (k:Bool×Unit→Option ρ):xO a0 a1 a2 k=(ea a0 a1 a2).bind k:=by
 simp only [ea,xO,al,Option.bind_some]
abbrev o7:bB:=bP [.ty (.i .i64), .ty (.i .i64), .ty (.i .i64)] [.b] fun x=>ea x.1 x.2.1 x.2.2.1
theorem pV:aF Tryz.prog 120 o7:=
 ak (Λ:=aO []) (fn:=Tryz.f120) aR Nt af (by kernel_rfl) (aM (by kernel_rfl:_= []) ah) (by kernel_rfl) (fun x=>ea x.1 x.2.1 x.2.2.1)
  (fun x=>Eq.trans (by kernel_rfl:_=xO x.1 x.2.1 x.2.2.1 (fun y=>ret (aK [.b] y) fun v g=>some (v,g))) (Po x.1 x.2.1 x.2.2.1 _)) fun _ _ h=>h
abbrev xP:List (Nat×bB):= [(120,o7)]
theorem sY:aA Tryz.prog (aQ xP):=ae pV <| aj _
noncomputable abbrev kW:Code:=cw (co Tryz.f224) 0
abbrev dp:ev:=⟨[(0, .cl (.ro (.i .i64))),(3, .cl (.int .i64))],[],[],0,32⟩
abbrev gG:List (X×ev):= [(.ret,⟨[(2, .cl (.bl))],[],[],0,32⟩),(.ext 0,⟨[(2, .cl (.dead))],[],[],0,32⟩)]
def ib {ρ:Type} (v1:List Int) (v2:Int) (fn: (((List Int)×Int×Unit)×(Unit)×(Unit))→Option ρ) (fe: ((Bool×Unit)×(Unit)×(Unit))⊕((Unit×Unit)×(Unit)×(Unit))→Option ρ):Option ρ:=
 br (decide (v2 < (v1.length:Int))) (ap (0≤v2) ((v1[v2.toNat]?).bind fun x3=>(ea x3 0 4).bind fun y4=>br (!y4.1) (fe (.inl ((false,()),(()),(())))) (br (decide (v2 > 0)) (ap (0≤(IntKind.wrap .i64 (v2 - 1))) ((v1[(IntKind.wrap .i64 (v2 - 1)).toNat]?).bind fun x5=>ap (0≤v2) ((v1[v2.toNat]?).bind fun x6=>br (decide (x5≥x6)) (fe (.inl ((false,()),(()),(())))) (fn ((v1,(IntKind.wrap .i64 (v2+1)),()),(()),(())))) none) none) (fn ((v1,(IntKind.wrap .i64 (v2+1)),()),(()),(()))))) none) (fe (.inr (((),()),(()),(()))))
def dL (s:dp.D):Option (dp.D⊕bu.D gG):=ib s.1.1 s.1.2.1 (fun s=>some (.inl s)) (fun e=>some (.inr e))
def kX:dp.D→Option (bu.D gG):=jD dL
theorem zM {ρ:Type} (s:dp.D) (fn:dp.D→Option ρ) (fe:bu.D gG→Option ρ):ib s.1.1 s.1.2.1 fn fe=(dL s).bind (Sum.elim fn fe):=by
 simp only [dL,ib,al,ao,Option.bind_none,Option.bind_assoc,Option.bind_some,Sum.elim_inl,Sum.elim_inr]
abbrev ub:dg:=dA [] [0,3] dp gG kX
theorem xQ (s:dp.D):eP Θ (aQ xP) (aO []) kW (dp.mk' s) (dn [0,3] [2] fun x S=>some (x,S))=(dL s).bind (Sum.elim (fun s'=>some (.nor,dp.mk' s')) fun e=>some (bu.e gG e)):=
 Eq.trans (by kernel_rfl:_=ib s.1.1 s.1.2.1 (fun s'=>some (.nor,dp.mk' s')) (fun e=>some (bu.e gG e))) (zM s _ _)
theorem xR:cn Tryz.prog kW ub:=bi aR sY af (by kernel_rfl) (dF (by kernel_rfl:_= []) ah) [] [0,3] [2] dp gG (by kernel_rfl) dL xQ kX (hO dL) (aW dL)
def l5 {ρ:Type} (a0:List Int) (k:Bool×Unit→Option ρ):Option ρ:=
 (kX ((a0,0,()),(()),(()))).bind fun e7=>Sum.elim (fun e7_=>k (e7_.1.1,())) (fun e7_=>k (true,())) e7
def fX (a0:List Int):Option (Bool×Unit):=l5 a0 some
theorem DL {ρ:Type} (a0:List Int) (k:Bool×Unit→Option ρ):l5 a0 k=(fX a0).bind k:=by
 simp only [fX,l5,cx,Option.bind_assoc,Option.bind_some]
abbrev xS:bB:=bP [.ty (.ls (.i .i64))] [.b] fun x=>fX x.1
theorem Ht:aF Tryz.prog 224 xS:=
 ak (Λ:=aO [(ca kW,ub)]) (fn:=Tryz.f224) aR sY af (by kernel_rfl) (aM (by kernel_rfl:_= [kW]) (aV (q:=ca kW) rfl xR fun _ _ _=>by kernel_rfl)) (by kernel_rfl) (fun x=>fX x.1)
  (fun x=>Eq.trans (by kernel_rfl:_=l5 x.1 (fun y=>ret (aK [.b] y) fun v g=>some (v,g))) (DL x.1 _)) fun _ _ h=>h
abbrev A2:List (Nat×bB):= []
theorem uc:aA Tryz.prog (aQ A2):=aj _
noncomputable abbrev l6:Code:=cw (co Tryz.f51) 0
abbrev dM:ev:=⟨[(0, .cl (.ro (.i .i64))),(1, .cl (.int .i64)),(5, .cl (.int .i64))],[],[],0,18⟩
abbrev iR:List (X×ev):= [(.ret,⟨[(4, .cl (.bl))],[],[],0,18⟩),(.ext 0,⟨[(4, .cl (.dead))],[],[],0,18⟩)]
def jf {ρ:Type} (v1:List Int) (v2:Int) (v3:Int) (fn: (((List Int)×Int×Int×Unit)×(Unit)×(Unit))→Option ρ) (fe: ((Bool×Unit)×(Unit)×(Unit))⊕((Unit×Unit)×(Unit)×(Unit))→Option ρ):Option ρ:=
 br (decide (v3 < (v1.length:Int))) (ap (0≤v3) ((v1[v3.toNat]?).bind fun x4=>br (x4==v2) (fe (.inl ((true,()),(()),(())))) (fn ((v1,v2,(IntKind.wrap .i64 (v3+1)),()),(()),(())))) none) (fe (.inr (((),()),(()),(()))))
def eo (s:dM.D):Option (dM.D⊕bu.D iR):=jf s.1.1 s.1.2.1 s.1.2.2.1 (fun s=>some (.inl s)) (fun e=>some (.inr e))
def l7:dM.D→Option (bu.D iR):=jD eo
theorem BD {ρ:Type} (s:dM.D) (fn:dM.D→Option ρ) (fe:bu.D iR→Option ρ):jf s.1.1 s.1.2.1 s.1.2.2.1 fn fe=(eo s).bind (Sum.elim fn fe):=by
 simp only [eo,jf,al,ao,Option.bind_none,Option.bind_assoc,Option.bind_some,Sum.elim_inl,Sum.elim_inr]
abbrev vN:dg:=dA [] [0,1,5] dM iR l7
theorem zN (s:dM.D):eP Θ (aQ A2) (aO []) l6 (dM.mk' s) (dn [0,1,5] [4] fun x S=>some (x,S))=(eo s).bind (Sum.elim (fun s'=>some (.nor,dM.mk' s')) fun e=>some (bu.e iR e)):=
 Eq.trans (by kernel_rfl:_=jf s.1.1 s.1.2.1 s.1.2.2.1 (fun s'=>some (.nor,dM.mk' s')) (fun e=>some (bu.e iR e))) (BD s _ _)
theorem zO:cn Tryz.prog l6 vN:=bi aR uc af (by kernel_rfl) (dF (by kernel_rfl:_= []) ah) [] [0,1,5] [4] dM iR (by kernel_rfl) eo zN l7 (hO eo) (aW eo)
def nF {ρ:Type} (a0:List Int) (a1:Int) (k:Bool×Unit→Option ρ):Option ρ:=
 (l7 ((a0,a1,0,()),(()),(()))).bind fun e5=>Sum.elim (fun e5_=>k (e5_.1.1,())) (fun e5_=>k (false,())) e5
def gb (a0:List Int) (a1:Int):Option (Bool×Unit):=nF a0 a1 some
theorem Fm {ρ:Type} (a0:List Int) (a1:Int) (k:Bool×Unit→Option ρ):nF a0 a1 k=(gb a0 a1).bind k:=by
 simp only [gb,nF,cx,Option.bind_assoc,Option.bind_some]
abbrev qI:bB:=bP [.ty (.ls (.i .i64)), .ty (.i .i64)] [.b] fun x=>gb x.1 x.2.1
theorem ud:aF Tryz.prog 51 qI:=
 ak (Λ:=aO [(ca l6,vN)]) (fn:=Tryz.f51) aR uc af (by kernel_rfl) (aM (by kernel_rfl:_= [l6]) (aV (q:=ca l6) rfl zO fun _ _ _=>by kernel_rfl)) (by kernel_rfl) (fun x=>gb x.1 x.2.1)
  (fun x=>Eq.trans (by kernel_rfl:_=nF x.1 x.2.1 (fun y=>ret (aK [.b] y) fun v g=>some (v,g))) (Fm x.1 x.2.1 _)) fun _ _ h=>h
abbrev Mx:List (Nat×bB):= []
theorem DM:aA Tryz.prog (aQ Mx):=aj _
noncomputable abbrev rH:Code:=cw (co Tryz.f148) 0
abbrev jg:ev:=⟨[(0, .cl (.ro (.i .i64))),(1, .cl (.int .i64)),(5, .cl (.int .i64))],[],[],0,47⟩
abbrev ot:List (X×ev):= [(.ext 0,⟨[(0, .cl (.ro (.i .i64))),(1, .cl (.int .i64)),(5, .cl (.int .i64))],[],[],0,47⟩)]
def ou {ρ:Type} (v1:List Int) (v2:Int) (v3:Int) (fn: (((List Int)×Int×Int×Unit)×(Unit)×(Unit))→Option ρ) (fe: (((List Int)×Int×Int×Unit)×(Unit)×(Unit))→Option ρ):Option ρ:=
 br (decide (v3 < (v1.length:Int))) (ap (0≤v3) ((v1[v3.toNat]?).bind fun x4=>br (decide (x4 < v2)) (fn ((v1,v2,(IntKind.wrap .i64 (v3+1)),()),(()),(()))) (fe ((v1,v2,v3,()),(()),(())))) none) (fe ((v1,v2,v3,()),(()),(())))
def kh (s:jg.D):Option (jg.D⊕bu.D ot):=ou s.1.1 s.1.2.1 s.1.2.2.1 (fun s=>some (.inl s)) (fun e=>some (.inr e))
def vg:jg.D→Option (bu.D ot):=jD kh
theorem JG {ρ:Type} (s:jg.D) (fn:jg.D→Option ρ) (fe:bu.D ot→Option ρ):ou s.1.1 s.1.2.1 s.1.2.2.1 fn fe=(kh s).bind (Sum.elim fn fe):=by
 simp only [kh,ou,al,ao,Option.bind_none,Option.bind_assoc,Option.bind_some,Sum.elim_inl,Sum.elim_inr]
abbrev Gf:dg:=dA [] [0,1,5] jg ot vg
theorem Hu (s:jg.D):eP Θ (aQ Mx) (aO []) rH (jg.mk' s) (dn [0,1,5] [0,1,5] fun x S=>some (x,S))=(kh s).bind (Sum.elim (fun s'=>some (.nor,jg.mk' s')) fun e=>some (bu.e ot e)):=
 Eq.trans (by kernel_rfl:_=ou s.1.1 s.1.2.1 s.1.2.2.1 (fun s'=>some (.nor,jg.mk' s')) (fun e=>some (bu.e ot e))) (JG s _ _)
theorem Hv:cn Tryz.prog rH Gf:=bi aR DM af (by kernel_rfl) (dF (by kernel_rfl:_= []) ah) [] [0,1,5] [0,1,5] jg ot (by kernel_rfl) kh Hu vg (hO kh) (aW kh)
def ue {ρ:Type} (a0:List Int) (a1:Int) (k: (List Int)×Unit→Option ρ):Option ρ:=
 (vg ((a0,a1,0,()),(()),(()))).bind fun e5=>br (decide (e5.1.2.2.1 < (e5.1.1.length:Int))) (ap (0≤e5.1.2.2.1) ((e5.1.1[e5.1.2.2.1.toNat]?).bind fun x6=>br (x6==e5.1.2.1) (ap ((([]:List Int)++e5.1.1).length*8≤2 ^ 40) (k ((([]:List Int)++e5.1.1),())) none) (ap (0≤(0:Int)∧(0:Int)≤e5.1.2.2.1∧e5.1.2.2.1≤(e5.1.1.length:Int)) (ap ((([]:List Int)++((e5.1.1.drop (0:Int).toNat).take (e5.1.2.2.1.toNat - (0:Int).toNat))).length*8≤2 ^ 40) (ap (((([]:List Int)++((e5.1.1.drop (0:Int).toNat).take (e5.1.2.2.1.toNat - (0:Int).toNat)))++([e5.1.2.1]:List Int)).length*8≤2 ^ 40) (ap (0≤e5.1.2.2.1∧e5.1.2.2.1≤(e5.1.1.length:Int)∧(e5.1.1.length:Int)≤(e5.1.1.length:Int)) (ap ((((([]:List Int)++((e5.1.1.drop (0:Int).toNat).take (e5.1.2.2.1.toNat - (0:Int).toNat)))++([e5.1.2.1]:List Int))++((e5.1.1.drop e5.1.2.2.1.toNat).take ((e5.1.1.length:Int).toNat - e5.1.2.2.1.toNat))).length*8≤2 ^ 40) (k ((((([]:List Int)++((e5.1.1.drop (0:Int).toNat).take (e5.1.2.2.1.toNat - (0:Int).toNat)))++([e5.1.2.1]:List Int))++((e5.1.1.drop e5.1.2.2.1.toNat).take ((e5.1.1.length:Int).toNat - e5.1.2.2.1.toNat))),())) none) none) none) none) none)) none) (ap (0≤(0:Int)∧(0:Int)≤e5.1.2.2.1∧e5.1.2.2.1≤(e5.1.1.length:Int)) (ap ((([]:List Int)++((e5.1.1.drop (0:Int).toNat).take (e5.1.2.2.1.toNat - (0:Int).toNat))).length*8≤2 ^ 40) (ap (((([]:List Int)++((e5.1.1.drop (0:Int).toNat).take (e5.1.2.2.1.toNat - (0:Int).toNat)))++([e5.1.2.1]:List Int)).length*8≤2 ^ 40) (ap (0≤e5.1.2.2.1∧e5.1.2.2.1≤(e5.1.1.length:Int)∧(e5.1.1.length:Int)≤(e5.1.1.length:Int)) (ap ((((([]:List Int)++((e5.1.1.drop (0:Int).toNat).take (e5.1.2.2.1.toNat - (0:Int).toNat)))++([e5.1.2.1]:List Int))++((e5.1.1.drop e5.1.2.2.1.toNat).take ((e5.1.1.length:Int).toNat - e5.1.2.2.1.toNat))).length*8≤2 ^ 40) (k ((((([]:List Int)++((e5.1.1.drop (0:Int).toNat).take (e5.1.2.2.1.toNat - (0:Int).toNat)))++([e5.1.2.1]:List Int))++((e5.1.1.drop e5.1.2.2.1.toNat).take ((e5.1.1.length:Int).toNat - e5.1.2.2.1.toNat))),())) none) none) none) none) none)
def sJ (a0:List Int) (a1:Int):Option ((List Int)×Unit):=ue a0 a1 some
theorem Nu {ρ:Type} (a0:List Int) (a1:Int) (k: (List Int)×Unit→Option ρ):ue a0 a1 k=(sJ a0 a1).bind k:=by
 simp only [sJ,ue,al,ao,Option.bind_none,Option.bind_assoc,Option.bind_some]
abbrev My:bB:=bP [.ty (.ls (.i .i64)), .ty (.i .i64)] [.ls (.i .i64)] fun x=>sJ x.1 x.2.1
theorem QU:aF Tryz.prog 148 My:=
 ak (Λ:=aO [(ca rH,Gf)]) (fn:=Tryz.f148) aR DM af (by kernel_rfl) (aM (by kernel_rfl:_= [rH]) (aV (q:=ca rH) rfl Hv fun _ _ _=>by kernel_rfl)) (by kernel_rfl) (fun x=>sJ x.1 x.2.1)
  (fun x=>Eq.trans (by kernel_rfl:_=ue x.1 x.2.1 (fun y=>ret (aK [.ls (.i .i64)] y) fun v g=>some (v,g))) (Nu x.1 x.2.1 _)) fun _ _ h=>h
abbrev sZ:List (Nat×bB):= [(51,qI),(148,My)]
theorem pW:aA Tryz.prog (aQ sZ):=ae ud <| ae QU <| aj _
noncomputable abbrev ir:Code:=cw (co Tryz.f128) 0
abbrev cy:ev:=⟨[(0, .cl (.ro (.i .i64))),(1, .cl (.ro (.i .i64))),(5, .cl (.own 0 (.i .i64))),(6, .cl (.int .i64))],[],[.i .i64],0,27⟩
abbrev ey:List (X×ev):= [(.ext 0,⟨[(5, .cl (.own 0 (.i .i64)))],[],[.i .i64],0,27⟩)]
def eY {ρ:Type} (v1:List Int) (v2:List Int) (v3:List Int) (v4:Int) (fn: (((List Int)×(List Int)×Unit×Int×Unit)×(Unit)×((List Int)×Unit))→Option ρ) (fe: ((Unit×Unit)×(Unit)×((List Int)×Unit))→Option ρ):Option ρ:=
 br (decide (v4 < (v2.length:Int))) (ap (0≤v4) ((v2[v4.toNat]?).bind fun x5=>(gb v3 x5).bind fun y6=>br y6.1 (ap (0≤v4) ((v2[v4.toNat]?).bind fun x7=>(sJ v1 x7).bind fun y8=>fn ((v2,v3,(),(IntKind.wrap .i64 (v4+1)),()),(()),(y8.1,()))) none) (fn ((v2,v3,(),(IntKind.wrap .i64 (v4+1)),()),(()),(v1,())))) none) (fe (((),()),(()),(v1,())))
def cR (s:cy.D):Option (cy.D⊕bu.D ey):=eY s.2.2.1 s.1.1 s.1.2.1 s.1.2.2.2.1 (fun s=>some (.inl s)) (fun e=>some (.inr e))
def kv:cy.D→Option (bu.D ey):=jD cR
theorem vl {ρ:Type} (s:cy.D) (fn:cy.D→Option ρ) (fe:bu.D ey→Option ρ):eY s.2.2.1 s.1.1 s.1.2.1 s.1.2.2.2.1 fn fe=(cR s).bind (Sum.elim fn fe):=by
 simp only [cR,eY,al,ao,Option.bind_none,Option.bind_assoc,Option.bind_some,Sum.elim_inl,Sum.elim_inr]
abbrev qJ:dg:=dA [] [0,1,5,6] cy ey kv
theorem uf (s:cy.D):eP Θ (aQ sZ) (aO []) ir (cy.mk' s) (dn [0,1,5,6] [5] fun x S=>some (x,S))=(cR s).bind (Sum.elim (fun s'=>some (.nor,cy.mk' s')) fun e=>some (bu.e ey e)):=
 Eq.trans (by kernel_rfl:_=eY s.2.2.1 s.1.1 s.1.2.1 s.1.2.2.2.1 (fun s'=>some (.nor,cy.mk' s')) (fun e=>some (bu.e ey e))) (vl s _ _)
theorem ug:cn Tryz.prog ir qJ:=bi aR pW af (by kernel_rfl) (dF (by kernel_rfl:_= []) ah) [] [0,1,5,6] [5] cy ey (by kernel_rfl) cR uf kv (hO cR) (aW cR)
def jh {ρ:Type} (a0:List Int) (a1:List Int) (k: (List Int)×Unit→Option ρ):Option ρ:=
 (kv ((a0,a1,(),0,()),(()),(([]:List Int),()))).bind fun e9=>k (e9.2.2.1,())
def fL (a0:List Int) (a1:List Int):Option ((List Int)×Unit):=jh a0 a1 some
theorem xT {ρ:Type} (a0:List Int) (a1:List Int) (k: (List Int)×Unit→Option ρ):jh a0 a1 k=(fL a0 a1).bind k:=by
 simp only [fL,jh,Option.bind_assoc,Option.bind_some]
abbrev s4:bB:=bP [.ty (.ls (.i .i64)), .ty (.ls (.i .i64))] [.ls (.i .i64)] fun x=>fL x.1 x.2.1
theorem BE:aF Tryz.prog 128 s4:=
 ak (Λ:=aO [(ca ir,qJ)]) (fn:=Tryz.f128) aR pW af (by kernel_rfl) (aM (by kernel_rfl:_= [ir]) (aV (q:=ca ir) rfl ug fun _ _ _=>by kernel_rfl)) (by kernel_rfl) (fun x=>fL x.1 x.2.1)
  (fun x=>Eq.trans (by kernel_rfl:_=jh x.1 x.2.1 (fun y=>ret (aK [.ls (.i .i64)] y) fun v g=>some (v,g))) (xT x.1 x.2.1 _)) fun _ _ h=>h
abbrev BF:List (Nat×bB):= [(120,o7),(224,xS),(51,qI),(128,s4)]
theorem wE:aA Tryz.prog (aQ BF):=ae pV <| ae Ht <| ae ud <| ae BE <| aj _
def gr {ρ:Type} (a0:ai) (k:Bool×Unit→Option ρ):Option ρ:=
 (ea a0.epoch 1 20).bind fun y1=>br y1.1 ((fX a0.replicas).bind fun y2=>br y2.1 ((fX a0.witnesses).bind fun y3=>br y3.1 ((gb a0.replicas a0.primary).bind fun y4=>br y4.1 ((fL a0.replicas a0.witnesses).bind fun y5=>k (((y5.1.length:Int)==0),())) (k (false,()))) (k (false,()))) (k (false,()))) (k (false,()))
def cb (a0:ai):Option (Bool×Unit):=gr a0 some
theorem xU {ρ:Type} (a0:ai) (k:Bool×Unit→Option ρ):gr a0 k=(cb a0).bind k:=by
 simp only [cb,gr,al,Option.bind_assoc,Option.bind_some]
abbrev o8:bB:=bP [.ty (.st .config)] [.b] fun x=>cb x.1
theorem s5:aF Tryz.prog 169 o8:=
 ak (Λ:=aO []) (fn:=Tryz.f169) aR wE af (by kernel_rfl) (aM (by kernel_rfl:_= []) ah) (by kernel_rfl) (fun x=>cb x.1)
  (fun x=>Eq.trans (by kernel_rfl:_=gr x.1 (fun y=>ret (aK [.b] y) fun v g=>some (v,g))) (xU x.1 _)) fun _ _ h=>h
abbrev vO:List (Nat×bB):= [(169,o8),(120,o7)]
theorem rI:aA Tryz.prog (aQ vO):=ae s5 <| ae pV <| aj _
noncomputable abbrev jX:Code:=cw (co Tryz.f122) 0
abbrev cZ:ev:=⟨[(1, .cl (.ptr 0 0)),(3, .cl (.int .i64))],[[.ro (.st .config), .int .i64]],[],0,35⟩
abbrev fM:List (X×ev):= [(.ret,⟨[(1, .cl (.ptr 0 0)),(2, .cl (.bl))],[[.ro (.st .config), .int .i64]],[],0,35⟩),(.ext 0,⟨[(1, .cl (.ptr 0 0)),(2, .cl (.dead))],[[.ro (.st .config), .int .i64]],[],0,35⟩)]
def dB {ρ:Type} (v1:Int) (v2:List ai) (v3:Int) (fn: ((Unit×Int×Unit)×(((List ai)×Int×Unit)×Unit)×(Unit))→Option ρ) (fe: ((Unit×Bool×Unit)×(((List ai)×Int×Unit)×Unit)×(Unit))⊕((Unit×Unit×Unit)×(((List ai)×Int×Unit)×Unit)×(Unit))→Option ρ):Option ρ:=
 br (decide (v1 < (v2.length:Int))) (ap (0≤v1) ((v2[v1.toNat]?).bind fun x4=>(cb x4).bind fun y5=>br (!y5.1) (fe (.inl (((),false,()),((v2,v3,()),()),(())))) (ap (0≤v1) ((v2[v1.toNat]?).bind fun x6=>br (!(x6.epoch==(IntKind.wrap .i64 (v1+1)))) (fe (.inl (((),false,()),((v2,v3,()),()),(())))) (fn (((),(IntKind.wrap .i64 (v1+1)),()),((v2,v3,()),()),(())))) none)) none) (fe (.inr (((),(),()),((v2,v3,()),()),(()))))
def bK (s:cZ.D):Option (cZ.D⊕bu.D fM):=dB s.1.2.1 s.2.1.1.1 s.2.1.1.2.1 (fun s=>some (.inl s)) (fun e=>some (.inr e))
def fO:cZ.D→Option (bu.D fM):=jD bK
theorem xV {ρ:Type} (s:cZ.D) (fn:cZ.D→Option ρ) (fe:bu.D fM→Option ρ):dB s.1.2.1 s.2.1.1.1 s.2.1.1.2.1 fn fe=(bK s).bind (Sum.elim fn fe):=by
 simp only [bK,dB,al,ao,Option.bind_none,Option.bind_assoc,Option.bind_some,Sum.elim_inl,Sum.elim_inr]
abbrev s6:dg:=dA [] [1,3] cZ fM fO
theorem wF (s:cZ.D):eP Θ (aQ vO) (aO []) jX (cZ.mk' s) (dn [1,3] [1,2] fun x S=>some (x,S))=(bK s).bind (Sum.elim (fun s'=>some (.nor,cZ.mk' s')) fun e=>some (bu.e fM e)):=
 Eq.trans (by kernel_rfl:_=dB s.1.2.1 s.2.1.1.1 s.2.1.1.2.1 (fun s'=>some (.nor,cZ.mk' s')) (fun e=>some (bu.e fM e))) (xV s _ _)
theorem wG:cn Tryz.prog jX s6:=bi aR rI af (by kernel_rfl) (dF (by kernel_rfl:_= []) ah) [] [1,3] [1,2] cZ fM (by kernel_rfl) bK wF fO (hO bK) (aW bK)
def ji {ρ:Type} (a0:aw) (k:Bool×Unit→Option ρ):Option ρ:=
 (fO (((),0,()),((a0.configs,a0.activated,()),()),(()))).bind fun e7=>Sum.elim (fun e7_=>k (e7_.1.2.1,())) (fun e7_=>(ea e7_.2.1.1.2.1 0 (e7_.2.1.1.1.length:Int)).bind fun y8=>k (y8.1,())) e7
def dx (a0:aw):Option (Bool×Unit):=ji a0 some
theorem BG {ρ:Type} (a0:aw) (k:Bool×Unit→Option ρ):ji a0 k=(dx a0).bind k:=by
 simp only [dx,ji,cx,Option.bind_assoc,Option.bind_some]
abbrev rh:bB:=bP [.ty (.st .masterLog)] [.b] fun x=>dx x.1
theorem vP:aF Tryz.prog 122 rh:=
 ak (Λ:=aO [(ca jX,s6)]) (fn:=Tryz.f122) aR rI af (by kernel_rfl) (aM (by kernel_rfl:_= [jX]) (aV (q:=ca jX) rfl wG fun _ _ _=>by kernel_rfl)) (by kernel_rfl) (fun x=>dx x.1)
  (fun x=>Eq.trans (by kernel_rfl:_=ji x.1 (fun y=>ret (aK [.b] y) fun v g=>some (v,g))) (BG x.1 _)) fun _ _ h=>h
abbrev Pp:List (Nat×bB):= []
theorem JH:aA Tryz.prog (aQ Pp):=aj _
def pL {ρ:Type} (a0:ai) (k:ai×Unit→Option ρ):Option ρ:=
 ap ((([]:List Int)++a0.replicas).length*8≤2 ^ 40) (ap ((([]:List Int)++a0.witnesses).length*8≤2 ^ 40) (k ((⟨a0.epoch,a0.primary,(([]:List Int)++a0.replicas),(([]:List Int)++a0.witnesses)⟩:ai),())) none) none
def nG (a0:ai):Option (ai×Unit):=pL a0 some
theorem Lq {ρ:Type} (a0:ai) (k:ai×Unit→Option ρ):pL a0 k=(nG a0).bind k:=by
 simp only [nG,pL,ao,Option.bind_none,Option.bind_some]
abbrev JI:bB:=bP [.ty (.st .config)] [.st .config] fun x=>nG x.1
theorem Pq:aF Tryz.prog 170 JI:=
 ak (Λ:=aO []) (fn:=Tryz.f170) aR JH af (by kernel_rfl) (aM (by kernel_rfl:_= []) ah) (by kernel_rfl) (fun x=>nG x.1)
  (fun x=>Eq.trans (by kernel_rfl:_=pL x.1 (fun y=>ret (aK [.st .config] y) fun v g=>some (v,g))) (Lq x.1 _)) fun _ _ h=>h
abbrev Lr:List (Nat×bB):= [(122,rh),(120,o7),(170,JI)]
theorem Fn:aA Tryz.prog (aQ Lr):=ae vP <| ae pV <| ae Pq <| aj _
def na {ρ:Type} (a0:aw) (a1:Int) (k:ai×Bool×Unit→Option ρ):Option ρ:=
 (dx a0).bind fun y1=>br (!y1.1) (k ((⟨0,0,([]:List Int),([]:List Int)⟩:ai),false,())) ((ea a1 1 (a0.configs.length:Int)).bind fun y2=>br (!y2.1) (k ((⟨0,0,([]:List Int),([]:List Int)⟩:ai),false,())) (ap (0≤(IntKind.wrap .i64 (a1 - 1))) ((a0.configs[(IntKind.wrap .i64 (a1 - 1)).toNat]?).bind fun x3=>(nG x3).bind fun y4=>k (y4.1,true,())) none))
def iT (a0:aw) (a1:Int):Option (ai×Bool×Unit):=na a0 a1 some
theorem Hw {ρ:Type} (a0:aw) (a1:Int) (k:ai×Bool×Unit→Option ρ):na a0 a1 k=(iT a0 a1).bind k:=by
 simp only [iT,na,al,ao,Option.bind_none,Option.bind_assoc,Option.bind_some]
abbrev wH:bB:=bP [.ty (.st .masterLog), .ty (.i .i64)] [.st .config, .b] fun x=>iT x.1 x.2.1
theorem DN:aF Tryz.prog 127 wH:=
 ak (Λ:=aO []) (fn:=Tryz.f127) aR Fn af (by kernel_rfl) (aM (by kernel_rfl:_= []) ah) (by kernel_rfl) (fun x=>iT x.1 x.2.1)
  (fun x=>Eq.trans (by kernel_rfl:_=na x.1 x.2.1 (fun y=>ret (aK [.st .config, .b] y) fun v g=>some (v,g))) (Hw x.1 x.2.1 _)) fun _ _ h=>h
abbrev BH:List (Nat×bB):= [(127,wH)]
theorem wI:aA Tryz.prog (aQ BH):=ae DN <| aj _
def gt {ρ:Type} (a0:aw) (k:ai×Bool×Unit→Option ρ):Option ρ:=
 (iT a0 a0.activated).bind fun y1=>k (y1.1,y1.2.1,())
def dW (a0:aw):Option (ai×Bool×Unit):=gt a0 some
theorem xW {ρ:Type} (a0:aw) (k:ai×Bool×Unit→Option ρ):gt a0 k=(dW a0).bind k:=by
 simp only [dW,gt,Option.bind_assoc,Option.bind_some]
abbrev s7:bB:=bP [.ty (.st .masterLog)] [.st .config, .b] fun x=>dW x.1
theorem BI:aF Tryz.prog 50 s7:=
 ak (Λ:=aO []) (fn:=Tryz.f50) aR wI af (by kernel_rfl) (aM (by kernel_rfl:_= []) ah) (by kernel_rfl) (fun x=>dW x.1)
  (fun x=>Eq.trans (by kernel_rfl:_=gt x.1 (fun y=>ret (aK [.st .config, .b] y) fun v g=>some (v,g))) (xW x.1 _)) fun _ _ h=>h
abbrev DP:List (Nat×bB):= [(120,o7)]
theorem vQ:aA Tryz.prog (aQ DP):=ae pV <| aj _
noncomputable abbrev nH:Code:=cw (co Tryz.f121) 0
abbrev ez:ev:=⟨[(0, .cl (.ro (.i .i64))),(3, .cl (.int .i64))],[],[],0,19⟩
abbrev jO:List (X×ev):= [(.ret,⟨[(0, .cl (.ro (.i .i64))),(2, .cl (.bl))],[],[],0,19⟩),(.ext 0,⟨[(0, .cl (.ro (.i .i64))),(2, .cl (.dead))],[],[],0,19⟩)]
def ki {ρ:Type} (v1:List Int) (v2:Int) (fn: (((List Int)×Int×Unit)×(Unit)×(Unit))→Option ρ) (fe: (((List Int)×Bool×Unit)×(Unit)×(Unit))⊕(((List Int)×Unit×Unit)×(Unit)×(Unit))→Option ρ):Option ρ:=
 br (decide (v2 < (v1.length:Int))) (ap (0≤v2) ((v1[v2.toNat]?).bind fun x3=>(ea x3 0 3).bind fun y4=>br (!y4.1) (fe (.inl ((v1,false,()),(()),(())))) (fn ((v1,(IntKind.wrap .i64 (v2+1)),()),(()),(())))) none) (fe (.inr ((v1,(),()),(()),(()))))
def fx (s:ez.D):Option (ez.D⊕bu.D jO):=ki s.1.1 s.1.2.1 (fun s=>some (.inl s)) (fun e=>some (.inr e))
def nI:ez.D→Option (bu.D jO):=jD fx
theorem DQ {ρ:Type} (s:ez.D) (fn:ez.D→Option ρ) (fe:bu.D jO→Option ρ):ki s.1.1 s.1.2.1 fn fe=(fx s).bind (Sum.elim fn fe):=by
 simp only [fx,ki,al,ao,Option.bind_none,Option.bind_assoc,Option.bind_some,Sum.elim_inl,Sum.elim_inr]
abbrev xX:dg:=dA [] [0,3] ez jO nI
theorem BJ (s:ez.D):eP Θ (aQ DP) (aO []) nH (ez.mk' s) (dn [0,3] [0,2] fun x S=>some (x,S))=(fx s).bind (Sum.elim (fun s'=>some (.nor,ez.mk' s')) fun e=>some (bu.e jO e)):=
 Eq.trans (by kernel_rfl:_=ki s.1.1 s.1.2.1 (fun s'=>some (.nor,ez.mk' s')) (fun e=>some (bu.e jO e))) (DQ s _ _)
theorem BK:cn Tryz.prog nH xX:=bi aR vQ af (by kernel_rfl) (dF (by kernel_rfl:_= []) ah) [] [0,3] [0,2] ez jO (by kernel_rfl) fx BJ nI (hO fx) (aW fx)
def oU {ρ:Type} (a0:List Int) (k:Bool×Unit→Option ρ):Option ρ:=
 (nI ((a0,0,()),(()),(()))).bind fun e5=>Sum.elim (fun e5_=>k (e5_.1.2.1,())) (fun e5_=>k (((e5_.1.1.length:Int)==5),())) e5
def kY (a0:List Int):Option (Bool×Unit):=oU a0 some
theorem Hx {ρ:Type} (a0:List Int) (k:Bool×Unit→Option ρ):oU a0 k=(kY a0).bind k:=by
 simp only [kY,oU,cx,Option.bind_assoc,Option.bind_some]
abbrev DR:bB:=bP [.ty (.ls (.i .i64))] [.b] fun x=>kY x.1
theorem Ls:aF Tryz.prog 121 DR:=
 ak (Λ:=aO [(ca nH,xX)]) (fn:=Tryz.f121) aR vQ af (by kernel_rfl) (aM (by kernel_rfl:_= [nH]) (aV (q:=ca nH) rfl BK fun _ _ _=>by kernel_rfl)) (by kernel_rfl) (fun x=>kY x.1)
  (fun x=>Eq.trans (by kernel_rfl:_=oU x.1 (fun y=>ret (aK [.b] y) fun v g=>some (v,g))) (Hx x.1 _)) fun _ _ h=>h
abbrev Nv:List (Nat×bB):= [(120,o7)]
theorem Hy:aA Tryz.prog (aQ Nv):=ae pV <| aj _
def pX {ρ:Type} (a0:jW) (k:Bool×Unit→Option ρ):Option ρ:=
 br ((a0.epoch==0)&&((a0.holder==0)&&((a0.ends==0)&&true))) (k (true,())) ((ea a0.epoch 1 20).bind fun y1=>br y1.1 ((ea a0.holder 0 4).bind fun y2=>br y2.1 ((ea a0.ends 1 1049).bind fun y3=>k (y3.1,())) (k (false,()))) (k (false,())))
def nc (a0:jW):Option (Bool×Unit):=pX a0 some
theorem JJ {ρ:Type} (a0:jW) (k:Bool×Unit→Option ρ):pX a0 k=(nc a0).bind k:=by
 simp only [nc,pX,al,Option.bind_assoc,Option.bind_some]
abbrev Gg:bB:=bP [.ty (.st .lease)] [.b] fun x=>nc x.1
theorem Nw:aF Tryz.prog 123 Gg:=
 ak (Λ:=aO []) (fn:=Tryz.f123) aR Hy af (by kernel_rfl) (aM (by kernel_rfl:_= []) ah) (by kernel_rfl) (fun x=>nc x.1)
  (fun x=>Eq.trans (by kernel_rfl:_=pX x.1 (fun y=>ret (aK [.b] y) fun v g=>some (v,g))) (JJ x.1 _)) fun _ _ h=>h
abbrev A3:List (Nat×bB):= [(120,o7)]
theorem uh:aA Tryz.prog (aQ A3):=ae pV <| aj _
noncomputable abbrev l8:Code:=cw (co Tryz.f124) 0
abbrev dN:ev:=⟨[(0, .cl (.ro (.st .place))),(3, .cl (.int .i64))],[],[],0,38⟩
abbrev iU:List (X×ev):= [(.ret,⟨[(0, .cl (.ro (.st .place))),(2, .cl (.bl))],[],[],0,38⟩),(.ext 0,⟨[(0, .cl (.ro (.st .place))),(2, .cl (.dead))],[],[],0,38⟩)]
def jj {ρ:Type} (v1:List be) (v2:Int) (fn: (((List be)×Int×Unit)×(Unit)×(Unit))→Option ρ) (fe: (((List be)×Bool×Unit)×(Unit)×(Unit))⊕(((List be)×Unit×Unit)×(Unit)×(Unit))→Option ρ):Option ρ:=
 br (decide (v2 < (v1.length:Int))) (ap (0≤v2) ((v1[v2.toNat]?).bind fun x3=>(ea x3.rack 0 9).bind fun y4=>br (!y4.1) (fe (.inl ((v1,false,()),(()),(())))) (ap (0≤v2) ((v1[v2.toNat]?).bind fun x5=>(ea x5.capacity 0 9).bind fun y6=>br (!y6.1) (fe (.inl ((v1,false,()),(()),(())))) (ap (0≤v2) ((v1[v2.toNat]?).bind fun x7=>(ea x7.load 0 99).bind fun y8=>br (!y8.1) (fe (.inl ((v1,false,()),(()),(())))) (fn ((v1,(IntKind.wrap .i64 (v2+1)),()),(()),(())))) none)) none)) none) (fe (.inr ((v1,(),()),(()),(()))))
def ep (s:dN.D):Option (dN.D⊕bu.D iU):=jj s.1.1 s.1.2.1 (fun s=>some (.inl s)) (fun e=>some (.inr e))
def l9:dN.D→Option (bu.D iU):=jD ep
theorem BL {ρ:Type} (s:dN.D) (fn:dN.D→Option ρ) (fe:bu.D iU→Option ρ):jj s.1.1 s.1.2.1 fn fe=(ep s).bind (Sum.elim fn fe):=by
 simp only [ep,jj,al,ao,Option.bind_none,Option.bind_assoc,Option.bind_some,Sum.elim_inl,Sum.elim_inr]
abbrev vR:dg:=dA [] [0,3] dN iU l9
theorem zP (s:dN.D):eP Θ (aQ A3) (aO []) l8 (dN.mk' s) (dn [0,3] [0,2] fun x S=>some (x,S))=(ep s).bind (Sum.elim (fun s'=>some (.nor,dN.mk' s')) fun e=>some (bu.e iU e)):=
 Eq.trans (by kernel_rfl:_=jj s.1.1 s.1.2.1 (fun s'=>some (.nor,dN.mk' s')) (fun e=>some (bu.e iU e))) (BL s _ _)
theorem zQ:cn Tryz.prog l8 vR:=bi aR uh af (by kernel_rfl) (dF (by kernel_rfl:_= []) ah) [] [0,3] [0,2] dN iU (by kernel_rfl) ep zP l9 (hO ep) (aW ep)
def nJ {ρ:Type} (a0:List be) (k:Bool×Unit→Option ρ):Option ρ:=
 (l9 ((a0,0,()),(()),(()))).bind fun e9=>Sum.elim (fun e9_=>k (e9_.1.2.1,())) (fun e9_=>k (((e9_.1.1.length:Int)==5),())) e9
def jE (a0:List be):Option (Bool×Unit):=nJ a0 some
theorem Fo {ρ:Type} (a0:List be) (k:Bool×Unit→Option ρ):nJ a0 k=(jE a0).bind k:=by
 simp only [jE,nJ,cx,Option.bind_assoc,Option.bind_some]
abbrev A4:bB:=bP [.ty (.ls (.st .place))] [.b] fun x=>jE x.1
theorem JK:aF Tryz.prog 124 A4:=
 ak (Λ:=aO [(ca l8,vR)]) (fn:=Tryz.f124) aR uh af (by kernel_rfl) (aM (by kernel_rfl:_= [l8]) (aV (q:=ca l8) rfl zQ fun _ _ _=>by kernel_rfl)) (by kernel_rfl) (fun x=>jE x.1)
  (fun x=>Eq.trans (by kernel_rfl:_=nJ x.1 (fun y=>ret (aK [.b] y) fun v g=>some (v,g))) (Fo x.1 _)) fun _ _ h=>h
abbrev JL:List (Nat×bB):= [(120,o7)]
theorem DS:aA Tryz.prog (aQ JL):=ae pV <| aj _
def nK {ρ:Type} (a0:Op) (k:Bool×Unit→Option ρ):Option ρ:=
 (ea a0.client 0 2).bind fun y1=>br (!y1.1) (k (false,())) ((ea a0.seq 1 99).bind fun y2=>br (!y2.1) (k (false,())) ((ea a0.object 0 2).bind fun y3=>br (!y3.1) (k (false,())) ((ea a0.value 0 9).bind fun y4=>br (!y4.1) (k (false,())) (br (a0.kind==1) (br (a0.old==0) (k (true,())) (br (a0.kind==2) ((ea a0.old 0 9).bind fun y5=>k (y5.1,())) (k (false,())))) (br (a0.kind==2) ((ea a0.old 0 9).bind fun y6=>k (y6.1,())) (k (false,())))))))
def kZ (a0:Op):Option (Bool×Unit):=nK a0 some
theorem Fp {ρ:Type} (a0:Op) (k:Bool×Unit→Option ρ):nK a0 k=(kZ a0).bind k:=by
 simp only [kZ,nK,al,Option.bind_assoc,Option.bind_some]
abbrev A5:bB:=bP [.ty (.st .op)] [.b] fun x=>kZ x.1
theorem JM:aF Tryz.prog 225 A5:=
 ak (Λ:=aO []) (fn:=Tryz.f225) aR DS af (by kernel_rfl) (aM (by kernel_rfl:_= []) ah) (by kernel_rfl) (fun x=>kZ x.1)
  (fun x=>Eq.trans (by kernel_rfl:_=nK x.1 (fun y=>ret (aK [.b] y) fun v g=>some (v,g))) (Fp x.1 _)) fun _ _ h=>h
abbrev Mz:List (Nat×bB):= [(120,o7),(225,A5)]
theorem DT:aA Tryz.prog (aQ Mz):=ae pV <| ae JM <| aj _
noncomputable abbrev rJ:Code:=cw (co Tryz.f172) 0
abbrev jk:ev:=⟨[(0, .cl (.ro (.st .entry))),(3, .cl (.int .i64))],[],[],0,47⟩
abbrev ov:List (X×ev):= [(.ret,⟨[(0, .cl (.ro (.st .entry))),(2, .cl (.bl))],[],[],0,47⟩),(.ext 0,⟨[(0, .cl (.ro (.st .entry))),(2, .cl (.dead))],[],[],0,47⟩)]
def ow {ρ:Type} (v1:List aB) (v2:Int) (fn: (((List aB)×Int×Unit)×(Unit)×(Unit))→Option ρ) (fe: (((List aB)×Bool×Unit)×(Unit)×(Unit))⊕(((List aB)×Unit×Unit)×(Unit)×(Unit))→Option ρ):Option ρ:=
 br (decide (v2 < (v1.length:Int))) (ap (0≤v2) ((v1[v2.toNat]?).bind fun x3=>(ea x3.epoch 1 20).bind fun y4=>br (!y4.1) (fe (.inl ((v1,false,()),(()),(())))) (ap (0≤v2) ((v1[v2.toNat]?).bind fun x5=>(kZ x5.op).bind fun y6=>br (!y6.1) (fe (.inl ((v1,false,()),(()),(())))) (br (decide (v2 > 0)) (ap (0≤(IntKind.wrap .i64 (v2 - 1))) ((v1[(IntKind.wrap .i64 (v2 - 1)).toNat]?).bind fun x7=>ap (0≤v2) ((v1[v2.toNat]?).bind fun x8=>br (decide (x7.epoch > x8.epoch)) (fe (.inl ((v1,false,()),(()),(())))) (fn ((v1,(IntKind.wrap .i64 (v2+1)),()),(()),(())))) none) none) (fn ((v1,(IntKind.wrap .i64 (v2+1)),()),(()),(()))))) none)) none) (fe (.inr ((v1,(),()),(()),(()))))
def kj (s:jk.D):Option (jk.D⊕bu.D ov):=ow s.1.1 s.1.2.1 (fun s=>some (.inl s)) (fun e=>some (.inr e))
def rK:jk.D→Option (bu.D ov):=jD kj
theorem JN {ρ:Type} (s:jk.D) (fn:jk.D→Option ρ) (fe:bu.D ov→Option ρ):ow s.1.1 s.1.2.1 fn fe=(kj s).bind (Sum.elim fn fe):=by
 simp only [kj,ow,al,ao,Option.bind_none,Option.bind_assoc,Option.bind_some,Sum.elim_inl,Sum.elim_inr]
abbrev Gh:dg:=dA [] [0,3] jk ov rK
theorem Hz (s:jk.D):eP Θ (aQ Mz) (aO []) rJ (jk.mk' s) (dn [0,3] [0,2] fun x S=>some (x,S))=(kj s).bind (Sum.elim (fun s'=>some (.nor,jk.mk' s')) fun e=>some (bu.e ov e)):=
 Eq.trans (by kernel_rfl:_=ow s.1.1 s.1.2.1 (fun s'=>some (.nor,jk.mk' s')) (fun e=>some (bu.e ov e))) (JN s _ _)
theorem HA:cn Tryz.prog rJ Gh:=bi aR DT af (by kernel_rfl) (dF (by kernel_rfl:_= []) ah) [] [0,3] [0,2] jk ov (by kernel_rfl) kj Hz rK (hO kj) (aW kj)
def uj {ρ:Type} (a0:List aB) (k:Bool×Unit→Option ρ):Option ρ:=
 (rK ((a0,0,()),(()),(()))).bind fun e9=>Sum.elim (fun e9_=>k (e9_.1.2.1,())) (fun e9_=>k ((decide ((e9_.1.1.length:Int)≤16)),())) e9
def pA (a0:List aB):Option (Bool×Unit):=uj a0 some
theorem Nx {ρ:Type} (a0:List aB) (k:Bool×Unit→Option ρ):uj a0 k=(pA a0).bind k:=by
 simp only [pA,uj,cx,Option.bind_assoc,Option.bind_some]
abbrev MA:bB:=bP [.ty (.ls (.st .entry))] [.b] fun x=>pA x.1
theorem QV:aF Tryz.prog 172 MA:=
 ak (Λ:=aO [(ca rJ,Gh)]) (fn:=Tryz.f172) aR DT af (by kernel_rfl) (aM (by kernel_rfl:_= [rJ]) (aV (q:=ca rJ) rfl HA fun _ _ _=>by kernel_rfl)) (by kernel_rfl) (fun x=>pA x.1)
  (fun x=>Eq.trans (by kernel_rfl:_=uj x.1 (fun y=>ret (aK [.b] y) fun v g=>some (v,g))) (Nx x.1 _)) fun _ _ h=>h
abbrev uk:List (Nat×bB):= []
theorem qK:aA Tryz.prog (aQ uk):=aj _
noncomputable abbrev jl:Code:=cw (co Tryz.f159) 0
abbrev cO:ev:=⟨[(0, .cl (.ro (.i .i64))),(1, .cl (.ro (.i .i64))),(5, .cl (.int .i64))],[],[],0,26⟩
abbrev eZ:List (X×ev):= [(.ret,⟨[(4, .cl (.bl))],[],[],0,26⟩),(.ext 0,⟨[(4, .cl (.dead))],[],[],0,26⟩)]
def fG {ρ:Type} (v1:List Int) (v2:List Int) (v3:Int) (fn: (((List Int)×(List Int)×Int×Unit)×(Unit)×(Unit))→Option ρ) (fe: ((Bool×Unit)×(Unit)×(Unit))⊕((Unit×Unit)×(Unit)×(Unit))→Option ρ):Option ρ:=
 br (decide (v3 < (v1.length:Int))) (ap (0≤v3) ((v1[v3.toNat]?).bind fun x4=>ap (0≤v3) ((v2[v3.toNat]?).bind fun x5=>br (!(x4==x5)) (fe (.inl ((false,()),(()),(())))) (fn ((v1,v2,(IntKind.wrap .i64 (v3+1)),()),(()),(())))) none) none) (fe (.inr (((),()),(()),(()))))
def da (s:cO.D):Option (cO.D⊕bu.D eZ):=fG s.1.1 s.1.2.1 s.1.2.2.1 (fun s=>some (.inl s)) (fun e=>some (.inr e))
def jm:cO.D→Option (bu.D eZ):=jD da
theorem wJ {ρ:Type} (s:cO.D) (fn:cO.D→Option ρ) (fe:bu.D eZ→Option ρ):fG s.1.1 s.1.2.1 s.1.2.2.1 fn fe=(da s).bind (Sum.elim fn fe):=by
 simp only [da,fG,al,ao,Option.bind_none,Option.bind_assoc,Option.bind_some,Sum.elim_inl,Sum.elim_inr]
abbrev rL:dg:=dA [] [0,1,5] cO eZ jm
theorem vm (s:cO.D):eP Θ (aQ uk) (aO []) jl (cO.mk' s) (dn [0,1,5] [4] fun x S=>some (x,S))=(da s).bind (Sum.elim (fun s'=>some (.nor,cO.mk' s')) fun e=>some (bu.e eZ e)):=
 Eq.trans (by kernel_rfl:_=fG s.1.1 s.1.2.1 s.1.2.2.1 (fun s'=>some (.nor,cO.mk' s')) (fun e=>some (bu.e eZ e))) (wJ s _ _)
theorem vn:cn Tryz.prog jl rL:=bi aR qK af (by kernel_rfl) (dF (by kernel_rfl:_= []) ah) [] [0,1,5] [4] cO eZ (by kernel_rfl) da vm jm (hO da) (aW da)
def jY {ρ:Type} (a0:List Int) (a1:List Int) (k:Bool×Unit→Option ρ):Option ρ:=
 br (!((a0.length:Int)==(a1.length:Int))) (k (false,())) ((jm ((a0,a1,0,()),(()),(()))).bind fun e6=>Sum.elim (fun e6_=>k (e6_.1.1,())) (fun e6_=>k (true,())) e6)
def fA (a0:List Int) (a1:List Int):Option (Bool×Unit):=jY a0 a1 some
theorem zR {ρ:Type} (a0:List Int) (a1:List Int) (k:Bool×Unit→Option ρ):jY a0 a1 k=(fA a0 a1).bind k:=by
 simp only [fA,jY,al,cx,Option.bind_assoc,Option.bind_some]
abbrev ul:bB:=bP [.ty (.ls (.i .i64)), .ty (.ls (.i .i64))] [.b] fun x=>fA x.1 x.2.1
theorem DU:aF Tryz.prog 159 ul:=
 ak (Λ:=aO [(ca jl,rL)]) (fn:=Tryz.f159) aR qK af (by kernel_rfl) (aM (by kernel_rfl:_= [jl]) (aV (q:=ca jl) rfl vn fun _ _ _=>by kernel_rfl)) (by kernel_rfl) (fun x=>fA x.1 x.2.1)
  (fun x=>Eq.trans (by kernel_rfl:_=jY x.1 x.2.1 (fun y=>ret (aK [.b] y) fun v g=>some (v,g))) (zR x.1 x.2.1 _)) fun _ _ h=>h
abbrev DV:List (Nat×bB):= [(159,ul)]
theorem xY:aA Tryz.prog (aQ DV):=ae DU <| aj _
def jZ {ρ:Type} (a0:ai) (a1:ai) (k:Bool×Unit→Option ρ):Option ρ:=
 br (a0.epoch==a1.epoch) (br (a0.primary==a1.primary) ((fA a0.replicas a1.replicas).bind fun y1=>br y1.1 ((fA a0.witnesses a1.witnesses).bind fun y2=>k (y2.1,())) (k (false,()))) (k (false,()))) (k (false,()))
def fB (a0:ai) (a1:ai):Option (Bool×Unit):=jZ a0 a1 some
theorem zS {ρ:Type} (a0:ai) (a1:ai) (k:Bool×Unit→Option ρ):jZ a0 a1 k=(fB a0 a1).bind k:=by
 simp only [fB,jZ,al,Option.bind_assoc,Option.bind_some]
abbrev pY:bB:=bP [.ty (.st .config), .ty (.st .config)] [.b] fun x=>fB x.1 x.2.1
theorem um:aF Tryz.prog 90 pY:=
 ak (Λ:=aO []) (fn:=Tryz.f90) aR xY af (by kernel_rfl) (aM (by kernel_rfl:_= []) ah) (by kernel_rfl) (fun x=>fB x.1 x.2.1)
  (fun x=>Eq.trans (by kernel_rfl:_=jZ x.1 x.2.1 (fun y=>ret (aK [.b] y) fun v g=>some (v,g))) (zS x.1 x.2.1 _)) fun _ _ h=>h
abbrev Ny:List (Nat×bB):= [(90,pY)]
theorem HB:aA Tryz.prog (aQ Ny):=ae um <| aj _
def pZ {ρ:Type} (a0:ai) (k:Bool×Unit→Option ρ):Option ρ:=
 (fB a0 (⟨0,0,([]:List Int),([]:List Int)⟩:ai)).bind fun y1=>k (y1.1,())
def ne (a0:ai):Option (Bool×Unit):=pZ a0 some
theorem JO {ρ:Type} (a0:ai) (k:Bool×Unit→Option ρ):pZ a0 k=(ne a0).bind k:=by
 simp only [ne,pZ,Option.bind_assoc,Option.bind_some]
abbrev zT:bB:=bP [.ty (.st .config)] [.b] fun x=>ne x.1
theorem Gi:aF Tryz.prog 89 zT:=
 ak (Λ:=aO []) (fn:=Tryz.f89) aR HB af (by kernel_rfl) (aM (by kernel_rfl:_= []) ah) (by kernel_rfl) (fun x=>ne x.1)
  (fun x=>Eq.trans (by kernel_rfl:_=pZ x.1 (fun y=>ret (aK [.b] y) fun v g=>some (v,g))) (JO x.1 _)) fun _ _ h=>h
abbrev Nz:List (Nat×bB):= []
theorem HC:aA Tryz.prog (aQ Nz):=aj _
def p6 {ρ:Type} (a0:List aB) (k:Int×Unit→Option ρ):Option ρ:=
 br ((a0.length:Int)==0) (k (0,())) (ap (0≤(IntKind.wrap .i64 ((a0.length:Int) - 1))) ((a0[(IntKind.wrap .i64 ((a0.length:Int) - 1)).toNat]?).bind fun x1=>k (x1.epoch,())) none)
def nf (a0:List aB):Option (Int×Unit):=p6 a0 some
theorem JP {ρ:Type} (a0:List aB) (k:Int×Unit→Option ρ):p6 a0 k=(nf a0).bind k:=by
 simp only [nf,p6,al,ao,Option.bind_none,Option.bind_assoc,Option.bind_some]
abbrev zU:bB:=bP [.ty (.ls (.st .entry))] [.i .i64] fun x=>nf x.1
theorem Gj:aF Tryz.prog 126 zU:=
 ak (Λ:=aO []) (fn:=Tryz.f126) aR HC af (by kernel_rfl) (aM (by kernel_rfl:_= []) ah) (by kernel_rfl) (fun x=>nf x.1)
  (fun x=>Eq.trans (by kernel_rfl:_=p6 x.1 (fun y=>ret (aK [.i .i64] y) fun v g=>some (v,g))) (JP x.1 _)) fun _ _ h=>h
abbrev Pr:List (Nat×bB):= [(169,o8),(51,qI)]
theorem JQ:aA Tryz.prog (aQ Pr):=ae s5 <| ae ud <| aj _
def rM {ρ:Type} (a0:ai) (a1:Int) (k:Int×Unit→Option ρ):Option ρ:=
 (cb a0).bind fun y1=>br (!y1.1) (k (0,())) (br (a1==a0.primary) (k (1,())) ((gb a0.replicas a1).bind fun y2=>br y2.1 (k (2,())) ((gb a0.witnesses a1).bind fun y3=>br y3.1 (k (3,())) (k (0,())))))
def p7 (a0:ai) (a1:Int):Option (Int×Unit):=rM a0 a1 some
theorem Lt {ρ:Type} (a0:ai) (a1:Int) (k:Int×Unit→Option ρ):rM a0 a1 k=(p7 a0 a1).bind k:=by
 simp only [p7,rM,al,Option.bind_assoc,Option.bind_some]
abbrev JR:bB:=bP [.ty (.st .config), .ty (.i .i64)] [.i .i64] fun x=>p7 x.1 x.2.1
theorem Ps:aF Tryz.prog 171 JR:=
 ak (Λ:=aO []) (fn:=Tryz.f171) aR JQ af (by kernel_rfl) (aM (by kernel_rfl:_= []) ah) (by kernel_rfl) (fun x=>p7 x.1 x.2.1)
  (fun x=>Eq.trans (by kernel_rfl:_=rM x.1 x.2.1 (fun y=>ret (aK [.i .i64] y) fun v g=>some (v,g))) (Lt x.1 x.2.1 _)) fun _ _ h=>h
abbrev BM:List (Nat×bB):= [(120,o7),(172,MA),(89,zT),(126,zU),(171,JR)]
theorem wK:aA Tryz.prog (aQ BM):=ae pV <| ae QV <| ae Gi <| ae Gj <| ae Ps <| aj _
def jn {ρ:Type} (a0:ay) (a1:Int) (k:Bool×Unit→Option ρ):Option ρ:=
 (ea a0.version 1 2).bind fun y1=>br (!y1.1) (k (false,())) ((ea a0.epoch 0 20).bind fun y2=>br (!y2.1) (k (false,())) ((pA a0.log).bind fun y3=>br (!y3.1) (k (false,())) ((pA a0.learned).bind fun y4=>br (!y4.1) (k (false,())) ((ea a0.first 0 16).bind fun y5=>br (!y5.1) (k (false,())) ((ea (IntKind.wrap .i64 (a0.first+(a0.log.length:Int))) 0 16).bind fun y6=>br (!y6.1) (k (false,())) ((ea a0.commit 0 (IntKind.wrap .i64 (a0.first+(a0.log.length:Int)))).bind fun y7=>br (!y7.1) (k (false,())) ((ne a0.config).bind fun y8=>br y8.1 (br (a0.first==0) (br ((a0.log.length:Int)==0) (k ((a0.commit==0),())) (k (false,()))) (k (false,()))) (br (!a0.intact) (k (false,())) (br (decide (a0.epoch < a0.config.epoch)) (k (false,())) ((nf a0.log).bind fun y9=>br (decide (y9.1 > a0.config.epoch)) (k (false,())) ((p7 a0.config a1).bind fun y10=>br (y10.1==0) (k (false,())) (br (y10.1==3) (br (decide ((a0.log.length:Int)≤3)) (br ((a0.log.length:Int)==3) (k (true,())) (k ((a0.first==0),()))) (k (false,()))) (k ((a0.first==0),()))))))))))))))
def dX (a0:ay) (a1:Int):Option (Bool×Unit):=jn a0 a1 some
theorem xZ {ρ:Type} (a0:ay) (a1:Int) (k:Bool×Unit→Option ρ):jn a0 a1 k=(dX a0 a1).bind k:=by
 simp only [dX,jn,al,Option.bind_assoc,Option.bind_some]
abbrev s8:bB:=bP [.ty (.st .server), .ty (.i .i64)] [.b] fun x=>dX x.1 x.2.1
theorem BN:aF Tryz.prog 125 s8:=
 ak (Λ:=aO []) (fn:=Tryz.f125) aR wK af (by kernel_rfl) (aM (by kernel_rfl:_= []) ah) (by kernel_rfl) (fun x=>dX x.1 x.2.1)
  (fun x=>Eq.trans (by kernel_rfl:_=jn x.1 x.2.1 (fun y=>ret (aK [.b] y) fun v g=>some (v,g))) (xZ x.1 x.2.1 _)) fun _ _ h=>h
abbrev rN:List (Nat×bB):= [(120,o7),(121,DR),(122,rh),(123,Gg),(124,A4),(125,s8),(126,zU),(127,wH),(89,zT),(90,pY)]
theorem pg:aA Tryz.prog (aQ rN):=ae pV <| ae Ls <| ae vP <| ae Nw <| ae JK <| ae BN <| ae Gj <| ae DN <| ae Gi <| ae um <| aj _
noncomputable abbrev gH:Code:=cw (co Tryz.f46) 0
abbrev cd:ev:=⟨[(1, .cl (.ptr 0 0)),(3, .cl (.int .i64))],[[.int .i64, .ro (.st .server), .ro (.i .i64), .ro (.st .config), .int .i64, .int .i64, .int .i64, .int .i64, .int .i64, .ro (.st .place)]],[],0,123⟩
abbrev eb:List (X×ev):= [(.ret,⟨[(2, .cl (.bl))],[],[],0,123⟩),(.ext 0,⟨[(2, .cl (.dead))],[],[],0,123⟩)]
def cN {ρ:Type} (v7:Int) (v8:Int) (v9:List ay) (v10:List Int) (v11:List ai) (v12:Int) (v13:Int) (v14:Int) (v15:Int) (v16:Int) (v17:List be) (fn: ((Unit×Int×Unit)×((Int×(List ay)×(List Int)×(List ai)×Int×Int×Int×Int×Int×(List be)×Unit)×Unit)×(Unit))→Option ρ) (fe: ((Bool×Unit)×(Unit)×(Unit))⊕((Unit×Unit)×(Unit)×(Unit))→Option ρ):Option ρ:=
 br (decide (v7 < (v9.length:Int))) (ap (0≤v7) ((v9[v7.toNat]?).bind fun x18=>(dX x18 v7).bind fun y19=>br (!y19.1) (fe (.inl ((false,()),(()),(())))) (br (decide (x18.epoch > (v11.length:Int))) (fe (.inl ((false,()),(()),(())))) ((nf x18.learned).bind fun y20=>br (decide (y20.1 > v12)) (fe (.inl ((false,()),(()),(())))) ((iT (⟨v11,v12⟩:aw) x18.config.epoch).bind fun y21=>(ne x18.config).bind fun y22=>br (!y22.1) (br (!y21.2.1) (fe (.inl ((false,()),(()),(())))) ((fB y21.1 x18.config).bind fun y23=>br (!y23.1) (fe (.inl ((false,()),(()),(())))) (br (decide (x18.config.epoch > v12)) (fe (.inl ((false,()),(()),(())))) (fn (((),(IntKind.wrap .i64 (v7+1)),()),((v8,v9,v10,v11,v12,v13,v14,v15,v16,v17,()),()),(())))))) (fn (((),(IntKind.wrap .i64 (v7+1)),()),((v8,v9,v10,v11,v12,v13,v14,v15,v16,v17,()),()),(()))))))) none) (fe (.inr (((),()),(()),(()))))
def ba (s:cd.D):Option (cd.D⊕bu.D eb):=cN s.1.2.1 s.2.1.1.1 s.2.1.1.2.1 s.2.1.1.2.2.1 s.2.1.1.2.2.2.1 s.2.1.1.2.2.2.2.1 s.2.1.1.2.2.2.2.2.1 s.2.1.1.2.2.2.2.2.2.1 s.2.1.1.2.2.2.2.2.2.2.1 s.2.1.1.2.2.2.2.2.2.2.2.1 s.2.1.1.2.2.2.2.2.2.2.2.2.1 (fun s=>some (.inl s)) (fun e=>some (.inr e))
def fa:cd.D→Option (bu.D eb):=jD ba
theorem uo {ρ:Type} (s:cd.D) (fn:cd.D→Option ρ) (fe:bu.D eb→Option ρ):cN s.1.2.1 s.2.1.1.1 s.2.1.1.2.1 s.2.1.1.2.2.1 s.2.1.1.2.2.2.1 s.2.1.1.2.2.2.2.1 s.2.1.1.2.2.2.2.2.1 s.2.1.1.2.2.2.2.2.2.1 s.2.1.1.2.2.2.2.2.2.2.1 s.2.1.1.2.2.2.2.2.2.2.2.1 s.2.1.1.2.2.2.2.2.2.2.2.2.1 fn fe=(ba s).bind (Sum.elim fn fe):=by
 simp only [ba,cN,al,ao,Option.bind_none,Option.bind_assoc,Option.bind_some,Sum.elim_inl,Sum.elim_inr]
abbrev p8:dg:=dA [] [1,3] cd eb fa
theorem tA (s:cd.D):eP Θ (aQ rN) (aO []) gH (cd.mk' s) (dn [1,3] [2] fun x S=>some (x,S))=(ba s).bind (Sum.elim (fun s'=>some (.nor,cd.mk' s')) fun e=>some (bu.e eb e)):=
 Eq.trans (by kernel_rfl:_=cN s.1.2.1 s.2.1.1.1 s.2.1.1.2.1 s.2.1.1.2.2.1 s.2.1.1.2.2.2.1 s.2.1.1.2.2.2.2.1 s.2.1.1.2.2.2.2.2.1 s.2.1.1.2.2.2.2.2.2.1 s.2.1.1.2.2.2.2.2.2.2.1 s.2.1.1.2.2.2.2.2.2.2.2.1 s.2.1.1.2.2.2.2.2.2.2.2.2.1 (fun s'=>some (.nor,cd.mk' s')) (fun e=>some (bu.e eb e))) (uo s _ _)
theorem tB:cn Tryz.prog gH p8:=bi aR pg af (by kernel_rfl) (dF (by kernel_rfl:_= []) ah) [] [1,3] [2] cd eb (by kernel_rfl) ba tA fa (hO ba) (aW ba)
def fH {ρ:Type} (a0:aP) (k:Bool×Unit→Option ρ):Option ρ:=
 (ea a0.now 0 999).bind fun y1=>br (!y1.1) (k (false,())) (br (!((a0.servers.length:Int)==5)) (k (false,())) ((kY a0.sides).bind fun y2=>br (!y2.1) (k (false,())) ((dx a0.master).bind fun y3=>br (!y3.1) (k (false,())) ((ea a0.masterUp 0 3).bind fun y4=>br (!y4.1) (k (false,())) ((nc a0.lease).bind fun y5=>br (!y5.1) (k (false,())) ((jE a0.places).bind fun y6=>br (!y6.1) (k (false,())) (br (decide (a0.lease.epoch > a0.master.activated)) (k (false,())) ((fa (((),0,()),((a0.now,a0.servers,a0.sides,a0.master.configs,a0.master.activated,a0.masterUp,a0.lease.epoch,a0.lease.holder,a0.lease.ends,a0.places,()),()),(()))).bind fun e24=>Sum.elim (fun e24_=>k (e24_.1.1,())) (fun e24_=>k (true,())) e24))))))))
def cP (a0:aP):Option (Bool×Unit):=fH a0 some
theorem wL {ρ:Type} (a0:aP) (k:Bool×Unit→Option ρ):fH a0 k=(cP a0).bind k:=by
 simp only [cP,fH,al,cx,Option.bind_assoc,Option.bind_some]
abbrev rO:bB:=bP [.ty (.st .cluster)] [.b] fun x=>cP x.1
theorem zV:aF Tryz.prog 46 rO:=
 ak (Λ:=aO [(ca gH,p8)]) (fn:=Tryz.f46) aR pg af (by kernel_rfl) (aM (by kernel_rfl:_= [gH]) (aV (q:=ca gH) rfl tB fun _ _ _=>by kernel_rfl)) (by kernel_rfl) (fun x=>cP x.1)
  (fun x=>Eq.trans (by kernel_rfl:_=fH x.1 (fun y=>ret (aK [.b] y) fun v g=>some (v,g))) (wL x.1 _)) fun _ _ h=>h
abbrev Pt:List (Nat×bB):= []
theorem JS:aA Tryz.prog (aQ Pt):=aj _
def rP {ρ:Type} (a0:List aB) (k: (List aB)×Unit→Option ρ):Option ρ:=
 ap ((([]:List aB)++a0).length*56≤2 ^ 40) (k ((([]:List aB)++a0),())) none
def p9 (a0:List aB):Option ((List aB)×Unit):=rP a0 some
theorem Lu {ρ:Type} (a0:List aB) (k: (List aB)×Unit→Option ρ):rP a0 k=(p9 a0).bind k:=by
 simp only [p9,rP,ao,Option.bind_none,Option.bind_some]
abbrev JT:bB:=bP [.ty (.ls (.st .entry))] [.ls (.st .entry)] fun x=>p9 x.1
theorem Pu:aF Tryz.prog 79 JT:=
 ak (Λ:=aO []) (fn:=Tryz.f79) aR JS af (by kernel_rfl) (aM (by kernel_rfl:_= []) ah) (by kernel_rfl) (fun x=>p9 x.1)
  (fun x=>Eq.trans (by kernel_rfl:_=rP x.1 (fun y=>ret (aK [.ls (.st .entry)] y) fun v g=>some (v,g))) (Lu x.1 _)) fun _ _ h=>h
abbrev DW:List (Nat×bB):= [(50,s7),(46,rO),(79,JT)]
theorem vS:aA Tryz.prog (aQ DW):=ae BI <| ae zV <| ae Pu <| aj _
noncomputable abbrev nL:Code:=cw (co Tryz.f23) 0
abbrev eA:ev:=⟨[(1, .cl (.ptr 0 0)),(4, .cl (.ptr 1 0)),(5, .cl (.bl)),(6, .cl (.int .i64)),(7, .cl (.int .i64))],[[.int .i64, .ro (.st .server), .ro (.i .i64), .ro (.st .config), .int .i64, .int .i64, .int .i64, .int .i64, .int .i64, .ro (.st .place)],[.int .i64, .int .i64, .own 0 (.i .i64), .own 1 (.i .i64)]],[.i .i64, .i .i64],0,78⟩
abbrev jP:List (X×ev):= [(.ext 0,⟨[(1, .cl (.ptr 0 0)),(5, .cl (.bl)),(6, .cl (.int .i64))],[[.int .i64, .ro (.st .server), .ro (.i .i64), .ro (.st .config), .int .i64, .int .i64, .int .i64, .int .i64, .int .i64, .ro (.st .place)]],[],0,78⟩)]
def iV {ρ:Type} (v3:List Int) (v4:List Int) (v5:Bool) (v6:Int) (v7:Int) (v8:Int) (v9:List ay) (v10:List Int) (v11:List ai) (v12:Int) (v13:Int) (v14:Int) (v15:Int) (v16:Int) (v17:List be) (v18:Int) (v19:Int) (fn: ((Unit×Unit×Bool×Int×Int×Unit)×((Int×(List ay)×(List Int)×(List ai)×Int×Int×Int×Int×Int×(List be)×Unit)×(Int×Int×Unit×Unit×Unit)×Unit)×((List Int)×(List Int)×Unit))→Option ρ) (fe: ((Unit×Bool×Int×Unit)×((Int×(List ay)×(List Int)×(List ai)×Int×Int×Int×Int×Int×(List be)×Unit)×Unit)×(Unit))→Option ρ):Option ρ:=
 br (decide (v7 < (v3.length:Int))) (br v5 (ap (0≤v7∧v7 < (v3.length:Int)) ((v3[v7.toNat]?).bind fun x20=>ap (0≤x20) ((v9[x20.toNat]?).bind fun x21=>br (x21.config.epoch==v18) (br (decide (v6 < 0)) (fn (((),(),v5,x20,(IntKind.wrap .i64 (v7+1)),()),((v8,v9,v10,v11,v12,v13,v14,v15,v16,v17,()),(v18,v19,(),(),()),()),(v3,v4,()))) (ap (0≤x20) ((v9[x20.toNat]?).bind fun x22=>ap (0≤v6) ((v9[v6.toNat]?).bind fun x23=>br (decide ((x22.log.length:Int) > (x23.log.length:Int))) (fn (((),(),v5,x20,(IntKind.wrap .i64 (v7+1)),()),((v8,v9,v10,v11,v12,v13,v14,v15,v16,v17,()),(v18,v19,(),(),()),()),(v3,v4,()))) (fn (((),(),v5,v6,(IntKind.wrap .i64 (v7+1)),()),((v8,v9,v10,v11,v12,v13,v14,v15,v16,v17,()),(v18,v19,(),(),()),()),(v3,v4,())))) none) none)) (fn (((),(),v5,v6,(IntKind.wrap .i64 (v7+1)),()),((v8,v9,v10,v11,v12,v13,v14,v15,v16,v17,()),(v18,v19,(),(),()),()),(v3,v4,())))) none) none) (fe (((),v5,v6,()),((v8,v9,v10,v11,v12,v13,v14,v15,v16,v17,()),()),(())))) (fe (((),v5,v6,()),((v8,v9,v10,v11,v12,v13,v14,v15,v16,v17,()),()),(())))
def eB (s:eA.D):Option (eA.D⊕bu.D jP):=iV s.2.2.1 s.2.2.2.1 s.1.2.2.1 s.1.2.2.2.1 s.1.2.2.2.2.1 s.2.1.1.1 s.2.1.1.2.1 s.2.1.1.2.2.1 s.2.1.1.2.2.2.1 s.2.1.1.2.2.2.2.1 s.2.1.1.2.2.2.2.2.1 s.2.1.1.2.2.2.2.2.2.1 s.2.1.1.2.2.2.2.2.2.2.1 s.2.1.1.2.2.2.2.2.2.2.2.1 s.2.1.1.2.2.2.2.2.2.2.2.2.1 s.2.1.2.1.1 s.2.1.2.1.2.1 (fun s=>some (.inl s)) (fun e=>some (.inr e))
def nM:eA.D→Option (bu.D jP):=jD eB
theorem DX {ρ:Type} (s:eA.D) (fn:eA.D→Option ρ) (fe:bu.D jP→Option ρ):iV s.2.2.1 s.2.2.2.1 s.1.2.2.1 s.1.2.2.2.1 s.1.2.2.2.2.1 s.2.1.1.1 s.2.1.1.2.1 s.2.1.1.2.2.1 s.2.1.1.2.2.2.1 s.2.1.1.2.2.2.2.1 s.2.1.1.2.2.2.2.2.1 s.2.1.1.2.2.2.2.2.2.1 s.2.1.1.2.2.2.2.2.2.2.1 s.2.1.1.2.2.2.2.2.2.2.2.1 s.2.1.1.2.2.2.2.2.2.2.2.2.1 s.2.1.2.1.1 s.2.1.2.1.2.1 fn fe=(eB s).bind (Sum.elim fn fe):=by
 simp only [eB,iV,al,ao,Option.bind_none,Option.bind_assoc,Option.bind_some,Sum.elim_inl,Sum.elim_inr]
abbrev x0:dg:=dA [] [1,4,5,6,7] eA jP nM
theorem BO (s:eA.D):eP Θ (aQ DW) (aO []) nL (eA.mk' s) (dn [1,4,5,6,7] [1,5,6] fun x S=>some (x,S))=(eB s).bind (Sum.elim (fun s'=>some (.nor,eA.mk' s')) fun e=>some (bu.e jP e)):=
 Eq.trans (by kernel_rfl:_=iV s.2.2.1 s.2.2.2.1 s.1.2.2.1 s.1.2.2.2.1 s.1.2.2.2.2.1 s.2.1.1.1 s.2.1.1.2.1 s.2.1.1.2.2.1 s.2.1.1.2.2.2.1 s.2.1.1.2.2.2.2.1 s.2.1.1.2.2.2.2.2.1 s.2.1.1.2.2.2.2.2.2.1 s.2.1.1.2.2.2.2.2.2.2.1 s.2.1.1.2.2.2.2.2.2.2.2.1 s.2.1.1.2.2.2.2.2.2.2.2.2.1 s.2.1.2.1.1 s.2.1.2.1.2.1 (fun s'=>some (.nor,eA.mk' s')) (fun e=>some (bu.e jP e))) (DX s _ _)
theorem BP:cn Tryz.prog nL x0:=bi aR vS af (by kernel_rfl) (dF (by kernel_rfl:_= []) ah) [] [1,4,5,6,7] [1,5,6] eA jP (by kernel_rfl) eB BO nM (hO eB) (aW eB)
def oV {ρ:Type} (a0:aP) (k: (List aB)×Bool×Unit→Option ρ):Option ρ:=
 (dW a0.master).bind fun y1=>(cP a0).bind fun y2=>br (!y2.1) (k (([]:List aB),false,())) ((nM (((),(),y1.2.1,(-1),0,()),((a0.now,a0.servers,a0.sides,a0.master.configs,a0.master.activated,a0.masterUp,a0.lease.epoch,a0.lease.holder,a0.lease.ends,a0.places,()),(y1.1.epoch,y1.1.primary,(),(),()),()),(y1.1.replicas,y1.1.witnesses,()))).bind fun e24=>br (decide (e24.1.2.2.1 < 0)) (k (([]:List aB),(!e24.1.2.1),())) (ap (0≤e24.1.2.2.1) ((e24.2.1.1.2.1[e24.1.2.2.1.toNat]?).bind fun x25=>(p9 x25.log).bind fun y26=>k (y26.1,true,())) none))
def mG (a0:aP):Option ((List aB)×Bool×Unit):=oV a0 some
theorem HD {ρ:Type} (a0:aP) (k: (List aB)×Bool×Unit→Option ρ):oV a0 k=(mG a0).bind k:=by
 simp only [mG,oV,al,ao,Option.bind_none,Option.bind_assoc,Option.bind_some]
abbrev DY:bB:=bP [.ty (.st .cluster)] [.ls (.st .entry), .b] fun x=>mG x.1
theorem Lw:aF Tryz.prog 23 DY:=
 ak (Λ:=aO [(ca nL,x0)]) (fn:=Tryz.f23) aR vS af (by kernel_rfl) (aM (by kernel_rfl:_= [nL]) (aV (q:=ca nL) rfl BP fun _ _ _=>by kernel_rfl)) (by kernel_rfl) (fun x=>mG x.1)
  (fun x=>Eq.trans (by kernel_rfl:_=oV x.1 (fun y=>ret (aK [.ls (.st .entry), .b] y) fun v g=>some (v,g))) (HD x.1 _)) fun _ _ h=>h
abbrev Pv:List (Nat×bB):= []
theorem JU:aA Tryz.prog (aQ Pv):=aj _
def rQ {ρ:Type} (a0:Int) (a1:Int) (a2:Int) (k:Bool×Unit→Option ρ):Option ρ:=
 br (decide (a1≤a0)) (k ((decide (a0≤a2)),())) (k (false,()))
def ce (a0:Int) (a1:Int) (a2:Int):Option (Bool×Unit):=rQ a0 a1 a2 some
theorem Lx {ρ:Type} (a0:Int) (a1:Int) (a2:Int) (k:Bool×Unit→Option ρ):rQ a0 a1 a2 k=(ce a0 a1 a2).bind k:=by
 simp only [ce,rQ,al,Option.bind_some]
abbrev jo:bB:=bP [.ty (.i .i64), .ty (.i .i64), .ty (.i .i64)] [.b] fun x=>ce x.1 x.2.1 x.2.2.1
theorem j4:aF Tryz.prog 135 jo:=
 ak (Λ:=aO []) (fn:=Tryz.f135) aR JU af (by kernel_rfl) (aM (by kernel_rfl:_= []) ah) (by kernel_rfl) (fun x=>ce x.1 x.2.1 x.2.2.1)
  (fun x=>Eq.trans (by kernel_rfl:_=rQ x.1 x.2.1 x.2.2.1 (fun y=>ret (aK [.b] y) fun v g=>some (v,g))) (Lx x.1 x.2.1 x.2.2.1 _)) fun _ _ h=>h
abbrev Fq:List (Nat×bB):= [(135,jo)]
theorem zW:aA Tryz.prog (aQ Fq):=ae j4 <| aj _
def k9 {ρ:Type} (a0:Int) (k:Bool×Unit→Option ρ):Option ρ:=
 (ce a0 0 3).bind fun y1=>k ((!y1.1),())
def kk (a0:Int):Option (Bool×Unit):=k9 a0 some
theorem BQ {ρ:Type} (a0:Int) (k:Bool×Unit→Option ρ):k9 a0 k=(kk a0).bind k:=by
 simp only [kk,k9,Option.bind_assoc,Option.bind_some]
abbrev vT:bB:=bP [.ty (.i .i64)] [.b] fun x=>kk x.1
theorem Fr:aF Tryz.prog 210 vT:=
 ak (Λ:=aO []) (fn:=Tryz.f210) aR zW af (by kernel_rfl) (aM (by kernel_rfl:_= []) ah) (by kernel_rfl) (fun x=>kk x.1)
  (fun x=>Eq.trans (by kernel_rfl:_=k9 x.1 (fun y=>ret (aK [.b] y) fun v g=>some (v,g))) (BQ x.1 _)) fun _ _ h=>h
abbrev jF:List (Nat×bB):= [(210,vT)]
theorem it:aA Tryz.prog (aQ jF):=ae Fr <| aj _
noncomputable abbrev cJ:Code:=cw (co Tryz.f143) 0
abbrev aL:ev:=⟨[(0, .cl (.ro (.i .i64))),(1, .cl (.fc 210)),(7, .cl (.int .i64)),(8, .cl (.int .i64))],[],[],0,19⟩
abbrev bD:List (X×ev):= [(.ret,⟨[(4, .cl (.int .i64))],[],[],0,19⟩),(.ext 0,⟨[(4, .cl (.dead))],[],[],0,19⟩)]
def bV {ρ:Type} (v1:List Int) (v2:Int) (v3:Int) (fn: (((List Int)×Unit×Int×Int×Unit)×(Unit)×(Unit))→Option ρ) (fe: ((Int×Unit)×(Unit)×(Unit))⊕((Unit×Unit)×(Unit)×(Unit))→Option ρ):Option ρ:=
 br (decide (v3 < v2)) (ap (0≤v3) ((v1[v3.toNat]?).bind fun x4=>(kk x4).bind fun y5=>br y5.1 (fe (.inl ((v3,()),(()),(())))) (fn ((v1,(),v2,(IntKind.wrap .i64 (v3+1)),()),(()),(())))) none) (fe (.inr (((),()),(()),(()))))
def aU (s:aL.D):Option (aL.D⊕bu.D bD):=bV s.1.1 s.1.2.2.1 s.1.2.2.2.1 (fun s=>some (.inl s)) (fun e=>some (.inr e))
def cK:aL.D→Option (bu.D bD):=jD aU
theorem nk {ρ:Type} (s:aL.D) (fn:aL.D→Option ρ) (fe:bu.D bD→Option ρ):bV s.1.1 s.1.2.2.1 s.1.2.2.2.1 fn fe=(aU s).bind (Sum.elim fn fe):=by
 simp only [aU,bV,al,ao,Option.bind_none,Option.bind_assoc,Option.bind_some,Sum.elim_inl,Sum.elim_inr]
abbrev i6:dg:=dA [] [0,1,7,8] aL bD cK
theorem mH (s:aL.D):eP Θ (aQ jF) (aO []) cJ (aL.mk' s) (dn [0,1,7,8] [4] fun x S=>some (x,S))=(aU s).bind (Sum.elim (fun s'=>some (.nor,aL.mk' s')) fun e=>some (bu.e bD e)):=
 Eq.trans (by kernel_rfl:_=bV s.1.1 s.1.2.2.1 s.1.2.2.2.1 (fun s'=>some (.nor,aL.mk' s')) (fun e=>some (bu.e bD e))) (nk s _ _)
theorem mJ:cn Tryz.prog cJ i6:=bi aR it af (by kernel_rfl) (dF (by kernel_rfl:_= []) ah) [] [0,1,7,8] [4] aL bD (by kernel_rfl) aU mH cK (hO aU) (aW aU)
def cQ {ρ:Type} (a0:List Int) (k:Int×Unit→Option ρ):Option ρ:=
 (cK ((a0,(),(a0.length:Int),0,()),(()),(()))).bind fun e6=>Sum.elim (fun e6_=>k (e6_.1.1,())) (fun e6_=>k ((-1),())) e6
def cm (a0:List Int):Option (Int×Unit):=cQ a0 some
theorem oe {ρ:Type} (a0:List Int) (k:Int×Unit→Option ρ):cQ a0 k=(cm a0).bind k:=by
 simp only [cm,cQ,cx,Option.bind_assoc,Option.bind_some]
abbrev jG:bB:=bP [.ty (.ls (.i .i64)), .fc 210] [.i .i64] fun x=>cm x.1
theorem oW:aF Tryz.prog 143 jG:=
 ak (Λ:=aO [(ca cJ,i6)]) (fn:=Tryz.f143) aR it af (by kernel_rfl) (aM (by kernel_rfl:_= [cJ]) (aV (q:=ca cJ) rfl mJ fun _ _ _=>by kernel_rfl)) (by kernel_rfl) (fun x=>cm x.1)
  (fun x=>Eq.trans (by kernel_rfl:_=cQ x.1 (fun y=>ret (aK [.i .i64] y) fun v g=>some (v,g))) (oe x.1 _)) fun _ _ h=>h
abbrev nN:List (Nat×bB):= [(143,jG)]
theorem ma:aA Tryz.prog (aQ nN):=ae oW <| aj _
def ct {ρ:Type} (a0:List Int) (k:Bool×Unit→Option ρ):Option ρ:=
 (cm a0).bind fun y1=>k ((decide (y1.1≥0)),())
def bW (a0:List Int):Option (Bool×Unit):=ct a0 some
theorem mL {ρ:Type} (a0:List Int) (k:Bool×Unit→Option ρ):ct a0 k=(bW a0).bind k:=by
 simp only [bW,ct,Option.bind_assoc,Option.bind_some]
abbrev iu:bB:=bP [.ty (.ls (.i .i64)), .fc 210] [.b] fun x=>bW x.1
theorem nP:aF Tryz.prog 61 iu:=
 ak (Λ:=aO []) (fn:=Tryz.f61) aR ma af (by kernel_rfl) (aM (by kernel_rfl:_= []) ah) (by kernel_rfl) (fun x=>bW x.1)
  (fun x=>Eq.trans (by kernel_rfl:_=ct x.1 (fun y=>ret (aK [.b] y) fun v g=>some (v,g))) (mL x.1 _)) fun _ _ h=>h
abbrev Ly:List (Nat×bB):= [(61,iu)]
theorem Fs:aA Tryz.prog (aQ Ly):=ae nP <| aj _
def oX {ρ:Type} (a0:List Int) (k:Bool×Unit→Option ρ):Option ρ:=
 br ((a0.length:Int)==5) ((bW a0).bind fun y1=>k ((!y1.1),())) (k (false,()))
def mM (a0:List Int):Option (Bool×Unit):=oX a0 some
theorem HE {ρ:Type} (a0:List Int) (k:Bool×Unit→Option ρ):oX a0 k=(mM a0).bind k:=by
 simp only [mM,oX,al,Option.bind_assoc,Option.bind_some]
abbrev DZ:bB:=bP [.ty (.ls (.i .i64))] [.b] fun x=>mM x.1
theorem Lz:aF Tryz.prog 136 DZ:=
 ak (Λ:=aO []) (fn:=Tryz.f136) aR Fs af (by kernel_rfl) (aM (by kernel_rfl:_= []) ah) (by kernel_rfl) (fun x=>mM x.1)
  (fun x=>Eq.trans (by kernel_rfl:_=oX x.1 (fun y=>ret (aK [.b] y) fun v g=>some (v,g))) (HE x.1 _)) fun _ _ h=>h
abbrev ya:List (Nat×bB):= [(135,jo)]
theorem s9:aA Tryz.prog (aQ ya):=ae j4 <| aj _
noncomputable abbrev la:Code:=cw (co Tryz.f227) 0
abbrev dq:ev:=⟨[(0, .cl (.ro (.i .i64))),(5, .cl (.ro (.i .i64))),(6, .cl (.int .i64)),(7, .cl (.int .i64))],[],[],0,29⟩
abbrev gJ:List (X×ev):= [(.ret,⟨[(2, .cl (.bl))],[],[],0,29⟩),(.ext 0,⟨[(2, .cl (.dead))],[],[],0,29⟩)]
def ic {ρ:Type} (v1:List Int) (v2:List Int) (v3:Int) (v4:Int) (fn: (((List Int)×(List Int)×Int×Int×Unit)×(Unit)×(Unit))→Option ρ) (fe: ((Bool×Unit)×(Unit)×(Unit))⊕((Unit×Unit)×(Unit)×(Unit))→Option ρ):Option ρ:=
 br (decide (v4 < v3)) (ap (0≤v4) ((v2[v4.toNat]?).bind fun x5=>(ce x5 0 4).bind fun y6=>br (!y6.1) (fe (.inl ((false,()),(()),(())))) (br (decide (v4 > 0)) (ap (0≤(IntKind.wrap .i64 (v4 - 1))) ((v1[(IntKind.wrap .i64 (v4 - 1)).toNat]?).bind fun x7=>br (decide (x5≤x7)) (fe (.inl ((false,()),(()),(())))) (fn ((v1,v2,v3,(IntKind.wrap .i64 (v4+1)),()),(()),(())))) none) (fn ((v1,v2,v3,(IntKind.wrap .i64 (v4+1)),()),(()),(()))))) none) (fe (.inr (((),()),(()),(()))))
def dP (s:dq.D):Option (dq.D⊕bu.D gJ):=ic s.1.1 s.1.2.1 s.1.2.2.1 s.1.2.2.2.1 (fun s=>some (.inl s)) (fun e=>some (.inr e))
def lb:dq.D→Option (bu.D gJ):=jD dP
theorem zX {ρ:Type} (s:dq.D) (fn:dq.D→Option ρ) (fe:bu.D gJ→Option ρ):ic s.1.1 s.1.2.1 s.1.2.2.1 s.1.2.2.2.1 fn fe=(dP s).bind (Sum.elim fn fe):=by
 simp only [dP,ic,al,ao,Option.bind_none,Option.bind_assoc,Option.bind_some,Sum.elim_inl,Sum.elim_inr]
abbrev uq:dg:=dA [] [0,5,6,7] dq gJ lb
theorem yb (s:dq.D):eP Θ (aQ ya) (aO []) la (dq.mk' s) (dn [0,5,6,7] [2] fun x S=>some (x,S))=(dP s).bind (Sum.elim (fun s'=>some (.nor,dq.mk' s')) fun e=>some (bu.e gJ e)):=
 Eq.trans (by kernel_rfl:_=ic s.1.1 s.1.2.1 s.1.2.2.1 s.1.2.2.2.1 (fun s'=>some (.nor,dq.mk' s')) (fun e=>some (bu.e gJ e))) (zX s _ _)
theorem yc:cn Tryz.prog la uq:=bi aR s9 af (by kernel_rfl) (dF (by kernel_rfl:_= []) ah) [] [0,5,6,7] [2] dq gJ (by kernel_rfl) dP yb lb (hO dP) (aW dP)
def mb {ρ:Type} (a0:List Int) (k:Bool×Unit→Option ρ):Option ρ:=
 (lb ((a0,a0,(a0.length:Int),0,()),(()),(()))).bind fun e8=>Sum.elim (fun e8_=>k (e8_.1.1,())) (fun e8_=>k (true,())) e8
def fY (a0:List Int):Option (Bool×Unit):=mb a0 some
theorem D0 {ρ:Type} (a0:List Int) (k:Bool×Unit→Option ρ):mb a0 k=(fY a0).bind k:=by
 simp only [fY,mb,cx,Option.bind_assoc,Option.bind_some]
abbrev yd:bB:=bP [.ty (.ls (.i .i64))] [.b] fun x=>fY x.1
theorem HF:aF Tryz.prog 227 yd:=
 ak (Λ:=aO [(ca la,uq)]) (fn:=Tryz.f227) aR s9 af (by kernel_rfl) (aM (by kernel_rfl:_= [la]) (aV (q:=ca la) rfl yc fun _ _ _=>by kernel_rfl)) (by kernel_rfl) (fun x=>fY x.1)
  (fun x=>Eq.trans (by kernel_rfl:_=mb x.1 (fun y=>ret (aK [.b] y) fun v g=>some (v,g))) (D0 x.1 _)) fun _ _ h=>h
abbrev ye:List (Nat×bB):= []
theorem ta:aA Tryz.prog (aQ ye):=aj _
noncomputable abbrev lc:Code:=cw (co Tryz.f214) 0
abbrev dt:ev:=⟨[(0, .cl (.ro (.i .i64))),(1, .cl (.int .i64)),(7, .cl (.int .i64)),(8, .cl (.int .i64))],[],[],0,19⟩
abbrev gK:List (X×ev):= [(.ret,⟨[(4, .cl (.int .i64))],[],[],0,19⟩),(.ext 0,⟨[(4, .cl (.dead))],[],[],0,19⟩)]
def ig {ρ:Type} (v1:List Int) (v2:Int) (v3:Int) (v4:Int) (fn: (((List Int)×Int×Int×Int×Unit)×(Unit)×(Unit))→Option ρ) (fe: ((Int×Unit)×(Unit)×(Unit))⊕((Unit×Unit)×(Unit)×(Unit))→Option ρ):Option ρ:=
 br (decide (v4 < v3)) (ap (0≤v4) ((v1[v4.toNat]?).bind fun x5=>br (v2==x5) (fe (.inl ((v4,()),(()),(())))) (fn ((v1,v2,v3,(IntKind.wrap .i64 (v4+1)),()),(()),(())))) none) (fe (.inr (((),()),(()),(()))))
def dQ (s:dt.D):Option (dt.D⊕bu.D gK):=ig s.1.1 s.1.2.1 s.1.2.2.1 s.1.2.2.2.1 (fun s=>some (.inl s)) (fun e=>some (.inr e))
def ld:dt.D→Option (bu.D gK):=jD dQ
theorem zY {ρ:Type} (s:dt.D) (fn:dt.D→Option ρ) (fe:bu.D gK→Option ρ):ig s.1.1 s.1.2.1 s.1.2.2.1 s.1.2.2.2.1 fn fe=(dQ s).bind (Sum.elim fn fe):=by
 simp only [dQ,ig,al,ao,Option.bind_none,Option.bind_assoc,Option.bind_some,Sum.elim_inl,Sum.elim_inr]
abbrev ur:dg:=dA [] [0,1,7,8] dt gK ld
theorem yf (s:dt.D):eP Θ (aQ ye) (aO []) lc (dt.mk' s) (dn [0,1,7,8] [4] fun x S=>some (x,S))=(dQ s).bind (Sum.elim (fun s'=>some (.nor,dt.mk' s')) fun e=>some (bu.e gK e)):=
 Eq.trans (by kernel_rfl:_=ig s.1.1 s.1.2.1 s.1.2.2.1 s.1.2.2.2.1 (fun s'=>some (.nor,dt.mk' s')) (fun e=>some (bu.e gK e))) (zY s _ _)
theorem yg:cn Tryz.prog lc ur:=bi aR ta af (by kernel_rfl) (dF (by kernel_rfl:_= []) ah) [] [0,1,7,8] [4] dt gK (by kernel_rfl) dQ yf ld (hO dQ) (aW dQ)
def mc {ρ:Type} (a0:List Int) (a1:Int) (k:Int×Unit→Option ρ):Option ρ:=
 (ld ((a0,a1,(a0.length:Int),0,()),(()),(()))).bind fun e6=>Sum.elim (fun e6_=>k (e6_.1.1,())) (fun e6_=>k ((-1),())) e6
def lE (a0:List Int) (a1:Int):Option (Int×Unit):=mc a0 a1 some
theorem D3 {ρ:Type} (a0:List Int) (a1:Int) (k:Int×Unit→Option ρ):mc a0 a1 k=(lE a0 a1).bind k:=by
 simp only [lE,mc,cx,Option.bind_assoc,Option.bind_some]
abbrev yh:bB:=bP [.ty (.ls (.i .i64)), .ty (.i .i64)] [.i .i64] fun x=>lE x.1 x.2.1
theorem HG:aF Tryz.prog 214 yh:=
 ak (Λ:=aO [(ca lc,ur)]) (fn:=Tryz.f214) aR ta af (by kernel_rfl) (aM (by kernel_rfl:_= [lc]) (aV (q:=ca lc) rfl yg fun _ _ _=>by kernel_rfl)) (by kernel_rfl) (fun x=>lE x.1 x.2.1)
  (fun x=>Eq.trans (by kernel_rfl:_=mc x.1 x.2.1 (fun y=>ret (aK [.i .i64] y) fun v g=>some (v,g))) (D3 x.1 x.2.1 _)) fun _ _ h=>h
abbrev BR:List (Nat×bB):= [(214,yh)]
theorem wM:aA Tryz.prog (aQ BR):=ae HG <| aj _
def jq {ρ:Type} (a0:List Int) (a1:Int) (k:Bool×Unit→Option ρ):Option ρ:=
 (lE a0 a1).bind fun y1=>k ((decide (y1.1≥0)),())
def ii (a0:List Int) (a1:Int):Option (Bool×Unit):=jq a0 a1 some
theorem yi {ρ:Type} (a0:List Int) (a1:Int) (k:Bool×Unit→Option ρ):jq a0 a1 k=(ii a0 a1).bind k:=by
 simp only [ii,jq,Option.bind_assoc,Option.bind_some]
abbrev tb:bB:=bP [.ty (.ls (.i .i64)), .ty (.i .i64)] [.b] fun x=>ii x.1 x.2.1
theorem BS:aF Tryz.prog 144 tb:=
 ak (Λ:=aO []) (fn:=Tryz.f144) aR wM af (by kernel_rfl) (aM (by kernel_rfl:_= []) ah) (by kernel_rfl) (fun x=>ii x.1 x.2.1)
  (fun x=>Eq.trans (by kernel_rfl:_=jq x.1 x.2.1 (fun y=>ret (aK [.b] y) fun v g=>some (v,g))) (yi x.1 x.2.1 _)) fun _ _ h=>h
abbrev JV:List (Nat×bB):= [(144,tb)]
theorem D4:aA Tryz.prog (aQ JV):=ae BS <| aj _
def nQ {ρ:Type} (a0:List Int) (a1:Int) (k:Bool×Unit→Option ρ):Option ρ:=
 (ii a0 a1).bind fun y1=>k (y1.1,())
def gf (a0:List Int) (a1:Int):Option (Bool×Unit):=nQ a0 a1 some
theorem Ft {ρ:Type} (a0:List Int) (a1:Int) (k:Bool×Unit→Option ρ):nQ a0 a1 k=(gf a0 a1).bind k:=by
 simp only [gf,nQ,Option.bind_assoc,Option.bind_some]
abbrev qL:bB:=bP [.ty (.ls (.i .i64)), .ty (.i .i64)] [.b] fun x=>gf x.1 x.2.1
theorem ut:aF Tryz.prog 66 qL:=
 ak (Λ:=aO []) (fn:=Tryz.f66) aR D4 af (by kernel_rfl) (aM (by kernel_rfl:_= []) ah) (by kernel_rfl) (fun x=>gf x.1 x.2.1)
  (fun x=>Eq.trans (by kernel_rfl:_=nQ x.1 x.2.1 (fun y=>ret (aK [.b] y) fun v g=>some (v,g))) (Ft x.1 x.2.1 _)) fun _ _ h=>h
abbrev HH:List (Nat×bB):= []
theorem BT:aA Tryz.prog (aQ HH):=aj _
def vU {ρ:Type} (a0:List Int) (k: (List Int)×Unit→Option ρ):Option ρ:=
 ap (a0.length*8≤2 ^ 40) (k (a0,())) none
def pB (a0:List Int):Option ((List Int)×Unit):=vU a0 some
abbrev yj:bB:=bP [.ty (.ls (.i .i64))] [.ls (.i .i64)] fun x=>pB x.1
abbrev pC (y: (List Int)×Unit):Option (V×List bH):=ret (aK [.ls (.i .i64)] y) fun v g=>some (v,g)
theorem HI:aF Tryz.prog 164 yj:=
 ak (Λ:=aO []) (fn:=Tryz.f164) aR BT af (by kernel_rfl) (aM (by kernel_rfl:_= []) ah) (by kernel_rfl) (fun x=>pB x.1)
  (fun x=>Eq.trans (by kernel_rfl:_=Qd x.1 (PS (pC ([],())) (ap ((([]:List Int)++x.1).length*8≤2 ^ 40) (pC (([]:List Int)++x.1,())) none) none) (ap ((([]:List Int)++x.1).length*8≤2 ^ 40) (pC (([]:List Int)++x.1,())) none)) (Mv x.1 8 pC)) fun _ _ h=>h
abbrev LA:List (Nat×bB):= []
theorem Fu:aA Tryz.prog (aQ LA):=aj _
def qM {ρ:Type} (a0:Int) (k:Int×Unit→Option ρ):Option ρ:=
 br (decide (a0≥4294967296)) (none) (br (decide (a0≥65536)) (none) (br (decide (a0≥256)) (none) (ap (0≤(IntKind.wrap .u8 a0)) ((TO[(IntKind.wrap .u8 a0).toNat]?).bind fun x1=>k ((IntKind.wrap .i64 (0+(IntKind.wrap .i64 (x1.toNat:Int)))),())) none)))
def qa (a0:Int):Option (Int×Unit):=qM a0 some
theorem HJ {ρ:Type} (a0:Int) (k:Int×Unit→Option ρ):qM a0 k=(qa a0).bind k:=by
 simp only [qa,qM,al,ao,Option.bind_none,Option.bind_assoc,Option.bind_some]
abbrev D5:bB:=bP [.ty (.i .u64)] [.i .i64] fun x=>qa x.1
theorem LB:aF Tryz.prog 298 D5:=
 ak (Λ:=aO []) (fn:=Tryz.f298) aR Fu af (by kernel_rfl) (aM (by kernel_rfl:_= []) ah) (by kernel_rfl) (fun x=>qa x.1)
  (fun x=>Eq.trans (by kernel_rfl:_=qM x.1 (fun y=>ret (aK [.i .i64] y) fun v g=>some (v,g))) (HJ x.1 _)) fun _ _ h=>h
abbrev Pw:List (Nat×bB):= [(298,D5)]
theorem JW:aA Tryz.prog (aQ Pw):=ae LB <| aj _
def vh {ρ:Type} (a0:Int) (k:Int×Unit→Option ρ):Option ρ:=
 (qa a0).bind fun y1=>k (y1.1,())
def rR (a0:Int):Option (Int×Unit):=vh a0 some
theorem LC {ρ:Type} (a0:Int) (k:Int×Unit→Option ρ):vh a0 k=(rR a0).bind k:=by
 simp only [rR,vh,Option.bind_assoc,Option.bind_some]
abbrev JX:bB:=bP [.ty (.i .u64)] [.i .i64] fun x=>rR x.1
theorem Px:aF Tryz.prog 268 JX:=
 ak (Λ:=aO []) (fn:=Tryz.f268) aR JW af (by kernel_rfl) (aM (by kernel_rfl:_= []) ah) (by kernel_rfl) (fun x=>rR x.1)
  (fun x=>Eq.trans (by kernel_rfl:_=vh x.1 (fun y=>ret (aK [.i .i64] y) fun v g=>some (v,g))) (LC x.1 _)) fun _ _ h=>h
abbrev Fv:List (Nat×bB):= []
theorem zZ:aA Tryz.prog (aQ Fv):=aj _
def lf {ρ:Type} (a0:Int) (k:Bool×Unit→Option ρ):Option ρ:=
 k ((!(a0==a0)),())
def iW (a0:Int):Option (Bool×Unit):=lf a0 some
theorem BU {ρ:Type} (a0:Int) (k:Bool×Unit→Option ρ):lf a0 k=(iW a0).bind k:=by
 simp only [iW,lf,Option.bind_some]
abbrev vV:bB:=bP [.ty (.i .i64)] [.b] fun x=>iW x.1
theorem Fw:aF Tryz.prog 314 vV:=
 ak (Λ:=aO []) (fn:=Tryz.f314) aR zZ af (by kernel_rfl) (aM (by kernel_rfl:_= []) ah) (by kernel_rfl) (fun x=>iW x.1)
  (fun x=>Eq.trans (by kernel_rfl:_=lf x.1 (fun y=>ret (aK [.b] y) fun v g=>some (v,g))) (BU x.1 _)) fun _ _ h=>h
abbrev HK:List (Nat×bB):= [(314,vV)]
theorem BV:aA Tryz.prog (aQ HK):=ae Fw <| aj _
def md {ρ:Type} (a0:Int) (a1:Int) (k:Bool×Unit→Option ρ):Option ρ:=
 (iW a0).bind fun y1=>br y1.1 ((iW a1).bind fun y2=>br (!y2.1) (k (true,())) (k ((decide (a0 < a1)),()))) (k ((decide (a0 < a1)),()))
def jQ (a0:Int) (a1:Int):Option (Bool×Unit):=md a0 a1 some
theorem D6 {ρ:Type} (a0:Int) (a1:Int) (k:Bool×Unit→Option ρ):md a0 a1 k=(jQ a0 a1).bind k:=by
 simp only [jQ,md,al,Option.bind_assoc,Option.bind_some]
abbrev yk:bB:=bP [.ty (.i .i64), .ty (.i .i64)] [.b] fun x=>jQ x.1 x.2.1
theorem HL:aF Tryz.prog 294 yk:=
 ak (Λ:=aO []) (fn:=Tryz.f294) aR BV af (by kernel_rfl) (aM (by kernel_rfl:_= []) ah) (by kernel_rfl) (fun x=>jQ x.1 x.2.1)
  (fun x=>Eq.trans (by kernel_rfl:_=md x.1 x.2.1 (fun y=>ret (aK [.b] y) fun v g=>some (v,g))) (D6 x.1 x.2.1 _)) fun _ _ h=>h
abbrev fb:List (Nat×bB):= [(294,yk)]
theorem en:aA Tryz.prog (aQ fb):=ae HL <| aj _
noncomputable abbrev bX:Code:=cw (co Tryz.f288) 0
noncomputable abbrev cz:Code:=cw bX 0
abbrev aH:ev:=⟨[(0, .cl (.own 0 (.i .i64))),(1, .cl (.int .i64)),(2, .cl (.int .i64)),(6, .cl (.int .i64)),(7, .cl (.int .i64))],[],[.i .i64],1,49⟩
abbrev bz:List (X×ev):= [(.ext 2,⟨[(0, .cl (.own 0 (.i .i64))),(1, .cl (.int .i64)),(2, .cl (.int .i64)),(6, .cl (.int .i64))],[],[.i .i64],1,49⟩)]
def cu {ρ:Type} (v5:List Int) (v6:Int) (v7:Int) (v8:Int) (v9:Int) (fn: ((Unit×Int×Int×Int×Int×Unit)×(Unit)×((List Int)×Unit))→Option ρ) (fe: ((Unit×Int×Int×Int×Unit)×(Unit)×((List Int)×Unit))→Option ρ):Option ρ:=
 br (decide (v9 > v6)) (ap (0≤v9∧v9 < (v5.length:Int)) ((v5[v9.toNat]?).bind fun x10=>ap (0≤(IntKind.wrap .i64 (v9 - 1))∧(IntKind.wrap .i64 (v9 - 1)) < (v5.length:Int)) ((v5[(IntKind.wrap .i64 (v9 - 1)).toNat]?).bind fun x11=>(jQ x10 x11).bind fun y12=>br y12.1 (ap (0≤(IntKind.wrap .i64 (v9 - 1))∧(IntKind.wrap .i64 (v9 - 1)) < (v5.length:Int)) ((v5[(IntKind.wrap .i64 (v9 - 1)).toNat]?).bind fun x13=>ap (0≤v9∧v9 < (v5.length:Int)) ((v5[v9.toNat]?).bind fun x14=>ap (0≤v9∧v9 < (v5.length:Int)) (ap (0≤(IntKind.wrap .i64 (v9 - 1))∧(IntKind.wrap .i64 (v9 - 1)) < (v5.length:Int)) ((v5[v9.toNat]?).bind fun _=>let z16:=v5.set v9.toNat x13; (z16[(IntKind.wrap .i64 (v9 - 1)).toNat]?).bind fun _=>fn (((),v6,v7,v8,(IntKind.wrap .i64 (v9 - 1)),()),(()),((z16.set ((IntKind.wrap .i64 (v9 - 1)).toNat) x14),()))) none) none) none) none) (fe (((),v6,v7,v8,()),(()),(v5,())))) none) none) (fe (((),v6,v7,v8,()),(()),(v5,())))
def bk (s:aH.D):Option (aH.D⊕bu.D bz):=cu s.2.2.1 s.1.2.1 s.1.2.2.1 s.1.2.2.2.1 s.1.2.2.2.2.1 (fun s=>some (.inl s)) (fun e=>some (.inr e))
def dh:aH.D→Option (bu.D bz):=jD bk
theorem mN {ρ:Type} (s:aH.D) (fn:aH.D→Option ρ) (fe:bu.D bz→Option ρ):cu s.2.2.1 s.1.2.1 s.1.2.2.1 s.1.2.2.2.1 s.1.2.2.2.2.1 fn fe=(bk s).bind (Sum.elim fn fe):=by
 simp only [bk,cu,al,ao,Option.bind_none,Option.bind_assoc,Option.bind_some,Sum.elim_inl,Sum.elim_inr]
abbrev iv:dg:=dA [] [0,1,2,6,7] aH bz dh
theorem me (s:aH.D):eP Θ (aQ fb) (aO []) cz (aH.mk' s) (dn [0,1,2,6,7] [0,1,2,6] fun x S=>some (x,S))=(bk s).bind (Sum.elim (fun s'=>some (.nor,aH.mk' s')) fun e=>some (bu.e bz e)):=
 Eq.trans (by kernel_rfl:_=cu s.2.2.1 s.1.2.1 s.1.2.2.1 s.1.2.2.2.1 s.1.2.2.2.2.1 (fun s'=>some (.nor,aH.mk' s')) (fun e=>some (bu.e bz e))) (mN s _ _)
theorem mf:cn Tryz.prog cz iv:=bi aR en af (by kernel_rfl) (dF (by kernel_rfl:_= []) ah) [] [0,1,2,6,7] [0,1,2,6] aH bz (by kernel_rfl) bk me dh (hO bk) (aW bk)
abbrev aI:ev:=⟨[(0, .cl (.own 0 (.i .i64))),(1, .cl (.int .i64)),(2, .cl (.int .i64)),(6, .cl (.int .i64))],[],[.i .i64],1,49⟩
abbrev bA:List (X×ev):= [(.ext 0,⟨[],[],[.i .i64],1,49⟩)]
def bL {ρ:Type} (v1:List Int) (v2:Int) (v3:Int) (v4:Int) (fn: ((Unit×Int×Int×Int×Unit)×(Unit)×((List Int)×Unit))→Option ρ) (fe: ((Unit)×(Unit)×((List Int)×Unit))→Option ρ):Option ρ:=
 br (decide (v4 < v3)) ((dh (((),v2,v3,v4,v4,()),(()),(v1,()))).bind fun e19=>fn (((),e19.1.2.1,e19.1.2.2.1,(IntKind.wrap .i64 (e19.1.2.2.2.1+1)),()),(()),(e19.2.2.1,()))) (fe ((()),(()),(v1,())))
def aN (s:aI.D):Option (aI.D⊕bu.D bA):=bL s.2.2.1 s.1.2.1 s.1.2.2.1 s.1.2.2.2.1 (fun s=>some (.inl s)) (fun e=>some (.inr e))
def dj:aI.D→Option (bu.D bA):=jD aN
theorem mO {ρ:Type} (s:aI.D) (fn:aI.D→Option ρ) (fe:bu.D bA→Option ρ):bL s.2.2.1 s.1.2.1 s.1.2.2.1 s.1.2.2.2.1 fn fe=(aN s).bind (Sum.elim fn fe):=by
 simp only [aN,bL,al,Option.bind_assoc,Option.bind_some,Sum.elim_inl,Sum.elim_inr]
abbrev iw:dg:=dA [] [0,1,2,6] aI bA dj
theorem mg (s:aI.D):eP Θ (aQ fb) (aO [(ca cz,iv)]) bX (aI.mk' s) (dn [0,1,2,6] [] fun x S=>some (x,S))=(aN s).bind (Sum.elim (fun s'=>some (.nor,aI.mk' s')) fun e=>some (bu.e bA e)):=
 Eq.trans (by kernel_rfl:_=bL s.2.2.1 s.1.2.1 s.1.2.2.1 s.1.2.2.2.1 (fun s'=>some (.nor,aI.mk' s')) (fun e=>some (bu.e bA e))) (mO s _ _)
theorem mh:cn Tryz.prog bX iw:=bi aR en af (by kernel_rfl) (dF (by kernel_rfl:_= [cz]) (aV (q:=ca cz) rfl mf fun _ _ _=>by kernel_rfl)) [] [0,1,2,6] [] aI bA (by kernel_rfl) aN mg dj (hO aN) (aW aN)
def cL {ρ:Type} (a0:List Int) (a1:Int) (a2:Int) (k: (List Int)×Unit→Option ρ):Option ρ:=
 (dj (((),a1,a2,(IntKind.wrap .i64 (a1+1)),()),(()),(a0,()))).bind fun e20=>k (e20.2.2.1,())
def bJ (a0:List Int) (a1:Int) (a2:Int):Option ((List Int)×Unit):=cL a0 a1 a2 some
theorem nR {ρ:Type} (a0:List Int) (a1:Int) (a2:Int) (k: (List Int)×Unit→Option ρ):cL a0 a1 a2 k=(bJ a0 a1 a2).bind k:=by
 simp only [bJ,cL,Option.bind_assoc,Option.bind_some]
abbrev jr:bB:=E3 (.i .i64) [.ty (.i .i64), .ty (.i .i64)] [] fun l x=>bJ l x.1 x.2.1
theorem ox:aF Tryz.prog (lC 288) jr:=
 qC (Λ:=aO [(ca bX,iw)]) (fn:=Tryz.f288) aR en af (by kernel_rfl) (aM (by kernel_rfl:_= [bX]) (aV (q:=ca bX) rfl mh fun _ _ _=>by kernel_rfl)) (by kernel_rfl) (fun l x=>bJ l x.1 x.2.1)
  (fun l x=>Eq.trans (by kernel_rfl:_=cL l x.1 x.2.1 (fun y=>E2 (.i .i64) [] y fun v g=>some (v,g))) (nR l x.1 x.2.1 _)) fun _ _ _ h=>h
abbrev mi:List (Nat×bB):= [(lC 288,jr)]
theorem kw:aA Tryz.prog (aQ mi):=ae ox <| aj _
noncomputable abbrev du:Code:=cw (co Tryz.f267) 0
abbrev bc:ev:=⟨[(0, .cl (.own 0 (.i .i64))),(1, .cl (.int .i64)),(2, .cl (.int .i64)),(3, .cl (.int .i64)),(8, .cl (.bl)),(9, .cl (.bl))],[],[.i .i64],1,134⟩
abbrev cf:List (X×ev):= [(.ret,⟨[],[],[.i .i64],1,134⟩)]
def dk {ρ:Type} (v1:List Int) (v2:Int) (v3:Int) (v4:Int) (v5:Bool) (_v6:Bool) (fn: ((Unit×Int×Int×Int×Bool×Bool×Unit)×(Unit)×((List Int)×Unit))→Option ρ) (fe: ((Unit)×(Unit)×((List Int)×Unit))→Option ρ):Option ρ:=
 br (decide ((IntKind.wrap .i64 (v3 - v2))≤12)) ((bJ v1 v2 v3).bind fun y7=>ap (y7.1.length=v1.length) (fe ((()),(()),(y7.1,()))) none) (br (v4==0) (none) (br (!v5) (none) (none)))
def bN (s:bc.D):Option (bc.D⊕bu.D cf):=dk s.2.2.1 s.1.2.1 s.1.2.2.1 s.1.2.2.2.1 s.1.2.2.2.2.1 s.1.2.2.2.2.2.1 (fun s=>some (.inl s)) (fun e=>some (.inr e))
def eC:bc.D→Option (bu.D cf):=jD bN
theorem o9 {ρ:Type} (s:bc.D) (fn:bc.D→Option ρ) (fe:bu.D cf→Option ρ):dk s.2.2.1 s.1.2.1 s.1.2.2.1 s.1.2.2.2.1 s.1.2.2.2.2.1 s.1.2.2.2.2.2.1 fn fe=(bN s).bind (Sum.elim fn fe):=by
 simp only [bN,dk,al,ao,Option.bind_none,Option.bind_assoc,Option.bind_some,Sum.elim_inr]
abbrev lg:dg:=dA [] [0,1,2,3,8,9] bc cf eC
theorem oY (s:bc.D):eP Θ (aQ mi) (aO []) du (bc.mk' s) (dn [0,1,2,3,8,9] [] fun x S=>some (x,S))=(bN s).bind (Sum.elim (fun s'=>some (.nor,bc.mk' s')) fun e=>some (bu.e cf e)):=
 Eq.trans (by kernel_rfl:_=dk s.2.2.1 s.1.2.1 s.1.2.2.1 s.1.2.2.2.1 s.1.2.2.2.2.1 s.1.2.2.2.2.2.1 (fun s'=>some (.nor,bc.mk' s')) (fun e=>some (bu.e cf e))) (o9 s _ _)
theorem oZ:cn Tryz.prog du lg:=bi aR kw af (by kernel_rfl) (dF (by kernel_rfl:_= []) ah) [] [0,1,2,3,8,9] [] bc cf (by kernel_rfl) bN oY eC (hO bN) (aW bN)
def dD {ρ:Type} (a0:List Int) (a1:Int) (a2:Int) (a3:Int) (k: (List Int)×Unit→Option ρ):Option ρ:=
 (eC (((),a1,a2,a3,true,true,()),(()),(a0,()))).bind fun e8=>k (e8.2.2.1,())
def cD (a0:List Int) (a1:Int) (a2:Int) (a3:Int):Option ((List Int)×Unit):=dD a0 a1 a2 a3 some
theorem qb {ρ:Type} (a0:List Int) (a1:Int) (a2:Int) (a3:Int) (k: (List Int)×Unit→Option ρ):dD a0 a1 a2 a3 k=(cD a0 a1 a2 a3).bind k:=by
 simp only [cD,dD,Option.bind_assoc,Option.bind_some]
abbrev mm:bB:=E3 (.i .i64) [.ty (.i .i64), .ty (.i .i64), .ty (.i .i64)] [] fun l x=>cD l x.1 x.2.1 x.2.2.1
theorem ri:aF Tryz.prog (lC 267) mm:=
 qC (Λ:=aO [(ca du,lg)]) (fn:=Tryz.f267) aR kw af (by kernel_rfl) (aM (by kernel_rfl:_= [du]) (aV (q:=ca du) rfl oZ fun _ _ _=>by kernel_rfl)) (by kernel_rfl) (fun l x=>cD l x.1 x.2.1 x.2.2.1)
  (fun l x=>Eq.trans (by kernel_rfl:_=dD l x.1 x.2.1 x.2.2.1 (fun y=>E2 (.i .i64) [] y fun v g=>some (v,g))) (qb l x.1 x.2.1 x.2.2.1 _)) fun _ _ _ h=>h
abbrev D7:List (Nat×bB):= [(268,JX),(lC 267,mm)]
theorem yl:aA Tryz.prog (aQ D7):=ae Px <| ae ri <| aj _
def j5 {ρ:Type} (a0:List Int) (k: (List Int)×Unit→Option ρ):Option ρ:=
 (rR (IntKind.wrap .u64 (a0.length:Int))).bind fun y1=>(cD a0 0 (a0.length:Int) y1.1).bind fun y2=>ap (y2.1.length=a0.length) (k (y2.1,())) none
def gM (a0:List Int):Option ((List Int)×Unit):=j5 a0 some
theorem z0 {ρ:Type} (a0:List Int) (k: (List Int)×Unit→Option ρ):j5 a0 k=(gM a0).bind k:=by
 simp only [gM,j5,ao,Option.bind_none,Option.bind_assoc,Option.bind_some]
abbrev uu:bB:=E3 (.i .i64) [] [] fun l _=>gM l
theorem D8:aF Tryz.prog (lC 216) uu:=
 qC (Λ:=aO []) (fn:=Tryz.f216) aR yl af (by kernel_rfl) (aM (by kernel_rfl:_= []) ah) (by kernel_rfl) (fun l _=>gM l)
  (fun l _=>Eq.trans (by kernel_rfl:_=j5 l (fun y=>E2 (.i .i64) [] y fun v g=>some (v,g))) (z0 l _)) fun _ _ _ h=>h
abbrev qN:List (Nat×bB):= []
theorem o0:aA Tryz.prog (aQ qN):=aj _
noncomputable abbrev eL:Code:=cw (co Tryz.f217) 0
noncomputable abbrev ph:Code:=cw eL 0
abbrev b7:ev:=⟨[(0, .cl (.own 0 (.i .i64))),(3, .cl (.int .i64))],[],[.i .i64],0,61⟩
abbrev dE:List (X×ev):= [(.ext 0,⟨[(0, .cl (.own 0 (.i .i64))),(2, .cl (.dead))],[],[.i .i64],0,61⟩)]
def ei {ρ:Type} (v1:List Int) (v2:Int) (fn: ((Unit×Int×Unit)×(Unit)×((List Int)×Unit))→Option ρ) (fe: ((Unit×Unit×Unit)×(Unit)×((List Int)×Unit))→Option ρ):Option ρ:=
 br (decide (v2 < (v1.length:Int))) (ap (0≤v2∧v2 < (v1.length:Int)) ((v1[v2.toNat]?).bind fun x3=>ap (0≤(IntKind.wrap .i64 (v2 - 1))∧(IntKind.wrap .i64 (v2 - 1)) < (v1.length:Int)) ((v1[(IntKind.wrap .i64 (v2 - 1)).toNat]?).bind fun x4=>br (x3==x4) (ap (0≤v2∧v2≤(v1.length:Int)∧(v1.length:Int)≤((v1.length:Nat):Int)) (none) none) (fn (((),(IntKind.wrap .i64 (v2+1)),()),(()),(v1,())))) none) none) (fe (((),(),()),(()),(v1,())))
def cr (s:b7.D):Option (b7.D⊕bu.D dE):=ei s.2.2.1 s.1.2.1 (fun s=>some (.inl s)) (fun e=>some (.inr e))
def i9:b7.D→Option (bu.D dE):=jD cr
theorem tC {ρ:Type} (s:b7.D) (fn:b7.D→Option ρ) (fe:bu.D dE→Option ρ):ei s.2.2.1 s.1.2.1 fn fe=(cr s).bind (Sum.elim fn fe):=by
 simp only [cr,ei,al,ao,Option.bind_none,Option.bind_assoc,Option.bind_some,Sum.elim_inl,Sum.elim_inr]
abbrev pi:dg:=dA [] [0,3] b7 dE i9
theorem sK (s:b7.D):eP Θ (aQ qN) (aO []) eL (b7.mk' s) (dn [0,3] [0,2] fun x S=>some (x,S))=(cr s).bind (Sum.elim (fun s'=>some (.nor,b7.mk' s')) fun e=>some (bu.e dE e)):=
 Eq.trans (by kernel_rfl:_=ei s.2.2.1 s.1.2.1 (fun s'=>some (.nor,b7.mk' s')) (fun e=>some (bu.e dE e))) (tC s _ _)
theorem sL:cn Tryz.prog eL pi:=bi aR o0 af (by kernel_rfl) (dF (by kernel_rfl:_= [ph]) (Pe (q:=ca ph) rfl fun _ _ _=>by kernel_rfl)) [] [0,3] [0,2] b7 dE (by kernel_rfl) cr sK i9 (hO cr) (aW cr)
def gO {ρ:Type} (a0:List Int) (k: (List Int)×Unit→Option ρ):Option ρ:=
 br (decide ((a0.length:Int) < 2)) (k (a0,())) ((i9 (((),1,()),(()),(a0,()))).bind fun e5=>k (e5.2.2.1,()))
def eD (a0:List Int):Option ((List Int)×Unit):=gO a0 some
theorem vo {ρ:Type} (a0:List Int) (k: (List Int)×Unit→Option ρ):gO a0 k=(eD a0).bind k:=by
 simp only [eD,gO,al,Option.bind_assoc,Option.bind_some]
abbrev qO:bB:=QP (.i .i64) [] [.ls (.i .i64)] fun l _=>eD l
theorem ym:aF Tryz.prog (C6 217) qO:=
 Mr (Λ:=aO [(ca eL,pi)]) (fn:=Tryz.f217) aR o0 af (by kernel_rfl) (aM (by kernel_rfl:_= [eL]) (aV (q:=ca eL) rfl sL fun _ _ _=>by kernel_rfl)) (fun l _=>eD l)
  (fun l _=>Eq.trans (by kernel_rfl:_=gO l (fun y=>ret (aK [.ls (.i .i64)] y) fun v g=>some (v,g))) (vo l _)) fun _ _ _ h=>h
abbrev JY:List (Nat×bB):= [(164,yj),(lC 216,uu),(C6 217,qO)]
theorem D9:aA Tryz.prog (aQ JY):=ae HI <| ae D8 <| ae ym <| aj _
def nS {ρ:Type} (a0:List Int) (k: (List Int)×Unit→Option ρ):Option ρ:=
 (pB a0).bind fun y1=>(gM y1.1).bind fun y2=>ap (y2.1.length=y1.1.length) ((eD y2.1).bind fun y3=>k (y3.1,())) none
def lh (a0:List Int):Option ((List Int)×Unit):=nS a0 some
theorem Fx {ρ:Type} (a0:List Int) (k: (List Int)×Unit→Option ρ):nS a0 k=(lh a0).bind k:=by
 simp only [lh,nS,ao,Option.bind_none,Option.bind_assoc,Option.bind_some]
abbrev A6:bB:=bP [.ty (.ls (.i .i64))] [.ls (.i .i64)] fun x=>lh x.1
theorem JZ:aF Tryz.prog 150 A6:=
 ak (Λ:=aO []) (fn:=Tryz.f150) aR D9 af (by kernel_rfl) (aM (by kernel_rfl:_= []) ah) (by kernel_rfl) (fun x=>lh x.1)
  (fun x=>Eq.trans (by kernel_rfl:_=nS x.1 (fun y=>ret (aK [.ls (.i .i64)] y) fun v g=>some (v,g))) (Fx x.1 _)) fun _ _ h=>h
abbrev vp:List (Nat×bB):= [(66,qL)]
theorem sM:aA Tryz.prog (aQ vp):=ae ut <| aj _
def fC {ρ:Type} (a0:Int) (a1:List Int) (k:Bool×Unit→Option ρ):Option ρ:=
 (gf a1 a0).bind fun y1=>k (y1.1,())
def db (a0:Int) (a1:List Int):Option (Bool×Unit):=fC a0 a1 some
theorem tD {ρ:Type} (a0:Int) (a1:List Int) (k:Bool×Unit→Option ρ):fC a0 a1 k=(db a0 a1).bind k:=by
 simp only [db,fC,Option.bind_assoc,Option.bind_some]
abbrev lT:bB:=bP [.ty (.i .i64), .pr (.ls (.i .i64))] [.b] fun x=>db x.1 x.2.1
theorem pj:aF Tryz.prog 151 lT:=
 ak (Λ:=aO []) (fn:=Tryz.f151) aR sM af (by kernel_rfl) (aM (by kernel_rfl:_= []) ah) (by kernel_rfl) (fun x=>db x.1 x.2.1)
  (fun x=>Eq.trans (by kernel_rfl:_=fC x.1 x.2.1 (fun y=>ret (aK [.b] y) fun v g=>some (v,g))) (tD x.1 x.2.1 _)) fun _ _ h=>h
abbrev gg:List (Nat×bB):= [(151,lT)]
theorem fD:aA Tryz.prog (aQ gg):=ae pj <| aj _
noncomputable abbrev bZ:Code:=cw (co Tryz.f143) 0
abbrev ax:ev:=⟨[(0, .cl (.ro (.i .i64))),(1, .fn 151 [.pro (.ls (.i .i64))]),(7, .cl (.int .i64)),(8, .cl (.int .i64))],[],[],0,19⟩
abbrev bg:List (X×ev):= [(.ret,⟨[(4, .cl (.int .i64))],[],[],0,19⟩),(.ext 0,⟨[(4, .cl (.dead))],[],[],0,19⟩)]
def bq {ρ:Type} (v1:List Int) (v2:List Int) (v3:Int) (v4:Int) (fn: (((List Int)×((List Int)×Unit)×Int×Int×Unit)×(Unit)×(Unit))→Option ρ) (fe: ((Int×Unit)×(Unit)×(Unit))⊕((Unit×Unit)×(Unit)×(Unit))→Option ρ):Option ρ:=
 br (decide (v4 < v3)) (ap (0≤v4) ((v1[v4.toNat]?).bind fun x5=>(db x5 v2).bind fun y6=>br y6.1 (fe (.inl ((v4,()),(()),(())))) (fn ((v1,(v2,()),v3,(IntKind.wrap .i64 (v4+1)),()),(()),(())))) none) (fe (.inr (((),()),(()),(()))))
def aD (s:ax.D):Option (ax.D⊕bu.D bg):=bq s.1.1 s.1.2.1.1 s.1.2.2.1 s.1.2.2.2.1 (fun s=>some (.inl s)) (fun e=>some (.inr e))
def b0:ax.D→Option (bu.D bg):=jD aD
theorem kA {ρ:Type} (s:ax.D) (fn:ax.D→Option ρ) (fe:bu.D bg→Option ρ):bq s.1.1 s.1.2.1.1 s.1.2.2.1 s.1.2.2.2.1 fn fe=(aD s).bind (Sum.elim fn fe):=by
 simp only [aD,bq,al,ao,Option.bind_none,Option.bind_assoc,Option.bind_some,Sum.elim_inl,Sum.elim_inr]
abbrev fI:dg:=dA [] [0,1,7,8] ax bg b0
theorem kp (s:ax.D):eP Θ (aQ gg) (aO []) bZ (ax.mk' s) (dn [0,1,7,8] [4] fun x S=>some (x,S))=(aD s).bind (Sum.elim (fun s'=>some (.nor,ax.mk' s')) fun e=>some (bu.e bg e)):=
 Eq.trans (by kernel_rfl:_=bq s.1.1 s.1.2.1.1 s.1.2.2.1 s.1.2.2.2.1 (fun s'=>some (.nor,ax.mk' s')) (fun e=>some (bu.e bg e))) (kA s _ _)
theorem kq:cn Tryz.prog bZ fI:=bi aR fD af (by kernel_rfl) (dF (by kernel_rfl:_= []) ah) [] [0,1,7,8] [4] ax bg (by kernel_rfl) aD kp b0 (hO aD) (aW aD)
def b8 {ρ:Type} (a0:List Int) (a1_0:List Int) (k:Int×Unit→Option ρ):Option ρ:=
 (b0 ((a0,(a1_0,()),(a0.length:Int),0,()),(()),(()))).bind fun e7=>Sum.elim (fun e7_=>k (e7_.1.1,())) (fun e7_=>k ((-1),())) e7
def bE (a0:List Int) (a1_0:List Int):Option (Int×Unit):=b8 a0 a1_0 some
theorem lF {ρ:Type} (a0:List Int) (a1_0:List Int) (k:Int×Unit→Option ρ):b8 a0 a1_0 k=(bE a0 a1_0).bind k:=by
 simp only [bE,b8,cx,Option.bind_assoc,Option.bind_some]
abbrev gi:bB:=bP [.ty (.ls (.i .i64)), .fn 151 [.ls (.i .i64)]] [.i .i64] fun x=>bE x.1 x.2.1.1
theorem mn:aF Tryz.prog 143 gi:=
 ak (Λ:=aO [(ca bZ,fI)]) (fn:=Tryz.f143) aR fD af (by kernel_rfl) (aM (by kernel_rfl:_= [bZ]) (aV (q:=ca bZ) rfl kq fun _ _ _=>by kernel_rfl)) (by kernel_rfl) (fun x=>bE x.1 x.2.1.1)
  (fun x=>Eq.trans (by kernel_rfl:_=b8 x.1 x.2.1.1 (fun y=>ret (aK [.i .i64] y) fun v g=>some (v,g))) (lF x.1 x.2.1.1 _)) fun _ _ h=>h
abbrev fp:List (Nat×bB):= [(143,gi),(151,lT)]
theorem eE:aA Tryz.prog (aQ fp):=ae mn <| ae pj <| aj _
noncomputable abbrev bC:Code:=cw (co Tryz.f74) 0
abbrev an:ev:=⟨[(0, .cl (.own 0 (.i .i64))),(1, .fn 151 [.pro (.ls (.i .i64))]),(5, .cl (.int .i64)),(6, .cl (.int .i64))],[],[.i .i64],0,42⟩
abbrev aX:List (X×ev):= [(.ext 0,⟨[(0, .cl (.own 0 (.i .i64))),(5, .cl (.int .i64))],[],[.i .i64],0,42⟩)]
def bh {ρ:Type} (v2:List Int) (v3:List Int) (v4:Int) (v5:Int) (fn: ((Unit×((List Int)×Unit)×Int×Int×Unit)×(Unit)×((List Int)×Unit))→Option ρ) (fe: ((Unit×Int×Unit)×(Unit)×((List Int)×Unit))→Option ρ):Option ρ:=
 br (decide (v5 < (v2.length:Int))) (ap (0≤v5∧v5 < (v2.length:Int)) ((v2[v5.toNat]?).bind fun x6=>(db x6 v3).bind fun y7=>br (!y7.1) (ap (0≤v4∧v4 < (v2.length:Int)) ((v2[v4.toNat]?).bind fun _=>fn (((),(v3,()),(IntKind.wrap .i64 (v4+1)),(IntKind.wrap .i64 (v5+1)),()),(()),((v2.set v4.toNat x6),()))) none) (fn (((),(v3,()),v4,(IntKind.wrap .i64 (v5+1)),()),(()),(v2,())))) none) (fe (((),v4,()),(()),(v2,())))
def ar (s:an.D):Option (an.D⊕bu.D aX):=bh s.2.2.1 s.1.2.1.1 s.1.2.2.1 s.1.2.2.2.1 (fun s=>some (.inl s)) (fun e=>some (.inr e))
def cc:an.D→Option (bu.D aX):=jD ar
theorem jC {ρ:Type} (s:an.D) (fn:an.D→Option ρ) (fe:bu.D aX→Option ρ):bh s.2.2.1 s.1.2.1.1 s.1.2.2.1 s.1.2.2.2.1 fn fe=(ar s).bind (Sum.elim fn fe):=by
 simp only [ar,bh,al,ao,Option.bind_none,Option.bind_assoc,Option.bind_some,Sum.elim_inl,Sum.elim_inr]
abbrev eR:dg:=dA [] [0,1,5,6] an aX cc
theorem js (s:an.D):eP Θ (aQ fp) (aO []) bC (an.mk' s) (dn [0,1,5,6] [0,5] fun x S=>some (x,S))=(ar s).bind (Sum.elim (fun s'=>some (.nor,an.mk' s')) fun e=>some (bu.e aX e)):=
 Eq.trans (by kernel_rfl:_=bh s.2.2.1 s.1.2.1.1 s.1.2.2.1 s.1.2.2.2.1 (fun s'=>some (.nor,an.mk' s')) (fun e=>some (bu.e aX e))) (jC s _ _)
theorem jt:cn Tryz.prog bC eR:=bi aR eE af (by kernel_rfl) (dF (by kernel_rfl:_= []) ah) [] [0,1,5,6] [0,5] an aX (by kernel_rfl) ar js cc (hO ar) (aW ar)
def bI {ρ:Type} (a0:List Int) (a1_0:List Int) (k: (List Int)×Unit→Option ρ):Option ρ:=
 (bE a0 a1_0).bind fun y1=>br (y1.1==(-1)) (k (a0,())) ((cc (((),(a1_0,()),y1.1,(IntKind.wrap .i64 (y1.1+1)),()),(()),(a0,()))).bind fun e10=>ap (0≤e10.1.2.1∧e10.1.2.1≤(e10.2.2.1.length:Int)∧(e10.2.2.1.length:Int)≤((e10.2.2.1.length:Nat):Int)) (ap ((0+e10.1.2.1.toNat)+((e10.2.2.1.length:Int).toNat - e10.1.2.1.toNat)≤e10.2.2.1.length) (ap (0≤(0:Int)∧(0:Int)≤e10.1.2.1∧e10.1.2.1≤((e10.2.2.1.length:Nat):Int)) (ap ((0+(0:Int).toNat)=0∧(e10.1.2.1.toNat - (0:Int).toNat)≤(e10.2.2.1.take (0+e10.1.2.1.toNat)++List.replicate ((e10.2.2.1.length:Int).toNat - e10.1.2.1.toNat) (0:Int)++e10.2.2.1.drop ((0+e10.1.2.1.toNat)+((e10.2.2.1.length:Int).toNat - e10.1.2.1.toNat))).length) (k (((e10.2.2.1.take (0+e10.1.2.1.toNat)++List.replicate ((e10.2.2.1.length:Int).toNat - e10.1.2.1.toNat) (0:Int)++e10.2.2.1.drop ((0+e10.1.2.1.toNat)+((e10.2.2.1.length:Int).toNat - e10.1.2.1.toNat))).take (e10.1.2.1.toNat - (0:Int).toNat)),())) none) none) none) none)
def aY (a0:List Int) (a1_0:List Int):Option ((List Int)×Unit):=bI a0 a1_0 some
theorem j6 {ρ:Type} (a0:List Int) (a1_0:List Int) (k: (List Int)×Unit→Option ρ):bI a0 a1_0 k=(aY a0 a1_0).bind k:=by
 simp only [aY,bI,al,ao,Option.bind_none,Option.bind_assoc,Option.bind_some]
abbrev fq:bB:=QP (.i .i64) [.fn 151 [.ls (.i .i64)]] [.ls (.i .i64)] fun l x=>aY l x.1.1
theorem kB:aF Tryz.prog (C6 74) fq:=
 Mr (Λ:=aO [(ca bC,eR)]) (fn:=Tryz.f74) aR eE af (by kernel_rfl) (aM (by kernel_rfl:_= [bC]) (aV (q:=ca bC) rfl jt fun _ _ _=>by kernel_rfl)) (fun l x=>aY l x.1.1)
  (fun l x=>Eq.trans (by kernel_rfl:_=bI l x.1.1 (fun y=>ret (aK [.ls (.i .i64)] y) fun v g=>some (v,g))) (j6 l x.1.1 _)) fun _ _ _ h=>h
abbrev z6:List (Nat×bB):= [(150,A6),(C6 74,fq)]
theorem vq:aA Tryz.prog (aQ z6):=ae JZ <| ae kB <| aj _
def iy {ρ:Type} (a0:List Int) (a1:List Int) (k: (List Int)×Unit→Option ρ):Option ρ:=
 (lh a0).bind fun y1=>(aY y1.1 a1).bind fun y2=>k (y2.1,())
def ej (a0:List Int) (a1:List Int):Option ((List Int)×Unit):=iy a0 a1 some
theorem wN {ρ:Type} (a0:List Int) (a1:List Int) (k: (List Int)×Unit→Option ρ):iy a0 a1 k=(ej a0 a1).bind k:=by
 simp only [ej,iy,Option.bind_assoc,Option.bind_some]
abbrev rS:bB:=bP [.ty (.ls (.i .i64)), .ty (.ls (.i .i64))] [.ls (.i .i64)] fun x=>ej x.1 x.2.1
theorem z8:aF Tryz.prog 73 rS:=
 ak (Λ:=aO []) (fn:=Tryz.f73) aR vq af (by kernel_rfl) (aM (by kernel_rfl:_= []) ah) (by kernel_rfl) (fun x=>ej x.1 x.2.1)
  (fun x=>Eq.trans (by kernel_rfl:_=iy x.1 x.2.1 (fun y=>ret (aK [.ls (.i .i64)] y) fun v g=>some (v,g))) (wN x.1 x.2.1 _)) fun _ _ h=>h
abbrev BW:List (Nat×bB):= [(73,rS)]
theorem wO:aA Tryz.prog (aQ BW):=ae z8 <| aj _
def ju {ρ:Type} (a0:List Int) (a1:List Int) (k: (List Int)×Unit→Option ρ):Option ρ:=
 (ej a0 a1).bind fun y1=>(ej a0 y1.1).bind fun y2=>k (y2.1,())
def fP (a0:List Int) (a1:List Int):Option ((List Int)×Unit):=ju a0 a1 some
theorem yn {ρ:Type} (a0:List Int) (a1:List Int) (k: (List Int)×Unit→Option ρ):ju a0 a1 k=(fP a0 a1).bind k:=by
 simp only [fP,ju,Option.bind_assoc,Option.bind_some]
abbrev tc:bB:=bP [.ty (.ls (.i .i64)), .ty (.ls (.i .i64))] [.ls (.i .i64)] fun x=>fP x.1 x.2.1
theorem BX:aF Tryz.prog 228 tc:=
 ak (Λ:=aO []) (fn:=Tryz.f228) aR wO af (by kernel_rfl) (aM (by kernel_rfl:_= []) ah) (by kernel_rfl) (fun x=>fP x.1 x.2.1)
  (fun x=>Eq.trans (by kernel_rfl:_=ju x.1 x.2.1 (fun y=>ret (aK [.ls (.i .i64)] y) fun v g=>some (v,g))) (yn x.1 x.2.1 _)) fun _ _ h=>h
abbrev BZ:List (Nat×bB):= [(135,jo),(227,yd),(66,qL),(228,tc)]
theorem wP:aA Tryz.prog (aQ BZ):=ae j4 <| ae HF <| ae ut <| ae BX <| aj _
def jv {ρ:Type} (a0:ai) (k:Bool×Unit→Option ρ):Option ρ:=
 (ce a0.epoch 1 20).bind fun y1=>br y1.1 ((fY a0.replicas).bind fun y2=>br y2.1 ((fY a0.witnesses).bind fun y3=>br y3.1 ((gf a0.replicas a0.primary).bind fun y4=>br y4.1 ((fP a0.replicas a0.witnesses).bind fun y5=>k (((y5.1.length:Int)==0),())) (k (false,()))) (k (false,()))) (k (false,()))) (k (false,()))
def eS (a0:ai):Option (Bool×Unit):=jv a0 some
theorem yp {ρ:Type} (a0:ai) (k:Bool×Unit→Option ρ):jv a0 k=(eS a0).bind k:=by
 simp only [eS,jv,al,Option.bind_assoc,Option.bind_some]
abbrev pa:bB:=bP [.ty (.st .config)] [.b] fun x=>eS x.1
theorem td:aF Tryz.prog 176 pa:=
 ak (Λ:=aO []) (fn:=Tryz.f176) aR wP af (by kernel_rfl) (aM (by kernel_rfl:_= []) ah) (by kernel_rfl) (fun x=>eS x.1)
  (fun x=>Eq.trans (by kernel_rfl:_=jv x.1 (fun y=>ret (aK [.b] y) fun v g=>some (v,g))) (yp x.1 _)) fun _ _ h=>h
abbrev vW:List (Nat×bB):= [(176,pa),(135,jo)]
theorem rT:aA Tryz.prog (aQ vW):=ae td <| ae j4 <| aj _
noncomputable abbrev j7:Code:=cw (co Tryz.f137) 0
abbrev c7:ev:=⟨[(1, .cl (.ptr 0 0)),(6, .cl (.ro (.st .config))),(7, .cl (.int .i64)),(8, .cl (.int .i64))],[[.ro (.st .config), .int .i64]],[],0,30⟩
abbrev fQ:List (X×ev):= [(.ret,⟨[(1, .cl (.ptr 0 0)),(2, .cl (.bl))],[[.ro (.st .config), .int .i64]],[],0,30⟩),(.ext 0,⟨[(1, .cl (.ptr 0 0)),(2, .cl (.dead))],[[.ro (.st .config), .int .i64]],[],0,30⟩)]
def gv {ρ:Type} (v1:List ai) (v2:Int) (v3:Int) (v4:List ai) (v5:Int) (fn: ((Unit×(List ai)×Int×Int×Unit)×(((List ai)×Int×Unit)×Unit)×(Unit))→Option ρ) (fe: ((Unit×Bool×Unit)×(((List ai)×Int×Unit)×Unit)×(Unit))⊕((Unit×Unit×Unit)×(((List ai)×Int×Unit)×Unit)×(Unit))→Option ρ):Option ρ:=
 br (decide (v3 < v2)) (ap (0≤v3) ((v1[v3.toNat]?).bind fun x6=>(eS x6).bind fun y7=>br (!y7.1) (fe (.inl (((),false,()),((v4,v5,()),()),(())))) (br (!(x6.epoch==(IntKind.wrap .i64 (v3+1)))) (fe (.inl (((),false,()),((v4,v5,()),()),(())))) (fn (((),v1,v2,(IntKind.wrap .i64 (v3+1)),()),((v4,v5,()),()),(()))))) none) (fe (.inr (((),(),()),((v4,v5,()),()),(()))))
def dy (s:c7.D):Option (c7.D⊕bu.D fQ):=gv s.1.2.1 s.1.2.2.1 s.1.2.2.2.1 s.2.1.1.1 s.2.1.1.2.1 (fun s=>some (.inl s)) (fun e=>some (.inr e))
def j8:c7.D→Option (bu.D fQ):=jD dy
theorem yq {ρ:Type} (s:c7.D) (fn:c7.D→Option ρ) (fe:bu.D fQ→Option ρ):gv s.1.2.1 s.1.2.2.1 s.1.2.2.2.1 s.2.1.1.1 s.2.1.1.2.1 fn fe=(dy s).bind (Sum.elim fn fe):=by
 simp only [dy,gv,al,ao,Option.bind_none,Option.bind_assoc,Option.bind_some,Sum.elim_inl,Sum.elim_inr]
abbrev te:dg:=dA [] [1,6,7,8] c7 fQ j8
theorem wQ (s:c7.D):eP Θ (aQ vW) (aO []) j7 (c7.mk' s) (dn [1,6,7,8] [1,2] fun x S=>some (x,S))=(dy s).bind (Sum.elim (fun s'=>some (.nor,c7.mk' s')) fun e=>some (bu.e fQ e)):=
 Eq.trans (by kernel_rfl:_=gv s.1.2.1 s.1.2.2.1 s.1.2.2.2.1 s.2.1.1.1 s.2.1.1.2.1 (fun s'=>some (.nor,c7.mk' s')) (fun e=>some (bu.e fQ e))) (yq s _ _)
theorem wR:cn Tryz.prog j7 te:=bi aR rT af (by kernel_rfl) (dF (by kernel_rfl:_= []) ah) [] [1,6,7,8] [1,2] c7 fQ (by kernel_rfl) dy wQ j8 (hO dy) (aW dy)
def li {ρ:Type} (a0:aw) (k:Bool×Unit→Option ρ):Option ρ:=
 (j8 (((),a0.configs,(a0.configs.length:Int),0,()),((a0.configs,a0.activated,()),()),(()))).bind fun e8=>Sum.elim (fun e8_=>k (e8_.1.2.1,())) (fun e8_=>(ce e8_.2.1.1.2.1 0 (e8_.2.1.1.1.length:Int)).bind fun y9=>k (y9.1,())) e8
def gk (a0:aw):Option (Bool×Unit):=li a0 some
theorem B0 {ρ:Type} (a0:aw) (k:Bool×Unit→Option ρ):li a0 k=(gk a0).bind k:=by
 simp only [gk,li,cx,Option.bind_assoc,Option.bind_some]
abbrev rj:bB:=bP [.ty (.st .masterLog)] [.b] fun x=>gk x.1
theorem vX:aF Tryz.prog 137 rj:=
 ak (Λ:=aO [(ca j7,te)]) (fn:=Tryz.f137) aR rT af (by kernel_rfl) (aM (by kernel_rfl:_= [j7]) (aV (q:=ca j7) rfl wR fun _ _ _=>by kernel_rfl)) (by kernel_rfl) (fun x=>gk x.1)
  (fun x=>Eq.trans (by kernel_rfl:_=li x.1 (fun y=>ret (aK [.b] y) fun v g=>some (v,g))) (B0 x.1 _)) fun _ _ h=>h
abbrev NA:List (Nat×bB):= [(135,jo)]
theorem HM:aA Tryz.prog (aQ NA):=ae j4 <| aj _
def qc {ρ:Type} (a0:jW) (k:Bool×Unit→Option ρ):Option ρ:=
 br ((a0.epoch==0)&&((a0.holder==0)&&((a0.ends==0)&&true))) (k (true,())) ((ce a0.epoch 1 20).bind fun y1=>br y1.1 ((ce a0.holder 0 4).bind fun y2=>br y2.1 ((ce a0.ends 1 1049).bind fun y3=>k (y3.1,())) (k (false,()))) (k (false,())))
def oy (a0:jW):Option (Bool×Unit):=qc a0 some
theorem J0 {ρ:Type} (a0:jW) (k:Bool×Unit→Option ρ):qc a0 k=(oy a0).bind k:=by
 simp only [oy,qc,al,Option.bind_assoc,Option.bind_some]
abbrev Gk:bB:=bP [.ty (.st .lease)] [.b] fun x=>oy x.1
theorem NB:aF Tryz.prog 138 Gk:=
 ak (Λ:=aO []) (fn:=Tryz.f138) aR HM af (by kernel_rfl) (aM (by kernel_rfl:_= []) ah) (by kernel_rfl) (fun x=>oy x.1)
  (fun x=>Eq.trans (by kernel_rfl:_=qc x.1 (fun y=>ret (aK [.b] y) fun v g=>some (v,g))) (J0 x.1 _)) fun _ _ h=>h
abbrev Ea:List (Nat×bB):= [(135,jo)]
theorem yr:aA Tryz.prog (aQ Ea):=ae j4 <| aj _
def j9 {ρ:Type} (a0:be) (k:Bool×Unit→Option ρ):Option ρ:=
 (ce a0.rack 0 9).bind fun y1=>br (!y1.1) (k (true,())) ((ce a0.capacity 0 9).bind fun y2=>br (!y2.1) (k (true,())) ((ce a0.load 0 99).bind fun y3=>k ((!y3.1),())))
def jw (a0:be):Option (Bool×Unit):=j9 a0 some
theorem Aa {ρ:Type} (a0:be) (k:Bool×Unit→Option ρ):j9 a0 k=(jw a0).bind k:=by
 simp only [jw,j9,al,Option.bind_assoc,Option.bind_some]
abbrev uv:bB:=bP [.ty (.st .place)] [.b] fun x=>jw x.1
theorem Eb:aF Tryz.prog 212 uv:=
 ak (Λ:=aO []) (fn:=Tryz.f212) aR yr af (by kernel_rfl) (aM (by kernel_rfl:_= []) ah) (by kernel_rfl) (fun x=>jw x.1)
  (fun x=>Eq.trans (by kernel_rfl:_=j9 x.1 (fun y=>ret (aK [.b] y) fun v g=>some (v,g))) (Aa x.1 _)) fun _ _ h=>h
abbrev iz:List (Nat×bB):= [(212,uv)]
theorem gl:aA Tryz.prog (aQ iz):=ae Eb <| aj _
noncomputable abbrev cg:Code:=cw (co Tryz.f266) 0
abbrev aE:ev:=⟨[(0, .cl (.ro (.st .place))),(1, .cl (.fc 212)),(7, .cl (.int .i64)),(8, .cl (.int .i64))],[],[],0,19⟩
abbrev bn:List (X×ev):= [(.ret,⟨[(4, .cl (.int .i64))],[],[],0,19⟩),(.ext 0,⟨[(4, .cl (.dead))],[],[],0,19⟩)]
def bF {ρ:Type} (v1:List be) (v2:Int) (v3:Int) (fn: (((List be)×Unit×Int×Int×Unit)×(Unit)×(Unit))→Option ρ) (fe: ((Int×Unit)×(Unit)×(Unit))⊕((Unit×Unit)×(Unit)×(Unit))→Option ρ):Option ρ:=
 br (decide (v3 < v2)) (ap (0≤v3) ((v1[v3.toNat]?).bind fun x4=>(jw x4).bind fun y5=>br y5.1 (fe (.inl ((v3,()),(()),(())))) (fn ((v1,(),v2,(IntKind.wrap .i64 (v3+1)),()),(()),(())))) none) (fe (.inr (((),()),(()),(()))))
def aJ (s:aE.D):Option (aE.D⊕bu.D bn):=bF s.1.1 s.1.2.2.1 s.1.2.2.2.1 (fun s=>some (.inl s)) (fun e=>some (.inr e))
def ch:aE.D→Option (bu.D bn):=jD aJ
theorem lU {ρ:Type} (s:aE.D) (fn:aE.D→Option ρ) (fe:bu.D bn→Option ρ):bF s.1.1 s.1.2.2.1 s.1.2.2.2.1 fn fe=(aJ s).bind (Sum.elim fn fe):=by
 simp only [aJ,bF,al,ao,Option.bind_none,Option.bind_assoc,Option.bind_some,Sum.elim_inl,Sum.elim_inr]
abbrev gP:dg:=dA [] [0,1,7,8] aE bn ch
theorem lG (s:aE.D):eP Θ (aQ iz) (aO []) cg (aE.mk' s) (dn [0,1,7,8] [4] fun x S=>some (x,S))=(aJ s).bind (Sum.elim (fun s'=>some (.nor,aE.mk' s')) fun e=>some (bu.e bn e)):=
 Eq.trans (by kernel_rfl:_=bF s.1.1 s.1.2.2.1 s.1.2.2.2.1 (fun s'=>some (.nor,aE.mk' s')) (fun e=>some (bu.e bn e))) (lU s _ _)
theorem lH:cn Tryz.prog cg gP:=bi aR gl af (by kernel_rfl) (dF (by kernel_rfl:_= []) ah) [] [0,1,7,8] [4] aE bn (by kernel_rfl) aJ lG ch (hO aJ) (aW aJ)
def cv {ρ:Type} (a0:List be) (k:Int×Unit→Option ρ):Option ρ:=
 (ch ((a0,(),(a0.length:Int),0,()),(()),(()))).bind fun e6=>Sum.elim (fun e6_=>k (e6_.1.1,())) (fun e6_=>k ((-1),())) e6
def b6 (a0:List be):Option (Int×Unit):=cv a0 some
theorem mQ {ρ:Type} (a0:List be) (k:Int×Unit→Option ρ):cv a0 k=(b6 a0).bind k:=by
 simp only [b6,cv,cx,Option.bind_assoc,Option.bind_some]
abbrev iA:bB:=bP [.ty (.ls (.st .place)), .fc 212] [.i .i64] fun x=>b6 x.1
theorem nT:aF Tryz.prog 266 iA:=
 ak (Λ:=aO [(ca cg,gP)]) (fn:=Tryz.f266) aR gl af (by kernel_rfl) (aM (by kernel_rfl:_= [cg]) (aV (q:=ca cg) rfl lH fun _ _ _=>by kernel_rfl)) (by kernel_rfl) (fun x=>b6 x.1)
  (fun x=>Eq.trans (by kernel_rfl:_=cv x.1 (fun y=>ret (aK [.i .i64] y) fun v g=>some (v,g))) (mQ x.1 _)) fun _ _ h=>h
abbrev mo:List (Nat×bB):= [(266,iA)]
theorem lj:aA Tryz.prog (aQ mo):=ae nT <| aj _
def b9 {ρ:Type} (a0:List be) (k:Bool×Unit→Option ρ):Option ρ:=
 (b6 a0).bind fun y1=>k ((decide (y1.1≥0)),())
def bG (a0:List be):Option (Bool×Unit):=b9 a0 some
theorem lI {ρ:Type} (a0:List be) (k:Bool×Unit→Option ρ):b9 a0 k=(bG a0).bind k:=by
 simp only [bG,b9,Option.bind_assoc,Option.bind_some]
abbrev gm:bB:=bP [.ty (.ls (.st .place)), .fc 212] [.b] fun x=>bG x.1
theorem mp:aF Tryz.prog 211 gm:=
 ak (Λ:=aO []) (fn:=Tryz.f211) aR lj af (by kernel_rfl) (aM (by kernel_rfl:_= []) ah) (by kernel_rfl) (fun x=>bG x.1)
  (fun x=>Eq.trans (by kernel_rfl:_=b9 x.1 (fun y=>ret (aK [.b] y) fun v g=>some (v,g))) (lI x.1 _)) fun _ _ h=>h
abbrev J1:List (Nat×bB):= [(211,gm)]
theorem Ec:aA Tryz.prog (aQ J1):=ae mp <| aj _
def nU {ρ:Type} (a0:List be) (k:Bool×Unit→Option ρ):Option ρ:=
 br ((a0.length:Int)==5) ((bG a0).bind fun y1=>k ((!y1.1),())) (k (false,()))
def ll (a0:List be):Option (Bool×Unit):=nU a0 some
theorem Fy {ρ:Type} (a0:List be) (k:Bool×Unit→Option ρ):nU a0 k=(ll a0).bind k:=by
 simp only [ll,nU,al,Option.bind_assoc,Option.bind_some]
abbrev A7:bB:=bP [.ty (.ls (.st .place))] [.b] fun x=>ll x.1
theorem J2:aF Tryz.prog 139 A7:=
 ak (Λ:=aO []) (fn:=Tryz.f139) aR Ec af (by kernel_rfl) (aM (by kernel_rfl:_= []) ah) (by kernel_rfl) (fun x=>ll x.1)
  (fun x=>Eq.trans (by kernel_rfl:_=nU x.1 (fun y=>ret (aK [.b] y) fun v g=>some (v,g))) (Fy x.1 _)) fun _ _ h=>h
abbrev J3:List (Nat×bB):= [(135,jo)]
theorem Ed:aA Tryz.prog (aQ J3):=ae j4 <| aj _
def nV {ρ:Type} (a0:Op) (k:Bool×Unit→Option ρ):Option ρ:=
 (ce a0.client 0 2).bind fun y1=>br (!y1.1) (k (false,())) ((ce a0.seq 1 99).bind fun y2=>br (!y2.1) (k (false,())) ((ce a0.object 0 2).bind fun y3=>br (!y3.1) (k (false,())) ((ce a0.value 0 9).bind fun y4=>br (!y4.1) (k (false,())) (br (a0.kind==1) (br (a0.old==0) (k (true,())) (br (a0.kind==2) ((ce a0.old 0 9).bind fun y5=>k (y5.1,())) (k (false,())))) (br (a0.kind==2) ((ce a0.old 0 9).bind fun y6=>k (y6.1,())) (k (false,())))))))
def jH (a0:Op):Option (Bool×Unit):=nV a0 some
theorem Fz {ρ:Type} (a0:Op) (k:Bool×Unit→Option ρ):nV a0 k=(jH a0).bind k:=by
 simp only [jH,nV,al,Option.bind_assoc,Option.bind_some]
abbrev A8:bB:=bP [.ty (.st .op)] [.b] fun x=>jH x.1
theorem J4:aF Tryz.prog 229 A8:=
 ak (Λ:=aO []) (fn:=Tryz.f229) aR Ed af (by kernel_rfl) (aM (by kernel_rfl:_= []) ah) (by kernel_rfl) (fun x=>jH x.1)
  (fun x=>Eq.trans (by kernel_rfl:_=nV x.1 (fun y=>ret (aK [.b] y) fun v g=>some (v,g))) (Fz x.1 _)) fun _ _ h=>h
abbrev MB:List (Nat×bB):= [(135,jo),(229,A8)]
theorem Ee:aA Tryz.prog (aQ MB):=ae j4 <| ae J4 <| aj _
noncomputable abbrev rU:Code:=cw (co Tryz.f179) 0
abbrev jx:ev:=⟨[(0, .cl (.ro (.st .entry))),(5, .cl (.ro (.st .entry))),(6, .cl (.int .i64)),(7, .cl (.int .i64))],[],[],0,41⟩
abbrev oz:List (X×ev):= [(.ret,⟨[(0, .cl (.ro (.st .entry))),(2, .cl (.bl))],[],[],0,41⟩),(.ext 0,⟨[(0, .cl (.ro (.st .entry))),(2, .cl (.dead))],[],[],0,41⟩)]
def oA {ρ:Type} (v1:List aB) (v2:List aB) (v3:Int) (v4:Int) (fn: (((List aB)×(List aB)×Int×Int×Unit)×(Unit)×(Unit))→Option ρ) (fe: (((List aB)×Bool×Unit)×(Unit)×(Unit))⊕(((List aB)×Unit×Unit)×(Unit)×(Unit))→Option ρ):Option ρ:=
 br (decide (v4 < v3)) (ap (0≤v4) ((v2[v4.toNat]?).bind fun x5=>(ce x5.epoch 1 20).bind fun y6=>br (!y6.1) (fe (.inl ((v1,false,()),(()),(())))) (br (decide (v4 > 0)) (ap (0≤(IntKind.wrap .i64 (v4 - 1))) ((v1[(IntKind.wrap .i64 (v4 - 1)).toNat]?).bind fun x7=>br (decide (x5.epoch < x7.epoch)) (fe (.inl ((v1,false,()),(()),(())))) ((jH x5.op).bind fun y8=>br (!y8.1) (fe (.inl ((v1,false,()),(()),(())))) (fn ((v1,v2,v3,(IntKind.wrap .i64 (v4+1)),()),(()),(()))))) none) ((jH x5.op).bind fun y9=>br (!y9.1) (fe (.inl ((v1,false,()),(()),(())))) (fn ((v1,v2,v3,(IntKind.wrap .i64 (v4+1)),()),(()),(())))))) none) (fe (.inr ((v1,(),()),(()),(()))))
def km (s:jx.D):Option (jx.D⊕bu.D oz):=oA s.1.1 s.1.2.1 s.1.2.2.1 s.1.2.2.2.1 (fun s=>some (.inl s)) (fun e=>some (.inr e))
def rV:jx.D→Option (bu.D oz):=jD km
theorem J5 {ρ:Type} (s:jx.D) (fn:jx.D→Option ρ) (fe:bu.D oz→Option ρ):oA s.1.1 s.1.2.1 s.1.2.2.1 s.1.2.2.2.1 fn fe=(km s).bind (Sum.elim fn fe):=by
 simp only [km,oA,al,ao,Option.bind_none,Option.bind_assoc,Option.bind_some,Sum.elim_inl,Sum.elim_inr]
abbrev Gl:dg:=dA [] [0,5,6,7] jx oz rV
theorem HN (s:jx.D):eP Θ (aQ MB) (aO []) rU (jx.mk' s) (dn [0,5,6,7] [0,2] fun x S=>some (x,S))=(km s).bind (Sum.elim (fun s'=>some (.nor,jx.mk' s')) fun e=>some (bu.e oz e)):=
 Eq.trans (by kernel_rfl:_=oA s.1.1 s.1.2.1 s.1.2.2.1 s.1.2.2.2.1 (fun s'=>some (.nor,jx.mk' s')) (fun e=>some (bu.e oz e))) (J5 s _ _)
theorem HO:cn Tryz.prog rU Gl:=bi aR Ee af (by kernel_rfl) (dF (by kernel_rfl:_= []) ah) [] [0,5,6,7] [0,2] jx oz (by kernel_rfl) km HN rV (hO km) (aW km)
def uw {ρ:Type} (a0:List aB) (k:Bool×Unit→Option ρ):Option ρ:=
 (rV ((a0,a0,(a0.length:Int),0,()),(()),(()))).bind fun e10=>Sum.elim (fun e10_=>k (e10_.1.2.1,())) (fun e10_=>k ((decide ((e10_.1.1.length:Int)≤16)),())) e10
def oI (a0:List aB):Option (Bool×Unit):=uw a0 some
theorem NC {ρ:Type} (a0:List aB) (k:Bool×Unit→Option ρ):uw a0 k=(oI a0).bind k:=by
 simp only [oI,uw,cx,Option.bind_assoc,Option.bind_some]
abbrev HP:bB:=bP [.ty (.ls (.st .entry))] [.b] fun x=>oI x.1
theorem MC:aF Tryz.prog 179 HP:=
 ak (Λ:=aO [(ca rU,Gl)]) (fn:=Tryz.f179) aR Ee af (by kernel_rfl) (aM (by kernel_rfl:_= [rU]) (aV (q:=ca rU) rfl HO fun _ _ _=>by kernel_rfl)) (by kernel_rfl) (fun x=>oI x.1)
  (fun x=>Eq.trans (by kernel_rfl:_=uw x.1 (fun y=>ret (aK [.b] y) fun v g=>some (v,g))) (NC x.1 _)) fun _ _ h=>h
abbrev yt:List (Nat×bB):= []
theorem tf:aA Tryz.prog (aQ yt):=aj _
noncomputable abbrev lm:Code:=cw (co Tryz.f219) 0
abbrev dv:ev:=⟨[(0, .cl (.ro (.i .i64))),(1, .cl (.ro (.i .i64))),(12, .cl (.int .i64)),(13, .cl (.int .i64))],[],[],0,26⟩
abbrev gQ:List (X×ev):= [(.ret,⟨[(4, .cl (.bl))],[],[],0,26⟩),(.ext 0,⟨[(4, .cl (.dead))],[],[],0,26⟩)]
def ij {ρ:Type} (v1:List Int) (v2:List Int) (v3:Int) (v4:Int) (fn: (((List Int)×(List Int)×Int×Int×Unit)×(Unit)×(Unit))→Option ρ) (fe: ((Bool×Unit)×(Unit)×(Unit))⊕((Unit×Unit)×(Unit)×(Unit))→Option ρ):Option ρ:=
 br (decide (v4 < v3)) (ap (0≤v4) ((v1[v4.toNat]?).bind fun x5=>ap (0≤v4) ((v2[v4.toNat]?).bind fun x6=>br (!(x5==x6)) (fe (.inl ((false,()),(()),(())))) (fn ((v1,v2,v3,(IntKind.wrap .i64 (v4+1)),()),(()),(())))) none) none) (fe (.inr (((),()),(()),(()))))
def dR (s:dv.D):Option (dv.D⊕bu.D gQ):=ij s.1.1 s.1.2.1 s.1.2.2.1 s.1.2.2.2.1 (fun s=>some (.inl s)) (fun e=>some (.inr e))
def ln:dv.D→Option (bu.D gQ):=jD dR
theorem Ab {ρ:Type} (s:dv.D) (fn:dv.D→Option ρ) (fe:bu.D gQ→Option ρ):ij s.1.1 s.1.2.1 s.1.2.2.1 s.1.2.2.2.1 fn fe=(dR s).bind (Sum.elim fn fe):=by
 simp only [dR,ij,al,ao,Option.bind_none,Option.bind_assoc,Option.bind_some,Sum.elim_inl,Sum.elim_inr]
abbrev ux:dg:=dA [] [0,1,12,13] dv gQ ln
theorem yu (s:dv.D):eP Θ (aQ yt) (aO []) lm (dv.mk' s) (dn [0,1,12,13] [4] fun x S=>some (x,S))=(dR s).bind (Sum.elim (fun s'=>some (.nor,dv.mk' s')) fun e=>some (bu.e gQ e)):=
 Eq.trans (by kernel_rfl:_=ij s.1.1 s.1.2.1 s.1.2.2.1 s.1.2.2.2.1 (fun s'=>some (.nor,dv.mk' s')) (fun e=>some (bu.e gQ e))) (Ab s _ _)
theorem yw:cn Tryz.prog lm ux:=bi aR tf af (by kernel_rfl) (dF (by kernel_rfl:_= []) ah) [] [0,1,12,13] [4] dv gQ (by kernel_rfl) dR yu ln (hO dR) (aW dR)
def mq {ρ:Type} (a0:List Int) (a1:List Int) (k:Bool×Unit→Option ρ):Option ρ:=
 br (!((a0.length:Int)==(a1.length:Int))) (k (false,())) ((ln ((a0,a1,(a0.length:Int),0,()),(()),(()))).bind fun e7=>Sum.elim (fun e7_=>k (e7_.1.1,())) (fun e7_=>k (true,())) e7)
def lJ (a0:List Int) (a1:List Int):Option (Bool×Unit):=mq a0 a1 some
theorem Ef {ρ:Type} (a0:List Int) (a1:List Int) (k:Bool×Unit→Option ρ):mq a0 a1 k=(lJ a0 a1).bind k:=by
 simp only [lJ,mq,al,cx,Option.bind_assoc,Option.bind_some]
abbrev yx:bB:=bP [.ty (.ls (.i .i64)), .ty (.ls (.i .i64))] [.b] fun x=>lJ x.1 x.2.1
theorem HQ:aF Tryz.prog 219 yx:=
 ak (Λ:=aO [(ca lm,ux)]) (fn:=Tryz.f219) aR tf af (by kernel_rfl) (aM (by kernel_rfl:_= [lm]) (aV (q:=ca lm) rfl yw fun _ _ _=>by kernel_rfl)) (by kernel_rfl) (fun x=>lJ x.1 x.2.1)
  (fun x=>Eq.trans (by kernel_rfl:_=mq x.1 x.2.1 (fun y=>ret (aK [.b] y) fun v g=>some (v,g))) (Ef x.1 x.2.1 _)) fun _ _ h=>h
abbrev Eg:List (Nat×bB):= [(219,yx)]
theorem yy:aA Tryz.prog (aQ Eg):=ae HQ <| aj _
def ka {ρ:Type} (a0:List Int) (a1:List Int) (k:Bool×Unit→Option ρ):Option ρ:=
 (lJ a0 a1).bind fun y1=>k (y1.1,())
def fE (a0:List Int) (a1:List Int):Option (Bool×Unit):=ka a0 a1 some
theorem Ad {ρ:Type} (a0:List Int) (a1:List Int) (k:Bool×Unit→Option ρ):ka a0 a1 k=(fE a0 a1).bind k:=by
 simp only [fE,ka,Option.bind_assoc,Option.bind_some]
abbrev uy:bB:=bP [.ty (.ls (.i .i64)), .ty (.ls (.i .i64))] [.b] fun x=>fE x.1 x.2.1
theorem Eh:aF Tryz.prog 160 uy:=
 ak (Λ:=aO []) (fn:=Tryz.f160) aR yy af (by kernel_rfl) (aM (by kernel_rfl:_= []) ah) (by kernel_rfl) (fun x=>fE x.1 x.2.1)
  (fun x=>Eq.trans (by kernel_rfl:_=ka x.1 x.2.1 (fun y=>ret (aK [.b] y) fun v g=>some (v,g))) (Ad x.1 x.2.1 _)) fun _ _ h=>h
abbrev Ei:List (Nat×bB):= [(160,uy)]
theorem yz:aA Tryz.prog (aQ Ei):=ae Eh <| aj _
def kb {ρ:Type} (a0:ai) (a1:ai) (k:Bool×Unit→Option ρ):Option ρ:=
 br (a0.epoch==a1.epoch) (br (a0.primary==a1.primary) ((fE a0.replicas a1.replicas).bind fun y1=>br y1.1 ((fE a0.witnesses a1.witnesses).bind fun y2=>k (y2.1,())) (k (false,()))) (k (false,()))) (k (false,()))
def eF (a0:ai) (a1:ai):Option (Bool×Unit):=kb a0 a1 some
theorem Ae {ρ:Type} (a0:ai) (a1:ai) (k:Bool×Unit→Option ρ):kb a0 a1 k=(eF a0 a1).bind k:=by
 simp only [eF,kb,al,Option.bind_assoc,Option.bind_some]
abbrev qd:bB:=bP [.ty (.st .config), .ty (.st .config)] [.b] fun x=>eF x.1 x.2.1
theorem uz:aF Tryz.prog 91 qd:=
 ak (Λ:=aO []) (fn:=Tryz.f91) aR yz af (by kernel_rfl) (aM (by kernel_rfl:_= []) ah) (by kernel_rfl) (fun x=>eF x.1 x.2.1)
  (fun x=>Eq.trans (by kernel_rfl:_=kb x.1 x.2.1 (fun y=>ret (aK [.b] y) fun v g=>some (v,g))) (Ae x.1 x.2.1 _)) fun _ _ h=>h
abbrev J6:List (Nat×bB):= []
theorem Ej:aA Tryz.prog (aQ J6):=aj _
def nW {ρ:Type} (a0:List aB) (k:Int×Unit→Option ρ):Option ρ:=
 br ((a0.length:Int)==0) (k (0,())) (ap (0≤(IntKind.wrap .i64 ((a0.length:Int) - 1))) ((a0[(IntKind.wrap .i64 ((a0.length:Int) - 1)).toNat]?).bind fun x1=>k (x1.epoch,())) none)
def jI (a0:List aB):Option (Int×Unit):=nW a0 some
theorem FA {ρ:Type} (a0:List aB) (k:Int×Unit→Option ρ):nW a0 k=(jI a0).bind k:=by
 simp only [jI,nW,al,ao,Option.bind_none,Option.bind_assoc,Option.bind_some]
abbrev uA:bB:=bP [.ty (.ls (.st .entry))] [.i .i64] fun x=>jI x.1
theorem A9:aF Tryz.prog 141 uA:=
 ak (Λ:=aO []) (fn:=Tryz.f141) aR Ej af (by kernel_rfl) (aM (by kernel_rfl:_= []) ah) (by kernel_rfl) (fun x=>jI x.1)
  (fun x=>Eq.trans (by kernel_rfl:_=nW x.1 (fun y=>ret (aK [.i .i64] y) fun v g=>some (v,g))) (FA x.1 _)) fun _ _ h=>h
abbrev Py:List (Nat×bB):= [(176,pa),(66,qL)]
theorem J7:aA Tryz.prog (aQ Py):=ae td <| ae ut <| aj _
def rX {ρ:Type} (a0:ai) (a1:Int) (k:Int×Unit→Option ρ):Option ρ:=
 (eS a0).bind fun y1=>br (!y1.1) (k (0,())) (br (a1==a0.primary) (k (1,())) ((gf a0.replicas a1).bind fun y2=>br y2.1 (k (2,())) ((gf a0.witnesses a1).bind fun y3=>br y3.1 (k (3,())) (k (0,())))))
def qe (a0:ai) (a1:Int):Option (Int×Unit):=rX a0 a1 some
theorem LD {ρ:Type} (a0:ai) (a1:Int) (k:Int×Unit→Option ρ):rX a0 a1 k=(qe a0 a1).bind k:=by
 simp only [qe,rX,al,Option.bind_assoc,Option.bind_some]
abbrev J8:bB:=bP [.ty (.st .config), .ty (.i .i64)] [.i .i64] fun x=>qe x.1 x.2.1
theorem Pz:aF Tryz.prog 178 J8:=
 ak (Λ:=aO []) (fn:=Tryz.f178) aR J7 af (by kernel_rfl) (aM (by kernel_rfl:_= []) ah) (by kernel_rfl) (fun x=>qe x.1 x.2.1)
  (fun x=>Eq.trans (by kernel_rfl:_=rX x.1 x.2.1 (fun y=>ret (aK [.i .i64] y) fun v g=>some (v,g))) (LD x.1 x.2.1 _)) fun _ _ h=>h
abbrev PA:List (Nat×bB):= [(179,HP),(135,jo)]
theorem J9:aA Tryz.prog (aQ PA):=ae MC <| ae j4 <| aj _
def rY {ρ:Type} (a0:Int) (a1:List aB) (k:Bool×Unit→Option ρ):Option ρ:=
 (oI a1).bind fun y1=>br y1.1 (br (decide ((a1.length:Int)≤3)) ((ce a0 0 (IntKind.wrap .i64 (16 - (a1.length:Int)))).bind fun y2=>br y2.1 (br (a0==0) (k (true,())) (k (((a1.length:Int)==3),()))) (k (false,()))) (k (false,()))) (k (false,()))
def qf (a0:Int) (a1:List aB):Option (Bool×Unit):=rY a0 a1 some
theorem LF {ρ:Type} (a0:Int) (a1:List aB) (k:Bool×Unit→Option ρ):rY a0 a1 k=(qf a0 a1).bind k:=by
 simp only [qf,rY,al,Option.bind_assoc,Option.bind_some]
abbrev Ka:bB:=bP [.ty (.i .i64), .ty (.ls (.st .entry))] [.b] fun x=>qf x.1 x.2.1
theorem PB:aF Tryz.prog 213 Ka:=
 ak (Λ:=aO []) (fn:=Tryz.f213) aR J9 af (by kernel_rfl) (aM (by kernel_rfl:_= []) ah) (by kernel_rfl) (fun x=>qf x.1 x.2.1)
  (fun x=>Eq.trans (by kernel_rfl:_=rY x.1 x.2.1 (fun y=>ret (aK [.b] y) fun v g=>some (v,g))) (LF x.1 x.2.1 _)) fun _ _ h=>h
abbrev B3:List (Nat×bB):= [(135,jo),(179,HP),(91,qd),(141,uA),(178,J8),(213,Ka)]
theorem wT:aA Tryz.prog (aQ B3):=ae j4 <| ae MC <| ae uz <| ae A9 <| ae Pz <| ae PB <| aj _
def jy {ρ:Type} (a0:ay) (a1:Int) (k:Bool×Unit→Option ρ):Option ρ:=
 (ce a0.version 1 2).bind fun y1=>br (!y1.1) (k (false,())) ((ce a0.epoch 0 20).bind fun y2=>br (!y2.1) (k (false,())) ((oI a0.log).bind fun y3=>br (!y3.1) (k (false,())) ((oI a0.learned).bind fun y4=>br (!y4.1) (k (false,())) ((ce a0.first 0 16).bind fun y5=>br (!y5.1) (k (false,())) (br (decide ((IntKind.wrap .i64 (a0.first+(a0.log.length:Int))) > 16)) (k (false,())) ((ce a0.commit 0 (IntKind.wrap .i64 (a0.first+(a0.log.length:Int)))).bind fun y6=>br (!y6.1) (k (false,())) ((eF a0.config (⟨0,0,([]:List Int),([]:List Int)⟩:ai)).bind fun y7=>br y7.1 (br (a0.first==0) (br (a0.commit==0) (k (((a0.log.length:Int)==0),())) (k (false,()))) (k (false,()))) (br (!a0.intact) (k (false,())) (br (decide (a0.epoch < a0.config.epoch)) (k (false,())) ((jI a0.log).bind fun y8=>br (decide (y8.1 > a0.config.epoch)) (k (false,())) ((qe a0.config a1).bind fun y9=>br (y9.1==1) (k ((a0.first==0),())) (br (y9.1==2) (k ((a0.first==0),())) (br (y9.1==3) ((qf a0.first a0.log).bind fun y10=>k (y10.1,())) (k (false,())))))))))))))))
def fR (a0:ay) (a1:Int):Option (Bool×Unit):=jy a0 a1 some
theorem yA {ρ:Type} (a0:ay) (a1:Int) (k:Bool×Unit→Option ρ):jy a0 a1 k=(fR a0 a1).bind k:=by
 simp only [fR,jy,al,Option.bind_assoc,Option.bind_some]
abbrev tg:bB:=bP [.ty (.st .server), .ty (.i .i64)] [.b] fun x=>fR x.1 x.2.1
theorem B4:aF Tryz.prog 140 tg:=
 ak (Λ:=aO []) (fn:=Tryz.f140) aR wT af (by kernel_rfl) (aM (by kernel_rfl:_= []) ah) (by kernel_rfl) (fun x=>fR x.1 x.2.1)
  (fun x=>Eq.trans (by kernel_rfl:_=jy x.1 x.2.1 (fun y=>ret (aK [.b] y) fun v g=>some (v,g))) (yA x.1 x.2.1 _)) fun _ _ h=>h
abbrev HS:List (Nat×bB):= []
theorem B5:aA Tryz.prog (aQ HS):=aj _
def kn {ρ:Type} (a0:ai) (k:ai×Unit→Option ρ):Option ρ:=
 ap ((([]:List Int)++a0.replicas).length*8≤2 ^ 40) (ap ((([]:List Int)++a0.witnesses).length*8≤2 ^ 40) (k ((⟨a0.epoch,a0.primary,(([]:List Int)++a0.replicas),(([]:List Int)++a0.witnesses)⟩:ai),())) none) none
def fZ (a0:ai):Option (ai×Unit):=kn a0 some
theorem Ek {ρ:Type} (a0:ai) (k:ai×Unit→Option ρ):kn a0 k=(fZ a0).bind k:=by
 simp only [fZ,kn,ao,Option.bind_none,Option.bind_some]
abbrev yB:bB:=bP [.ty (.st .config)] [.st .config] fun x=>fZ x.1
theorem HT:aF Tryz.prog 177 yB:=
 ak (Λ:=aO []) (fn:=Tryz.f177) aR B5 af (by kernel_rfl) (aM (by kernel_rfl:_= []) ah) (by kernel_rfl) (fun x=>fZ x.1)
  (fun x=>Eq.trans (by kernel_rfl:_=kn x.1 (fun y=>ret (aK [.st .config] y) fun v g=>some (v,g))) (Ek x.1 _)) fun _ _ h=>h
abbrev LG:List (Nat×bB):= [(137,rj),(135,jo),(177,yB)]
theorem FB:aA Tryz.prog (aQ LG):=ae vX <| ae j4 <| ae HT <| aj _
def nh {ρ:Type} (a0:aw) (a1:Int) (k:ai×Bool×Unit→Option ρ):Option ρ:=
 (gk a0).bind fun y1=>br (!y1.1) (k ((⟨0,0,([]:List Int),([]:List Int)⟩:ai),false,())) ((ce a1 1 (a0.configs.length:Int)).bind fun y2=>br (!y2.1) (k ((⟨0,0,([]:List Int),([]:List Int)⟩:ai),false,())) (ap (0≤(IntKind.wrap .i64 (a1 - 1))) ((a0.configs[(IntKind.wrap .i64 (a1 - 1)).toNat]?).bind fun x3=>(fZ x3).bind fun y4=>k (y4.1,true,())) none))
def iX (a0:aw) (a1:Int):Option (ai×Bool×Unit):=nh a0 a1 some
theorem HU {ρ:Type} (a0:aw) (a1:Int) (k:ai×Bool×Unit→Option ρ):nh a0 a1 k=(iX a0 a1).bind k:=by
 simp only [iX,nh,al,ao,Option.bind_none,Option.bind_assoc,Option.bind_some]
abbrev wU:bB:=bP [.ty (.st .masterLog), .ty (.i .i64)] [.st .config, .b] fun x=>iX x.1 x.2.1
theorem El:aF Tryz.prog 142 wU:=
 ak (Λ:=aO []) (fn:=Tryz.f142) aR FB af (by kernel_rfl) (aM (by kernel_rfl:_= []) ah) (by kernel_rfl) (fun x=>iX x.1 x.2.1)
  (fun x=>Eq.trans (by kernel_rfl:_=nh x.1 x.2.1 (fun y=>ret (aK [.st .config, .b] y) fun v g=>some (v,g))) (HU x.1 x.2.1 _)) fun _ _ h=>h
abbrev rZ:List (Nat×bB):= [(135,jo),(136,DZ),(137,rj),(138,Gk),(139,A7),(140,tg),(141,uA),(91,qd),(142,wU)]
theorem pk:aA Tryz.prog (aQ rZ):=ae j4 <| ae Lz <| ae vX <| ae NB <| ae J2 <| ae B4 <| ae A9 <| ae uz <| ae El <| aj _
noncomputable abbrev gR:Code:=cw (co Tryz.f57) 0
abbrev ci:ev:=⟨[(1, .cl (.ptr 0 0)),(57, .cl (.ro (.st .server))),(58, .cl (.int .i64)),(59, .cl (.int .i64))],[[.int .i64, .ro (.st .server), .ro (.i .i64), .ro (.st .config), .int .i64, .int .i64, .int .i64, .int .i64, .int .i64, .ro (.st .place)]],[],0,118⟩
abbrev ec:List (X×ev):= [(.ret,⟨[(2, .cl (.bl))],[],[],0,118⟩),(.ext 0,⟨[(2, .cl (.dead))],[],[],0,118⟩)]
def eM {ρ:Type} (v7:List ay) (v8:Int) (v9:Int) (v10:Int) (v11:List ay) (v12:List Int) (v13:List ai) (v14:Int) (v15:Int) (v16:Int) (v17:Int) (v18:Int) (v19:List be) (fn: ((Unit×(List ay)×Int×Int×Unit)×((Int×(List ay)×(List Int)×(List ai)×Int×Int×Int×Int×Int×(List be)×Unit)×Unit)×(Unit))→Option ρ) (fe: ((Bool×Unit)×(Unit)×(Unit))⊕((Unit×Unit)×(Unit)×(Unit))→Option ρ):Option ρ:=
 br (decide (v9 < v8)) (ap (0≤v9) ((v7[v9.toNat]?).bind fun x20=>(fR x20 v9).bind fun y21=>br (!y21.1) (fe (.inl ((false,()),(()),(())))) (br (decide (x20.epoch > (v13.length:Int))) (fe (.inl ((false,()),(()),(())))) ((jI x20.learned).bind fun y22=>br (decide (y22.1 > v14)) (fe (.inl ((false,()),(()),(())))) ((eF x20.config (⟨0,0,([]:List Int),([]:List Int)⟩:ai)).bind fun y23=>br y23.1 (fn (((),v7,v8,(IntKind.wrap .i64 (v9+1)),()),((v10,v11,v12,v13,v14,v15,v16,v17,v18,v19,()),()),(()))) ((iX (⟨v13,v14⟩:aw) x20.config.epoch).bind fun y24=>br (!y24.2.1) (fe (.inl ((false,()),(()),(())))) ((eF y24.1 x20.config).bind fun y25=>br (!y25.1) (fe (.inl ((false,()),(()),(())))) (br (decide (x20.config.epoch > v14)) (fe (.inl ((false,()),(()),(())))) (fn (((),v7,v8,(IntKind.wrap .i64 (v9+1)),()),((v10,v11,v12,v13,v14,v15,v16,v17,v18,v19,()),()),(())))))))))) none) (fe (.inr (((),()),(()),(()))))
def cE (s:ci.D):Option (ci.D⊕bu.D ec):=eM s.1.2.1 s.1.2.2.1 s.1.2.2.2.1 s.2.1.1.1 s.2.1.1.2.1 s.2.1.1.2.2.1 s.2.1.1.2.2.2.1 s.2.1.1.2.2.2.2.1 s.2.1.1.2.2.2.2.2.1 s.2.1.1.2.2.2.2.2.2.1 s.2.1.1.2.2.2.2.2.2.2.1 s.2.1.1.2.2.2.2.2.2.2.2.1 s.2.1.1.2.2.2.2.2.2.2.2.2.1 (fun s=>some (.inl s)) (fun e=>some (.inr e))
def gT:ci.D→Option (bu.D ec):=jD cE
theorem uB {ρ:Type} (s:ci.D) (fn:ci.D→Option ρ) (fe:bu.D ec→Option ρ):eM s.1.2.1 s.1.2.2.1 s.1.2.2.2.1 s.2.1.1.1 s.2.1.1.2.1 s.2.1.1.2.2.1 s.2.1.1.2.2.2.1 s.2.1.1.2.2.2.2.1 s.2.1.1.2.2.2.2.2.1 s.2.1.1.2.2.2.2.2.2.1 s.2.1.1.2.2.2.2.2.2.2.1 s.2.1.1.2.2.2.2.2.2.2.2.1 s.2.1.1.2.2.2.2.2.2.2.2.2.1 fn fe=(cE s).bind (Sum.elim fn fe):=by
 simp only [cE,eM,al,ao,Option.bind_none,Option.bind_assoc,Option.bind_some,Sum.elim_inl,Sum.elim_inr]
abbrev qg:dg:=dA [] [1,57,58,59] ci ec gT
theorem tE (s:ci.D):eP Θ (aQ rZ) (aO []) gR (ci.mk' s) (dn [1,57,58,59] [2] fun x S=>some (x,S))=(cE s).bind (Sum.elim (fun s'=>some (.nor,ci.mk' s')) fun e=>some (bu.e ec e)):=
 Eq.trans (by kernel_rfl:_=eM s.1.2.1 s.1.2.2.1 s.1.2.2.2.1 s.2.1.1.1 s.2.1.1.2.1 s.2.1.1.2.2.1 s.2.1.1.2.2.2.1 s.2.1.1.2.2.2.2.1 s.2.1.1.2.2.2.2.2.1 s.2.1.1.2.2.2.2.2.2.1 s.2.1.1.2.2.2.2.2.2.2.1 s.2.1.1.2.2.2.2.2.2.2.2.1 s.2.1.1.2.2.2.2.2.2.2.2.2.1 (fun s'=>some (.nor,ci.mk' s')) (fun e=>some (bu.e ec e))) (uB s _ _)
theorem tF:cn Tryz.prog gR qg:=bi aR pk af (by kernel_rfl) (dF (by kernel_rfl:_= []) ah) [] [1,57,58,59] [2] ci ec (by kernel_rfl) cE tE gT (hO cE) (aW cE)
def iB {ρ:Type} (a0:aP) (k:Bool×Unit→Option ρ):Option ρ:=
 (ce a0.now 0 999).bind fun y1=>br (!y1.1) (k (false,())) (br (!((a0.servers.length:Int)==5)) (k (false,())) ((mM a0.sides).bind fun y2=>br (!y2.1) (k (false,())) ((gk a0.master).bind fun y3=>br (!y3.1) (k (false,())) ((oy a0.lease).bind fun y4=>br (!y4.1) (k (false,())) ((ll a0.places).bind fun y5=>br (!y5.1) (k (false,())) ((ce a0.masterUp 0 3).bind fun y6=>br (!y6.1) (k (false,())) (br (decide (a0.lease.epoch > a0.master.activated)) (k (false,())) ((gT (((),a0.servers,(a0.servers.length:Int),0,()),((a0.now,a0.servers,a0.sides,a0.master.configs,a0.master.activated,a0.masterUp,a0.lease.epoch,a0.lease.holder,a0.lease.ends,a0.places,()),()),(()))).bind fun e26=>Sum.elim (fun e26_=>k (e26_.1.1,())) (fun e26_=>k (true,())) e26))))))))
def ff (a0:aP):Option (Bool×Unit):=iB a0 some
theorem wV {ρ:Type} (a0:aP) (k:Bool×Unit→Option ρ):iB a0 k=(ff a0).bind k:=by
 simp only [ff,iB,al,cx,Option.bind_assoc,Option.bind_some]
abbrev sa:bB:=bP [.ty (.st .cluster)] [.b] fun x=>ff x.1
theorem Af:aF Tryz.prog 57 sa:=
 ak (Λ:=aO [(ca gR,qg)]) (fn:=Tryz.f57) aR pk af (by kernel_rfl) (aM (by kernel_rfl:_= [gR]) (aV (q:=ca gR) rfl tF fun _ _ _=>by kernel_rfl)) (by kernel_rfl) (fun x=>ff x.1)
  (fun x=>Eq.trans (by kernel_rfl:_=iB x.1 (fun y=>ret (aK [.b] y) fun v g=>some (v,g))) (wV x.1 _)) fun _ _ h=>h
abbrev B6:List (Nat×bB):= [(142,wU)]
theorem wW:aA Tryz.prog (aQ B6):=ae El <| aj _
def jz {ρ:Type} (a0:aw) (k:ai×Bool×Unit→Option ρ):Option ρ:=
 (iX a0 a0.activated).bind fun y1=>k (y1.1,y1.2.1,())
def fS (a0:aw):Option (ai×Bool×Unit):=jz a0 some
theorem yC {ρ:Type} (a0:aw) (k:ai×Bool×Unit→Option ρ):jz a0 k=(fS a0).bind k:=by
 simp only [fS,jz,Option.bind_assoc,Option.bind_some]
abbrev th:bB:=bP [.ty (.st .masterLog)] [.st .config, .b] fun x=>fS x.1
theorem B7:aF Tryz.prog 60 th:=
 ak (Λ:=aO []) (fn:=Tryz.f60) aR wW af (by kernel_rfl) (aM (by kernel_rfl:_= []) ah) (by kernel_rfl) (fun x=>fS x.1)
  (fun x=>Eq.trans (by kernel_rfl:_=jz x.1 (fun y=>ret (aK [.st .config, .b] y) fun v g=>some (v,g))) (yC x.1 _)) fun _ _ h=>h
abbrev Em:List (Nat×bB):= []
theorem yD:aA Tryz.prog (aQ Em):=aj _
def tj {ρ:Type} (a0:List aB) (k: (List aB)×Unit→Option ρ):Option ρ:=
 ap (a0.length*56≤2 ^ 40) (k (a0,())) none
def lp (a0:List aB):Option ((List aB)×Unit):=tj a0 some
abbrev uC:bB:=bP [.ty (.ls (.st .entry))] [.ls (.st .entry)] fun x=>lp x.1
abbrev nX (y: (List aB)×Unit):Option (V×List bH):=ret (aK [.ls (.st .entry)] y) fun v g=>some (v,g)
theorem Eo:aF Tryz.prog 80 uC:=
 ak (Λ:=aO []) (fn:=Tryz.f80) aR yD af (by kernel_rfl) (aM (by kernel_rfl:_= []) ah) (by kernel_rfl) (fun x=>lp x.1)
  (fun x=>Eq.trans (by kernel_rfl:_=Qd x.1 (PS (nX ([],())) (ap ((([]:List aB)++x.1).length*56≤2 ^ 40) (nX (([]:List aB)++x.1,())) none) none) (ap ((([]:List aB)++x.1).length*56≤2 ^ 40) (nX (([]:List aB)++x.1,())) none)) (Mv x.1 56 nX)) fun _ _ h=>h
abbrev Ep:List (Nat×bB):= [(57,sa),(60,th),(80,uC)]
theorem vY:aA Tryz.prog (aQ Ep):=ae Af <| ae B7 <| ae Eo <| aj _
noncomputable abbrev nY:Code:=cw (co Tryz.f24) 0
abbrev eG:ev:=⟨[(1, .cl (.ptr 0 0)),(4, .cl (.ptr 1 0)),(6, .cl (.int .i64)),(23, .cl (.own 0 (.i .i64))),(24, .cl (.int .i64)),(25, .cl (.int .i64))],[[.int .i64, .ro (.st .server), .ro (.i .i64), .ro (.st .config), .int .i64, .int .i64, .int .i64, .int .i64, .int .i64, .ro (.st .place)],[.int .i64, .int .i64, .own 0 (.i .i64), .own 1 (.i .i64)]],[.i .i64, .i .i64],0,68⟩
abbrev jR:List (X×ev):= [(.ext 0,⟨[(1, .cl (.ptr 0 0)),(6, .cl (.int .i64))],[[.int .i64, .ro (.st .server), .ro (.i .i64), .ro (.st .config), .int .i64, .int .i64, .int .i64, .int .i64, .int .i64, .ro (.st .place)]],[],0,68⟩)]
def ko {ρ:Type} (v3:List Int) (v4:List Int) (v5:Int) (v6:Int) (v7:Int) (v8:Int) (v9:List ay) (v10:List Int) (v11:List ai) (v12:Int) (v13:Int) (v14:Int) (v15:Int) (v16:Int) (v17:List be) (v18:Int) (v19:Int) (fn: ((Unit×Unit×Int×Unit×Int×Int×Unit)×((Int×(List ay)×(List Int)×(List ai)×Int×Int×Int×Int×Int×(List be)×Unit)×(Int×Int×Unit×Unit×Unit)×Unit)×((List Int)×(List Int)×Unit))→Option ρ) (fe: ((Unit×Int×Unit)×((Int×(List ay)×(List Int)×(List ai)×Int×Int×Int×Int×Int×(List be)×Unit)×Unit)×(Unit))→Option ρ):Option ρ:=
 br (decide (v7 < v6)) (ap (0≤v7∧v7 < (v3.length:Int)) ((v3[v7.toNat]?).bind fun x20=>ap (0≤x20) ((v9[x20.toNat]?).bind fun x21=>br (x21.config.epoch==v18) (br (decide (v5 < 0)) (fn (((),(),x20,(),v6,(IntKind.wrap .i64 (v7+1)),()),((v8,v9,v10,v11,v12,v13,v14,v15,v16,v17,()),(v18,v19,(),(),()),()),(v3,v4,()))) (ap (0≤v5) ((v9[v5.toNat]?).bind fun x22=>br (decide ((x21.log.length:Int) > (x22.log.length:Int))) (fn (((),(),x20,(),v6,(IntKind.wrap .i64 (v7+1)),()),((v8,v9,v10,v11,v12,v13,v14,v15,v16,v17,()),(v18,v19,(),(),()),()),(v3,v4,()))) (fn (((),(),v5,(),v6,(IntKind.wrap .i64 (v7+1)),()),((v8,v9,v10,v11,v12,v13,v14,v15,v16,v17,()),(v18,v19,(),(),()),()),(v3,v4,())))) none)) (fn (((),(),v5,(),v6,(IntKind.wrap .i64 (v7+1)),()),((v8,v9,v10,v11,v12,v13,v14,v15,v16,v17,()),(v18,v19,(),(),()),()),(v3,v4,())))) none) none) (fe (((),v5,()),((v8,v9,v10,v11,v12,v13,v14,v15,v16,v17,()),()),(())))
def fy (s:eG.D):Option (eG.D⊕bu.D jR):=ko s.2.2.1 s.2.2.2.1 s.1.2.2.1 s.1.2.2.2.2.1 s.1.2.2.2.2.2.1 s.2.1.1.1 s.2.1.1.2.1 s.2.1.1.2.2.1 s.2.1.1.2.2.2.1 s.2.1.1.2.2.2.2.1 s.2.1.1.2.2.2.2.2.1 s.2.1.1.2.2.2.2.2.2.1 s.2.1.1.2.2.2.2.2.2.2.1 s.2.1.1.2.2.2.2.2.2.2.2.1 s.2.1.1.2.2.2.2.2.2.2.2.2.1 s.2.1.2.1.1 s.2.1.2.1.2.1 (fun s=>some (.inl s)) (fun e=>some (.inr e))
def pD:eG.D→Option (bu.D jR):=jD fy
theorem Er {ρ:Type} (s:eG.D) (fn:eG.D→Option ρ) (fe:bu.D jR→Option ρ):ko s.2.2.1 s.2.2.2.1 s.1.2.2.1 s.1.2.2.2.2.1 s.1.2.2.2.2.2.1 s.2.1.1.1 s.2.1.1.2.1 s.2.1.1.2.2.1 s.2.1.1.2.2.2.1 s.2.1.1.2.2.2.2.1 s.2.1.1.2.2.2.2.2.1 s.2.1.1.2.2.2.2.2.2.1 s.2.1.1.2.2.2.2.2.2.2.1 s.2.1.1.2.2.2.2.2.2.2.2.1 s.2.1.1.2.2.2.2.2.2.2.2.2.1 s.2.1.2.1.1 s.2.1.2.1.2.1 fn fe=(fy s).bind (Sum.elim fn fe):=by
 simp only [fy,ko,al,ao,Option.bind_none,Option.bind_assoc,Option.bind_some,Sum.elim_inl,Sum.elim_inr]
abbrev yE:dg:=dA [] [1,4,6,23,24,25] eG jR pD
theorem B8 (s:eG.D):eP Θ (aQ Ep) (aO []) nY (eG.mk' s) (dn [1,4,6,23,24,25] [1,6] fun x S=>some (x,S))=(fy s).bind (Sum.elim (fun s'=>some (.nor,eG.mk' s')) fun e=>some (bu.e jR e)):=
 Eq.trans (by kernel_rfl:_=ko s.2.2.1 s.2.2.2.1 s.1.2.2.1 s.1.2.2.2.2.1 s.1.2.2.2.2.2.1 s.2.1.1.1 s.2.1.1.2.1 s.2.1.1.2.2.1 s.2.1.1.2.2.2.1 s.2.1.1.2.2.2.2.1 s.2.1.1.2.2.2.2.2.1 s.2.1.1.2.2.2.2.2.2.1 s.2.1.1.2.2.2.2.2.2.2.1 s.2.1.1.2.2.2.2.2.2.2.2.1 s.2.1.1.2.2.2.2.2.2.2.2.2.1 s.2.1.2.1.1 s.2.1.2.1.2.1 (fun s'=>some (.nor,eG.mk' s')) (fun e=>some (bu.e jR e))) (Er s _ _)
theorem B9:cn Tryz.prog nY yE:=bi aR vY af (by kernel_rfl) (dF (by kernel_rfl:_= []) ah) [] [1,4,6,23,24,25] [1,6] eG jR (by kernel_rfl) fy B8 pD (hO fy) (aW fy)
def o1 {ρ:Type} (a0:aP) (k: (List aB)×Bool×Unit→Option ρ):Option ρ:=
 (ff a0).bind fun y1=>br (!y1.1) (k (([]:List aB),false,())) ((fS a0.master).bind fun y2=>br (!y2.2.1) (k (([]:List aB),true,())) ((pD (((),(),(-1),(),(y2.1.replicas.length:Int),0,()),((a0.now,a0.servers,a0.sides,a0.master.configs,a0.master.activated,a0.masterUp,a0.lease.epoch,a0.lease.holder,a0.lease.ends,a0.places,()),(y2.1.epoch,y2.1.primary,(),(),()),()),(y2.1.replicas,y2.1.witnesses,()))).bind fun e23=>br (decide (e23.1.2.1 < 0)) (k (([]:List aB),false,())) (ap (0≤e23.1.2.1) ((e23.2.1.1.2.1[e23.1.2.1.toNat]?).bind fun x24=>(lp x24.log).bind fun y25=>k (y25.1,true,())) none)))
def lq (a0:aP):Option ((List aB)×Bool×Unit):=o1 a0 some
theorem HV {ρ:Type} (a0:aP) (k: (List aB)×Bool×Unit→Option ρ):o1 a0 k=(lq a0).bind k:=by
 simp only [lq,o1,al,ao,Option.bind_none,Option.bind_assoc,Option.bind_some]
abbrev Es:bB:=bP [.ty (.st .cluster)] [.ls (.st .entry), .b] fun x=>lq x.1
theorem LH:aF Tryz.prog 24 Es:=
 ak (Λ:=aO [(ca nY,yE)]) (fn:=Tryz.f24) aR vY af (by kernel_rfl) (aM (by kernel_rfl:_= [nY]) (aV (q:=ca nY) rfl B9 fun _ _ _=>by kernel_rfl)) (by kernel_rfl) (fun x=>lq x.1)
  (fun x=>Eq.trans (by kernel_rfl:_=o1 x.1 (fun y=>ret (aK [.ls (.st .entry), .b] y) fun v g=>some (v,g))) (HV x.1 _)) fun _ _ h=>h
abbrev Sc:List (Nat×bB):= []
theorem ND:aA Tryz.prog (aQ Sc):=aj _
def yF {ρ:Type} (a0:Op) (a1:Op) (k:Bool×Unit→Option ρ):Option ρ:=
 br (!(a0.client==a1.client)) (k (false,())) (br (!(a0.seq==a1.seq)) (k (false,())) (br (!(a0.kind==a1.kind)) (k (false,())) (br (!(a0.object==a1.object)) (k (false,())) (br (!(a0.old==a1.old)) (k (false,())) (br (!(a0.value==a1.value)) (k (false,())) (k (true,())))))))
def wX (a0:Op) (a1:Op):Option (Bool×Unit):=yF a0 a1 some
theorem PC {ρ:Type} (a0:Op) (a1:Op) (k:Bool×Unit→Option ρ):yF a0 a1 k=(wX a0 a1).bind k:=by
 simp only [wX,yF,al,Option.bind_some]
abbrev PD:bB:=bP [.ty (.st .op), .ty (.st .op)] [.b] fun x=>wX x.1 x.2.1
theorem Sd:aF Tryz.prog 153 PD:=
 ak (Λ:=aO []) (fn:=Tryz.f153) aR ND af (by kernel_rfl) (aM (by kernel_rfl:_= []) ah) (by kernel_rfl) (fun x=>wX x.1 x.2.1)
  (fun x=>Eq.trans (by kernel_rfl:_=yF x.1 x.2.1 (fun y=>ret (aK [.b] y) fun v g=>some (v,g))) (PC x.1 x.2.1 _)) fun _ _ h=>h
abbrev NE:List (Nat×bB):= [(153,PD)]
theorem HW:aA Tryz.prog (aQ NE):=ae Sd <| aj _
def qh {ρ:Type} (a0:aB) (a1:aB) (k:Bool×Unit→Option ρ):Option ρ:=
 br (!(a0.epoch==a1.epoch)) (k (false,())) ((wX a0.op a1.op).bind fun y1=>br (!y1.1) (k (false,())) (k (true,())))
def ni (a0:aB) (a1:aB):Option (Bool×Unit):=qh a0 a1 some
theorem Kb {ρ:Type} (a0:aB) (a1:aB) (k:Bool×Unit→Option ρ):qh a0 a1 k=(ni a0 a1).bind k:=by
 simp only [ni,qh,al,Option.bind_assoc,Option.bind_some]
abbrev Gm:bB:=bP [.ty (.st .entry), .ty (.st .entry)] [.b] fun x=>ni x.1 x.2.1
theorem NF:aF Tryz.prog 81 Gm:=
 ak (Λ:=aO []) (fn:=Tryz.f81) aR HW af (by kernel_rfl) (aM (by kernel_rfl:_= []) ah) (by kernel_rfl) (fun x=>ni x.1 x.2.1)
  (fun x=>Eq.trans (by kernel_rfl:_=qh x.1 x.2.1 (fun y=>ret (aK [.b] y) fun v g=>some (v,g))) (Kb x.1 x.2.1 _)) fun _ _ h=>h
abbrev Et:List (Nat×bB):= [(81,Gm)]
theorem vZ:aA Tryz.prog (aQ Et):=ae NF <| aj _
noncomputable abbrev nZ:Code:=cw (co Tryz.f25) 0
abbrev eH:ev:=⟨[(0, .cl (.ro (.st .entry))),(1, .cl (.ro (.st .entry))),(5, .cl (.int .i64))],[],[],0,27⟩
abbrev jS:List (X×ev):= [(.ret,⟨[(4, .cl (.bl))],[],[],0,27⟩),(.ext 0,⟨[(4, .cl (.dead))],[],[],0,27⟩)]
def oJ {ρ:Type} (v1:List aB) (v2:List aB) (v3:Int) (fn: (((List aB)×(List aB)×Int×Unit)×(Unit)×(Unit))→Option ρ) (fe: ((Bool×Unit)×(Unit)×(Unit))⊕((Unit×Unit)×(Unit)×(Unit))→Option ρ):Option ρ:=
 br (decide (v3 < (v1.length:Int))) (ap (0≤v3) ((v1[v3.toNat]?).bind fun x4=>ap (0≤v3) ((v2[v3.toNat]?).bind fun x5=>(ni x4 x5).bind fun y6=>br (!y6.1) (fe (.inl ((false,()),(()),(())))) (fn ((v1,v2,(IntKind.wrap .i64 (v3+1)),()),(()),(())))) none) none) (fe (.inr (((),()),(()),(()))))
def iC (s:eH.D):Option (eH.D⊕bu.D jS):=oJ s.1.1 s.1.2.1 s.1.2.2.1 (fun s=>some (.inl s)) (fun e=>some (.inr e))
def sN:eH.D→Option (bu.D jS):=jD iC
theorem Eu {ρ:Type} (s:eH.D) (fn:eH.D→Option ρ) (fe:bu.D jS→Option ρ):oJ s.1.1 s.1.2.1 s.1.2.2.1 fn fe=(iC s).bind (Sum.elim fn fe):=by
 simp only [iC,oJ,al,ao,Option.bind_none,Option.bind_assoc,Option.bind_some,Sum.elim_inl,Sum.elim_inr]
abbrev yG:dg:=dA [] [0,1,5] eH jS sN
theorem Ca (s:eH.D):eP Θ (aQ Et) (aO []) nZ (eH.mk' s) (dn [0,1,5] [4] fun x S=>some (x,S))=(iC s).bind (Sum.elim (fun s'=>some (.nor,eH.mk' s')) fun e=>some (bu.e jS e)):=
 Eq.trans (by kernel_rfl:_=oJ s.1.1 s.1.2.1 s.1.2.2.1 (fun s'=>some (.nor,eH.mk' s')) (fun e=>some (bu.e jS e))) (Eu s _ _)
theorem Cb:cn Tryz.prog nZ yG:=bi aR vZ af (by kernel_rfl) (dF (by kernel_rfl:_= []) ah) [] [0,1,5] [4] eH jS (by kernel_rfl) iC Ca sN (hO iC) (aW iC)
def qP {ρ:Type} (a0:List aB) (a1:List aB) (k:Bool×Unit→Option ρ):Option ρ:=
 br (!((a0.length:Int)==(a1.length:Int))) (k (false,())) ((sN ((a0,a1,0,()),(()),(()))).bind fun e7=>Sum.elim (fun e7_=>k (e7_.1.1,())) (fun e7_=>k (true,())) e7)
def gU (a0:List aB) (a1:List aB):Option (Bool×Unit):=qP a0 a1 some
theorem HX {ρ:Type} (a0:List aB) (a1:List aB) (k:Bool×Unit→Option ρ):qP a0 a1 k=(gU a0 a1).bind k:=by
 simp only [gU,qP,al,cx,Option.bind_assoc,Option.bind_some]
abbrev wY:bB:=bP [.ty (.ls (.st .entry)), .ty (.ls (.st .entry))] [.b] fun x=>gU x.1 x.2.1
theorem Ev:aF Tryz.prog 25 wY:=
 ak (Λ:=aO [(ca nZ,yG)]) (fn:=Tryz.f25) aR vZ af (by kernel_rfl) (aM (by kernel_rfl:_= [nZ]) (aV (q:=ca nZ) rfl Cb fun _ _ _=>by kernel_rfl)) (by kernel_rfl) (fun x=>gU x.1 x.2.1)
  (fun x=>Eq.trans (by kernel_rfl:_=qP x.1 x.2.1 (fun y=>ret (aK [.b] y) fun v g=>some (v,g))) (HX x.1 x.2.1 _)) fun _ _ h=>h
abbrev Kd:List (Nat×bB):= []
theorem Ba:aA Tryz.prog (aQ Kd):=aj _
noncomputable abbrev qi:Code:=cw (co Tryz.f19) 0
abbrev gV:ev:=⟨[(0, .cl (.ro (.i .i64))),(1, .cl (.ro (.i .i64))),(5, .cl (.int .i64))],[],[],0,26⟩
abbrev mR:List (X×ev):= [(.ret,⟨[(4, .cl (.bl))],[],[],0,26⟩),(.ext 0,⟨[(4, .cl (.dead))],[],[],0,26⟩)]
def qQ {ρ:Type} (v1:List Int) (v2:List Int) (v3:Int) (fn: (((List Int)×(List Int)×Int×Unit)×(Unit)×(Unit))→Option ρ) (fe: ((Bool×Unit)×(Unit)×(Unit))⊕((Unit×Unit)×(Unit)×(Unit))→Option ρ):Option ρ:=
 br (decide (v3 < (v1.length:Int))) (ap (0≤v3) ((v1[v3.toNat]?).bind fun x4=>ap (0≤v3) ((v2[v3.toNat]?).bind fun x5=>br (!(x4==x5)) (fe (.inl ((false,()),(()),(())))) (fn ((v1,v2,(IntKind.wrap .i64 (v3+1)),()),(()),(())))) none) none) (fe (.inr (((),()),(()),(()))))
def lr (s:gV.D):Option (gV.D⊕bu.D mR):=qQ s.1.1 s.1.2.1 s.1.2.2.1 (fun s=>some (.inl s)) (fun e=>some (.inr e))
def wZ:gV.D→Option (bu.D mR):=jD lr
theorem HY {ρ:Type} (s:gV.D) (fn:gV.D→Option ρ) (fe:bu.D mR→Option ρ):qQ s.1.1 s.1.2.1 s.1.2.2.1 fn fe=(lr s).bind (Sum.elim fn fe):=by
 simp only [lr,qQ,al,ao,Option.bind_none,Option.bind_assoc,Option.bind_some,Sum.elim_inl,Sum.elim_inr]
abbrev Ew:dg:=dA [] [0,1,5] gV mR wZ
theorem FC (s:gV.D):eP Θ (aQ Kd) (aO []) qi (gV.mk' s) (dn [0,1,5] [4] fun x S=>some (x,S))=(lr s).bind (Sum.elim (fun s'=>some (.nor,gV.mk' s')) fun e=>some (bu.e mR e)):=
 Eq.trans (by kernel_rfl:_=qQ s.1.1 s.1.2.1 s.1.2.2.1 (fun s'=>some (.nor,gV.mk' s')) (fun e=>some (bu.e mR e))) (HY s _ _)
theorem FD:cn Tryz.prog qi Ew:=bi aR Ba af (by kernel_rfl) (dF (by kernel_rfl:_= []) ah) [] [0,1,5] [4] gV mR (by kernel_rfl) lr FC wZ (hO lr) (aW lr)
def vi {ρ:Type} (a0:List Int) (a1:List Int) (k:Bool×Unit→Option ρ):Option ρ:=
 br (!((a0.length:Int)==(a1.length:Int))) (k (false,())) ((wZ ((a0,a1,0,()),(()),(()))).bind fun e6=>Sum.elim (fun e6_=>k (e6_.1.1,())) (fun e6_=>k (true,())) e6)
def n0 (a0:List Int) (a1:List Int):Option (Bool×Unit):=vi a0 a1 some
theorem LI {ρ:Type} (a0:List Int) (a1:List Int) (k:Bool×Unit→Option ρ):vi a0 a1 k=(n0 a0 a1).bind k:=by
 simp only [n0,vi,al,cx,Option.bind_assoc,Option.bind_some]
abbrev Ey:bB:=bP [.ty (.ls (.i .i64)), .ty (.ls (.i .i64))] [.b] fun x=>n0 x.1 x.2.1
theorem Ke:aF Tryz.prog 19 Ey:=
 ak (Λ:=aO [(ca qi,Ew)]) (fn:=Tryz.f19) aR Ba af (by kernel_rfl) (aM (by kernel_rfl:_= [qi]) (aV (q:=ca qi) rfl FD fun _ _ _=>by kernel_rfl)) (by kernel_rfl) (fun x=>n0 x.1 x.2.1)
  (fun x=>Eq.trans (by kernel_rfl:_=vi x.1 x.2.1 (fun y=>ret (aK [.b] y) fun v g=>some (v,g))) (LI x.1 x.2.1 _)) fun _ _ h=>h
abbrev LJ:List (Nat×bB):= [(19,Ey)]
theorem FE:aA Tryz.prog (aQ LJ):=ae Ke <| aj _
def o2 {ρ:Type} (a0:ai) (a1:ai) (k:Bool×Unit→Option ρ):Option ρ:=
 br (!(a0.epoch==a1.epoch)) (k (false,())) (br (!(a0.primary==a1.primary)) (k (false,())) ((n0 a0.replicas a1.replicas).bind fun y1=>br (!y1.1) (k (false,())) ((n0 a0.witnesses a1.witnesses).bind fun y2=>br (!y2.1) (k (false,())) (k (true,())))))
def jT (a0:ai) (a1:ai):Option (Bool×Unit):=o2 a0 a1 some
theorem HZ {ρ:Type} (a0:ai) (a1:ai) (k:Bool×Unit→Option ρ):o2 a0 a1 k=(jT a0 a1).bind k:=by
 simp only [jT,o2,al,Option.bind_assoc,Option.bind_some]
abbrev w3:bB:=bP [.ty (.st .config), .ty (.st .config)] [.b] fun x=>jT x.1 x.2.1
theorem Ez:aF Tryz.prog 215 w3:=
 ak (Λ:=aO []) (fn:=Tryz.f215) aR FE af (by kernel_rfl) (aM (by kernel_rfl:_= []) ah) (by kernel_rfl) (fun x=>jT x.1 x.2.1)
  (fun x=>Eq.trans (by kernel_rfl:_=o2 x.1 x.2.1 (fun y=>ret (aK [.b] y) fun v g=>some (v,g))) (HZ x.1 x.2.1 _)) fun _ _ h=>h
abbrev LK:List (Nat×bB):= [(215,w3),(25,wY)]
theorem FF:aA Tryz.prog (aQ LK):=ae Ez <| ae Ev <| aj _
def o3 {ρ:Type} (a0:ay) (a1:ay) (k:Bool×Unit→Option ρ):Option ρ:=
 br (!(a0.up==a1.up)) (k (false,())) (br (!(a0.intact==a1.intact)) (k (false,())) (br (!(a0.version==a1.version)) (k (false,())) (br (!(a0.epoch==a1.epoch)) (k (false,())) ((jT a0.config a1.config).bind fun y1=>br (!y1.1) (k (false,())) (br (!(a0.first==a1.first)) (k (false,())) ((gU a0.log a1.log).bind fun y2=>br (!y2.1) (k (false,())) (br (!(a0.commit==a1.commit)) (k (false,())) ((gU a0.learned a1.learned).bind fun y3=>br (!y3.1) (k (false,())) (k (true,()))))))))))
def lu (a0:ay) (a1:ay):Option (Bool×Unit):=o3 a0 a1 some
theorem H0 {ρ:Type} (a0:ay) (a1:ay) (k:Bool×Unit→Option ρ):o3 a0 a1 k=(lu a0 a1).bind k:=by
 simp only [lu,o3,al,Option.bind_assoc,Option.bind_some]
abbrev EA:bB:=bP [.ty (.st .server), .ty (.st .server)] [.b] fun x=>lu x.1 x.2.1
theorem LL:aF Tryz.prog 145 EA:=
 ak (Λ:=aO []) (fn:=Tryz.f145) aR FF af (by kernel_rfl) (aM (by kernel_rfl:_= []) ah) (by kernel_rfl) (fun x=>lu x.1 x.2.1)
  (fun x=>Eq.trans (by kernel_rfl:_=o3 x.1 x.2.1 (fun y=>ret (aK [.b] y) fun v g=>some (v,g))) (H0 x.1 x.2.1 _)) fun _ _ h=>h
abbrev Bb:List (Nat×bB):= [(145,EA)]
theorem uD:aA Tryz.prog (aQ Bb):=ae LL <| aj _
noncomputable abbrev mr:Code:=cw (co Tryz.f67) 0
abbrev dS:ev:=⟨[(0, .cl (.ro (.st .server))),(1, .cl (.ro (.st .server))),(5, .cl (.int .i64))],[],[],0,27⟩
abbrev iY:List (X×ev):= [(.ret,⟨[(4, .cl (.bl))],[],[],0,27⟩),(.ext 0,⟨[(4, .cl (.dead))],[],[],0,27⟩)]
def n5 {ρ:Type} (v1:List ay) (v2:List ay) (v3:Int) (fn: (((List ay)×(List ay)×Int×Unit)×(Unit)×(Unit))→Option ρ) (fe: ((Bool×Unit)×(Unit)×(Unit))⊕((Unit×Unit)×(Unit)×(Unit))→Option ρ):Option ρ:=
 br (decide (v3 < (v1.length:Int))) (ap (0≤v3) ((v1[v3.toNat]?).bind fun x4=>ap (0≤v3) ((v2[v3.toNat]?).bind fun x5=>(lu x4 x5).bind fun y6=>br (!y6.1) (fe (.inl ((false,()),(()),(())))) (fn ((v1,v2,(IntKind.wrap .i64 (v3+1)),()),(()),(())))) none) none) (fe (.inr (((),()),(()),(()))))
def gn (s:dS.D):Option (dS.D⊕bu.D iY):=n5 s.1.1 s.1.2.1 s.1.2.2.1 (fun s=>some (.inl s)) (fun e=>some (.inr e))
def rk:dS.D→Option (bu.D iY):=jD gn
theorem Cc {ρ:Type} (s:dS.D) (fn:dS.D→Option ρ) (fe:bu.D iY→Option ρ):n5 s.1.1 s.1.2.1 s.1.2.2.1 fn fe=(gn s).bind (Sum.elim fn fe):=by
 simp only [gn,n5,al,ao,Option.bind_none,Option.bind_assoc,Option.bind_some,Sum.elim_inl,Sum.elim_inr]
abbrev wb:dg:=dA [] [0,1,5] dS iY rk
theorem Ag (s:dS.D):eP Θ (aQ Bb) (aO []) mr (dS.mk' s) (dn [0,1,5] [4] fun x S=>some (x,S))=(gn s).bind (Sum.elim (fun s'=>some (.nor,dS.mk' s')) fun e=>some (bu.e iY e)):=
 Eq.trans (by kernel_rfl:_=n5 s.1.1 s.1.2.1 s.1.2.2.1 (fun s'=>some (.nor,dS.mk' s')) (fun e=>some (bu.e iY e))) (Cc s _ _)
theorem Ah:cn Tryz.prog mr wb:=bi aR uD af (by kernel_rfl) (dF (by kernel_rfl:_= []) ah) [] [0,1,5] [4] dS iY (by kernel_rfl) gn Ag rk (hO gn) (aW gn)
def pE {ρ:Type} (a0:List ay) (a1:List ay) (k:Bool×Unit→Option ρ):Option ρ:=
 br (!((a0.length:Int)==(a1.length:Int))) (k (false,())) ((rk ((a0,a1,0,()),(()),(()))).bind fun e7=>Sum.elim (fun e7_=>k (e7_.1.1,())) (fun e7_=>k (true,())) e7)
def lw (a0:List ay) (a1:List ay):Option (Bool×Unit):=pE a0 a1 some
theorem FG {ρ:Type} (a0:List ay) (a1:List ay) (k:Bool×Unit→Option ρ):pE a0 a1 k=(lw a0 a1).bind k:=by
 simp only [lw,pE,al,cx,Option.bind_assoc,Option.bind_some]
abbrev Bc:bB:=bP [.ty (.ls (.st .server)), .ty (.ls (.st .server))] [.b] fun x=>lw x.1 x.2.1
theorem Kf:aF Tryz.prog 67 Bc:=
 ak (Λ:=aO [(ca mr,wb)]) (fn:=Tryz.f67) aR uD af (by kernel_rfl) (aM (by kernel_rfl:_= [mr]) (aV (q:=ca mr) rfl Ah fun _ _ _=>by kernel_rfl)) (by kernel_rfl) (fun x=>lw x.1 x.2.1)
  (fun x=>Eq.trans (by kernel_rfl:_=pE x.1 x.2.1 (fun y=>ret (aK [.b] y) fun v g=>some (v,g))) (FG x.1 x.2.1 _)) fun _ _ h=>h
abbrev Bd:List (Nat×bB):= [(215,w3)]
theorem uE:aA Tryz.prog (aQ Bd):=ae Ez <| aj _
noncomputable abbrev mt:Code:=cw (co Tryz.f146) 0
abbrev dT:ev:=⟨[(0, .cl (.ro (.st .config))),(1, .cl (.ro (.st .config))),(5, .cl (.int .i64))],[],[],0,27⟩
abbrev iZ:List (X×ev):= [(.ret,⟨[(4, .cl (.bl))],[],[],0,27⟩),(.ext 0,⟨[(4, .cl (.dead))],[],[],0,27⟩)]
def n6 {ρ:Type} (v1:List ai) (v2:List ai) (v3:Int) (fn: (((List ai)×(List ai)×Int×Unit)×(Unit)×(Unit))→Option ρ) (fe: ((Bool×Unit)×(Unit)×(Unit))⊕((Unit×Unit)×(Unit)×(Unit))→Option ρ):Option ρ:=
 br (decide (v3 < (v1.length:Int))) (ap (0≤v3) ((v1[v3.toNat]?).bind fun x4=>ap (0≤v3) ((v2[v3.toNat]?).bind fun x5=>(jT x4 x5).bind fun y6=>br (!y6.1) (fe (.inl ((false,()),(()),(())))) (fn ((v1,v2,(IntKind.wrap .i64 (v3+1)),()),(()),(())))) none) none) (fe (.inr (((),()),(()),(()))))
def gp (s:dT.D):Option (dT.D⊕bu.D iZ):=n6 s.1.1 s.1.2.1 s.1.2.2.1 (fun s=>some (.inl s)) (fun e=>some (.inr e))
def rl:dT.D→Option (bu.D iZ):=jD gp
theorem Cd {ρ:Type} (s:dT.D) (fn:dT.D→Option ρ) (fe:bu.D iZ→Option ρ):n6 s.1.1 s.1.2.1 s.1.2.2.1 fn fe=(gp s).bind (Sum.elim fn fe):=by
 simp only [gp,n6,al,ao,Option.bind_none,Option.bind_assoc,Option.bind_some,Sum.elim_inl,Sum.elim_inr]
abbrev wc:dg:=dA [] [0,1,5] dT iZ rl
theorem Ai (s:dT.D):eP Θ (aQ Bd) (aO []) mt (dT.mk' s) (dn [0,1,5] [4] fun x S=>some (x,S))=(gp s).bind (Sum.elim (fun s'=>some (.nor,dT.mk' s')) fun e=>some (bu.e iZ e)):=
 Eq.trans (by kernel_rfl:_=n6 s.1.1 s.1.2.1 s.1.2.2.1 (fun s'=>some (.nor,dT.mk' s')) (fun e=>some (bu.e iZ e))) (Cd s _ _)
theorem Aj:cn Tryz.prog mt wc:=bi aR uE af (by kernel_rfl) (dF (by kernel_rfl:_= []) ah) [] [0,1,5] [4] dT iZ (by kernel_rfl) gp Ai rl (hO gp) (aW gp)
def pF {ρ:Type} (a0:List ai) (a1:List ai) (k:Bool×Unit→Option ρ):Option ρ:=
 br (!((a0.length:Int)==(a1.length:Int))) (k (false,())) ((rl ((a0,a1,0,()),(()),(()))).bind fun e7=>Sum.elim (fun e7_=>k (e7_.1.1,())) (fun e7_=>k (true,())) e7)
def lx (a0:List ai) (a1:List ai):Option (Bool×Unit):=pF a0 a1 some
theorem FH {ρ:Type} (a0:List ai) (a1:List ai) (k:Bool×Unit→Option ρ):pF a0 a1 k=(lx a0 a1).bind k:=by
 simp only [lx,pF,al,cx,Option.bind_assoc,Option.bind_some]
abbrev Be:bB:=bP [.ty (.ls (.st .config)), .ty (.ls (.st .config))] [.b] fun x=>lx x.1 x.2.1
theorem Kg:aF Tryz.prog 146 Be:=
 ak (Λ:=aO [(ca mt,wc)]) (fn:=Tryz.f146) aR uE af (by kernel_rfl) (aM (by kernel_rfl:_= [mt]) (aV (q:=ca mt) rfl Aj fun _ _ _=>by kernel_rfl)) (by kernel_rfl) (fun x=>lx x.1 x.2.1)
  (fun x=>Eq.trans (by kernel_rfl:_=pF x.1 x.2.1 (fun y=>ret (aK [.b] y) fun v g=>some (v,g))) (FH x.1 x.2.1 _)) fun _ _ h=>h
abbrev FI:List (Nat×bB):= [(146,Be)]
theorem Ak:aA Tryz.prog (aQ FI):=ae Kg <| aj _
def ly {ρ:Type} (a0:aw) (a1:aw) (k:Bool×Unit→Option ρ):Option ρ:=
 (lx a0.configs a1.configs).bind fun y1=>br (!y1.1) (k (false,())) (br (!(a0.activated==a1.activated)) (k (false,())) (k (true,())))
def i4 (a0:aw) (a1:aw):Option (Bool×Unit):=ly a0 a1 some
theorem Ce {ρ:Type} (a0:aw) (a1:aw) (k:Bool×Unit→Option ρ):ly a0 a1 k=(i4 a0 a1).bind k:=by
 simp only [i4,ly,al,Option.bind_assoc,Option.bind_some]
abbrev wd:bB:=bP [.ty (.st .masterLog), .ty (.st .masterLog)] [.b] fun x=>i4 x.1 x.2.1
theorem FJ:aF Tryz.prog 68 wd:=
 ak (Λ:=aO []) (fn:=Tryz.f68) aR Ak af (by kernel_rfl) (aM (by kernel_rfl:_= []) ah) (by kernel_rfl) (fun x=>i4 x.1 x.2.1)
  (fun x=>Eq.trans (by kernel_rfl:_=ly x.1 x.2.1 (fun y=>ret (aK [.b] y) fun v g=>some (v,g))) (Ce x.1 x.2.1 _)) fun _ _ h=>h
abbrev NG:List (Nat×bB):= []
theorem H1:aA Tryz.prog (aQ NG):=aj _
def qj {ρ:Type} (a0:jW) (a1:jW) (k:Bool×Unit→Option ρ):Option ρ:=
 br (!(a0.epoch==a1.epoch)) (k (false,())) (br (!(a0.holder==a1.holder)) (k (false,())) (br (!(a0.ends==a1.ends)) (k (false,())) (k (true,()))))
def oB (a0:jW) (a1:jW):Option (Bool×Unit):=qj a0 a1 some
theorem Kh {ρ:Type} (a0:jW) (a1:jW) (k:Bool×Unit→Option ρ):qj a0 a1 k=(oB a0 a1).bind k:=by
 simp only [oB,qj,al,Option.bind_some]
abbrev Gn:bB:=bP [.ty (.st .lease), .ty (.st .lease)] [.b] fun x=>oB x.1 x.2.1
theorem NH:aF Tryz.prog 69 Gn:=
 ak (Λ:=aO []) (fn:=Tryz.f69) aR H1 af (by kernel_rfl) (aM (by kernel_rfl:_= []) ah) (by kernel_rfl) (fun x=>oB x.1 x.2.1)
  (fun x=>Eq.trans (by kernel_rfl:_=qj x.1 x.2.1 (fun y=>ret (aK [.b] y) fun v g=>some (v,g))) (Kh x.1 x.2.1 _)) fun _ _ h=>h
abbrev NI:List (Nat×bB):= []
theorem H2:aA Tryz.prog (aQ NI):=aj _
def qk {ρ:Type} (a0:be) (a1:be) (k:Bool×Unit→Option ρ):Option ρ:=
 br (!(a0.rack==a1.rack)) (k (false,())) (br (!(a0.capacity==a1.capacity)) (k (false,())) (br (!(a0.load==a1.load)) (k (false,())) (k (true,()))))
def nj (a0:be) (a1:be):Option (Bool×Unit):=qk a0 a1 some
theorem Ki {ρ:Type} (a0:be) (a1:be) (k:Bool×Unit→Option ρ):qk a0 a1 k=(nj a0 a1).bind k:=by
 simp only [nj,qk,al,Option.bind_some]
abbrev Gp:bB:=bP [.ty (.st .place), .ty (.st .place)] [.b] fun x=>nj x.1 x.2.1
theorem NJ:aF Tryz.prog 147 Gp:=
 ak (Λ:=aO []) (fn:=Tryz.f147) aR H2 af (by kernel_rfl) (aM (by kernel_rfl:_= []) ah) (by kernel_rfl) (fun x=>nj x.1 x.2.1)
  (fun x=>Eq.trans (by kernel_rfl:_=qk x.1 x.2.1 (fun y=>ret (aK [.b] y) fun v g=>some (v,g))) (Ki x.1 x.2.1 _)) fun _ _ h=>h
abbrev EB:List (Nat×bB):= [(147,Gp)]
theorem we:aA Tryz.prog (aQ EB):=ae NJ <| aj _
noncomputable abbrev n7:Code:=cw (co Tryz.f70) 0
abbrev eI:ev:=⟨[(0, .cl (.ro (.st .place))),(1, .cl (.ro (.st .place))),(5, .cl (.int .i64))],[],[],0,27⟩
abbrev jU:List (X×ev):= [(.ret,⟨[(4, .cl (.bl))],[],[],0,27⟩),(.ext 0,⟨[(4, .cl (.dead))],[],[],0,27⟩)]
def oK {ρ:Type} (v1:List be) (v2:List be) (v3:Int) (fn: (((List be)×(List be)×Int×Unit)×(Unit)×(Unit))→Option ρ) (fe: ((Bool×Unit)×(Unit)×(Unit))⊕((Unit×Unit)×(Unit)×(Unit))→Option ρ):Option ρ:=
 br (decide (v3 < (v1.length:Int))) (ap (0≤v3) ((v1[v3.toNat]?).bind fun x4=>ap (0≤v3) ((v2[v3.toNat]?).bind fun x5=>(nj x4 x5).bind fun y6=>br (!y6.1) (fe (.inl ((false,()),(()),(())))) (fn ((v1,v2,(IntKind.wrap .i64 (v3+1)),()),(()),(())))) none) none) (fe (.inr (((),()),(()),(()))))
def iE (s:eI.D):Option (eI.D⊕bu.D jU):=oK s.1.1 s.1.2.1 s.1.2.2.1 (fun s=>some (.inl s)) (fun e=>some (.inr e))
def sO:eI.D→Option (bu.D jU):=jD iE
theorem EC {ρ:Type} (s:eI.D) (fn:eI.D→Option ρ) (fe:bu.D jU→Option ρ):oK s.1.1 s.1.2.1 s.1.2.2.1 fn fe=(iE s).bind (Sum.elim fn fe):=by
 simp only [iE,oK,al,ao,Option.bind_none,Option.bind_assoc,Option.bind_some,Sum.elim_inl,Sum.elim_inr]
abbrev yH:dg:=dA [] [0,1,5] eI jU sO
theorem Cf (s:eI.D):eP Θ (aQ EB) (aO []) n7 (eI.mk' s) (dn [0,1,5] [4] fun x S=>some (x,S))=(iE s).bind (Sum.elim (fun s'=>some (.nor,eI.mk' s')) fun e=>some (bu.e jU e)):=
 Eq.trans (by kernel_rfl:_=oK s.1.1 s.1.2.1 s.1.2.2.1 (fun s'=>some (.nor,eI.mk' s')) (fun e=>some (bu.e jU e))) (EC s _ _)
theorem Cg:cn Tryz.prog n7 yH:=bi aR we af (by kernel_rfl) (dF (by kernel_rfl:_= []) ah) [] [0,1,5] [4] eI jU (by kernel_rfl) iE Cf sO (hO iE) (aW iE)
def qR {ρ:Type} (a0:List be) (a1:List be) (k:Bool×Unit→Option ρ):Option ρ:=
 br (!((a0.length:Int)==(a1.length:Int))) (k (false,())) ((sO ((a0,a1,0,()),(()),(()))).bind fun e7=>Sum.elim (fun e7_=>k (e7_.1.1,())) (fun e7_=>k (true,())) e7)
def mT (a0:List be) (a1:List be):Option (Bool×Unit):=qR a0 a1 some
theorem H3 {ρ:Type} (a0:List be) (a1:List be) (k:Bool×Unit→Option ρ):qR a0 a1 k=(mT a0 a1).bind k:=by
 simp only [mT,qR,al,cx,Option.bind_assoc,Option.bind_some]
abbrev ED:bB:=bP [.ty (.ls (.st .place)), .ty (.ls (.st .place))] [.b] fun x=>mT x.1 x.2.1
theorem LM:aF Tryz.prog 70 ED:=
 ak (Λ:=aO [(ca n7,yH)]) (fn:=Tryz.f70) aR we af (by kernel_rfl) (aM (by kernel_rfl:_= [n7]) (aV (q:=ca n7) rfl Cg fun _ _ _=>by kernel_rfl)) (by kernel_rfl) (fun x=>mT x.1 x.2.1)
  (fun x=>Eq.trans (by kernel_rfl:_=qR x.1 x.2.1 (fun y=>ret (aK [.b] y) fun v g=>some (v,g))) (H3 x.1 x.2.1 _)) fun _ _ h=>h
abbrev Kj:List (Nat×bB):= [(67,Bc),(19,Ey),(68,wd),(69,Gn),(70,ED)]
theorem EE:aA Tryz.prog (aQ Kj):=ae Kf <| ae Ke <| ae FJ <| ae NH <| ae LM <| aj _
def n8 {ρ:Type} (a0:aP) (a1:aP) (k:Bool×Unit→Option ρ):Option ρ:=
 br (!(a0.now==a1.now)) (k (false,())) ((lw a0.servers a1.servers).bind fun y1=>br (!y1.1) (k (false,())) ((n0 a0.sides a1.sides).bind fun y2=>br (!y2.1) (k (false,())) ((i4 a0.master a1.master).bind fun y3=>br (!y3.1) (k (false,())) (br (!(a0.masterUp==a1.masterUp)) (k (false,())) ((oB a0.lease a1.lease).bind fun y4=>br (!y4.1) (k (false,())) ((mT a0.places a1.places).bind fun y5=>br (!y5.1) (k (false,())) (k (true,()))))))))
def lz (a0:aP) (a1:aP):Option (Bool×Unit):=n8 a0 a1 some
theorem FK {ρ:Type} (a0:aP) (a1:aP) (k:Bool×Unit→Option ρ):n8 a0 a1 k=(lz a0 a1).bind k:=by
 simp only [lz,n8,al,Option.bind_assoc,Option.bind_some]
abbrev Bf:bB:=bP [.ty (.st .cluster), .ty (.st .cluster)] [.b] fun x=>lz x.1 x.2.1
theorem Kk:aF Tryz.prog 16 Bf:=
 ak (Λ:=aO []) (fn:=Tryz.f16) aR EE af (by kernel_rfl) (aM (by kernel_rfl:_= []) ah) (by kernel_rfl) (fun x=>lz x.1 x.2.1)
  (fun x=>Eq.trans (by kernel_rfl:_=n8 x.1 x.2.1 (fun y=>ret (aK [.b] y) fun v g=>some (v,g))) (FK x.1 x.2.1 _)) fun _ _ h=>h
abbrev wg:List (Nat×bB):= []
theorem sb:aA Tryz.prog (aQ wg):=aj _
noncomputable abbrev ke:Code:=cw (co Tryz.f21) 0
abbrev c8:ev:=⟨[(0, .cl (.own 0 (.i .i64))),(1, .cl (.int .i64)),(5, .cl (.int .i64))],[],[.i .i64],1,19⟩
abbrev fT:List (X×ev):= [(.ext 0,⟨[(1, .cl (.int .i64))],[],[.i .i64],1,19⟩)]
def gx {ρ:Type} (v1:List Int) (v2:Int) (v3:Int) (fn: ((Unit×Int×Int×Unit)×(Unit)×((List Int)×Unit))→Option ρ) (fe: ((Int×Unit)×(Unit)×((List Int)×Unit))→Option ρ):Option ρ:=
 br (decide (v3 < (v1.length:Int))) (ap (0≤v3∧v3 < (v1.length:Int)) ((v1[v3.toNat]?).bind fun _=>fn (((),(IntKind.wrap .i64 (v2+1)),(IntKind.wrap .i64 (v3+1)),()),(()),((v1.set v3.toNat v2),()))) none) (fe ((v2,()),(()),(v1,())))
def dz (s:c8.D):Option (c8.D⊕bu.D fT):=gx s.2.2.1 s.1.2.1 s.1.2.2.1 (fun s=>some (.inl s)) (fun e=>some (.inr e))
def pb:c8.D→Option (bu.D fT):=jD dz
theorem yI {ρ:Type} (s:c8.D) (fn:c8.D→Option ρ) (fe:bu.D fT→Option ρ):gx s.2.2.1 s.1.2.1 s.1.2.2.1 fn fe=(dz s).bind (Sum.elim fn fe):=by
 simp only [dz,gx,al,ao,Option.bind_none,Option.bind_assoc,Option.bind_some,Sum.elim_inl,Sum.elim_inr]
abbrev tm:dg:=dA [] [0,1,5] c8 fT pb
theorem w4 (s:c8.D):eP Θ (aQ wg) (aO []) ke (c8.mk' s) (dn [0,1,5] [1] fun x S=>some (x,S))=(dz s).bind (Sum.elim (fun s'=>some (.nor,c8.mk' s')) fun e=>some (bu.e fT e)):=
 Eq.trans (by kernel_rfl:_=gx s.2.2.1 s.1.2.1 s.1.2.2.1 (fun s'=>some (.nor,c8.mk' s')) (fun e=>some (bu.e fT e))) (yI s _ _)
theorem w5:cn Tryz.prog ke tm:=bi aR sb af (by kernel_rfl) (dF (by kernel_rfl:_= []) ah) [] [0,1,5] [1] c8 fT (by kernel_rfl) dz w4 pb (hO dz) (aW dz)
def n9 {ρ:Type} (a0:List Int) (a1:Int) (k: (List Int)×Int×Unit→Option ρ):Option ρ:=
 (pb (((),a1,0,()),(()),(a0,()))).bind fun e6=>k (e6.2.2.1,e6.1.1,())
def dU (a0:List Int) (a1:Int):Option ((List Int)×Int×Unit):=n9 a0 a1 some
theorem Ch {ρ:Type} (a0:List Int) (a1:Int) (k: (List Int)×Int×Unit→Option ρ):n9 a0 a1 k=(dU a0 a1).bind k:=by
 simp only [dU,n9,Option.bind_assoc,Option.bind_some]
abbrev oL:bB:=E3 (.i .i64) [.ty (.i .i64)] [.i .i64] fun l x=>dU l x.1
theorem rm:aF Tryz.prog (lC 21) oL:=
 qC (Λ:=aO [(ca ke,tm)]) (fn:=Tryz.f21) aR sb af (by kernel_rfl) (aM (by kernel_rfl:_= [ke]) (aV (q:=ca ke) rfl w5 fun _ _ _=>by kernel_rfl)) (by kernel_rfl) (fun l x=>dU l x.1)
  (fun l x=>Eq.trans (by kernel_rfl:_=n9 l x.1 (fun y=>E2 (.i .i64) [.i .i64] y fun v g=>some (v,g))) (Ch l x.1 _)) fun _ _ _ h=>h
abbrev tn:List (Nat×bB):= []
theorem qm:aA Tryz.prog (aQ tn):=aj _
noncomputable abbrev iG:Code:=cw (co Tryz.f26) 0
abbrev cA:ev:=⟨[(0, .cl (.own 0 (.st .entry))),(1, .cl (.int .i64)),(5, .cl (.int .i64))],[],[.st .entry],1,68⟩
abbrev eJ:List (X×ev):= [(.ext 0,⟨[(1, .cl (.int .i64))],[],[.st .entry],1,68⟩)]
def fg {ρ:Type} (v1:List aB) (v2:Int) (v3:Int) (fn: ((Unit×Int×Int×Unit)×(Unit)×((List aB)×Unit))→Option ρ) (fe: ((Int×Unit)×(Unit)×((List aB)×Unit))→Option ρ):Option ρ:=
 br (decide (v3 < (v1.length:Int))) (ap (0≤v3∧v3 < (v1.length:Int)) ((v1[v3.toNat]?).bind fun x4=>let z5:=v1.set v3.toNat (⟨v2,x4.op⟩:aB); ap (0≤v3∧v3 < (z5.length:Int)) ((z5[v3.toNat]?).bind fun x6=>let z7:=z5.set v3.toNat (⟨x6.epoch,(⟨(IntKind.wrap .i64 (v2+1)),x6.op.seq,x6.op.kind,x6.op.object,x6.op.old,x6.op.value⟩:Op)⟩:aB); ap (0≤v3∧v3 < (z7.length:Int)) ((z7[v3.toNat]?).bind fun x8=>let z9:=z7.set v3.toNat (⟨x8.epoch,(⟨x8.op.client,(IntKind.wrap .i64 ((IntKind.wrap .i64 (v2+1))+1)),x8.op.kind,x8.op.object,x8.op.old,x8.op.value⟩:Op)⟩:aB); ap (0≤v3∧v3 < (z9.length:Int)) ((z9[v3.toNat]?).bind fun x10=>let z11:=z9.set v3.toNat (⟨x10.epoch,(⟨x10.op.client,x10.op.seq,(IntKind.wrap .i64 ((IntKind.wrap .i64 ((IntKind.wrap .i64 (v2+1))+1))+1)),x10.op.object,x10.op.old,x10.op.value⟩:Op)⟩:aB); ap (0≤v3∧v3 < (z11.length:Int)) ((z11[v3.toNat]?).bind fun x12=>let z13:=z11.set v3.toNat (⟨x12.epoch,(⟨x12.op.client,x12.op.seq,x12.op.kind,(IntKind.wrap .i64 ((IntKind.wrap .i64 ((IntKind.wrap .i64 ((IntKind.wrap .i64 (v2+1))+1))+1))+1)),x12.op.old,x12.op.value⟩:Op)⟩:aB); ap (0≤v3∧v3 < (z13.length:Int)) ((z13[v3.toNat]?).bind fun x14=>let z15:=z13.set v3.toNat (⟨x14.epoch,(⟨x14.op.client,x14.op.seq,x14.op.kind,x14.op.object,(IntKind.wrap .i64 ((IntKind.wrap .i64 ((IntKind.wrap .i64 ((IntKind.wrap .i64 ((IntKind.wrap .i64 (v2+1))+1))+1))+1))+1)),x14.op.value⟩:Op)⟩:aB); ap (0≤v3∧v3 < (z15.length:Int)) ((z15[v3.toNat]?).bind fun x16=>fn (((),(IntKind.wrap .i64 ((IntKind.wrap .i64 ((IntKind.wrap .i64 ((IntKind.wrap .i64 ((IntKind.wrap .i64 ((IntKind.wrap .i64 ((IntKind.wrap .i64 (v2+1))+1))+1))+1))+1))+1))+1)),(IntKind.wrap .i64 (v3+1)),()),(()),((z15.set v3.toNat (⟨x16.epoch,(⟨x16.op.client,x16.op.seq,x16.op.kind,x16.op.object,x16.op.old,(IntKind.wrap .i64 ((IntKind.wrap .i64 ((IntKind.wrap .i64 ((IntKind.wrap .i64 ((IntKind.wrap .i64 ((IntKind.wrap .i64 (v2+1))+1))+1))+1))+1))+1))⟩:Op)⟩:aB)),()))) none) none) none) none) none) none) none) (fe ((v2,()),(()),(v1,())))
def cS (s:cA.D):Option (cA.D⊕bu.D eJ):=fg s.2.2.1 s.1.2.1 s.1.2.2.1 (fun s=>some (.inl s)) (fun e=>some (.inr e))
def oa:cA.D→Option (bu.D eJ):=jD cS
theorem vr {ρ:Type} (s:cA.D) (fn:cA.D→Option ρ) (fe:bu.D eJ→Option ρ):fg s.2.2.1 s.1.2.1 s.1.2.2.1 fn fe=(cS s).bind (Sum.elim fn fe):=by
 simp only [cS,fg,al,ao,Option.bind_none,Option.bind_assoc,Option.bind_some,Sum.elim_inl,Sum.elim_inr]
abbrev qS:dg:=dA [] [0,1,5] cA eJ oa
theorem uF (s:cA.D):eP Θ (aQ tn) (aO []) iG (cA.mk' s) (dn [0,1,5] [1] fun x S=>some (x,S))=(cS s).bind (Sum.elim (fun s'=>some (.nor,cA.mk' s')) fun e=>some (bu.e eJ e)):=
 Eq.trans (by kernel_rfl:_=fg s.2.2.1 s.1.2.1 s.1.2.2.1 (fun s'=>some (.nor,cA.mk' s')) (fun e=>some (bu.e eJ e))) (vr s _ _)
theorem uG:cn Tryz.prog iG qS:=bi aR qm af (by kernel_rfl) (dF (by kernel_rfl:_= []) ah) [] [0,1,5] [1] cA eJ (by kernel_rfl) cS uF oa (hO cS) (aW cS)
def lK {ρ:Type} (a0:List aB) (a1:Int) (k: (List aB)×Int×Unit→Option ρ):Option ρ:=
 (oa (((),a1,0,()),(()),(a0,()))).bind fun e18=>k (e18.2.2.1,e18.1.1,())
def dY (a0:List aB) (a1:Int):Option ((List aB)×Int×Unit):=lK a0 a1 some
theorem yJ {ρ:Type} (a0:List aB) (a1:Int) (k: (List aB)×Int×Unit→Option ρ):lK a0 a1 k=(dY a0 a1).bind k:=by
 simp only [dY,lK,Option.bind_assoc,Option.bind_some]
abbrev pc:bB:=E3 (.st .entry) [.ty (.i .i64)] [.i .i64] fun l x=>dY l x.1
theorem to:aF Tryz.prog (lC 26) pc:=
 qC (Λ:=aO [(ca iG,qS)]) (fn:=Tryz.f26) aR qm af (by kernel_rfl) (aM (by kernel_rfl:_= [iG]) (aV (q:=ca iG) rfl uG fun _ _ _=>by kernel_rfl)) (by kernel_rfl) (fun l x=>dY l x.1)
  (fun l x=>Eq.trans (by kernel_rfl:_=lK l x.1 (fun y=>E2 (.st .entry) [.i .i64] y fun v g=>some (v,g))) (yJ l x.1 _)) fun _ _ _ h=>h
abbrev sd:List (Nat×bB):= [(lC 21,oL),(lC 26,pc)]
theorem pm:aA Tryz.prog (aQ sd):=ae rm <| ae to <| aj _
noncomputable abbrev gW:Code:=cw (co Tryz.f76) 0
abbrev cj:ev:=⟨[(0, .cl (.own 0 (.st .server))),(1, .cl (.int .i64)),(5, .cl (.int .i64))],[],[.st .server],1,105⟩
abbrev ed:List (X×ev):= [(.ext 0,⟨[(1, .cl (.int .i64))],[],[.st .server],1,105⟩)]
def eN {ρ:Type} (v1:List ay) (v2:Int) (v3:Int) (fn: ((Unit×Int×Int×Unit)×(Unit)×((List ay)×Unit))→Option ρ) (fe: ((Int×Unit)×(Unit)×((List ay)×Unit))→Option ρ):Option ρ:=
 br (decide (v3 < (v1.length:Int))) (ap (0≤v3∧v3 < (v1.length:Int)) ((v1[v3.toNat]?).bind fun x4=>let z5:=v1.set v3.toNat (⟨((Int.tmod v2 3)==0),x4.intact,x4.version,x4.epoch,x4.config,x4.first,x4.log,x4.commit,x4.learned⟩:ay); ap (0≤v3∧v3 < (z5.length:Int)) ((z5[v3.toNat]?).bind fun x6=>let z7:=z5.set v3.toNat (⟨x6.up,((Int.tmod (IntKind.wrap .i64 (v2+1)) 3)==0),x6.version,x6.epoch,x6.config,x6.first,x6.log,x6.commit,x6.learned⟩:ay); ap (0≤v3∧v3 < (z7.length:Int)) ((z7[v3.toNat]?).bind fun x8=>let z9:=z7.set v3.toNat (⟨x8.up,x8.intact,(IntKind.wrap .i64 ((IntKind.wrap .i64 (v2+1))+1)),x8.epoch,x8.config,x8.first,x8.log,x8.commit,x8.learned⟩:ay); ap (0≤v3∧v3 < (z9.length:Int)) ((z9[v3.toNat]?).bind fun x10=>let z11:=z9.set v3.toNat (⟨x10.up,x10.intact,x10.version,(IntKind.wrap .i64 ((IntKind.wrap .i64 ((IntKind.wrap .i64 (v2+1))+1))+1)),x10.config,x10.first,x10.log,x10.commit,x10.learned⟩:ay); ap (0≤v3∧v3 < (z11.length:Int)) ((z11[v3.toNat]?).bind fun x12=>let z13:=z11.set v3.toNat (⟨x12.up,x12.intact,x12.version,x12.epoch,(⟨(IntKind.wrap .i64 ((IntKind.wrap .i64 ((IntKind.wrap .i64 ((IntKind.wrap .i64 (v2+1))+1))+1))+1)),x12.config.primary,x12.config.replicas,x12.config.witnesses⟩:ai),x12.first,x12.log,x12.commit,x12.learned⟩:ay); ap (0≤v3∧v3 < (z13.length:Int)) ((z13[v3.toNat]?).bind fun x14=>let z15:=z13.set v3.toNat (⟨x14.up,x14.intact,x14.version,x14.epoch,(⟨x14.config.epoch,(IntKind.wrap .i64 ((IntKind.wrap .i64 ((IntKind.wrap .i64 ((IntKind.wrap .i64 ((IntKind.wrap .i64 (v2+1))+1))+1))+1))+1)),x14.config.replicas,x14.config.witnesses⟩:ai),x14.first,x14.log,x14.commit,x14.learned⟩:ay); ap (0≤v3∧v3 < (z15.length:Int)) ((z15[v3.toNat]?).bind fun x16=>(z15[v3.toNat]?).bind fun x17=>ap ((0:Nat)=0∧x16.config.replicas.length=x17.config.replicas.length) ((dU x17.config.replicas (IntKind.wrap .i64 ((IntKind.wrap .i64 ((IntKind.wrap .i64 ((IntKind.wrap .i64 ((IntKind.wrap .i64 ((IntKind.wrap .i64 (v2+1))+1))+1))+1))+1))+1))).bind fun y18=>ap (y18.1.length=x17.config.replicas.length) (let z19:=z15.set v3.toNat (⟨x17.up,x17.intact,x17.version,x17.epoch,(⟨x17.config.epoch,x17.config.primary,y18.1,x17.config.witnesses⟩:ai),x17.first,x17.log,x17.commit,x17.learned⟩:ay); ap (0≤v3∧v3 < (z19.length:Int)) ((z19[v3.toNat]?).bind fun x20=>(z19[v3.toNat]?).bind fun x21=>ap ((0:Nat)=0∧x20.config.witnesses.length=x21.config.witnesses.length) ((dU x21.config.witnesses y18.2.1).bind fun y22=>ap (y22.1.length=x21.config.witnesses.length) (let z23:=z19.set v3.toNat (⟨x21.up,x21.intact,x21.version,x21.epoch,(⟨x21.config.epoch,x21.config.primary,x21.config.replicas,y22.1⟩:ai),x21.first,x21.log,x21.commit,x21.learned⟩:ay); ap (0≤v3∧v3 < (z23.length:Int)) ((z23[v3.toNat]?).bind fun x24=>let z25:=z23.set v3.toNat (⟨x24.up,x24.intact,x24.version,x24.epoch,x24.config,y22.2.1,x24.log,x24.commit,x24.learned⟩:ay); ap (0≤v3∧v3 < (z25.length:Int)) ((z25[v3.toNat]?).bind fun x26=>(z25[v3.toNat]?).bind fun x27=>ap ((0:Nat)=0∧x26.log.length=x27.log.length) ((dY x27.log (IntKind.wrap .i64 (y22.2.1+1))).bind fun y28=>ap (y28.1.length=x27.log.length) (let z29:=z25.set v3.toNat (⟨x27.up,x27.intact,x27.version,x27.epoch,x27.config,x27.first,y28.1,x27.commit,x27.learned⟩:ay); ap (0≤v3∧v3 < (z29.length:Int)) ((z29[v3.toNat]?).bind fun x30=>let z31:=z29.set v3.toNat (⟨x30.up,x30.intact,x30.version,x30.epoch,x30.config,x30.first,x30.log,y28.2.1,x30.learned⟩:ay); ap (0≤v3∧v3 < (z31.length:Int)) ((z31[v3.toNat]?).bind fun x32=>(z31[v3.toNat]?).bind fun x33=>ap ((0:Nat)=0∧x32.learned.length=x33.learned.length) ((dY x33.learned (IntKind.wrap .i64 (y28.2.1+1))).bind fun y34=>ap (y34.1.length=x33.learned.length) (fn (((),y34.2.1,(IntKind.wrap .i64 (v3+1)),()),(()),((z31.set v3.toNat (⟨x33.up,x33.intact,x33.version,x33.epoch,x33.config,x33.first,x33.log,x33.commit,y34.1⟩:ay)),()))) none) none) none) none) none) none) none) none) none) none) none) none) none) none) none) none) none) none) none) none) (fe ((v2,()),(()),(v1,())))
def cF (s:cj.D):Option (cj.D⊕bu.D ed):=eN s.2.2.1 s.1.2.1 s.1.2.2.1 (fun s=>some (.inl s)) (fun e=>some (.inr e))
def mU:cj.D→Option (bu.D ed):=jD cF
theorem uH {ρ:Type} (s:cj.D) (fn:cj.D→Option ρ) (fe:bu.D ed→Option ρ):eN s.2.2.1 s.1.2.1 s.1.2.2.1 fn fe=(cF s).bind (Sum.elim fn fe):=by
 simp only [cF,eN,al,ao,Option.bind_none,Option.bind_assoc,Option.bind_some,Sum.elim_inl,Sum.elim_inr]
abbrev qn:dg:=dA [] [0,1,5] cj ed mU
theorem tG (s:cj.D):eP Θ (aQ sd) (aO []) gW (cj.mk' s) (dn [0,1,5] [1] fun x S=>some (x,S))=(cF s).bind (Sum.elim (fun s'=>some (.nor,cj.mk' s')) fun e=>some (bu.e ed e)):=
 Eq.trans (by kernel_rfl:_=eN s.2.2.1 s.1.2.1 s.1.2.2.1 (fun s'=>some (.nor,cj.mk' s')) (fun e=>some (bu.e ed e))) (uH s _ _)
theorem tH:cn Tryz.prog gW qn:=bi aR pm af (by kernel_rfl) (dF (by kernel_rfl:_= []) ah) [] [0,1,5] [1] cj ed (by kernel_rfl) cF tG mU (hO cF) (aW cF)
def kx {ρ:Type} (a0:List ay) (a1:Int) (k: (List ay)×Int×Unit→Option ρ):Option ρ:=
 (mU (((),a1,0,()),(()),(a0,()))).bind fun e36=>k (e36.2.2.1,e36.1.1,())
def fh (a0:List ay) (a1:Int):Option ((List ay)×Int×Unit):=kx a0 a1 some
theorem w6 {ρ:Type} (a0:List ay) (a1:Int) (k: (List ay)×Int×Unit→Option ρ):kx a0 a1 k=(fh a0 a1).bind k:=by
 simp only [fh,kx,Option.bind_assoc,Option.bind_some]
abbrev se:bB:=E3 (.st .server) [.ty (.i .i64)] [.i .i64] fun l x=>fh l x.1
theorem Al:aF Tryz.prog (lC 76) se:=
 qC (Λ:=aO [(ca gW,qn)]) (fn:=Tryz.f76) aR pm af (by kernel_rfl) (aM (by kernel_rfl:_= [gW]) (aV (q:=ca gW) rfl tH fun _ _ _=>by kernel_rfl)) (by kernel_rfl) (fun l x=>fh l x.1)
  (fun l x=>Eq.trans (by kernel_rfl:_=kx l x.1 (fun y=>E2 (.st .server) [.i .i64] y fun v g=>some (v,g))) (w6 l x.1 _)) fun _ _ _ h=>h
abbrev sf:List (Nat×bB):= [(lC 21,oL)]
theorem pn:aA Tryz.prog (aQ sf):=ae rm <| aj _
noncomputable abbrev gX:Code:=cw (co Tryz.f152) 0
abbrev ck:ev:=⟨[(0, .cl (.own 0 (.st .config))),(1, .cl (.int .i64)),(5, .cl (.int .i64))],[],[.st .config],1,41⟩
abbrev ef:List (X×ev):= [(.ext 0,⟨[(1, .cl (.int .i64))],[],[.st .config],1,41⟩)]
def eO {ρ:Type} (v1:List ai) (v2:Int) (v3:Int) (fn: ((Unit×Int×Int×Unit)×(Unit)×((List ai)×Unit))→Option ρ) (fe: ((Int×Unit)×(Unit)×((List ai)×Unit))→Option ρ):Option ρ:=
 br (decide (v3 < (v1.length:Int))) (ap (0≤v3∧v3 < (v1.length:Int)) ((v1[v3.toNat]?).bind fun x4=>let z5:=v1.set v3.toNat (⟨v2,x4.primary,x4.replicas,x4.witnesses⟩:ai); ap (0≤v3∧v3 < (z5.length:Int)) ((z5[v3.toNat]?).bind fun x6=>let z7:=z5.set v3.toNat (⟨x6.epoch,(IntKind.wrap .i64 (v2+1)),x6.replicas,x6.witnesses⟩:ai); ap (0≤v3∧v3 < (z7.length:Int)) ((z7[v3.toNat]?).bind fun x8=>(z7[v3.toNat]?).bind fun x9=>ap ((0:Nat)=0∧x8.replicas.length=x9.replicas.length) ((dU x9.replicas (IntKind.wrap .i64 ((IntKind.wrap .i64 (v2+1))+1))).bind fun y10=>ap (y10.1.length=x9.replicas.length) (let z11:=z7.set v3.toNat (⟨x9.epoch,x9.primary,y10.1,x9.witnesses⟩:ai); ap (0≤v3∧v3 < (z11.length:Int)) ((z11[v3.toNat]?).bind fun x12=>(z11[v3.toNat]?).bind fun x13=>ap ((0:Nat)=0∧x12.witnesses.length=x13.witnesses.length) ((dU x13.witnesses y10.2.1).bind fun y14=>ap (y14.1.length=x13.witnesses.length) (fn (((),y14.2.1,(IntKind.wrap .i64 (v3+1)),()),(()),((z11.set v3.toNat (⟨x13.epoch,x13.primary,x13.replicas,y14.1⟩:ai)),()))) none) none) none) none) none) none) none) none) (fe ((v2,()),(()),(v1,())))
def cG (s:ck.D):Option (ck.D⊕bu.D ef):=eO s.2.2.1 s.1.2.1 s.1.2.2.1 (fun s=>some (.inl s)) (fun e=>some (.inr e))
def mW:ck.D→Option (bu.D ef):=jD cG
theorem uI {ρ:Type} (s:ck.D) (fn:ck.D→Option ρ) (fe:bu.D ef→Option ρ):eO s.2.2.1 s.1.2.1 s.1.2.2.1 fn fe=(cG s).bind (Sum.elim fn fe):=by
 simp only [cG,eO,al,ao,Option.bind_none,Option.bind_assoc,Option.bind_some,Sum.elim_inl,Sum.elim_inr]
abbrev qo:dg:=dA [] [0,1,5] ck ef mW
theorem tI (s:ck.D):eP Θ (aQ sf) (aO []) gX (ck.mk' s) (dn [0,1,5] [1] fun x S=>some (x,S))=(cG s).bind (Sum.elim (fun s'=>some (.nor,ck.mk' s')) fun e=>some (bu.e ef e)):=
 Eq.trans (by kernel_rfl:_=eO s.2.2.1 s.1.2.1 s.1.2.2.1 (fun s'=>some (.nor,ck.mk' s')) (fun e=>some (bu.e ef e))) (uI s _ _)
theorem tJ:cn Tryz.prog gX qo:=bi aR pn af (by kernel_rfl) (dF (by kernel_rfl:_= []) ah) [] [0,1,5] [1] ck ef (by kernel_rfl) cG tI mW (hO cG) (aW cG)
def ky {ρ:Type} (a0:List ai) (a1:Int) (k: (List ai)×Int×Unit→Option ρ):Option ρ:=
 (mW (((),a1,0,()),(()),(a0,()))).bind fun e16=>k (e16.2.2.1,e16.1.1,())
def fi (a0:List ai) (a1:Int):Option ((List ai)×Int×Unit):=ky a0 a1 some
theorem w7 {ρ:Type} (a0:List ai) (a1:Int) (k: (List ai)×Int×Unit→Option ρ):ky a0 a1 k=(fi a0 a1).bind k:=by
 simp only [fi,ky,Option.bind_assoc,Option.bind_some]
abbrev sg:bB:=E3 (.st .config) [.ty (.i .i64)] [.i .i64] fun l x=>fi l x.1
theorem Am:aF Tryz.prog (lC 152) sg:=
 qC (Λ:=aO [(ca gX,qo)]) (fn:=Tryz.f152) aR pn af (by kernel_rfl) (aM (by kernel_rfl:_= [gX]) (aV (q:=ca gX) rfl tJ fun _ _ _=>by kernel_rfl)) (by kernel_rfl) (fun l x=>fi l x.1)
  (fun l x=>Eq.trans (by kernel_rfl:_=ky l x.1 (fun y=>E2 (.st .config) [.i .i64] y fun v g=>some (v,g))) (w7 l x.1 _)) fun _ _ _ h=>h
abbrev w8:List (Nat×bB):= [(lC 152,sg)]
theorem tK:aA Tryz.prog (aQ w8):=ae Am <| aj _
def fW {ρ:Type} (a0:aw) (a1:Int) (k:aw×Int×Unit→Option ρ):Option ρ:=
 (fi a0.configs a1).bind fun y1=>ap (y1.1.length=a0.configs.length) (k ((⟨y1.1,a0.activated⟩:aw),y1.2.1,())) none
def fj (a0:aw) (a1:Int):Option (aw×Int×Unit):=fW a0 a1 some
theorem uJ {ρ:Type} (a0:aw) (a1:Int) (k:aw×Int×Unit→Option ρ):fW a0 a1 k=(fj a0 a1).bind k:=by
 simp only [fj,fW,ao,Option.bind_none,Option.bind_assoc,Option.bind_some]
abbrev qp:bB:=QS (.st .masterLog) [.ty (.i .i64)] [.i .i64] fun l x=>fj l x.1
theorem w9:aF Tryz.prog (lC 77) qp:=
 Ms (Λ:=aO []) (fn:=Tryz.f77) aR tK af (by kernel_rfl) (aM (by kernel_rfl:_= []) ah) (by kernel_rfl) (fun l x=>fj l x.1)
  (fun l x=>Eq.trans (by kernel_rfl:_=fW l x.1 (fun y=>QR (.st .masterLog) [.i .i64] y fun v g=>some (v,g))) (uJ l x.1 _)) fun _ _ _ h=>h
abbrev tp:List (Nat×bB):= []
theorem qq:aA Tryz.prog (aQ tp):=aj _
noncomputable abbrev iH:Code:=cw (co Tryz.f78) 0
abbrev cB:ev:=⟨[(0, .cl (.own 0 (.st .place))),(1, .cl (.int .i64)),(5, .cl (.int .i64))],[],[.st .place],1,34⟩
abbrev eK:List (X×ev):= [(.ext 0,⟨[(1, .cl (.int .i64))],[],[.st .place],1,34⟩)]
def fk {ρ:Type} (v1:List be) (v2:Int) (v3:Int) (fn: ((Unit×Int×Int×Unit)×(Unit)×((List be)×Unit))→Option ρ) (fe: ((Int×Unit)×(Unit)×((List be)×Unit))→Option ρ):Option ρ:=
 br (decide (v3 < (v1.length:Int))) (ap (0≤v3∧v3 < (v1.length:Int)) ((v1[v3.toNat]?).bind fun x4=>let z5:=v1.set v3.toNat (⟨v2,x4.capacity,x4.load⟩:be); ap (0≤v3∧v3 < (z5.length:Int)) ((z5[v3.toNat]?).bind fun x6=>let z7:=z5.set v3.toNat (⟨x6.rack,(IntKind.wrap .i64 (v2+1)),x6.load⟩:be); ap (0≤v3∧v3 < (z7.length:Int)) ((z7[v3.toNat]?).bind fun x8=>fn (((),(IntKind.wrap .i64 ((IntKind.wrap .i64 ((IntKind.wrap .i64 (v2+1))+1))+1)),(IntKind.wrap .i64 (v3+1)),()),(()),((z7.set v3.toNat (⟨x8.rack,x8.capacity,(IntKind.wrap .i64 ((IntKind.wrap .i64 (v2+1))+1))⟩:be)),()))) none) none) none) (fe ((v2,()),(()),(v1,())))
def cT (s:cB.D):Option (cB.D⊕bu.D eK):=fk s.2.2.1 s.1.2.1 s.1.2.2.1 (fun s=>some (.inl s)) (fun e=>some (.inr e))
def ob:cB.D→Option (bu.D eK):=jD cT
theorem vt {ρ:Type} (s:cB.D) (fn:cB.D→Option ρ) (fe:bu.D eK→Option ρ):fk s.2.2.1 s.1.2.1 s.1.2.2.1 fn fe=(cT s).bind (Sum.elim fn fe):=by
 simp only [cT,fk,al,ao,Option.bind_none,Option.bind_assoc,Option.bind_some,Sum.elim_inl,Sum.elim_inr]
abbrev qT:dg:=dA [] [0,1,5] cB eK ob
theorem uK (s:cB.D):eP Θ (aQ tp) (aO []) iH (cB.mk' s) (dn [0,1,5] [1] fun x S=>some (x,S))=(cT s).bind (Sum.elim (fun s'=>some (.nor,cB.mk' s')) fun e=>some (bu.e eK e)):=
 Eq.trans (by kernel_rfl:_=fk s.2.2.1 s.1.2.1 s.1.2.2.1 (fun s'=>some (.nor,cB.mk' s')) (fun e=>some (bu.e eK e))) (vt s _ _)
theorem uL:cn Tryz.prog iH qT:=bi aR qq af (by kernel_rfl) (dF (by kernel_rfl:_= []) ah) [] [0,1,5] [1] cB eK (by kernel_rfl) cT uK ob (hO cT) (aW cT)
def lL {ρ:Type} (a0:List be) (a1:Int) (k: (List be)×Int×Unit→Option ρ):Option ρ:=
 (ob (((),a1,0,()),(()),(a0,()))).bind fun e10=>k (e10.2.2.1,e10.1.1,())
def fU (a0:List be) (a1:Int):Option ((List be)×Int×Unit):=lL a0 a1 some
theorem yK {ρ:Type} (a0:List be) (a1:Int) (k: (List be)×Int×Unit→Option ρ):lL a0 a1 k=(fU a0 a1).bind k:=by
 simp only [fU,lL,Option.bind_assoc,Option.bind_some]
abbrev tu:bB:=E3 (.st .place) [.ty (.i .i64)] [.i .i64] fun l x=>fU l x.1
theorem Ci:aF Tryz.prog (lC 78) tu:=
 qC (Λ:=aO [(ca iH,qT)]) (fn:=Tryz.f78) aR qq af (by kernel_rfl) (aM (by kernel_rfl:_= [iH]) (aV (q:=ca iH) rfl uL fun _ _ _=>by kernel_rfl)) (by kernel_rfl) (fun l x=>fU l x.1)
  (fun l x=>Eq.trans (by kernel_rfl:_=lL l x.1 (fun y=>E2 (.st .place) [.i .i64] y fun v g=>some (v,g))) (yK l x.1 _)) fun _ _ _ h=>h
abbrev An:List (Nat×bB):= [(lC 76,se),(lC 21,oL),(lC 77,qp),(lC 78,tu)]
theorem vu:aA Tryz.prog (aQ An):=ae Al <| ae rm <| ae w9 <| ae Ci <| aj _
def iI {ρ:Type} (a0:aP) (a1:Int) (k:aP×Int×Unit→Option ρ):Option ρ:=
 (fh a0.servers a1).bind fun y1=>ap (y1.1.length=a0.servers.length) ((dU a0.sides y1.2.1).bind fun y2=>ap (y2.1.length=a0.sides.length) ((fj a0.master y2.2.1).bind fun y3=>ap (y3.1.configs.length=a0.master.configs.length) ((fU a0.places y3.2.1).bind fun y4=>ap (y4.1.length=a0.places.length) (k ((⟨a0.now,y1.1,y2.1,(⟨y3.1.configs,a0.master.activated⟩:aw),a0.masterUp,a0.lease,y4.1⟩:aP),y4.2.1,())) none) none) none) none
def fm (a0:aP) (a1:Int):Option (aP×Int×Unit):=iI a0 a1 some
theorem xb {ρ:Type} (a0:aP) (a1:Int) (k:aP×Int×Unit→Option ρ):iI a0 a1 k=(fm a0 a1).bind k:=by
 simp only [fm,iI,ao,Option.bind_none,Option.bind_assoc,Option.bind_some]
abbrev sj:bB:=QS (.st .cluster) [.ty (.i .i64)] [.i .i64] fun l x=>fm l x.1
theorem Ao:aF Tryz.prog (lC 20) sj:=
 Ms (Λ:=aO []) (fn:=Tryz.f20) aR vu af (by kernel_rfl) (aM (by kernel_rfl:_= []) ah) (by kernel_rfl) (fun l x=>fm l x.1)
  (fun l x=>Eq.trans (by kernel_rfl:_=iI l x.1 (fun y=>QR (.st .cluster) [.i .i64] y fun v g=>some (v,g))) (xb l x.1 _)) fun _ _ _ h=>h
abbrev yL:List (Nat×bB):= []
theorem tw:aA Tryz.prog (aQ yL):=aj _
noncomputable abbrev lA:Code:=cw (co Tryz.f27) 0
abbrev dw:ev:=⟨[(0, .cl (.ro (.st .entry))),(1, .cl (.int .i64)),(5, .cl (.int .i64))],[],[],0,82⟩
abbrev gY:List (X×ev):= [(.ret,⟨[(1, .cl (.int .i64)),(4, .cl (.int .i64))],[],[],0,82⟩),(.ext 0,⟨[(1, .cl (.int .i64)),(4, .cl (.dead))],[],[],0,82⟩)]
def ik {ρ:Type} (v1:List aB) (v2:Int) (v3:Int) (fn: (((List aB)×Int×Int×Unit)×(Unit)×(Unit))→Option ρ) (fe: ((Int×Int×Unit)×(Unit)×(Unit))⊕((Int×Unit×Unit)×(Unit)×(Unit))→Option ρ):Option ρ:=
 br (decide (v3 < (v1.length:Int))) (ap (0≤v3) ((v1[v3.toNat]?).bind fun x4=>br (!(x4.epoch==v2)) (fe (.inl ((v2,(-1),()),(()),(())))) (ap (0≤v3) ((v1[v3.toNat]?).bind fun x5=>br (!(x5.op.client==(IntKind.wrap .i64 (v2+1)))) (fe (.inl (((IntKind.wrap .i64 (v2+1)),(-1),()),(()),(())))) (ap (0≤v3) ((v1[v3.toNat]?).bind fun x6=>br (!(x6.op.seq==(IntKind.wrap .i64 ((IntKind.wrap .i64 (v2+1))+1)))) (fe (.inl (((IntKind.wrap .i64 ((IntKind.wrap .i64 (v2+1))+1)),(-1),()),(()),(())))) (ap (0≤v3) ((v1[v3.toNat]?).bind fun x7=>br (!(x7.op.kind==(IntKind.wrap .i64 ((IntKind.wrap .i64 ((IntKind.wrap .i64 (v2+1))+1))+1)))) (fe (.inl (((IntKind.wrap .i64 ((IntKind.wrap .i64 ((IntKind.wrap .i64 (v2+1))+1))+1)),(-1),()),(()),(())))) (ap (0≤v3) ((v1[v3.toNat]?).bind fun x8=>br (!(x8.op.object==(IntKind.wrap .i64 ((IntKind.wrap .i64 ((IntKind.wrap .i64 ((IntKind.wrap .i64 (v2+1))+1))+1))+1)))) (fe (.inl (((IntKind.wrap .i64 ((IntKind.wrap .i64 ((IntKind.wrap .i64 ((IntKind.wrap .i64 (v2+1))+1))+1))+1)),(-1),()),(()),(())))) (ap (0≤v3) ((v1[v3.toNat]?).bind fun x9=>br (!(x9.op.old==(IntKind.wrap .i64 ((IntKind.wrap .i64 ((IntKind.wrap .i64 ((IntKind.wrap .i64 ((IntKind.wrap .i64 (v2+1))+1))+1))+1))+1)))) (fe (.inl (((IntKind.wrap .i64 ((IntKind.wrap .i64 ((IntKind.wrap .i64 ((IntKind.wrap .i64 ((IntKind.wrap .i64 (v2+1))+1))+1))+1))+1)),(-1),()),(()),(())))) (ap (0≤v3) ((v1[v3.toNat]?).bind fun x10=>br (!(x10.op.value==(IntKind.wrap .i64 ((IntKind.wrap .i64 ((IntKind.wrap .i64 ((IntKind.wrap .i64 ((IntKind.wrap .i64 ((IntKind.wrap .i64 (v2+1))+1))+1))+1))+1))+1)))) (fe (.inl (((IntKind.wrap .i64 ((IntKind.wrap .i64 ((IntKind.wrap .i64 ((IntKind.wrap .i64 ((IntKind.wrap .i64 ((IntKind.wrap .i64 (v2+1))+1))+1))+1))+1))+1)),(-1),()),(()),(())))) (fn ((v1,(IntKind.wrap .i64 ((IntKind.wrap .i64 ((IntKind.wrap .i64 ((IntKind.wrap .i64 ((IntKind.wrap .i64 ((IntKind.wrap .i64 ((IntKind.wrap .i64 (v2+1))+1))+1))+1))+1))+1))+1)),(IntKind.wrap .i64 (v3+1)),()),(()),(())))) none)) none)) none)) none)) none)) none)) none) (fe (.inr ((v2,(),()),(()),(()))))
def dV (s:dw.D):Option (dw.D⊕bu.D gY):=ik s.1.1 s.1.2.1 s.1.2.2.1 (fun s=>some (.inl s)) (fun e=>some (.inr e))
def qs:dw.D→Option (bu.D gY):=jD dV
theorem Ap {ρ:Type} (s:dw.D) (fn:dw.D→Option ρ) (fe:bu.D gY→Option ρ):ik s.1.1 s.1.2.1 s.1.2.2.1 fn fe=(dV s).bind (Sum.elim fn fe):=by
 simp only [dV,ik,al,ao,Option.bind_none,Option.bind_assoc,Option.bind_some,Sum.elim_inl,Sum.elim_inr]
abbrev uM:dg:=dA [] [0,1,5] dw gY qs
theorem yM (s:dw.D):eP Θ (aQ yL) (aO []) lA (dw.mk' s) (dn [0,1,5] [1,4] fun x S=>some (x,S))=(dV s).bind (Sum.elim (fun s'=>some (.nor,dw.mk' s')) fun e=>some (bu.e gY e)):=
 Eq.trans (by kernel_rfl:_=ik s.1.1 s.1.2.1 s.1.2.2.1 (fun s'=>some (.nor,dw.mk' s')) (fun e=>some (bu.e gY e))) (Ap s _ _)
theorem yN:cn Tryz.prog lA uM:=bi aR tw af (by kernel_rfl) (dF (by kernel_rfl:_= []) ah) [] [0,1,5] [1,4] dw gY (by kernel_rfl) dV yM qs (hO dV) (aW dV)
def oM {ρ:Type} (a0:List aB) (a1:Int) (k:Int×Unit→Option ρ):Option ρ:=
 (qs ((a0,a1,0,()),(()),(()))).bind fun e11=>Sum.elim (fun e11_=>k (e11_.1.2.1,())) (fun e11_=>k (e11_.1.1,())) e11
def iJ (a0:List aB) (a1:Int):Option (Int×Unit):=oM a0 a1 some
theorem EF {ρ:Type} (a0:List aB) (a1:Int) (k:Int×Unit→Option ρ):oM a0 a1 k=(iJ a0 a1).bind k:=by
 simp only [iJ,oM,cx,Option.bind_assoc,Option.bind_some]
abbrev yO:bB:=bP [.ty (.ls (.st .entry)), .ty (.i .i64)] [.i .i64] fun x=>iJ x.1 x.2.1
theorem H4:aF Tryz.prog 27 yO:=
 ak (Λ:=aO [(ca lA,uM)]) (fn:=Tryz.f27) aR tw af (by kernel_rfl) (aM (by kernel_rfl:_= [lA]) (aV (q:=ca lA) rfl yN fun _ _ _=>by kernel_rfl)) (by kernel_rfl) (fun x=>iJ x.1 x.2.1)
  (fun x=>Eq.trans (by kernel_rfl:_=oM x.1 x.2.1 (fun y=>ret (aK [.i .i64] y) fun v g=>some (v,g))) (EF x.1 x.2.1 _)) fun _ _ h=>h
abbrev yP:List (Nat×bB):= [(12,AU),(14,A1),(23,DY),(24,Es),(25,wY),(16,Bf),(lC 20,sj),(lC 26,pc),(27,yO)]
theorem uN:aA Tryz.prog (aQ yP):=ae Jw <| ae JF <| ae Lw <| ae LH <| ae Ev <| ae Kk <| ae Ao <| ae to <| ae H4 <| aj _
def gZ {ρ:Type} (a0:aP) (k:Bool×Unit→Option ρ):Option ρ:=
 (f7 a0 1048576).bind fun y1=>br (decide (y1.1 < 0)) (k (true,())) ((ga a0).bind fun y2=>(mG y2.1).bind fun y3=>(ga a0).bind fun y4=>(lq y4.1).bind fun y5=>(gU y5.1 y3.1).bind fun y6=>br (!y6.1) (k (false,())) (br (!(y5.2.1==y3.2.1)) (k (false,())) ((ga a0).bind fun y7=>(lz y4.1 y7.1).bind fun y8=>br (!y8.1) (k (false,())) ((fm y4.1 1).bind fun y9=>ap (y9.1.servers.length=y4.1.servers.length) (ap (y9.1.sides.length=y4.1.sides.length) (ap (y9.1.master.configs.length=y4.1.master.configs.length) (ap (y9.1.places.length=y4.1.places.length) (br (decide (y9.2.1 < 0)) (k (false,())) ((gU y5.1 y3.1).bind fun y10=>br (!y10.1) (k (false,())) (br (!(y5.2.1==y3.2.1)) (k (false,())) ((dY y5.1 1).bind fun y11=>ap (y11.1.length=y5.1.length) ((iJ y11.1 1).bind fun y12=>br (decide (y12.1 < 0)) (k (false,())) (br (!(y12.1==y11.2.1)) (k (false,())) ((ga a0).bind fun y13=>(lq y13.1).bind fun y14=>(gU y14.1 y3.1).bind fun y15=>br (!y15.1) (k (false,())) (br (!(y14.2.1==y3.2.1)) (k (false,())) ((iJ y11.1 1).bind fun y16=>br (decide (y16.1 < 0)) (k (false,())) (br (!(y16.1==y11.2.1)) (k (false,())) (k (true,())))))))) none)))) none) none) none) none))))
def fJ (a0:aP):Option (Bool×Unit):=gZ a0 some
theorem vv {ρ:Type} (a0:aP) (k:Bool×Unit→Option ρ):gZ a0 k=(fJ a0).bind k:=by
 simp only [fJ,gZ,al,ao,Option.bind_none,Option.bind_assoc,Option.bind_some]
abbrev yQ:bB:=bP [.ty (.st .cluster)] [.b] fun x=>fJ x.1
theorem yR:aF Tryz.prog 5 yQ:=
 ak (Λ:=aO []) (fn:=Tryz.f5) aR uN af (by kernel_rfl) (aM (by kernel_rfl:_= []) ah) (by kernel_rfl) (fun x=>fJ x.1)
  (fun x=>Eq.trans (by kernel_rfl:_=gZ x.1 (fun y=>ret (aK [.b] y) fun v g=>some (v,g))) (vv x.1 _)) fun _ _ h=>h
end
end Go.Proofs.YtkcgfceffffmoaaGreat.En
