/- Printed by a program: the walk. -/
import Derived.Test.YtkcgfceffffmoaaGreatZTh
namespace Go.Proofs.YtkcgfceffffmoaaGreat.En
open Go
noncomputable section
def sb0:ByteArray:=⟨⟨[0,1,2,2,3,3,3,3,4,4,4,4,4,4,4,4,5,5,5,5,5,5,5,5,5,5,5,5,5,5,5,5,6,6,6,6,6,6,6,6,6,6,6,6,6,6,6,6,6,6,6,6,6,6,6,6,6,6,6,6,6,6,6,6,7,7,7,7,7,7,7,7,7,7,7,7,7,7,7,7,7,7,7,7,7,7,7,7,7,7,7,7,7,7,7,7,7,7,7,7,7,7,7,7,7,7,7,7,7,7,7,7,7,7,7,7,7,7,7,7,7,7,7,7,7,7,7,7,8,8,8,8,8,8,8,8,8,8,8,8,8,8,8,8,8,8,8,8,8,8,8,8,8,8,8,8,8,8,8,8,8,8,8,8,8,8,8,8,8,8,8,8,8,8,8,8,8,8,8,8,8,8,8,8,8,8,8,8,8,8,8,8,8,8,8,8,8,8,8,8,8,8,8,8,8,8,8,8,8,8,8,8,8,8,8,8,8,8,8,8,8,8,8,8,8,8,8,8,8,8,8,8,8,8,8,8,8,8,8,8,8,8,8,8,8,8,8,8,8,8,8,8,8,8,8,8]⟩⟩
theorem af:Tryz.prog.follows .mixedOrders=true:=by kernel_rfl
abbrev ZR:List (Nat×bc):= []
theorem TF:au Tryz.prog (aE ZR):=al _
def Cm {ρ:Type} (a0:List Int) (a1:Int) (k:Int×Unit→Option ρ):Option ρ:=
 br (decide ((IntKind.wrap .i64 (a1 - (a0.length:Int))) < 0)) (k ((-1),())) (k ((IntKind.wrap .i64 (a1 - (a0.length:Int))),()))
def sw (a0:List Int) (a1:Int):Option (Int×Unit):=Cm a0 a1 some
theorem VJ {ρ:Type} (a0:List Int) (a1:Int) (k:Int×Unit→Option ρ):Cm a0 a1 k=(sw a0 a1).bind k:=by
 simp only [sw,Cm,ao,Option.bind_some]
abbrev Mi:bc:=bh [.ty (.ls (.i .i64)), .ty (.i .i64)] [.i .i64] fun x=>sw x.1 x.2.1
theorem TG:ax Tryz.prog 43 Mi:=
 an (Λ:=aF []) (fn:=Tryz.f43) aG TF af (by kernel_rfl) (az (by kernel_rfl:_= []) ah) (by kernel_rfl) (fun x=>sw x.1 x.2.1)
  (fun x=>Eq.trans (by kernel_rfl:_=Cm x.1 x.2.1 (fun y=>ret (ay [.i .i64] y) fun v g=>some (v,g))) (VJ x.1 x.2.1 _)) fun _ _ h=>h
abbrev VK:List (Nat×bc):= [(43,Mi)]
theorem Oi:au Tryz.prog (aE VK):=ae TG <| al _
def rU {ρ:Type} (a0:ai) (a1:Int) (k:Int×Unit→Option ρ):Option ρ:=
 (sw a0.replicas a1).bind fun y1=>br (decide (y1.1 < 0)) (k ((-1),())) ((sw a0.witnesses y1.1).bind fun y2=>br (decide (y2.1 < 0)) (k ((-1),())) (k (y2.1,())))
def jc (a0:ai) (a1:Int):Option (Int×Unit):=rU a0 a1 some
theorem Q8 {ρ:Type} (a0:ai) (a1:Int) (k:Int×Unit→Option ρ):rU a0 a1 k=(jc a0 a1).bind k:=by
 simp only [jc,rU,ao,Option.bind_assoc,Option.bind_some]
abbrev DW:bc:=bh [.ty (.st .config), .ty (.i .i64)] [.i .i64] fun x=>jc x.1 x.2.1
theorem Mj:ax Tryz.prog 206 DW:=
 an (Λ:=aF []) (fn:=Tryz.f206) aG Oi af (by kernel_rfl) (az (by kernel_rfl:_= []) ah) (by kernel_rfl) (fun x=>jc x.1 x.2.1)
  (fun x=>Eq.trans (by kernel_rfl:_=rU x.1 x.2.1 (fun y=>ret (ay [.i .i64] y) fun v g=>some (v,g))) (Q8 x.1 x.2.1 _)) fun _ _ h=>h
abbrev VL:List (Nat×bc):= []
theorem Oj:au Tryz.prog (aE VL):=al _
def wt {ρ:Type} (a0:List ar) (a1:Int) (k:Int×Unit→Option ρ):Option ρ:=
 br (decide ((IntKind.wrap .i64 (a1 - (a0.length:Int))) < 0)) (k ((-1),())) (k ((IntKind.wrap .i64 (a1 - (a0.length:Int))),()))
def oX (a0:List ar) (a1:Int):Option (Int×Unit):=wt a0 a1 some
theorem Q9 {ρ:Type} (a0:List ar) (a1:Int) (k:Int×Unit→Option ρ):wt a0 a1 k=(oX a0 a1).bind k:=by
 simp only [oX,wt,ao,Option.bind_some]
abbrev Ml:bc:=bh [.ty (.ls (.st .entry)), .ty (.i .i64)] [.i .i64] fun x=>oX x.1 x.2.1
theorem VM:ax Tryz.prog 207 Ml:=
 an (Λ:=aF []) (fn:=Tryz.f207) aG Oj af (by kernel_rfl) (az (by kernel_rfl:_= []) ah) (by kernel_rfl) (fun x=>oX x.1 x.2.1)
  (fun x=>Eq.trans (by kernel_rfl:_=wt x.1 x.2.1 (fun y=>ret (ay [.i .i64] y) fun v g=>some (v,g))) (Q9 x.1 x.2.1 _)) fun _ _ h=>h
abbrev VN:List (Nat×bc):= [(206,DW),(207,Ml)]
theorem Ok:au Tryz.prog (aE VN):=ae Mj <| ae VM <| al _
def rV {ρ:Type} (a0:am) (a1:Int) (k:Int×Unit→Option ρ):Option ρ:=
 (jc a0.config a1).bind fun y1=>br (decide (y1.1 < 0)) (k ((-1),())) ((oX a0.log y1.1).bind fun y2=>br (decide (y2.1 < 0)) (k ((-1),())) ((oX a0.learned y2.1).bind fun y3=>br (decide (y3.1 < 0)) (k ((-1),())) (k (y3.1,()))))
def kp (a0:am) (a1:Int):Option (Int×Unit):=rV a0 a1 some
theorem Ra {ρ:Type} (a0:am) (a1:Int) (k:Int×Unit→Option ρ):rV a0 a1 k=(kp a0 a1).bind k:=by
 simp only [kp,rV,ao,Option.bind_assoc,Option.bind_some]
abbrev Mm:bc:=bh [.ty (.st .server), .ty (.i .i64)] [.i .i64] fun x=>kp x.1 x.2.1
theorem VO:ax Tryz.prog 118 Mm:=
 an (Λ:=aF []) (fn:=Tryz.f118) aG Ok af (by kernel_rfl) (az (by kernel_rfl:_= []) ah) (by kernel_rfl) (fun x=>kp x.1 x.2.1)
  (fun x=>Eq.trans (by kernel_rfl:_=rV x.1 x.2.1 (fun y=>ret (ay [.i .i64] y) fun v g=>some (v,g))) (Ra x.1 x.2.1 _)) fun _ _ h=>h
abbrev I4:List (Nat×bc):= [(118,Mm)]
theorem A0:au Tryz.prog (aE I4):=ae VO <| al _
noncomputable abbrev qF:Code:=bV (bT Tryz.f42) 0
abbrev fo:en:=⟨[(0, .cl (.ro (.st .server))),(1, .cl (.int .i64)),(5, .cl (.int .i64))],[],[],0,27⟩
abbrev lK:List (X×en):= [(.ret,⟨[(1, .cl (.int .i64)),(4, .cl (.int .i64))],[],[],0,27⟩),(.ext 0,⟨[(1, .cl (.int .i64)),(4, .cl (.dead))],[],[],0,27⟩)]
def sx {ρ:Type} (v1:List am) (v2:Int) (v3:Int) (fn: (((List am)×Int×Int×Unit)×(Unit)×(Unit))→Option ρ) (fe: ((Int×Int×Unit)×(Unit)×(Unit))⊕((Int×Unit×Unit)×(Unit)×(Unit))→Option ρ):Option ρ:=
 br (decide (v3 < (v1.length:Int))) (aq (0≤v3) ((v1[v3.toNat]?).bind fun x4=>(kp x4 v2).bind fun y5=>br (decide (y5.1 < 0)) (fe (.inl ((y5.1,(-1),()),(()),(())))) (fn ((v1,y5.1,(IntKind.wrap .i64 (v3+1)),()),(()),(())))) none) (fe (.inr ((v2,(),()),(()),(()))))
def iC (s:fo.D):Option (fo.D⊕bg.D lK):=sx s.1.1 s.1.2.1 s.1.2.2.1 (fun s=>some (.inl s)) (fun e=>some (.inr e))
def xf:fo.D→Option (bg.D lK):=ko iC
theorem JI {ρ:Type} (s:fo.D) (fn:fo.D→Option ρ) (fe:bg.D lK→Option ρ):sx s.1.1 s.1.2.1 s.1.2.2.1 fn fe=(iC s).bind (Sum.elim fn fe):=by
 simp only [iC,sx,ao,ap,Option.bind_none,Option.bind_assoc,Option.bind_some,Sum.elim_inl,Sum.elim_inr]
abbrev CY:cW:=df [] [0,1,5] fo lK xf
theorem Hs (s:fo.D):ez Θ (aE I4) (aF []) qF (fo.mk' s) (cU [0,1,5] [1,4] fun x S=>some (x,S))=(iC s).bind (Sum.elim (fun s'=>some (.nor,fo.mk' s')) fun e=>some (bg.e lK e)):=
 Eq.trans (by kernel_rfl:_=sx s.1.1 s.1.2.1 s.1.2.2.1 (fun s'=>some (.nor,fo.mk' s')) (fun e=>some (bg.e lK e))) (JI s _ _)
theorem Ht:bP Tryz.prog qF CY:=aW aG A0 af (by kernel_rfl) (dp (by kernel_rfl:_= []) ah) [] [0,1,5] [1,4] fo lK (by kernel_rfl) iC Hs xf (gf iC) (aL iC)
def uY {ρ:Type} (a0:List am) (a1:Int) (k:Int×Unit→Option ρ):Option ρ:=
 br (decide ((IntKind.wrap .i64 (a1 - (a0.length:Int))) < 0)) (k ((-1),())) ((xf ((a0,(IntKind.wrap .i64 (a1 - (a0.length:Int))),0,()),(()),(()))).bind fun e6=>Sum.elim (fun e6_=>k (e6_.1.2.1,())) (fun e6_=>k (e6_.1.1,())) e6)
def oY (a0:List am) (a1:Int):Option (Int×Unit):=uY a0 a1 some
theorem Ol {ρ:Type} (a0:List am) (a1:Int) (k:Int×Unit→Option ρ):uY a0 a1 k=(oY a0 a1).bind k:=by
 simp only [oY,uY,ao,bR,Option.bind_assoc,Option.bind_some]
abbrev I5:bc:=bh [.ty (.ls (.st .server)), .ty (.i .i64)] [.i .i64] fun x=>oY x.1 x.2.1
theorem TH:ax Tryz.prog 42 I5:=
 an (Λ:=aF [(bU qF,CY)]) (fn:=Tryz.f42) aG A0 af (by kernel_rfl) (az (by kernel_rfl:_= [qF]) (aK (q:=bU qF) rfl Ht fun _ _ _=>by kernel_rfl)) (by kernel_rfl) (fun x=>oY x.1 x.2.1)
  (fun x=>Eq.trans (by kernel_rfl:_=uY x.1 x.2.1 (fun y=>ret (ay [.i .i64] y) fun v g=>some (v,g))) (Ol x.1 x.2.1 _)) fun _ _ h=>h
abbrev I6:List (Nat×bc):= [(206,DW)]
theorem A1:au Tryz.prog (aE I6):=ae Mj <| al _
noncomputable abbrev qG:Code:=bV (bT Tryz.f119) 0
abbrev fp:en:=⟨[(0, .cl (.ro (.st .config))),(1, .cl (.int .i64)),(5, .cl (.int .i64))],[],[],0,27⟩
abbrev lL:List (X×en):= [(.ret,⟨[(1, .cl (.int .i64)),(4, .cl (.int .i64))],[],[],0,27⟩),(.ext 0,⟨[(1, .cl (.int .i64)),(4, .cl (.dead))],[],[],0,27⟩)]
def sy {ρ:Type} (v1:List ai) (v2:Int) (v3:Int) (fn: (((List ai)×Int×Int×Unit)×(Unit)×(Unit))→Option ρ) (fe: ((Int×Int×Unit)×(Unit)×(Unit))⊕((Int×Unit×Unit)×(Unit)×(Unit))→Option ρ):Option ρ:=
 br (decide (v3 < (v1.length:Int))) (aq (0≤v3) ((v1[v3.toNat]?).bind fun x4=>(jc x4 v2).bind fun y5=>br (decide (y5.1 < 0)) (fe (.inl ((y5.1,(-1),()),(()),(())))) (fn ((v1,y5.1,(IntKind.wrap .i64 (v3+1)),()),(()),(())))) none) (fe (.inr ((v2,(),()),(()),(()))))
def iE (s:fp.D):Option (fp.D⊕bg.D lL):=sy s.1.1 s.1.2.1 s.1.2.2.1 (fun s=>some (.inl s)) (fun e=>some (.inr e))
def xg:fp.D→Option (bg.D lL):=ko iE
theorem JJ {ρ:Type} (s:fp.D) (fn:fp.D→Option ρ) (fe:bg.D lL→Option ρ):sy s.1.1 s.1.2.1 s.1.2.2.1 fn fe=(iE s).bind (Sum.elim fn fe):=by
 simp only [iE,sy,ao,ap,Option.bind_none,Option.bind_assoc,Option.bind_some,Sum.elim_inl,Sum.elim_inr]
abbrev CZ:cW:=df [] [0,1,5] fp lL xg
theorem Hu (s:fp.D):ez Θ (aE I6) (aF []) qG (fp.mk' s) (cU [0,1,5] [1,4] fun x S=>some (x,S))=(iE s).bind (Sum.elim (fun s'=>some (.nor,fp.mk' s')) fun e=>some (bg.e lL e)):=
 Eq.trans (by kernel_rfl:_=sy s.1.1 s.1.2.1 s.1.2.2.1 (fun s'=>some (.nor,fp.mk' s')) (fun e=>some (bg.e lL e))) (JJ s _ _)
theorem Hv:bP Tryz.prog qG CZ:=aW aG A1 af (by kernel_rfl) (dp (by kernel_rfl:_= []) ah) [] [0,1,5] [1,4] fp lL (by kernel_rfl) iE Hu xg (gf iE) (aL iE)
def uZ {ρ:Type} (a0:List ai) (a1:Int) (k:Int×Unit→Option ρ):Option ρ:=
 br (decide ((IntKind.wrap .i64 (a1 - (a0.length:Int))) < 0)) (k ((-1),())) ((xg ((a0,(IntKind.wrap .i64 (a1 - (a0.length:Int))),0,()),(()),(()))).bind fun e6=>Sum.elim (fun e6_=>k (e6_.1.2.1,())) (fun e6_=>k (e6_.1.1,())) e6)
def oZ (a0:List ai) (a1:Int):Option (Int×Unit):=uZ a0 a1 some
theorem Om {ρ:Type} (a0:List ai) (a1:Int) (k:Int×Unit→Option ρ):uZ a0 a1 k=(oZ a0 a1).bind k:=by
 simp only [oZ,uZ,ao,bR,Option.bind_assoc,Option.bind_some]
abbrev I7:bc:=bh [.ty (.ls (.st .config)), .ty (.i .i64)] [.i .i64] fun x=>oZ x.1 x.2.1
theorem TJ:ax Tryz.prog 119 I7:=
 an (Λ:=aF [(bU qG,CZ)]) (fn:=Tryz.f119) aG A1 af (by kernel_rfl) (az (by kernel_rfl:_= [qG]) (aK (q:=bU qG) rfl Hv fun _ _ _=>by kernel_rfl)) (by kernel_rfl) (fun x=>oZ x.1 x.2.1)
  (fun x=>Eq.trans (by kernel_rfl:_=uZ x.1 x.2.1 (fun y=>ret (ay [.i .i64] y) fun v g=>some (v,g))) (Om x.1 x.2.1 _)) fun _ _ h=>h
abbrev Oo:List (Nat×bc):= [(119,I7)]
theorem Hw:au Tryz.prog (aE Oo):=ae TJ <| al _
def mq {ρ:Type} (a0:ak) (a1:Int) (k:Int×Unit→Option ρ):Option ρ:=
 (oZ a0.configs a1).bind fun y1=>br (decide (y1.1 < 0)) (k ((-1),())) (k (y1.1,()))
def iG (a0:ak) (a1:Int):Option (Int×Unit):=mq a0 a1 some
theorem JK {ρ:Type} (a0:ak) (a1:Int) (k:Int×Unit→Option ρ):mq a0 a1 k=(iG a0 a1).bind k:=by
 simp only [iG,mq,ao,Option.bind_assoc,Option.bind_some]
abbrev C0:bc:=bh [.ty (.st .masterLog), .ty (.i .i64)] [.i .i64] fun x=>iG x.1 x.2.1
theorem Oq:ax Tryz.prog 44 C0:=
 an (Λ:=aF []) (fn:=Tryz.f44) aG Hw af (by kernel_rfl) (az (by kernel_rfl:_= []) ah) (by kernel_rfl) (fun x=>iG x.1 x.2.1)
  (fun x=>Eq.trans (by kernel_rfl:_=mq x.1 x.2.1 (fun y=>ret (ay [.i .i64] y) fun v g=>some (v,g))) (JK x.1 x.2.1 _)) fun _ _ h=>h
abbrev VP:List (Nat×bc):= []
theorem Ot:au Tryz.prog (aE VP):=al _
def wu {ρ:Type} (a0:List aU) (a1:Int) (k:Int×Unit→Option ρ):Option ρ:=
 br (decide ((IntKind.wrap .i64 (a1 - (a0.length:Int))) < 0)) (k ((-1),())) (k ((IntKind.wrap .i64 (a1 - (a0.length:Int))),()))
def rz (a0:List aU) (a1:Int):Option (Int×Unit):=wu a0 a1 some
theorem Rb {ρ:Type} (a0:List aU) (a1:Int) (k:Int×Unit→Option ρ):wu a0 a1 k=(rz a0 a1).bind k:=by
 simp only [rz,wu,ao,Option.bind_some]
abbrev Mn:bc:=bh [.ty (.ls (.st .place)), .ty (.i .i64)] [.i .i64] fun x=>rz x.1 x.2.1
theorem VQ:ax Tryz.prog 45 Mn:=
 an (Λ:=aF []) (fn:=Tryz.f45) aG Ot af (by kernel_rfl) (az (by kernel_rfl:_= []) ah) (by kernel_rfl) (fun x=>rz x.1 x.2.1)
  (fun x=>Eq.trans (by kernel_rfl:_=wu x.1 x.2.1 (fun y=>ret (ay [.i .i64] y) fun v g=>some (v,g))) (Rb x.1 x.2.1 _)) fun _ _ h=>h
abbrev TK:List (Nat×bc):= [(42,I5),(43,Mi),(44,C0),(45,Mn)]
theorem Mo:au Tryz.prog (aE TK):=ae TH <| ae TG <| ae Oq <| ae VQ <| al _
def pX {ρ:Type} (a0:aj) (a1:Int) (k:Int×Unit→Option ρ):Option ρ:=
 (oY a0.servers a1).bind fun y1=>br (decide (y1.1 < 0)) (k ((-1),())) ((sw a0.sides y1.1).bind fun y2=>br (decide (y2.1 < 0)) (k ((-1),())) ((iG a0.master y2.1).bind fun y3=>br (decide (y3.1 < 0)) (k ((-1),())) ((rz a0.places y3.1).bind fun y4=>br (decide (y4.1 < 0)) (k ((-1),())) (k (y4.1,())))))
def jM (a0:aj) (a1:Int):Option (Int×Unit):=pX a0 a1 some
theorem Ou {ρ:Type} (a0:aj) (a1:Int) (k:Int×Unit→Option ρ):pX a0 a1 k=(jM a0 a1).bind k:=by
 simp only [jM,pX,ao,Option.bind_assoc,Option.bind_some]
abbrev I8:bc:=bh [.ty (.st .cluster), .ty (.i .i64)] [.i .i64] fun x=>jM x.1 x.2.1
theorem TL:ax Tryz.prog 12 I8:=
 an (Λ:=aF []) (fn:=Tryz.f12) aG Mo af (by kernel_rfl) (az (by kernel_rfl:_= []) ah) (by kernel_rfl) (fun x=>jM x.1 x.2.1)
  (fun x=>Eq.trans (by kernel_rfl:_=pX x.1 x.2.1 (fun y=>ret (ay [.i .i64] y) fun v g=>some (v,g))) (Ou x.1 x.2.1 _)) fun _ _ h=>h
abbrev TM:List (Nat×bc):= []
theorem I9:au Tryz.prog (aE TM):=al _
noncomputable abbrev vv:Code:=bV (bT Tryz.f53) 0
abbrev kr:en:=⟨[(0, .cl (.ro (.i .i64))),(3, .cl (.own 0 (.i .i64))),(4, .cl (.int .i64))],[],[.i .i64],0,22⟩
abbrev rA:List (X×en):= [(.ext 0,⟨[(3, .cl (.own 0 (.i .i64)))],[],[.i .i64],0,22⟩)]
def wv {ρ:Type} (v1:List Int) (v2:List Int) (v3:Int) (fn: (((List Int)×Unit×Int×Unit)×(Unit)×((List Int)×Unit))→Option ρ) (fe: ((Unit×Unit)×(Unit)×((List Int)×Unit))→Option ρ):Option ρ:=
 br (decide (v3 < (v2.length:Int))) (aq (0≤v3) ((v2[v3.toNat]?).bind fun x4=>aq (0≤v3∧v3 < (v1.length:Int)) ((v1[v3.toNat]?).bind fun _=>fn ((v2,(),(IntKind.wrap .i64 (v3+1)),()),(()),((v1.set v3.toNat x4),()))) none) none) (fe (((),()),(()),(v1,())))
def o0 (s:kr.D):Option (kr.D⊕bg.D rA):=wv s.2.2.1 s.1.1 s.1.2.2.1 (fun s=>some (.inl s)) (fun e=>some (.inr e))
def DX:kr.D→Option (bg.D rA):=ko o0
theorem Rc {ρ:Type} (s:kr.D) (fn:kr.D→Option ρ) (fe:bg.D rA→Option ρ):wv s.2.2.1 s.1.1 s.1.2.2.1 fn fe=(o0 s).bind (Sum.elim fn fe):=by
 simp only [o0,wv,ao,ap,Option.bind_none,Option.bind_assoc,Option.bind_some,Sum.elim_inl,Sum.elim_inr]
abbrev Mp:cW:=df [] [0,3,4] kr rA DX
theorem Ov (s:kr.D):ez Θ (aE TM) (aF []) vv (kr.mk' s) (cU [0,3,4] [3] fun x S=>some (x,S))=(o0 s).bind (Sum.elim (fun s'=>some (.nor,kr.mk' s')) fun e=>some (bg.e rA e)):=
 Eq.trans (by kernel_rfl:_=wv s.2.2.1 s.1.1 s.1.2.2.1 (fun s'=>some (.nor,kr.mk' s')) (fun e=>some (bg.e rA e))) (Rc s _ _)
theorem Ow:bP Tryz.prog vv Mp:=aW aG I9 af (by kernel_rfl) (dp (by kernel_rfl:_= []) ah) [] [0,3,4] [3] kr rA (by kernel_rfl) o0 Ov DX (gf o0) (aL o0)
def Cn {ρ:Type} (a0:List Int) (k: (List Int)×Unit→Option ρ):Option ρ:=
 aq (0≤(a0.length:Int)∧(a0.length:Int)=(a0.length:Int)∧(a0.length:Int)*((8:Nat):Int)≤2 ^ 40) ((DX ((a0,(),0,()),(()),((List.replicate (a0.length:Int).toNat (0:Int)),()))).bind fun e7=>k (e7.2.2.1,())) none
def sA (a0:List Int):Option ((List Int)×Unit):=Cn a0 some
theorem VS {ρ:Type} (a0:List Int) (k: (List Int)×Unit→Option ρ):Cn a0 k=(sA a0).bind k:=by
 simp only [sA,Cn,ap,Option.bind_none,Option.bind_assoc,Option.bind_some]
abbrev Mq:bc:=bh [.ty (.ls (.i .i64))] [.ls (.i .i64)] fun x=>sA x.1
theorem TN:ax Tryz.prog 53 Mq:=
 an (Λ:=aF [(bU vv,Mp)]) (fn:=Tryz.f53) aG I9 af (by kernel_rfl) (az (by kernel_rfl:_= [vv]) (aK (q:=bU vv) rfl Ow fun _ _ _=>by kernel_rfl)) (by kernel_rfl) (fun x=>sA x.1)
  (fun x=>Eq.trans (by kernel_rfl:_=Cn x.1 (fun y=>ret (ay [.ls (.i .i64)] y) fun v g=>some (v,g))) (VS x.1 _)) fun _ _ h=>h
abbrev VT:List (Nat×bc):= [(53,Mq)]
theorem Ox:au Tryz.prog (aE VT):=ae TN <| al _
def t9 {ρ:Type} (a0:ai) (k:ai×Unit→Option ρ):Option ρ:=
 (sA a0.replicas).bind fun y1=>(sA a0.witnesses).bind fun y2=>k ((⟨a0.epoch,a0.primary,y1.1,y2.1⟩:ai),())
def nv (a0:ai):Option (ai×Unit):=t9 a0 some
theorem Rd {ρ:Type} (a0:ai) (k:ai×Unit→Option ρ):t9 a0 k=(nv a0).bind k:=by
 simp only [nv,t9,Option.bind_assoc,Option.bind_some]
abbrev DY:bc:=bh [.ty (.st .config)] [.st .config] fun x=>nv x.1
theorem Mr:ax Tryz.prog 208 DY:=
 an (Λ:=aF []) (fn:=Tryz.f208) aG Ox af (by kernel_rfl) (az (by kernel_rfl:_= []) ah) (by kernel_rfl) (fun x=>nv x.1)
  (fun x=>Eq.trans (by kernel_rfl:_=t9 x.1 (fun y=>ret (ay [.st .config] y) fun v g=>some (v,g))) (Rd x.1 _)) fun _ _ h=>h
abbrev acO:List (Nat×bc):= []
theorem XM:au Tryz.prog (aE acO):=al _
def Lc {ρ:Type} (a0:Op) (k:Op×Unit→Option ρ):Option ρ:=
 k (a0,())
def Ms (a0:Op):Option (Op×Unit):=Lc a0 some
theorem ZS {ρ:Type} (a0:Op) (k:Op×Unit→Option ρ):Lc a0 k=(Ms a0).bind k:=by
 simp only [Ms,Lc,Option.bind_some]
abbrev ZT:bc:=bh [.ty (.st .op)] [.st .op] fun x=>Ms x.1
theorem acP:ax Tryz.prog 40 ZT:=
 an (Λ:=aF []) (fn:=Tryz.f40) aG XM af (by kernel_rfl) (az (by kernel_rfl:_= []) ah) (by kernel_rfl) (fun x=>Ms x.1)
  (fun x=>Eq.trans (by kernel_rfl:_=Lc x.1 (fun y=>ret (ay [.st .op] y) fun v g=>some (v,g))) (ZS x.1 _)) fun _ _ h=>h
abbrev XN:List (Nat×bc):= [(40,ZT)]
theorem Re:au Tryz.prog (aE XN):=ae acP <| al _
def yK {ρ:Type} (a0:ar) (k:ar×Unit→Option ρ):Option ρ:=
 (Ms a0.op).bind fun y1=>k ((⟨a0.epoch,y1.1⟩:ar),())
def vh (a0:ar):Option (ar×Unit):=yK a0 some
theorem TO {ρ:Type} (a0:ar) (k:ar×Unit→Option ρ):yK a0 k=(vh a0).bind k:=by
 simp only [vh,yK,Option.bind_assoc,Option.bind_some]
abbrev P2:bc:=bh [.ty (.st .entry)] [.st .entry] fun x=>vh x.1
theorem XO:ax Tryz.prog 265 P2:=
 an (Λ:=aF []) (fn:=Tryz.f265) aG Re af (by kernel_rfl) (az (by kernel_rfl:_= []) ah) (by kernel_rfl) (fun x=>vh x.1)
  (fun x=>Eq.trans (by kernel_rfl:_=yK x.1 (fun y=>ret (ay [.st .entry] y) fun v g=>some (v,g))) (TO x.1 _)) fun _ _ h=>h
abbrev Mt:List (Nat×bc):= [(265,P2)]
theorem C1:au Tryz.prog (aE Mt):=ae XO <| al _
noncomputable abbrev sB:Code:=bV (bT Tryz.f209) 0
abbrev gn:en:=⟨[(0, .cl (.ro (.st .entry))),(3, .cl (.own 0 (.st .entry))),(4, .cl (.int .i64))],[],[.st .entry],0,23⟩
abbrev nw:List (X×en):= [(.ext 0,⟨[(3, .cl (.own 0 (.st .entry)))],[],[.st .entry],0,23⟩)]
def tS {ρ:Type} (v1:List ar) (v2:List ar) (v3:Int) (fn: (((List ar)×Unit×Int×Unit)×(Unit)×((List ar)×Unit))→Option ρ) (fe: ((Unit×Unit)×(Unit)×((List ar)×Unit))→Option ρ):Option ρ:=
 br (decide (v3 < (v2.length:Int))) (aq (0≤v3) ((v2[v3.toNat]?).bind fun x4=>(vh x4).bind fun y5=>aq (0≤v3∧v3 < (v1.length:Int)) ((v1[v3.toNat]?).bind fun _=>fn ((v2,(),(IntKind.wrap .i64 (v3+1)),()),(()),((v1.set v3.toNat y5.1),()))) none) none) (fe (((),()),(()),(v1,())))
def lj (s:gn.D):Option (gn.D⊕bg.D nw):=tS s.2.2.1 s.1.1 s.1.2.2.1 (fun s=>some (.inl s)) (fun e=>some (.inr e))
def yL:gn.D→Option (bg.D nw):=ko lj
theorem Mu {ρ:Type} (s:gn.D) (fn:gn.D→Option ρ) (fe:bg.D nw→Option ρ):tS s.2.2.1 s.1.1 s.1.2.2.1 fn fe=(lj s).bind (Sum.elim fn fe):=by
 simp only [lj,tS,ao,ap,Option.bind_none,Option.bind_assoc,Option.bind_some,Sum.elim_inl,Sum.elim_inr]
abbrev Fr:cW:=df [] [0,3,4] gn nw yL
theorem JL (s:gn.D):ez Θ (aE Mt) (aF []) sB (gn.mk' s) (cU [0,3,4] [3] fun x S=>some (x,S))=(lj s).bind (Sum.elim (fun s'=>some (.nor,gn.mk' s')) fun e=>some (bg.e nw e)):=
 Eq.trans (by kernel_rfl:_=tS s.2.2.1 s.1.1 s.1.2.2.1 (fun s'=>some (.nor,gn.mk' s')) (fun e=>some (bg.e nw e))) (Mu s _ _)
theorem JM:bP Tryz.prog sB Fr:=aW aG C1 af (by kernel_rfl) (dp (by kernel_rfl:_= []) ah) [] [0,3,4] [3] gn nw (by kernel_rfl) lj JL yL (gf lj) (aL lj)
def ww {ρ:Type} (a0:List ar) (k: (List ar)×Unit→Option ρ):Option ρ:=
 aq (0≤(a0.length:Int)∧(a0.length:Int)=(a0.length:Int)∧(a0.length:Int)*((56:Nat):Int)≤2 ^ 40) ((yL ((a0,(),0,()),(()),((List.replicate (a0.length:Int).toNat (⟨0,(⟨0,0,0,0,0,0⟩:Op)⟩:ar)),()))).bind fun e8=>k (e8.2.2.1,())) none
def o3 (a0:List ar):Option ((List ar)×Unit):=ww a0 some
theorem Rf {ρ:Type} (a0:List ar) (k: (List ar)×Unit→Option ρ):ww a0 k=(o3 a0).bind k:=by
 simp only [o3,ww,ap,Option.bind_none,Option.bind_assoc,Option.bind_some]
abbrev Mv:bc:=bh [.ty (.ls (.st .entry))] [.ls (.st .entry)] fun x=>o3 x.1
theorem VU:ax Tryz.prog 209 Mv:=
 an (Λ:=aF [(bU sB,Fr)]) (fn:=Tryz.f209) aG C1 af (by kernel_rfl) (az (by kernel_rfl:_= [sB]) (aK (q:=bU sB) rfl JM fun _ _ _=>by kernel_rfl)) (by kernel_rfl) (fun x=>o3 x.1)
  (fun x=>Eq.trans (by kernel_rfl:_=ww x.1 (fun y=>ret (ay [.ls (.st .entry)] y) fun v g=>some (v,g))) (Rf x.1 _)) fun _ _ h=>h
abbrev VV:List (Nat×bc):= [(208,DY),(209,Mv)]
theorem Oy:au Tryz.prog (aE VV):=ae Mr <| ae VU <| al _
def ua {ρ:Type} (a0:am) (k:am×Unit→Option ρ):Option ρ:=
 (nv a0.config).bind fun y1=>(o3 a0.log).bind fun y2=>(o3 a0.learned).bind fun y3=>k ((⟨a0.up,a0.intact,a0.version,a0.epoch,y1.1,a0.first,y2.1,a0.commit,y3.1⟩:am),())
def o4 (a0:am):Option (am×Unit):=ua a0 some
theorem Rg {ρ:Type} (a0:am) (k:am×Unit→Option ρ):ua a0 k=(o4 a0).bind k:=by
 simp only [o4,ua,Option.bind_assoc,Option.bind_some]
abbrev Mw:bc:=bh [.ty (.st .server)] [.st .server] fun x=>o4 x.1
theorem VW:ax Tryz.prog 132 Mw:=
 an (Λ:=aF []) (fn:=Tryz.f132) aG Oy af (by kernel_rfl) (az (by kernel_rfl:_= []) ah) (by kernel_rfl) (fun x=>o4 x.1)
  (fun x=>Eq.trans (by kernel_rfl:_=ua x.1 (fun y=>ret (ay [.st .server] y) fun v g=>some (v,g))) (Rg x.1 _)) fun _ _ h=>h
abbrev Ja:List (Nat×bc):= [(132,Mw)]
theorem A2:au Tryz.prog (aE Ja):=ae VW <| al _
noncomputable abbrev qH:Code:=bV (bT Tryz.f52) 0
abbrev fq:en:=⟨[(0, .cl (.ro (.st .server))),(3, .cl (.own 0 (.st .server))),(4, .cl (.int .i64))],[],[.st .server],0,23⟩
abbrev lM:List (X×en):= [(.ext 0,⟨[(3, .cl (.own 0 (.st .server)))],[],[.st .server],0,23⟩)]
def sC {ρ:Type} (v1:List am) (v2:List am) (v3:Int) (fn: (((List am)×Unit×Int×Unit)×(Unit)×((List am)×Unit))→Option ρ) (fe: ((Unit×Unit)×(Unit)×((List am)×Unit))→Option ρ):Option ρ:=
 br (decide (v3 < (v2.length:Int))) (aq (0≤v3) ((v2[v3.toNat]?).bind fun x4=>(o4 x4).bind fun y5=>aq (0≤v3∧v3 < (v1.length:Int)) ((v1[v3.toNat]?).bind fun _=>fn ((v2,(),(IntKind.wrap .i64 (v3+1)),()),(()),((v1.set v3.toNat y5.1),()))) none) none) (fe (((),()),(()),(v1,())))
def jN (s:fq.D):Option (fq.D⊕bg.D lM):=sC s.2.2.1 s.1.1 s.1.2.2.1 (fun s=>some (.inl s)) (fun e=>some (.inr e))
def xh:fq.D→Option (bg.D lM):=ko jN
theorem JN {ρ:Type} (s:fq.D) (fn:fq.D→Option ρ) (fe:bg.D lM→Option ρ):sC s.2.2.1 s.1.1 s.1.2.2.1 fn fe=(jN s).bind (Sum.elim fn fe):=by
 simp only [jN,sC,ao,ap,Option.bind_none,Option.bind_assoc,Option.bind_some,Sum.elim_inl,Sum.elim_inr]
abbrev C2:cW:=df [] [0,3,4] fq lM xh
theorem Hx (s:fq.D):ez Θ (aE Ja) (aF []) qH (fq.mk' s) (cU [0,3,4] [3] fun x S=>some (x,S))=(jN s).bind (Sum.elim (fun s'=>some (.nor,fq.mk' s')) fun e=>some (bg.e lM e)):=
 Eq.trans (by kernel_rfl:_=sC s.2.2.1 s.1.1 s.1.2.2.1 (fun s'=>some (.nor,fq.mk' s')) (fun e=>some (bg.e lM e))) (JN s _ _)
theorem Hy:bP Tryz.prog qH C2:=aW aG A2 af (by kernel_rfl) (dp (by kernel_rfl:_= []) ah) [] [0,3,4] [3] fq lM (by kernel_rfl) jN Hx xh (gf jN) (aL jN)
def u3 {ρ:Type} (a0:List am) (k: (List am)×Unit→Option ρ):Option ρ:=
 aq (0≤(a0.length:Int)∧(a0.length:Int)=(a0.length:Int)∧(a0.length:Int)*((152:Nat):Int)≤2 ^ 40) ((xh ((a0,(),0,()),(()),((List.replicate (a0.length:Int).toNat (⟨false,false,0,0,(⟨0,0,([]:List Int),([]:List Int)⟩:ai),0,([]:List ar),0,([]:List ar)⟩:am)),()))).bind fun e8=>k (e8.2.2.1,())) none
def o5 (a0:List am):Option ((List am)×Unit):=u3 a0 some
theorem Oz {ρ:Type} (a0:List am) (k: (List am)×Unit→Option ρ):u3 a0 k=(o5 a0).bind k:=by
 simp only [o5,u3,ap,Option.bind_none,Option.bind_assoc,Option.bind_some]
abbrev Jb:bc:=bh [.ty (.ls (.st .server))] [.ls (.st .server)] fun x=>o5 x.1
theorem TP:ax Tryz.prog 52 Jb:=
 an (Λ:=aF [(bU qH,C2)]) (fn:=Tryz.f52) aG A2 af (by kernel_rfl) (az (by kernel_rfl:_= [qH]) (aK (q:=bU qH) rfl Hy fun _ _ _=>by kernel_rfl)) (by kernel_rfl) (fun x=>o5 x.1)
  (fun x=>Eq.trans (by kernel_rfl:_=u3 x.1 (fun y=>ret (ay [.ls (.st .server)] y) fun v g=>some (v,g))) (Oz x.1 _)) fun _ _ h=>h
abbrev Jc:List (Nat×bc):= [(208,DY)]
theorem A3:au Tryz.prog (aE Jc):=ae Mr <| al _
noncomputable abbrev qI:Code:=bV (bT Tryz.f133) 0
abbrev fr:en:=⟨[(0, .cl (.ro (.st .config))),(3, .cl (.own 0 (.st .config))),(4, .cl (.int .i64))],[],[.st .config],0,23⟩
abbrev lN:List (X×en):= [(.ext 0,⟨[(3, .cl (.own 0 (.st .config)))],[],[.st .config],0,23⟩)]
def sD {ρ:Type} (v1:List ai) (v2:List ai) (v3:Int) (fn: (((List ai)×Unit×Int×Unit)×(Unit)×((List ai)×Unit))→Option ρ) (fe: ((Unit×Unit)×(Unit)×((List ai)×Unit))→Option ρ):Option ρ:=
 br (decide (v3 < (v2.length:Int))) (aq (0≤v3) ((v2[v3.toNat]?).bind fun x4=>(nv x4).bind fun y5=>aq (0≤v3∧v3 < (v1.length:Int)) ((v1[v3.toNat]?).bind fun _=>fn ((v2,(),(IntKind.wrap .i64 (v3+1)),()),(()),((v1.set v3.toNat y5.1),()))) none) none) (fe (((),()),(()),(v1,())))
def jO (s:fr.D):Option (fr.D⊕bg.D lN):=sD s.2.2.1 s.1.1 s.1.2.2.1 (fun s=>some (.inl s)) (fun e=>some (.inr e))
def xi:fr.D→Option (bg.D lN):=ko jO
theorem JO {ρ:Type} (s:fr.D) (fn:fr.D→Option ρ) (fe:bg.D lN→Option ρ):sD s.2.2.1 s.1.1 s.1.2.2.1 fn fe=(jO s).bind (Sum.elim fn fe):=by
 simp only [jO,sD,ao,ap,Option.bind_none,Option.bind_assoc,Option.bind_some,Sum.elim_inl,Sum.elim_inr]
abbrev C3:cW:=df [] [0,3,4] fr lN xi
theorem Hz (s:fr.D):ez Θ (aE Jc) (aF []) qI (fr.mk' s) (cU [0,3,4] [3] fun x S=>some (x,S))=(jO s).bind (Sum.elim (fun s'=>some (.nor,fr.mk' s')) fun e=>some (bg.e lN e)):=
 Eq.trans (by kernel_rfl:_=sD s.2.2.1 s.1.1 s.1.2.2.1 (fun s'=>some (.nor,fr.mk' s')) (fun e=>some (bg.e lN e))) (JO s _ _)
theorem HA:bP Tryz.prog qI C3:=aW aG A3 af (by kernel_rfl) (dp (by kernel_rfl:_= []) ah) [] [0,3,4] [3] fr lN (by kernel_rfl) jO Hz xi (gf jO) (aL jO)
def u4 {ρ:Type} (a0:List ai) (k: (List ai)×Unit→Option ρ):Option ρ:=
 aq (0≤(a0.length:Int)∧(a0.length:Int)=(a0.length:Int)∧(a0.length:Int)*((64:Nat):Int)≤2 ^ 40) ((xi ((a0,(),0,()),(()),((List.replicate (a0.length:Int).toNat (⟨0,0,([]:List Int),([]:List Int)⟩:ai)),()))).bind fun e8=>k (e8.2.2.1,())) none
def o6 (a0:List ai):Option ((List ai)×Unit):=u4 a0 some
theorem OA {ρ:Type} (a0:List ai) (k: (List ai)×Unit→Option ρ):u4 a0 k=(o6 a0).bind k:=by
 simp only [o6,u4,ap,Option.bind_none,Option.bind_assoc,Option.bind_some]
abbrev Jd:bc:=bh [.ty (.ls (.st .config))] [.ls (.st .config)] fun x=>o6 x.1
theorem TQ:ax Tryz.prog 133 Jd:=
 an (Λ:=aF [(bU qI,C3)]) (fn:=Tryz.f133) aG A3 af (by kernel_rfl) (az (by kernel_rfl:_= [qI]) (aK (q:=bU qI) rfl HA fun _ _ _=>by kernel_rfl)) (by kernel_rfl) (fun x=>o6 x.1)
  (fun x=>Eq.trans (by kernel_rfl:_=u4 x.1 (fun y=>ret (ay [.ls (.st .config)] y) fun v g=>some (v,g))) (OA x.1 _)) fun _ _ h=>h
abbrev OB:List (Nat×bc):= [(133,Jd)]
theorem HB:au Tryz.prog (aE OB):=ae TQ <| al _
def o7 {ρ:Type} (a0:ak) (k:ak×Unit→Option ρ):Option ρ:=
 (o6 a0.configs).bind fun y1=>k ((⟨y1.1,a0.activated⟩:ak),())
def lO (a0:ak):Option (ak×Unit):=o7 a0 some
theorem JP {ρ:Type} (a0:ak) (k:ak×Unit→Option ρ):o7 a0 k=(lO a0).bind k:=by
 simp only [lO,o7,Option.bind_assoc,Option.bind_some]
abbrev C4:bc:=bh [.ty (.st .masterLog)] [.st .masterLog] fun x=>lO x.1
theorem OC:ax Tryz.prog 54 C4:=
 an (Λ:=aF []) (fn:=Tryz.f54) aG HB af (by kernel_rfl) (az (by kernel_rfl:_= []) ah) (by kernel_rfl) (fun x=>lO x.1)
  (fun x=>Eq.trans (by kernel_rfl:_=o7 x.1 (fun y=>ret (ay [.st .masterLog] y) fun v g=>some (v,g))) (JP x.1 _)) fun _ _ h=>h
abbrev XP:List (Nat×bc):= []
theorem Ri:au Tryz.prog (aE XP):=al _
def yM {ρ:Type} (a0:eg) (k:eg×Unit→Option ρ):Option ρ:=
 k (a0,())
def vi (a0:eg):Option (eg×Unit):=yM a0 some
theorem TR {ρ:Type} (a0:eg) (k:eg×Unit→Option ρ):yM a0 k=(vi a0).bind k:=by
 simp only [vi,yM,Option.bind_some]
abbrev P3:bc:=bh [.ty (.st .lease)] [.st .lease] fun x=>vi x.1
theorem XQ:ax Tryz.prog 55 P3:=
 an (Λ:=aF []) (fn:=Tryz.f55) aG Ri af (by kernel_rfl) (az (by kernel_rfl:_= []) ah) (by kernel_rfl) (fun x=>vi x.1)
  (fun x=>Eq.trans (by kernel_rfl:_=yM x.1 (fun y=>ret (ay [.st .lease] y) fun v g=>some (v,g))) (TR x.1 _)) fun _ _ h=>h
abbrev XR:List (Nat×bc):= []
theorem Rj:au Tryz.prog (aE XR):=al _
def yN {ρ:Type} (a0:aU) (k:aU×Unit→Option ρ):Option ρ:=
 k (a0,())
def vj (a0:aU):Option (aU×Unit):=yN a0 some
theorem TT {ρ:Type} (a0:aU) (k:aU×Unit→Option ρ):yN a0 k=(vj a0).bind k:=by
 simp only [vj,yN,Option.bind_some]
abbrev P4:bc:=bh [.ty (.st .place)] [.st .place] fun x=>vj x.1
theorem XS:ax Tryz.prog 134 P4:=
 an (Λ:=aF []) (fn:=Tryz.f134) aG Rj af (by kernel_rfl) (az (by kernel_rfl:_= []) ah) (by kernel_rfl) (fun x=>vj x.1)
  (fun x=>Eq.trans (by kernel_rfl:_=yN x.1 (fun y=>ret (ay [.st .place] y) fun v g=>some (v,g))) (TT x.1 _)) fun _ _ h=>h
abbrev Mx:List (Nat×bc):= [(134,P4)]
theorem C5:au Tryz.prog (aE Mx):=ae XS <| al _
noncomputable abbrev sE:Code:=bV (bT Tryz.f56) 0
abbrev gp:en:=⟨[(0, .cl (.ro (.st .place))),(3, .cl (.own 0 (.st .place))),(4, .cl (.int .i64))],[],[.st .place],0,23⟩
abbrev nx:List (X×en):= [(.ext 0,⟨[(3, .cl (.own 0 (.st .place)))],[],[.st .place],0,23⟩)]
def tT {ρ:Type} (v1:List aU) (v2:List aU) (v3:Int) (fn: (((List aU)×Unit×Int×Unit)×(Unit)×((List aU)×Unit))→Option ρ) (fe: ((Unit×Unit)×(Unit)×((List aU)×Unit))→Option ρ):Option ρ:=
 br (decide (v3 < (v2.length:Int))) (aq (0≤v3) ((v2[v3.toNat]?).bind fun x4=>(vj x4).bind fun y5=>aq (0≤v3∧v3 < (v1.length:Int)) ((v1[v3.toNat]?).bind fun _=>fn ((v2,(),(IntKind.wrap .i64 (v3+1)),()),(()),((v1.set v3.toNat y5.1),()))) none) none) (fe (((),()),(()),(v1,())))
def ll (s:gp.D):Option (gp.D⊕bg.D nx):=tT s.2.2.1 s.1.1 s.1.2.2.1 (fun s=>some (.inl s)) (fun e=>some (.inr e))
def yO:gp.D→Option (bg.D nx):=ko ll
theorem My {ρ:Type} (s:gp.D) (fn:gp.D→Option ρ) (fe:bg.D nx→Option ρ):tT s.2.2.1 s.1.1 s.1.2.2.1 fn fe=(ll s).bind (Sum.elim fn fe):=by
 simp only [ll,tT,ao,ap,Option.bind_none,Option.bind_assoc,Option.bind_some,Sum.elim_inl,Sum.elim_inr]
abbrev Fs:cW:=df [] [0,3,4] gp nx yO
theorem JQ (s:gp.D):ez Θ (aE Mx) (aF []) sE (gp.mk' s) (cU [0,3,4] [3] fun x S=>some (x,S))=(ll s).bind (Sum.elim (fun s'=>some (.nor,gp.mk' s')) fun e=>some (bg.e nx e)):=
 Eq.trans (by kernel_rfl:_=tT s.2.2.1 s.1.1 s.1.2.2.1 (fun s'=>some (.nor,gp.mk' s')) (fun e=>some (bg.e nx e))) (My s _ _)
theorem JR:bP Tryz.prog sE Fs:=aW aG C5 af (by kernel_rfl) (dp (by kernel_rfl:_= []) ah) [] [0,3,4] [3] gp nx (by kernel_rfl) ll JQ yO (gf ll) (aL ll)
def wx {ρ:Type} (a0:List aU) (k: (List aU)×Unit→Option ρ):Option ρ:=
 aq (0≤(a0.length:Int)∧(a0.length:Int)=(a0.length:Int)∧(a0.length:Int)*((24:Nat):Int)≤2 ^ 40) ((yO ((a0,(),0,()),(()),((List.replicate (a0.length:Int).toNat (⟨0,0,0⟩:aU)),()))).bind fun e8=>k (e8.2.2.1,())) none
def rB (a0:List aU):Option ((List aU)×Unit):=wx a0 some
theorem Rk {ρ:Type} (a0:List aU) (k: (List aU)×Unit→Option ρ):wx a0 k=(rB a0).bind k:=by
 simp only [rB,wx,ap,Option.bind_none,Option.bind_assoc,Option.bind_some]
abbrev Mz:bc:=bh [.ty (.ls (.st .place))] [.ls (.st .place)] fun x=>rB x.1
theorem VX:ax Tryz.prog 56 Mz:=
 an (Λ:=aF [(bU sE,Fs)]) (fn:=Tryz.f56) aG C5 af (by kernel_rfl) (az (by kernel_rfl:_= [sE]) (aK (q:=bU sE) rfl JR fun _ _ _=>by kernel_rfl)) (by kernel_rfl) (fun x=>rB x.1)
  (fun x=>Eq.trans (by kernel_rfl:_=wx x.1 (fun y=>ret (ay [.ls (.st .place)] y) fun v g=>some (v,g))) (Rk x.1 _)) fun _ _ h=>h
abbrev TU:List (Nat×bc):= [(52,Jb),(53,Mq),(54,C4),(55,P3),(56,Mz)]
theorem MA:au Tryz.prog (aE TU):=ae TP <| ae TN <| ae OC <| ae XQ <| ae VX <| al _
def sF {ρ:Type} (a0:aj) (k:aj×Unit→Option ρ):Option ρ:=
 (o5 a0.servers).bind fun y1=>(sA a0.sides).bind fun y2=>(lO a0.master).bind fun y3=>(vi a0.lease).bind fun y4=>(rB a0.places).bind fun y5=>k ((⟨a0.now,y1.1,y2.1,y3.1,a0.masterUp,y4.1,y5.1⟩:aj),())
def iJ (a0:aj):Option (aj×Unit):=sF a0 some
theorem OD {ρ:Type} (a0:aj) (k:aj×Unit→Option ρ):sF a0 k=(iJ a0).bind k:=by
 simp only [iJ,sF,Option.bind_assoc,Option.bind_some]
abbrev Je:bc:=bh [.ty (.st .cluster)] [.st .cluster] fun x=>iJ x.1
theorem TV:ax Tryz.prog 14 Je:=
 an (Λ:=aF []) (fn:=Tryz.f14) aG MA af (by kernel_rfl) (az (by kernel_rfl:_= []) ah) (by kernel_rfl) (fun x=>iJ x.1)
  (fun x=>Eq.trans (by kernel_rfl:_=sF x.1 (fun y=>ret (ay [.st .cluster] y) fun v g=>some (v,g))) (OD x.1 _)) fun _ _ h=>h
abbrev ZU:List (Nat×bc):= []
theorem TW:au Tryz.prog (aE ZU):=al _
def tC {ρ:Type} (a0:ai) (k:ai×Unit→Option ρ):Option ρ:=
 aq ((([]:List Int)++a0.replicas).length*8≤2 ^ 40) (aq ((([]:List Int)++a0.witnesses).length*8≤2 ^ 40) (k ((⟨a0.epoch,a0.primary,(([]:List Int)++a0.replicas),(([]:List Int)++a0.witnesses)⟩:ai),())) none) none
def jt (a0:ai):Option (ai×Unit):=tC a0 some
theorem VY {ρ:Type} (a0:ai) (k:ai×Unit→Option ρ):tC a0 k=(jt a0).bind k:=by
 simp only [jt,tC,ap,Option.bind_none,Option.bind_some]
abbrev xO:bc:=bh [.ty (.st .config)] [.st .config] fun x=>jt x.1
theorem A4:ax Tryz.prog 170 xO:=
 an (Λ:=aF []) (fn:=Tryz.f170) aG TW af (by kernel_rfl) (az (by kernel_rfl:_= []) ah) (by kernel_rfl) (fun x=>jt x.1)
  (fun x=>Eq.trans (by kernel_rfl:_=tC x.1 (fun y=>ret (ay [.st .config] y) fun v g=>some (v,g))) (VY x.1 _)) fun _ _ h=>h
abbrev ZV:List (Nat×bc):= []
theorem TX:au Tryz.prog (aE ZV):=al _
def tD {ρ:Type} (a0:List ar) (k: (List ar)×Unit→Option ρ):Option ρ:=
 aq ((([]:List ar)++a0).length*56≤2 ^ 40) (k ((([]:List ar)++a0),())) none
def ju (a0:List ar):Option ((List ar)×Unit):=tD a0 some
theorem VZ {ρ:Type} (a0:List ar) (k: (List ar)×Unit→Option ρ):tD a0 k=(ju a0).bind k:=by
 simp only [ju,tD,ap,Option.bind_none,Option.bind_some]
abbrev A5:bc:=bh [.ty (.ls (.st .entry))] [.ls (.st .entry)] fun x=>ju x.1
theorem Ft:ax Tryz.prog 79 A5:=
 an (Λ:=aF []) (fn:=Tryz.f79) aG TX af (by kernel_rfl) (az (by kernel_rfl:_= []) ah) (by kernel_rfl) (fun x=>ju x.1)
  (fun x=>Eq.trans (by kernel_rfl:_=tD x.1 (fun y=>ret (ay [.ls (.st .entry)] y) fun v g=>some (v,g))) (VZ x.1 _)) fun _ _ h=>h
abbrev XT:List (Nat×bc):= [(170,xO),(79,A5)]
theorem Rl:au Tryz.prog (aE XT):=ae A4 <| ae Ft <| al _
def vw {ρ:Type} (a0:am) (k:am×Unit→Option ρ):Option ρ:=
 (jt a0.config).bind fun y1=>(ju a0.log).bind fun y2=>(ju a0.learned).bind fun y3=>k ((⟨a0.up,a0.intact,a0.version,a0.epoch,y1.1,a0.first,y2.1,a0.commit,y3.1⟩:am),())
def j6 (a0:am):Option (am×Unit):=vw a0 some
theorem TY {ρ:Type} (a0:am) (k:am×Unit→Option ρ):vw a0 k=(j6 a0).bind k:=by
 simp only [j6,vw,Option.bind_assoc,Option.bind_some]
abbrev HC:bc:=bh [.ty (.st .server)] [.st .server] fun x=>j6 x.1
theorem P5:ax Tryz.prog 154 HC:=
 an (Λ:=aF []) (fn:=Tryz.f154) aG Rl af (by kernel_rfl) (az (by kernel_rfl:_= []) ah) (by kernel_rfl) (fun x=>j6 x.1)
  (fun x=>Eq.trans (by kernel_rfl:_=vw x.1 (fun y=>ret (ay [.st .server] y) fun v g=>some (v,g))) (TY x.1 _)) fun _ _ h=>h
abbrev P6:List (Nat×bc):= [(170,xO)]
theorem Fu:au Tryz.prog (aE P6):=ae A4 <| al _
noncomputable abbrev ub:Code:=bV (bT Tryz.f155) 0
abbrev iK:en:=⟨[(1, .cl (.ptr 0 0)),(2, .cl (.ptr 1 0)),(3, .cl (.ptr 2 0)),(4, .cl (.int .i64))],[[.ro (.st .config), .int .i64],[.em, .int .i64],[.own 0 (.st .config), .int .i64]],[.st .config],0,29⟩
abbrev o8:List (X×en):= [(.ext 0,⟨[(2, .cl (.ptr 0 0)),(3, .cl (.ptr 1 0))],[[.em, .int .i64],[.own 0 (.st .config), .int .i64]],[.st .config],0,29⟩)]
def pY {ρ:Type} (v8:List ai) (v9:Int) (v10:List ai) (v11:Int) (v12:Int) (v13:Int) (fn: ((Unit×Unit×Unit×Int×Unit)×(((List ai)×Int×Unit)×(Unit×Int×Unit)×(Unit×Int×Unit)×Unit)×((List ai)×Unit))→Option ρ) (fe: ((Unit×Unit×Unit)×((Unit×Int×Unit)×(Unit×Int×Unit)×Unit)×((List ai)×Unit))→Option ρ):Option ρ:=
 br (decide (v9 < (v10.length:Int))) (aq (0≤v9) ((v10[v9.toNat]?).bind fun x14=>(jt x14).bind fun y15=>aq ((v8++([y15.1]:List ai)).length*64≤2 ^ 40) (fn (((),(),(),(IntKind.wrap .i64 (v9+1)),()),((v10,v11,()),((),v12,()),((),v13,()),()),((v8++([y15.1]:List ai)),()))) none) none) (fe (((),(),()),(((),v12,()),((),v13,()),()),(v8,())))
def jP (s:iK.D):Option (iK.D⊕bg.D o8):=pY s.2.2.1 s.1.2.2.2.1 s.2.1.1.1 s.2.1.1.2.1 s.2.1.2.1.2.1 s.2.1.2.2.1.2.1 (fun s=>some (.inl s)) (fun e=>some (.inr e))
def wy:iK.D→Option (bg.D o8):=ko jP
theorem OE {ρ:Type} (s:iK.D) (fn:iK.D→Option ρ) (fe:bg.D o8→Option ρ):pY s.2.2.1 s.1.2.2.2.1 s.2.1.1.1 s.2.1.1.2.1 s.2.1.2.1.2.1 s.2.1.2.2.1.2.1 fn fe=(jP s).bind (Sum.elim fn fe):=by
 simp only [jP,pY,ao,ap,Option.bind_none,Option.bind_assoc,Option.bind_some,Sum.elim_inl,Sum.elim_inr]
abbrev Jf:cW:=df [.b 2 0 (.st .config)] [1,2,3,4] iK o8 wy
theorem MB (s:iK.D):ez Θ (aE P6) (aF []) ub (iK.mk' s) (cU [1,2,3,4] [2,3] fun x S=>some (x,S))=(jP s).bind (Sum.elim (fun s'=>some (.nor,iK.mk' s')) fun e=>some (bg.e o8 e)):=
 Eq.trans (by kernel_rfl:_=pY s.2.2.1 s.1.2.2.2.1 s.2.1.1.1 s.2.1.1.2.1 s.2.1.2.1.2.1 s.2.1.2.2.1.2.1 (fun s'=>some (.nor,iK.mk' s')) (fun e=>some (bg.e o8 e))) (OE s _ _)
theorem MC:bP Tryz.prog ub Jf:=aW aG Fu af (by kernel_rfl) (dp (by kernel_rfl:_= []) ah) [.b 2 0 (.st .config)] [1,2,3,4] [2,3] iK o8 (by kernel_rfl) jP MB wy (gf jP) (aL jP)
def vx {ρ:Type} (a0:ak) (k:ak×Unit→Option ρ):Option ρ:=
 (wy (((),(),(),0,()),((a0.configs,a0.activated,()),((),0,()),((),a0.activated,()),()),(([]:List ai),()))).bind fun e16=>k ((⟨e16.2.2.1,e16.2.1.2.1.2.1⟩:ak),())
def pZ (a0:ak):Option (ak×Unit):=vx a0 some
theorem TZ {ρ:Type} (a0:ak) (k:ak×Unit→Option ρ):vx a0 k=(pZ a0).bind k:=by
 simp only [pZ,vx,Option.bind_assoc,Option.bind_some]
abbrev Co:bc:=bh [.ty (.st .masterLog)] [.st .masterLog] fun x=>pZ x.1
theorem HD:ax Tryz.prog 155 Co:=
 an (Λ:=aF [(bU ub,Jf)]) (fn:=Tryz.f155) aG Fu af (by kernel_rfl) (az (by kernel_rfl:_= [ub]) (aK (q:=bU ub) rfl MC fun _ _ _=>by kernel_rfl)) (by kernel_rfl) (fun x=>pZ x.1)
  (fun x=>Eq.trans (by kernel_rfl:_=vx x.1 (fun y=>ret (ay [.st .masterLog] y) fun v g=>some (v,g))) (TZ x.1 _)) fun _ _ h=>h
abbrev P7:List (Nat×bc):= [(154,HC),(155,Co)]
theorem Fv:au Tryz.prog (aE P7):=ae P5 <| ae HD <| al _
noncomputable abbrev uc:Code:=bV (bT Tryz.f82) 0
abbrev iL:en:=⟨[(1, .cl (.ptr 0 0)),(2, .cl (.ptr 1 0)),(3, .cl (.ptr 2 0)),(4, .cl (.int .i64))],[[.int .i64, .ro (.st .server), .ro (.i .i64), .ro (.st .config), .int .i64, .int .i64, .int .i64, .int .i64, .int .i64, .ro (.st .place)],[.int .i64, .em, .em, .em, .int .i64, .int .i64, .int .i64, .int .i64, .int .i64, .em],[.int .i64, .own 0 (.st .server), .ro (.i .i64), .ro (.st .config), .int .i64, .int .i64, .int .i64, .int .i64, .int .i64, .ro (.st .place)]],[.st .server],0,42⟩
abbrev o9:List (X×en):= [(.ext 0,⟨[(1, .cl (.ptr 0 0)),(2, .cl (.ptr 1 0)),(3, .cl (.ptr 2 0))],[[.int .i64, .ro (.st .server), .ro (.i .i64), .ro (.st .config), .int .i64, .int .i64, .int .i64, .int .i64, .int .i64, .ro (.st .place)],[.int .i64, .em, .em, .em, .int .i64, .int .i64, .int .i64, .int .i64, .int .i64, .em],[.int .i64, .own 0 (.st .server), .ro (.i .i64), .ro (.st .config), .int .i64, .int .i64, .int .i64, .int .i64, .int .i64, .ro (.st .place)]],[.st .server],0,42⟩)]
def p6 {ρ:Type} (v29:List am) (v30:Int) (v31:Int) (v32:List am) (v33:List Int) (v34:List ai) (v35:Int) (v36:Int) (v37:Int) (v38:Int) (v39:Int) (v40:List aU) (v41:Int) (v42:Int) (v43:Int) (v44:Int) (v45:Int) (v46:Int) (v47:Int) (v48:List Int) (v49:List ai) (v50:Int) (v51:Int) (v52:Int) (v53:Int) (v54:Int) (v55:List aU) (fn: ((Unit×Unit×Unit×Int×Unit)×((Int×(List am)×(List Int)×(List ai)×Int×Int×Int×Int×Int×(List aU)×Unit)×(Int×Unit×Unit×Unit×Int×Int×Int×Int×Int×Unit×Unit)×(Int×Unit×(List Int)×(List ai)×Int×Int×Int×Int×Int×(List aU)×Unit)×Unit)×((List am)×Unit))→Option ρ) (fe: ((Unit×Unit×Unit×Unit)×((Int×(List am)×(List Int)×(List ai)×Int×Int×Int×Int×Int×(List aU)×Unit)×(Int×Unit×Unit×Unit×Int×Int×Int×Int×Int×Unit×Unit)×(Int×Unit×(List Int)×(List ai)×Int×Int×Int×Int×Int×(List aU)×Unit)×Unit)×((List am)×Unit))→Option ρ):Option ρ:=
 br (decide (v30 < (v32.length:Int))) (aq (0≤v30) ((v32[v30.toNat]?).bind fun x56=>(j6 x56).bind fun y57=>aq ((v29++([y57.1]:List am)).length*152≤2 ^ 40) (fn (((),(),(),(IntKind.wrap .i64 (v30+1)),()),((v31,v32,v33,v34,v35,v36,v37,v38,v39,v40,()),(v41,(),(),(),v42,v43,v44,v45,v46,(),()),(v47,(),v48,v49,v50,v51,v52,v53,v54,v55,()),()),((v29++([y57.1]:List am)),()))) none) none) (fe (((),(),(),()),((v31,v32,v33,v34,v35,v36,v37,v38,v39,v40,()),(v41,(),(),(),v42,v43,v44,v45,v46,(),()),(v47,(),v48,v49,v50,v51,v52,v53,v54,v55,()),()),(v29,())))
def jQ (s:iL.D):Option (iL.D⊕bg.D o9):=p6 s.2.2.1 s.1.2.2.2.1 s.2.1.1.1 s.2.1.1.2.1 s.2.1.1.2.2.1 s.2.1.1.2.2.2.1 s.2.1.1.2.2.2.2.1 s.2.1.1.2.2.2.2.2.1 s.2.1.1.2.2.2.2.2.2.1 s.2.1.1.2.2.2.2.2.2.2.1 s.2.1.1.2.2.2.2.2.2.2.2.1 s.2.1.1.2.2.2.2.2.2.2.2.2.1 s.2.1.2.1.1 s.2.1.2.1.2.2.2.2.1 s.2.1.2.1.2.2.2.2.2.1 s.2.1.2.1.2.2.2.2.2.2.1 s.2.1.2.1.2.2.2.2.2.2.2.1 s.2.1.2.1.2.2.2.2.2.2.2.2.1 s.2.1.2.2.1.1 s.2.1.2.2.1.2.2.1 s.2.1.2.2.1.2.2.2.1 s.2.1.2.2.1.2.2.2.2.1 s.2.1.2.2.1.2.2.2.2.2.1 s.2.1.2.2.1.2.2.2.2.2.2.1 s.2.1.2.2.1.2.2.2.2.2.2.2.1 s.2.1.2.2.1.2.2.2.2.2.2.2.2.1 s.2.1.2.2.1.2.2.2.2.2.2.2.2.2.1 (fun s=>some (.inl s)) (fun e=>some (.inr e))
def wz:iL.D→Option (bg.D o9):=ko jQ
theorem OF {ρ:Type} (s:iL.D) (fn:iL.D→Option ρ) (fe:bg.D o9→Option ρ):p6 s.2.2.1 s.1.2.2.2.1 s.2.1.1.1 s.2.1.1.2.1 s.2.1.1.2.2.1 s.2.1.1.2.2.2.1 s.2.1.1.2.2.2.2.1 s.2.1.1.2.2.2.2.2.1 s.2.1.1.2.2.2.2.2.2.1 s.2.1.1.2.2.2.2.2.2.2.1 s.2.1.1.2.2.2.2.2.2.2.2.1 s.2.1.1.2.2.2.2.2.2.2.2.2.1 s.2.1.2.1.1 s.2.1.2.1.2.2.2.2.1 s.2.1.2.1.2.2.2.2.2.1 s.2.1.2.1.2.2.2.2.2.2.1 s.2.1.2.1.2.2.2.2.2.2.2.1 s.2.1.2.1.2.2.2.2.2.2.2.2.1 s.2.1.2.2.1.1 s.2.1.2.2.1.2.2.1 s.2.1.2.2.1.2.2.2.1 s.2.1.2.2.1.2.2.2.2.1 s.2.1.2.2.1.2.2.2.2.2.1 s.2.1.2.2.1.2.2.2.2.2.2.1 s.2.1.2.2.1.2.2.2.2.2.2.2.1 s.2.1.2.2.1.2.2.2.2.2.2.2.2.1 s.2.1.2.2.1.2.2.2.2.2.2.2.2.2.1 fn fe=(jQ s).bind (Sum.elim fn fe):=by
 simp only [jQ,p6,ao,ap,Option.bind_none,Option.bind_assoc,Option.bind_some,Sum.elim_inl,Sum.elim_inr]
abbrev Jg:cW:=df [.b 2 1 (.st .server)] [1,2,3,4] iL o9 wz
theorem MD (s:iL.D):ez Θ (aE P7) (aF []) uc (iL.mk' s) (cU [1,2,3,4] [1,2,3] fun x S=>some (x,S))=(jQ s).bind (Sum.elim (fun s'=>some (.nor,iL.mk' s')) fun e=>some (bg.e o9 e)):=
 Eq.trans (by kernel_rfl:_=p6 s.2.2.1 s.1.2.2.2.1 s.2.1.1.1 s.2.1.1.2.1 s.2.1.1.2.2.1 s.2.1.1.2.2.2.1 s.2.1.1.2.2.2.2.1 s.2.1.1.2.2.2.2.2.1 s.2.1.1.2.2.2.2.2.2.1 s.2.1.1.2.2.2.2.2.2.2.1 s.2.1.1.2.2.2.2.2.2.2.2.1 s.2.1.1.2.2.2.2.2.2.2.2.2.1 s.2.1.2.1.1 s.2.1.2.1.2.2.2.2.1 s.2.1.2.1.2.2.2.2.2.1 s.2.1.2.1.2.2.2.2.2.2.1 s.2.1.2.1.2.2.2.2.2.2.2.1 s.2.1.2.1.2.2.2.2.2.2.2.2.1 s.2.1.2.2.1.1 s.2.1.2.2.1.2.2.1 s.2.1.2.2.1.2.2.2.1 s.2.1.2.2.1.2.2.2.2.1 s.2.1.2.2.1.2.2.2.2.2.1 s.2.1.2.2.1.2.2.2.2.2.2.1 s.2.1.2.2.1.2.2.2.2.2.2.2.1 s.2.1.2.2.1.2.2.2.2.2.2.2.2.1 s.2.1.2.2.1.2.2.2.2.2.2.2.2.2.1 (fun s'=>some (.nor,iL.mk' s')) (fun e=>some (bg.e o9 e))) (OF s _ _)
theorem ME:bP Tryz.prog uc Jg:=aW aG Fv af (by kernel_rfl) (dp (by kernel_rfl:_= []) ah) [.b 2 1 (.st .server)] [1,2,3,4] [1,2,3] iL o9 (by kernel_rfl) jQ MD wz (gf jQ) (aL jQ)
def vy {ρ:Type} (a0:aj) (k:aj×Unit→Option ρ):Option ρ:=
 (wz (((),(),(),0,()),((a0.now,a0.servers,a0.sides,a0.master.configs,a0.master.activated,a0.masterUp,a0.lease.epoch,a0.lease.holder,a0.lease.ends,a0.places,()),(0,(),(),(),0,0,0,0,0,(),()),(a0.now,(),a0.sides,a0.master.configs,a0.master.activated,a0.masterUp,a0.lease.epoch,a0.lease.holder,a0.lease.ends,a0.places,()),()),(([]:List am),()))).bind fun e58=>aq ((([]:List Int)++e58.2.1.1.2.2.1).length*8≤2 ^ 40) ((pZ (⟨e58.2.1.1.2.2.2.1,e58.2.1.1.2.2.2.2.1⟩:ak)).bind fun y59=>aq ((([]:List aU)++e58.2.1.1.2.2.2.2.2.2.2.2.2.1).length*24≤2 ^ 40) (k ((⟨e58.2.1.2.2.1.1,e58.2.2.1,(([]:List Int)++e58.2.1.1.2.2.1),y59.1,e58.2.1.2.2.1.2.2.2.2.2.1,(⟨e58.2.1.2.2.1.2.2.2.2.2.2.1,e58.2.1.2.2.1.2.2.2.2.2.2.2.1,e58.2.1.2.2.1.2.2.2.2.2.2.2.2.1⟩:eg),(([]:List aU)++e58.2.1.1.2.2.2.2.2.2.2.2.2.1)⟩:aj),())) none) none
def tE (a0:aj):Option (aj×Unit):=vy a0 some
theorem T0 {ρ:Type} (a0:aj) (k:aj×Unit→Option ρ):vy a0 k=(tE a0).bind k:=by
 simp only [tE,vy,ap,Option.bind_none,Option.bind_assoc,Option.bind_some]
abbrev P8:bc:=bh [.ty (.st .cluster)] [.st .cluster] fun x=>tE x.1
theorem XU:ax Tryz.prog 82 P8:=
 an (Λ:=aF [(bU uc,Jg)]) (fn:=Tryz.f82) aG Fv af (by kernel_rfl) (az (by kernel_rfl:_= [uc]) (aK (q:=bU uc) rfl ME fun _ _ _=>by kernel_rfl)) (by kernel_rfl) (fun x=>tE x.1)
  (fun x=>Eq.trans (by kernel_rfl:_=vy x.1 (fun y=>ret (ay [.st .cluster] y) fun v g=>some (v,g))) (T0 x.1 _)) fun _ _ h=>h
abbrev acQ:List (Nat×bc):= []
theorem XV:au Tryz.prog (aE acQ):=al _
def Fw {ρ:Type} (a0:Int) (a1:Int) (a2:Int) (k:Bool×Unit→Option ρ):Option ρ:=
 br (decide (a0≥a1)) (k ((decide (a0≤a2)),())) (k (false,()))
def eA (a0:Int) (a1:Int) (a2:Int):Option (Bool×Unit):=Fw a0 a1 a2 some
theorem ZW {ρ:Type} (a0:Int) (a1:Int) (a2:Int) (k:Bool×Unit→Option ρ):Fw a0 a1 a2 k=(eA a0 a1 a2).bind k:=by
 simp only [eA,Fw,ao,Option.bind_some]
abbrev rC:bc:=bh [.ty (.i .i64), .ty (.i .i64), .ty (.i .i64)] [.b] fun x=>eA x.1 x.2.1 x.2.2.1
theorem sG:ax Tryz.prog 120 rC:=
 an (Λ:=aF []) (fn:=Tryz.f120) aG XV af (by kernel_rfl) (az (by kernel_rfl:_= []) ah) (by kernel_rfl) (fun x=>eA x.1 x.2.1 x.2.2.1)
  (fun x=>Eq.trans (by kernel_rfl:_=Fw x.1 x.2.1 x.2.2.1 (fun y=>ret (ay [.b] y) fun v g=>some (v,g))) (ZW x.1 x.2.1 x.2.2.1 _)) fun _ _ h=>h
abbrev Fx:List (Nat×bc):= [(120,rC)]
theorem zy:au Tryz.prog (aE Fx):=ae sG <| al _
noncomputable abbrev pa:Code:=bV (bT Tryz.f224) 0
abbrev eB:en:=⟨[(0, .cl (.ro (.i .i64))),(3, .cl (.int .i64))],[],[],0,32⟩
abbrev kt:List (X×en):= [(.ret,⟨[(2, .cl (.bl))],[],[],0,32⟩),(.ext 0,⟨[(2, .cl (.dead))],[],[],0,32⟩)]
def kV {ρ:Type} (v1:List Int) (v2:Int) (fn: (((List Int)×Int×Unit)×(Unit)×(Unit))→Option ρ) (fe: ((Bool×Unit)×(Unit)×(Unit))⊕((Unit×Unit)×(Unit)×(Unit))→Option ρ):Option ρ:=
 br (decide (v2 < (v1.length:Int))) (aq (0≤v2) ((v1[v2.toNat]?).bind fun x3=>(eA x3 0 4).bind fun y4=>br (!y4.1) (fe (.inl ((false,()),(()),(())))) (br (decide (v2 > 0)) (aq (0≤(IntKind.wrap .i64 (v2 - 1))) ((v1[(IntKind.wrap .i64 (v2 - 1)).toNat]?).bind fun x5=>aq (0≤v2) ((v1[v2.toNat]?).bind fun x6=>br (decide (x5≥x6)) (fe (.inl ((false,()),(()),(())))) (fn ((v1,(IntKind.wrap .i64 (v2+1)),()),(()),(())))) none) none) (fn ((v1,(IntKind.wrap .i64 (v2+1)),()),(()),(()))))) none) (fe (.inr (((),()),(()),(()))))
def ft (s:eB.D):Option (eB.D⊕bg.D kt):=kV s.1.1 s.1.2.1 (fun s=>some (.inl s)) (fun e=>some (.inr e))
def pb:eB.D→Option (bg.D kt):=ko ft
theorem HE {ρ:Type} (s:eB.D) (fn:eB.D→Option ρ) (fe:bg.D kt→Option ρ):kV s.1.1 s.1.2.1 fn fe=(ft s).bind (Sum.elim fn fe):=by
 simp only [ft,kV,ao,ap,Option.bind_none,Option.bind_assoc,Option.bind_some,Sum.elim_inl,Sum.elim_inr]
abbrev A6:cW:=df [] [0,3] eB kt pb
theorem Fy (s:eB.D):ez Θ (aE Fx) (aF []) pa (eB.mk' s) (cU [0,3] [2] fun x S=>some (x,S))=(ft s).bind (Sum.elim (fun s'=>some (.nor,eB.mk' s')) fun e=>some (bg.e kt e)):=
 Eq.trans (by kernel_rfl:_=kV s.1.1 s.1.2.1 (fun s'=>some (.nor,eB.mk' s')) (fun e=>some (bg.e kt e))) (HE s _ _)
theorem Fz:bP Tryz.prog pa A6:=aW aG zy af (by kernel_rfl) (dp (by kernel_rfl:_= []) ah) [] [0,3] [2] eB kt (by kernel_rfl) ft Fy pb (gf ft) (aL ft)
def qJ {ρ:Type} (a0:List Int) (k:Bool×Unit→Option ρ):Option ρ:=
 (pb ((a0,0,()),(()),(()))).bind fun e7=>Sum.elim (fun e7_=>k (e7_.1.1,())) (fun _=>k (true,())) e7
def jF (a0:List Int):Option (Bool×Unit):=qJ a0 some
theorem MF {ρ:Type} (a0:List Int) (k:Bool×Unit→Option ρ):qJ a0 k=(jF a0).bind k:=by
 simp only [jF,qJ,bR,Option.bind_assoc,Option.bind_some]
abbrev FA:bc:=bh [.ty (.ls (.i .i64))] [.b] fun x=>jF x.1
theorem Rm:ax Tryz.prog 224 FA:=
 an (Λ:=aF [(bU pa,A6)]) (fn:=Tryz.f224) aG zy af (by kernel_rfl) (az (by kernel_rfl:_= [pa]) (aK (q:=bU pa) rfl Fz fun _ _ _=>by kernel_rfl)) (by kernel_rfl) (fun x=>jF x.1)
  (fun x=>Eq.trans (by kernel_rfl:_=qJ x.1 (fun y=>ret (ay [.b] y) fun v g=>some (v,g))) (MF x.1 _)) fun _ _ h=>h
abbrev Jh:List (Nat×bc):= []
theorem A7:au Tryz.prog (aE Jh):=al _
noncomputable abbrev qK:Code:=bV (bT Tryz.f51) 0
abbrev fu:en:=⟨[(0, .cl (.ro (.i .i64))),(1, .cl (.int .i64)),(5, .cl (.int .i64))],[],[],0,18⟩
abbrev lP:List (X×en):= [(.ret,⟨[(4, .cl (.bl))],[],[],0,18⟩),(.ext 0,⟨[(4, .cl (.dead))],[],[],0,18⟩)]
def mr {ρ:Type} (v1:List Int) (v2:Int) (v3:Int) (fn: (((List Int)×Int×Int×Unit)×(Unit)×(Unit))→Option ρ) (fe: ((Bool×Unit)×(Unit)×(Unit))⊕((Unit×Unit)×(Unit)×(Unit))→Option ρ):Option ρ:=
 br (decide (v3 < (v1.length:Int))) (aq (0≤v3) ((v1[v3.toNat]?).bind fun x4=>br (x4==v2) (fe (.inl ((true,()),(()),(())))) (fn ((v1,v2,(IntKind.wrap .i64 (v3+1)),()),(()),(())))) none) (fe (.inr (((),()),(()),(()))))
def gi (s:fu.D):Option (fu.D⊕bg.D lP):=mr s.1.1 s.1.2.1 s.1.2.2.1 (fun s=>some (.inl s)) (fun e=>some (.inr e))
def qL:fu.D→Option (bg.D lP):=ko gi
theorem JS {ρ:Type} (s:fu.D) (fn:fu.D→Option ρ) (fe:bg.D lP→Option ρ):mr s.1.1 s.1.2.1 s.1.2.2.1 fn fe=(gi s).bind (Sum.elim fn fe):=by
 simp only [gi,mr,ao,ap,Option.bind_none,Option.bind_assoc,Option.bind_some,Sum.elim_inl,Sum.elim_inr]
abbrev C6:cW:=df [] [0,1,5] fu lP qL
theorem HF (s:fu.D):ez Θ (aE Jh) (aF []) qK (fu.mk' s) (cU [0,1,5] [4] fun x S=>some (x,S))=(gi s).bind (Sum.elim (fun s'=>some (.nor,fu.mk' s')) fun e=>some (bg.e lP e)):=
 Eq.trans (by kernel_rfl:_=mr s.1.1 s.1.2.1 s.1.2.2.1 (fun s'=>some (.nor,fu.mk' s')) (fun e=>some (bg.e lP e))) (JS s _ _)
theorem HG:bP Tryz.prog qK C6:=aW aG A7 af (by kernel_rfl) (dp (by kernel_rfl:_= []) ah) [] [0,1,5] [4] fu lP (by kernel_rfl) gi HF qL (gf gi) (aL gi)
def sH {ρ:Type} (a0:List Int) (a1:Int) (k:Bool×Unit→Option ρ):Option ρ:=
 (qL ((a0,a1,0,()),(()),(()))).bind fun e5=>Sum.elim (fun e5_=>k (e5_.1.1,())) (fun _=>k (false,())) e5
def jR (a0:List Int) (a1:Int):Option (Bool×Unit):=sH a0 a1 some
theorem OG {ρ:Type} (a0:List Int) (a1:Int) (k:Bool×Unit→Option ρ):sH a0 a1 k=(jR a0 a1).bind k:=by
 simp only [jR,sH,bR,Option.bind_assoc,Option.bind_some]
abbrev wA:bc:=bh [.ty (.ls (.i .i64)), .ty (.i .i64)] [.b] fun x=>jR x.1 x.2.1
theorem A8:ax Tryz.prog 51 wA:=
 an (Λ:=aF [(bU qK,C6)]) (fn:=Tryz.f51) aG A7 af (by kernel_rfl) (az (by kernel_rfl:_= [qK]) (aK (q:=bU qK) rfl HG fun _ _ _=>by kernel_rfl)) (by kernel_rfl) (fun x=>jR x.1 x.2.1)
  (fun x=>Eq.trans (by kernel_rfl:_=sH x.1 x.2.1 (fun y=>ret (ay [.b] y) fun v g=>some (v,g))) (OG x.1 x.2.1 _)) fun _ _ h=>h
abbrev W7:List (Nat×bc):= []
theorem MG:au Tryz.prog (aE W7):=al _
noncomputable abbrev xP:Code:=bV (bT Tryz.f148) 0
abbrev mt:en:=⟨[(0, .cl (.ro (.i .i64))),(1, .cl (.int .i64)),(5, .cl (.int .i64))],[],[],0,47⟩
abbrev tF:List (X×en):= [(.ext 0,⟨[(0, .cl (.ro (.i .i64))),(1, .cl (.int .i64)),(5, .cl (.int .i64))],[],[],0,47⟩)]
def tG {ρ:Type} (v1:List Int) (v2:Int) (v3:Int) (fn: (((List Int)×Int×Int×Unit)×(Unit)×(Unit))→Option ρ) (fe: (((List Int)×Int×Int×Unit)×(Unit)×(Unit))→Option ρ):Option ρ:=
 br (decide (v3 < (v1.length:Int))) (aq (0≤v3) ((v1[v3.toNat]?).bind fun x4=>br (decide (x4 < v2)) (fn ((v1,v2,(IntKind.wrap .i64 (v3+1)),()),(()),(()))) (fe ((v1,v2,v3,()),(()),(())))) none) (fe ((v1,v2,v3,()),(()),(())))
def n8 (s:mt.D):Option (mt.D⊕bg.D tF):=tG s.1.1 s.1.2.1 s.1.2.2.1 (fun s=>some (.inl s)) (fun e=>some (.inr e))
def Cp:mt.D→Option (bg.D tF):=ko n8
theorem T1 {ρ:Type} (s:mt.D) (fn:mt.D→Option ρ) (fe:bg.D tF→Option ρ):tG s.1.1 s.1.2.1 s.1.2.2.1 fn fe=(n8 s).bind (Sum.elim fn fe):=by
 simp only [n8,tG,ao,ap,Option.bind_none,Option.bind_assoc,Option.bind_some,Sum.elim_inl,Sum.elim_inr]
abbrev P9:cW:=df [] [0,1,5] mt tF Cp
theorem Rn (s:mt.D):ez Θ (aE W7) (aF []) xP (mt.mk' s) (cU [0,1,5] [0,1,5] fun x S=>some (x,S))=(n8 s).bind (Sum.elim (fun s'=>some (.nor,mt.mk' s')) fun e=>some (bg.e tF e)):=
 Eq.trans (by kernel_rfl:_=tG s.1.1 s.1.2.1 s.1.2.2.1 (fun s'=>some (.nor,mt.mk' s')) (fun e=>some (bg.e tF e))) (T1 s _ _)
theorem Ro:bP Tryz.prog xP P9:=aW aG MG af (by kernel_rfl) (dp (by kernel_rfl:_= []) ah) [] [0,1,5] [0,1,5] mt tF (by kernel_rfl) n8 Rn Cp (gf n8) (aL n8)
def A9 {ρ:Type} (a0:List Int) (a1:Int) (k: (List Int)×Unit→Option ρ):Option ρ:=
 (Cp ((a0,a1,0,()),(()),(()))).bind fun e5=>br (decide (e5.1.2.2.1 < (e5.1.1.length:Int))) (aq (0≤e5.1.2.2.1) ((e5.1.1[e5.1.2.2.1.toNat]?).bind fun x6=>br (x6==e5.1.2.1) (aq ((([]:List Int)++e5.1.1).length*8≤2 ^ 40) (k ((([]:List Int)++e5.1.1),())) none) (aq (0≤(0:Int)∧(0:Int)≤e5.1.2.2.1∧e5.1.2.2.1≤(e5.1.1.length:Int)) (aq ((([]:List Int)++((e5.1.1.drop (0:Int).toNat).take (e5.1.2.2.1.toNat - (0:Int).toNat))).length*8≤2 ^ 40) (aq (((([]:List Int)++((e5.1.1.drop (0:Int).toNat).take (e5.1.2.2.1.toNat - (0:Int).toNat)))++([e5.1.2.1]:List Int)).length*8≤2 ^ 40) (aq (0≤e5.1.2.2.1∧e5.1.2.2.1≤(e5.1.1.length:Int)∧(e5.1.1.length:Int)≤(e5.1.1.length:Int)) (aq ((((([]:List Int)++((e5.1.1.drop (0:Int).toNat).take (e5.1.2.2.1.toNat - (0:Int).toNat)))++([e5.1.2.1]:List Int))++((e5.1.1.drop e5.1.2.2.1.toNat).take ((e5.1.1.length:Int).toNat - e5.1.2.2.1.toNat))).length*8≤2 ^ 40) (k ((((([]:List Int)++((e5.1.1.drop (0:Int).toNat).take (e5.1.2.2.1.toNat - (0:Int).toNat)))++([e5.1.2.1]:List Int))++((e5.1.1.drop e5.1.2.2.1.toNat).take ((e5.1.1.length:Int).toNat - e5.1.2.2.1.toNat))),())) none) none) none) none) none)) none) (aq (0≤(0:Int)∧(0:Int)≤e5.1.2.2.1∧e5.1.2.2.1≤(e5.1.1.length:Int)) (aq ((([]:List Int)++((e5.1.1.drop (0:Int).toNat).take (e5.1.2.2.1.toNat - (0:Int).toNat))).length*8≤2 ^ 40) (aq (((([]:List Int)++((e5.1.1.drop (0:Int).toNat).take (e5.1.2.2.1.toNat - (0:Int).toNat)))++([e5.1.2.1]:List Int)).length*8≤2 ^ 40) (aq (0≤e5.1.2.2.1∧e5.1.2.2.1≤(e5.1.1.length:Int)∧(e5.1.1.length:Int)≤(e5.1.1.length:Int)) (aq ((((([]:List Int)++((e5.1.1.drop (0:Int).toNat).take (e5.1.2.2.1.toNat - (0:Int).toNat)))++([e5.1.2.1]:List Int))++((e5.1.1.drop e5.1.2.2.1.toNat).take ((e5.1.1.length:Int).toNat - e5.1.2.2.1.toNat))).length*8≤2 ^ 40) (k ((((([]:List Int)++((e5.1.1.drop (0:Int).toNat).take (e5.1.2.2.1.toNat - (0:Int).toNat)))++([e5.1.2.1]:List Int))++((e5.1.1.drop e5.1.2.2.1.toNat).take ((e5.1.1.length:Int).toNat - e5.1.2.2.1.toNat))),())) none) none) none) none) none)
def yP (a0:List Int) (a1:Int):Option ((List Int)×Unit):=A9 a0 a1 some
theorem XW {ρ:Type} (a0:List Int) (a1:Int) (k: (List Int)×Unit→Option ρ):A9 a0 a1 k=(yP a0 a1).bind k:=by
 simp only [yP,A9,ao,ap,Option.bind_none,Option.bind_assoc,Option.bind_some]
abbrev W8:bc:=bh [.ty (.ls (.i .i64)), .ty (.i .i64)] [.ls (.i .i64)] fun x=>yP x.1 x.2.1
theorem abu:ax Tryz.prog 148 W8:=
 an (Λ:=aF [(bU xP,P9)]) (fn:=Tryz.f148) aG MG af (by kernel_rfl) (az (by kernel_rfl:_= [xP]) (aK (q:=bU xP) rfl Ro fun _ _ _=>by kernel_rfl)) (by kernel_rfl) (fun x=>yP x.1 x.2.1)
  (fun x=>Eq.trans (by kernel_rfl:_=A9 x.1 x.2.1 (fun y=>ret (ay [.ls (.i .i64)] y) fun v g=>some (v,g))) (XW x.1 x.2.1 _)) fun _ _ h=>h
abbrev zz:List (Nat×bc):= [(51,wA),(148,W8)]
theorem vz:au Tryz.prog (aE zz):=ae A8 <| ae abu <| al _
noncomputable abbrev lm:Code:=bV (bT Tryz.f128) 0
abbrev dq:en:=⟨[(0, .cl (.ro (.i .i64))),(1, .cl (.ro (.i .i64))),(5, .cl (.own 0 (.i .i64))),(6, .cl (.int .i64))],[],[.i .i64],0,27⟩
abbrev gq:List (X×en):= [(.ext 0,⟨[(5, .cl (.own 0 (.i .i64)))],[],[.i .i64],0,27⟩)]
def ia {ρ:Type} (v1:List Int) (v2:List Int) (v3:List Int) (v4:Int) (fn: (((List Int)×(List Int)×Unit×Int×Unit)×(Unit)×((List Int)×Unit))→Option ρ) (fe: ((Unit×Unit)×(Unit)×((List Int)×Unit))→Option ρ):Option ρ:=
 br (decide (v4 < (v2.length:Int))) (aq (0≤v4) ((v2[v4.toNat]?).bind fun x5=>(jR v3 x5).bind fun y6=>br y6.1 (aq (0≤v4) ((v2[v4.toNat]?).bind fun x7=>(yP v1 x7).bind fun y8=>fn ((v2,v3,(),(IntKind.wrap .i64 (v4+1)),()),(()),(y8.1,()))) none) (fn ((v2,v3,(),(IntKind.wrap .i64 (v4+1)),()),(()),(v1,())))) none) (fe (((),()),(()),(v1,())))
def dP (s:dq.D):Option (dq.D⊕bg.D gq):=ia s.2.2.1 s.1.1 s.1.2.1 s.1.2.2.2.1 (fun s=>some (.inl s)) (fun e=>some (.inr e))
def oB:dq.D→Option (bg.D gq):=ko dP
theorem Cz {ρ:Type} (s:dq.D) (fn:dq.D→Option ρ) (fe:bg.D gq→Option ρ):ia s.2.2.1 s.1.1 s.1.2.1 s.1.2.2.2.1 fn fe=(dP s).bind (Sum.elim fn fe):=by
 simp only [dP,ia,ao,ap,Option.bind_none,Option.bind_assoc,Option.bind_some,Sum.elim_inl,Sum.elim_inr]
abbrev wB:cW:=df [] [0,1,5,6] dq gq oB
theorem Ba (s:dq.D):ez Θ (aE zz) (aF []) lm (dq.mk' s) (cU [0,1,5,6] [5] fun x S=>some (x,S))=(dP s).bind (Sum.elim (fun s'=>some (.nor,dq.mk' s')) fun e=>some (bg.e gq e)):=
 Eq.trans (by kernel_rfl:_=ia s.2.2.1 s.1.1 s.1.2.1 s.1.2.2.2.1 (fun s'=>some (.nor,dq.mk' s')) (fun e=>some (bg.e gq e))) (Cz s _ _)
theorem Bb:bP Tryz.prog lm wB:=aW aG vz af (by kernel_rfl) (dp (by kernel_rfl:_= []) ah) [] [0,1,5,6] [5] dq gq (by kernel_rfl) dP Ba oB (gf dP) (aL dP)
def mu {ρ:Type} (a0:List Int) (a1:List Int) (k: (List Int)×Unit→Option ρ):Option ρ:=
 (oB ((a0,a1,(),0,()),(()),(([]:List Int),()))).bind fun e9=>k (e9.2.2.1,())
def fJ (a0:List Int) (a1:List Int):Option ((List Int)×Unit):=mu a0 a1 some
theorem FB {ρ:Type} (a0:List Int) (a1:List Int) (k: (List Int)×Unit→Option ρ):mu a0 a1 k=(fJ a0 a1).bind k:=by
 simp only [fJ,mu,Option.bind_assoc,Option.bind_some]
abbrev ux:bc:=bh [.ty (.ls (.i .i64)), .ty (.ls (.i .i64))] [.ls (.i .i64)] fun x=>fJ x.1 x.2.1
theorem zA:ax Tryz.prog 128 ux:=
 an (Λ:=aF [(bU lm,wB)]) (fn:=Tryz.f128) aG vz af (by kernel_rfl) (az (by kernel_rfl:_= [lm]) (aK (q:=bU lm) rfl Bb fun _ _ _=>by kernel_rfl)) (by kernel_rfl) (fun x=>fJ x.1 x.2.1)
  (fun x=>Eq.trans (by kernel_rfl:_=mu x.1 x.2.1 (fun y=>ret (ay [.ls (.i .i64)] y) fun v g=>some (v,g))) (FB x.1 x.2.1 _)) fun _ _ h=>h
abbrev JT:List (Nat×bc):= [(120,rC),(224,FA),(51,wA),(128,ux)]
theorem DZ:au Tryz.prog (aE JT):=ae sG <| ae Rm <| ae A8 <| ae zA <| al _
def j7 {ρ:Type} (a0:ai) (k:Bool×Unit→Option ρ):Option ρ:=
 (eA a0.epoch 1 20).bind fun y1=>br y1.1 ((jF a0.replicas).bind fun y2=>br y2.1 ((jF a0.witnesses).bind fun y3=>br y3.1 ((jR a0.replicas a0.primary).bind fun y4=>br y4.1 ((fJ a0.replicas a0.witnesses).bind fun y5=>k (((y5.1.length:Int)==0),())) (k (false,()))) (k (false,()))) (k (false,()))) (k (false,()))
def bZ (a0:ai):Option (Bool×Unit):=j7 a0 some
theorem FC {ρ:Type} (a0:ai) (k:Bool×Unit→Option ρ):j7 a0 k=(bZ a0).bind k:=by
 simp only [bZ,j7,ao,Option.bind_assoc,Option.bind_some]
abbrev rq:bc:=bh [.ty (.st .config)] [.b] fun x=>bZ x.1
theorem uy:ax Tryz.prog 169 rq:=
 an (Λ:=aF []) (fn:=Tryz.f169) aG DZ af (by kernel_rfl) (az (by kernel_rfl:_= []) ah) (by kernel_rfl) (fun x=>bZ x.1)
  (fun x=>Eq.trans (by kernel_rfl:_=j7 x.1 (fun y=>ret (ay [.b] y) fun v g=>some (v,g))) (FC x.1 _)) fun _ _ h=>h
abbrev C7:List (Nat×bc):= [(169,rq),(120,rC)]
theorem xQ:au Tryz.prog (aE C7):=ae uy <| ae sG <| al _
noncomputable abbrev nL:Code:=bV (bT Tryz.f122) 0
abbrev dW:en:=⟨[(1, .cl (.ptr 0 0)),(3, .cl (.int .i64))],[[.ro (.st .config), .int .i64]],[],0,35⟩
abbrev jd:List (X×en):= [(.ret,⟨[(1, .cl (.ptr 0 0)),(2, .cl (.bl))],[[.ro (.st .config), .int .i64]],[],0,35⟩),(.ext 0,⟨[(1, .cl (.ptr 0 0)),(2, .cl (.dead))],[[.ro (.st .config), .int .i64]],[],0,35⟩)]
def eV {ρ:Type} (v1:Int) (v2:List ai) (v3:Int) (fn: ((Unit×Int×Unit)×(((List ai)×Int×Unit)×Unit)×(Unit))→Option ρ) (fe: ((Unit×Bool×Unit)×(((List ai)×Int×Unit)×Unit)×(Unit))⊕((Unit×Unit×Unit)×(((List ai)×Int×Unit)×Unit)×(Unit))→Option ρ):Option ρ:=
 br (decide (v1 < (v2.length:Int))) (aq (0≤v1) ((v2[v1.toNat]?).bind fun x4=>(bZ x4).bind fun y5=>br (!y5.1) (fe (.inl (((),false,()),((v2,v3,()),()),(())))) (aq (0≤v1) ((v2[v1.toNat]?).bind fun x6=>br (!(x6.epoch==(IntKind.wrap .i64 (v1+1)))) (fe (.inl (((),false,()),((v2,v3,()),()),(())))) (fn (((),(IntKind.wrap .i64 (v1+1)),()),((v2,v3,()),()),(())))) none)) none) (fe (.inr (((),(),()),((v2,v3,()),()),(()))))
def cj (s:dW.D):Option (dW.D⊕bg.D jd):=eV s.1.2.1 s.2.1.1.1 s.2.1.1.2.1 (fun s=>some (.inl s)) (fun e=>some (.inr e))
def je:dW.D→Option (bg.D jd):=ko cj
theorem FD {ρ:Type} (s:dW.D) (fn:dW.D→Option ρ) (fe:bg.D jd→Option ρ):eV s.1.2.1 s.2.1.1.1 s.2.1.1.2.1 fn fe=(cj s).bind (Sum.elim fn fe):=by
 simp only [cj,eV,ao,ap,Option.bind_none,Option.bind_assoc,Option.bind_some,Sum.elim_inl,Sum.elim_inr]
abbrev zB:cW:=df [] [1,3] dW jd je
theorem D0 (s:dW.D):ez Θ (aE C7) (aF []) nL (dW.mk' s) (cU [1,3] [1,2] fun x S=>some (x,S))=(cj s).bind (Sum.elim (fun s'=>some (.nor,dW.mk' s')) fun e=>some (bg.e jd e)):=
 Eq.trans (by kernel_rfl:_=eV s.1.2.1 s.2.1.1.1 s.2.1.1.2.1 (fun s'=>some (.nor,dW.mk' s')) (fun e=>some (bg.e jd e))) (FD s _ _)
theorem D3:bP Tryz.prog nL zB:=aW aG xQ af (by kernel_rfl) (dp (by kernel_rfl:_= []) ah) [] [1,3] [1,2] dW jd (by kernel_rfl) cj D0 je (gf cj) (aL cj)
def mw {ρ:Type} (a0:ak) (k:Bool×Unit→Option ρ):Option ρ:=
 (je (((),0,()),((a0.configs,a0.activated,()),()),(()))).bind fun e7=>Sum.elim (fun e7_=>k (e7_.1.2.1,())) (fun e7_=>(eA e7_.2.1.1.2.1 0 (e7_.2.1.1.1.length:Int)).bind fun y8=>k (y8.1,())) e7
def cR (a0:ak):Option (Bool×Unit):=mw a0 some
theorem JU {ρ:Type} (a0:ak) (k:Bool×Unit→Option ρ):mw a0 k=(cR a0).bind k:=by
 simp only [cR,mw,bR,Option.bind_assoc,Option.bind_some]
abbrev qM:bc:=bh [.ty (.st .masterLog)] [.b] fun x=>cR x.1
theorem tU:ax Tryz.prog 122 qM:=
 an (Λ:=aF [(bU nL,zB)]) (fn:=Tryz.f122) aG xQ af (by kernel_rfl) (az (by kernel_rfl:_= [nL]) (aK (q:=bU nL) rfl D3 fun _ _ _=>by kernel_rfl)) (by kernel_rfl) (fun x=>cR x.1)
  (fun x=>Eq.trans (by kernel_rfl:_=mw x.1 (fun y=>ret (ay [.b] y) fun v g=>some (v,g))) (JU x.1 _)) fun _ _ h=>h
abbrev V0:List (Nat×bc):= [(122,qM),(120,rC),(170,xO)]
theorem OH:au Tryz.prog (aE V0):=ae tU <| ae sG <| ae A4 <| al _
def rX {ρ:Type} (a0:ak) (a1:Int) (k:ai×Bool×Unit→Option ρ):Option ρ:=
 (cR a0).bind fun y1=>br (!y1.1) (k ((⟨0,0,([]:List Int),([]:List Int)⟩:ai),false,())) ((eA a1 1 (a0.configs.length:Int)).bind fun y2=>br (!y2.1) (k ((⟨0,0,([]:List Int),([]:List Int)⟩:ai),false,())) (aq (0≤(IntKind.wrap .i64 (a1 - 1))) ((a0.configs[(IntKind.wrap .i64 (a1 - 1)).toNat]?).bind fun x3=>(jt x3).bind fun y4=>k (y4.1,true,())) none))
def lQ (a0:ak) (a1:Int):Option (ai×Bool×Unit):=rX a0 a1 some
theorem Rp {ρ:Type} (a0:ak) (a1:Int) (k:ai×Bool×Unit→Option ρ):rX a0 a1 k=(lQ a0 a1).bind k:=by
 simp only [lQ,rX,ao,ap,Option.bind_none,Option.bind_assoc,Option.bind_some]
abbrev D4:bc:=bh [.ty (.st .masterLog), .ty (.i .i64)] [.st .config, .b] fun x=>lQ x.1 x.2.1
theorem MH:ax Tryz.prog 127 D4:=
 an (Λ:=aF []) (fn:=Tryz.f127) aG OH af (by kernel_rfl) (az (by kernel_rfl:_= []) ah) (by kernel_rfl) (fun x=>lQ x.1 x.2.1)
  (fun x=>Eq.trans (by kernel_rfl:_=rX x.1 x.2.1 (fun y=>ret (ay [.st .config, .b] y) fun v g=>some (v,g))) (Rp x.1 x.2.1 _)) fun _ _ h=>h
abbrev JV:List (Nat×bc):= [(127,D4)]
theorem D5:au Tryz.prog (aE JV):=ae MH <| al _
def j8 {ρ:Type} (a0:ak) (k:ai×Bool×Unit→Option ρ):Option ρ:=
 (lQ a0 a0.activated).bind fun y1=>k (y1.1,y1.2.1,())
def fK (a0:ak):Option (ai×Bool×Unit):=j8 a0 some
theorem FE {ρ:Type} (a0:ak) (k:ai×Bool×Unit→Option ρ):j8 a0 k=(fK a0).bind k:=by
 simp only [fK,j8,Option.bind_assoc,Option.bind_some]
abbrev uz:bc:=bh [.ty (.st .masterLog)] [.st .config, .b] fun x=>fK x.1
theorem zC:ax Tryz.prog 50 uz:=
 an (Λ:=aF []) (fn:=Tryz.f50) aG D5 af (by kernel_rfl) (az (by kernel_rfl:_= []) ah) (by kernel_rfl) (fun x=>fK x.1)
  (fun x=>Eq.trans (by kernel_rfl:_=j8 x.1 (fun y=>ret (ay [.st .config, .b] y) fun v g=>some (v,g))) (FE x.1 _)) fun _ _ h=>h
abbrev MI:List (Nat×bc):= [(120,rC)]
theorem C8:au Tryz.prog (aE MI):=ae sG <| al _
noncomputable abbrev sI:Code:=bV (bT Tryz.f121) 0
abbrev gr:en:=⟨[(0, .cl (.ro (.i .i64))),(3, .cl (.int .i64))],[],[],0,19⟩
abbrev ny:List (X×en):= [(.ret,⟨[(0, .cl (.ro (.i .i64))),(2, .cl (.bl))],[],[],0,19⟩),(.ext 0,⟨[(0, .cl (.ro (.i .i64))),(2, .cl (.dead))],[],[],0,19⟩)]
def n9 {ρ:Type} (v1:List Int) (v2:Int) (fn: (((List Int)×Int×Unit)×(Unit)×(Unit))→Option ρ) (fe: (((List Int)×Bool×Unit)×(Unit)×(Unit))⊕(((List Int)×Unit×Unit)×(Unit)×(Unit))→Option ρ):Option ρ:=
 br (decide (v2 < (v1.length:Int))) (aq (0≤v2) ((v1[v2.toNat]?).bind fun x3=>(eA x3 0 3).bind fun y4=>br (!y4.1) (fe (.inl ((v1,false,()),(()),(())))) (fn ((v1,(IntKind.wrap .i64 (v2+1)),()),(()),(())))) none) (fe (.inr ((v1,(),()),(()),(()))))
def iH (s:gr.D):Option (gr.D⊕bg.D ny):=n9 s.1.1 s.1.2.1 (fun s=>some (.inl s)) (fun e=>some (.inr e))
def sJ:gr.D→Option (bg.D ny):=ko iH
theorem MJ {ρ:Type} (s:gr.D) (fn:gr.D→Option ρ) (fe:bg.D ny→Option ρ):n9 s.1.1 s.1.2.1 fn fe=(iH s).bind (Sum.elim fn fe):=by
 simp only [iH,n9,ao,ap,Option.bind_none,Option.bind_assoc,Option.bind_some,Sum.elim_inl,Sum.elim_inr]
abbrev FF:cW:=df [] [0,3] gr ny sJ
theorem JW (s:gr.D):ez Θ (aE MI) (aF []) sI (gr.mk' s) (cU [0,3] [0,2] fun x S=>some (x,S))=(iH s).bind (Sum.elim (fun s'=>some (.nor,gr.mk' s')) fun e=>some (bg.e ny e)):=
 Eq.trans (by kernel_rfl:_=n9 s.1.1 s.1.2.1 (fun s'=>some (.nor,gr.mk' s')) (fun e=>some (bg.e ny e))) (MJ s _ _)
theorem JX:bP Tryz.prog sI FF:=aW aG C8 af (by kernel_rfl) (dp (by kernel_rfl:_= []) ah) [] [0,3] [0,2] gr ny (by kernel_rfl) iH JW sJ (gf iH) (aL iH)
def ud {ρ:Type} (a0:List Int) (k:Bool×Unit→Option ρ):Option ρ:=
 (sJ ((a0,0,()),(()),(()))).bind fun e5=>Sum.elim (fun e5_=>k (e5_.1.2.1,())) (fun e5_=>k (((e5_.1.1.length:Int)==5),())) e5
def ku (a0:List Int):Option (Bool×Unit):=ud a0 some
theorem Rq {ρ:Type} (a0:List Int) (k:Bool×Unit→Option ρ):ud a0 k=(ku a0).bind k:=by
 simp only [ku,ud,bR,Option.bind_assoc,Option.bind_some]
abbrev D6:bc:=bh [.ty (.ls (.i .i64))] [.b] fun x=>ku x.1
theorem ML:ax Tryz.prog 121 D6:=
 an (Λ:=aF [(bU sI,FF)]) (fn:=Tryz.f121) aG C8 af (by kernel_rfl) (az (by kernel_rfl:_= [sI]) (aK (q:=bU sI) rfl JX fun _ _ _=>by kernel_rfl)) (by kernel_rfl) (fun x=>ku x.1)
  (fun x=>Eq.trans (by kernel_rfl:_=ud x.1 (fun y=>ret (ay [.b] y) fun v g=>some (v,g))) (Rq x.1 _)) fun _ _ h=>h
abbrev XX:List (Nat×bc):= [(120,rC)]
theorem Rr:au Tryz.prog (aE XX):=ae sG <| al _
def vA {ρ:Type} (a0:eg) (k:Bool×Unit→Option ρ):Option ρ:=
 br ((a0.epoch==0)&&((a0.holder==0)&&((a0.ends==0)&&true))) (k (true,())) ((eA a0.epoch 1 20).bind fun y1=>br y1.1 ((eA a0.holder 0 4).bind fun y2=>br y2.1 ((eA a0.ends 1 1049).bind fun y3=>k (y3.1,())) (k (false,()))) (k (false,())))
def oa (a0:eg):Option (Bool×Unit):=vA a0 some
theorem T2 {ρ:Type} (a0:eg) (k:Bool×Unit→Option ρ):vA a0 k=(oa a0).bind k:=by
 simp only [oa,vA,ao,Option.bind_assoc,Option.bind_some]
abbrev Cq:bc:=bh [.ty (.st .lease)] [.b] fun x=>oa x.1
theorem HH:ax Tryz.prog 123 Cq:=
 an (Λ:=aF []) (fn:=Tryz.f123) aG Rr af (by kernel_rfl) (az (by kernel_rfl:_= []) ah) (by kernel_rfl) (fun x=>oa x.1)
  (fun x=>Eq.trans (by kernel_rfl:_=vA x.1 (fun y=>ret (ay [.b] y) fun v g=>some (v,g))) (T2 x.1 _)) fun _ _ h=>h
abbrev Ji:List (Nat×bc):= [(120,rC)]
theorem Bc:au Tryz.prog (aE Ji):=ae sG <| al _
noncomputable abbrev qN:Code:=bV (bT Tryz.f124) 0
abbrev fv:en:=⟨[(0, .cl (.ro (.st .place))),(3, .cl (.int .i64))],[],[],0,38⟩
abbrev lR:List (X×en):= [(.ret,⟨[(0, .cl (.ro (.st .place))),(2, .cl (.bl))],[],[],0,38⟩),(.ext 0,⟨[(0, .cl (.ro (.st .place))),(2, .cl (.dead))],[],[],0,38⟩)]
def my {ρ:Type} (v1:List aU) (v2:Int) (fn: (((List aU)×Int×Unit)×(Unit)×(Unit))→Option ρ) (fe: (((List aU)×Bool×Unit)×(Unit)×(Unit))⊕(((List aU)×Unit×Unit)×(Unit)×(Unit))→Option ρ):Option ρ:=
 br (decide (v2 < (v1.length:Int))) (aq (0≤v2) ((v1[v2.toNat]?).bind fun x3=>(eA x3.rack 0 9).bind fun y4=>br (!y4.1) (fe (.inl ((v1,false,()),(()),(())))) (aq (0≤v2) ((v1[v2.toNat]?).bind fun x5=>(eA x5.capacity 0 9).bind fun y6=>br (!y6.1) (fe (.inl ((v1,false,()),(()),(())))) (aq (0≤v2) ((v1[v2.toNat]?).bind fun x7=>(eA x7.load 0 99).bind fun y8=>br (!y8.1) (fe (.inl ((v1,false,()),(()),(())))) (fn ((v1,(IntKind.wrap .i64 (v2+1)),()),(()),(())))) none)) none)) none) (fe (.inr ((v1,(),()),(()),(()))))
def gk (s:fv.D):Option (fv.D⊕bg.D lR):=my s.1.1 s.1.2.1 (fun s=>some (.inl s)) (fun e=>some (.inr e))
def qO:fv.D→Option (bg.D lR):=ko gk
theorem JY {ρ:Type} (s:fv.D) (fn:fv.D→Option ρ) (fe:bg.D lR→Option ρ):my s.1.1 s.1.2.1 fn fe=(gk s).bind (Sum.elim fn fe):=by
 simp only [gk,my,ao,ap,Option.bind_none,Option.bind_assoc,Option.bind_some,Sum.elim_inl,Sum.elim_inr]
abbrev C9:cW:=df [] [0,3] fv lR qO
theorem HI (s:fv.D):ez Θ (aE Ji) (aF []) qN (fv.mk' s) (cU [0,3] [0,2] fun x S=>some (x,S))=(gk s).bind (Sum.elim (fun s'=>some (.nor,fv.mk' s')) fun e=>some (bg.e lR e)):=
 Eq.trans (by kernel_rfl:_=my s.1.1 s.1.2.1 (fun s'=>some (.nor,fv.mk' s')) (fun e=>some (bg.e lR e))) (JY s _ _)
theorem HJ:bP Tryz.prog qN C9:=aW aG Bc af (by kernel_rfl) (dp (by kernel_rfl:_= []) ah) [] [0,3] [0,2] fv lR (by kernel_rfl) gk HI qO (gf gk) (aL gk)
def sK {ρ:Type} (a0:List aU) (k:Bool×Unit→Option ρ):Option ρ:=
 (qO ((a0,0,()),(()),(()))).bind fun e9=>Sum.elim (fun e9_=>k (e9_.1.2.1,())) (fun e9_=>k (((e9_.1.1.length:Int)==5),())) e9
def nq (a0:List aU):Option (Bool×Unit):=sK a0 some
theorem OI {ρ:Type} (a0:List aU) (k:Bool×Unit→Option ρ):sK a0 k=(nq a0).bind k:=by
 simp only [nq,sK,bR,Option.bind_assoc,Option.bind_some]
abbrev Jj:bc:=bh [.ty (.ls (.st .place))] [.b] fun x=>nq x.1
theorem T3:ax Tryz.prog 124 Jj:=
 an (Λ:=aF [(bU qN,C9)]) (fn:=Tryz.f124) aG Bc af (by kernel_rfl) (az (by kernel_rfl:_= [qN]) (aK (q:=bU qN) rfl HJ fun _ _ _=>by kernel_rfl)) (by kernel_rfl) (fun x=>nq x.1)
  (fun x=>Eq.trans (by kernel_rfl:_=sK x.1 (fun y=>ret (ay [.b] y) fun v g=>some (v,g))) (OI x.1 _)) fun _ _ h=>h
abbrev T4:List (Nat×bc):= [(120,rC)]
theorem MM:au Tryz.prog (aE T4):=ae sG <| al _
def sL {ρ:Type} (a0:Op) (k:Bool×Unit→Option ρ):Option ρ:=
 (eA a0.client 0 2).bind fun y1=>br (!y1.1) (k (false,())) ((eA a0.seq 1 99).bind fun y2=>br (!y2.1) (k (false,())) ((eA a0.object 0 2).bind fun y3=>br (!y3.1) (k (false,())) ((eA a0.value 0 9).bind fun y4=>br (!y4.1) (k (false,())) (br (a0.kind==1) (br (a0.old==0) (k (true,())) (br (a0.kind==2) ((eA a0.old 0 9).bind fun y5=>k (y5.1,())) (k (false,())))) (br (a0.kind==2) ((eA a0.old 0 9).bind fun y6=>k (y6.1,())) (k (false,())))))))
def pc (a0:Op):Option (Bool×Unit):=sL a0 some
theorem OJ {ρ:Type} (a0:Op) (k:Bool×Unit→Option ρ):sL a0 k=(pc a0).bind k:=by
 simp only [pc,sL,ao,Option.bind_assoc,Option.bind_some]
abbrev Jk:bc:=bh [.ty (.st .op)] [.b] fun x=>pc x.1
theorem T5:ax Tryz.prog 225 Jk:=
 an (Λ:=aF []) (fn:=Tryz.f225) aG MM af (by kernel_rfl) (az (by kernel_rfl:_= []) ah) (by kernel_rfl) (fun x=>pc x.1)
  (fun x=>Eq.trans (by kernel_rfl:_=sL x.1 (fun y=>ret (ay [.b] y) fun v g=>some (v,g))) (OJ x.1 _)) fun _ _ h=>h
abbrev W9:List (Nat×bc):= [(120,rC),(225,Jk)]
theorem MN:au Tryz.prog (aE W9):=ae sG <| ae T5 <| al _
noncomputable abbrev xR:Code:=bV (bT Tryz.f172) 0
abbrev mz:en:=⟨[(0, .cl (.ro (.st .entry))),(3, .cl (.int .i64))],[],[],0,47⟩
abbrev tH:List (X×en):= [(.ret,⟨[(0, .cl (.ro (.st .entry))),(2, .cl (.bl))],[],[],0,47⟩),(.ext 0,⟨[(0, .cl (.ro (.st .entry))),(2, .cl (.dead))],[],[],0,47⟩)]
def tI {ρ:Type} (v1:List ar) (v2:Int) (fn: (((List ar)×Int×Unit)×(Unit)×(Unit))→Option ρ) (fe: (((List ar)×Bool×Unit)×(Unit)×(Unit))⊕(((List ar)×Unit×Unit)×(Unit)×(Unit))→Option ρ):Option ρ:=
 br (decide (v2 < (v1.length:Int))) (aq (0≤v2) ((v1[v2.toNat]?).bind fun x3=>(eA x3.epoch 1 20).bind fun y4=>br (!y4.1) (fe (.inl ((v1,false,()),(()),(())))) (aq (0≤v2) ((v1[v2.toNat]?).bind fun x5=>(pc x5.op).bind fun y6=>br (!y6.1) (fe (.inl ((v1,false,()),(()),(())))) (br (decide (v2 > 0)) (aq (0≤(IntKind.wrap .i64 (v2 - 1))) ((v1[(IntKind.wrap .i64 (v2 - 1)).toNat]?).bind fun x7=>aq (0≤v2) ((v1[v2.toNat]?).bind fun x8=>br (decide (x7.epoch > x8.epoch)) (fe (.inl ((v1,false,()),(()),(())))) (fn ((v1,(IntKind.wrap .i64 (v2+1)),()),(()),(())))) none) none) (fn ((v1,(IntKind.wrap .i64 (v2+1)),()),(()),(()))))) none)) none) (fe (.inr ((v1,(),()),(()),(()))))
def ob (s:mz.D):Option (mz.D⊕bg.D tH):=tI s.1.1 s.1.2.1 (fun s=>some (.inl s)) (fun e=>some (.inr e))
def xS:mz.D→Option (bg.D tH):=ko ob
theorem T6 {ρ:Type} (s:mz.D) (fn:mz.D→Option ρ) (fe:bg.D tH→Option ρ):tI s.1.1 s.1.2.1 fn fe=(ob s).bind (Sum.elim fn fe):=by
 simp only [ob,tI,ao,ap,Option.bind_none,Option.bind_assoc,Option.bind_some,Sum.elim_inl,Sum.elim_inr]
abbrev Qa:cW:=df [] [0,3] mz tH xS
theorem Rs (s:mz.D):ez Θ (aE W9) (aF []) xR (mz.mk' s) (cU [0,3] [0,2] fun x S=>some (x,S))=(ob s).bind (Sum.elim (fun s'=>some (.nor,mz.mk' s')) fun e=>some (bg.e tH e)):=
 Eq.trans (by kernel_rfl:_=tI s.1.1 s.1.2.1 (fun s'=>some (.nor,mz.mk' s')) (fun e=>some (bg.e tH e))) (T6 s _ _)
theorem Rt:bP Tryz.prog xR Qa:=aW aG MN af (by kernel_rfl) (dp (by kernel_rfl:_= []) ah) [] [0,3] [0,2] mz tH (by kernel_rfl) ob Rs xS (gf ob) (aL ob)
def Bd {ρ:Type} (a0:List ar) (k:Bool×Unit→Option ρ):Option ρ:=
 (xS ((a0,0,()),(()),(()))).bind fun e9=>Sum.elim (fun e9_=>k (e9_.1.2.1,())) (fun e9_=>k ((decide ((e9_.1.1.length:Int)≤16)),())) e9
def rr (a0:List ar):Option (Bool×Unit):=Bd a0 some
theorem XY {ρ:Type} (a0:List ar) (k:Bool×Unit→Option ρ):Bd a0 k=(rr a0).bind k:=by
 simp only [rr,Bd,bR,Option.bind_assoc,Option.bind_some]
abbrev Ru:bc:=bh [.ty (.ls (.st .entry))] [.b] fun x=>rr x.1
theorem Xa:ax Tryz.prog 172 Ru:=
 an (Λ:=aF [(bU xR,Qa)]) (fn:=Tryz.f172) aG MN af (by kernel_rfl) (az (by kernel_rfl:_= [xR]) (aK (q:=bU xR) rfl Rt fun _ _ _=>by kernel_rfl)) (by kernel_rfl) (fun x=>rr x.1)
  (fun x=>Eq.trans (by kernel_rfl:_=Bd x.1 (fun y=>ret (ay [.b] y) fun v g=>some (v,g))) (XY x.1 _)) fun _ _ h=>h
abbrev Be:List (Nat×bc):= []
theorem wD:au Tryz.prog (aE Be):=al _
noncomputable abbrev mA:Code:=bV (bT Tryz.f159) 0
abbrev dK:en:=⟨[(0, .cl (.ro (.i .i64))),(1, .cl (.ro (.i .i64))),(5, .cl (.int .i64))],[],[],0,26⟩
abbrev ib:List (X×en):= [(.ret,⟨[(4, .cl (.bl))],[],[],0,26⟩),(.ext 0,⟨[(4, .cl (.dead))],[],[],0,26⟩)]
def iZ {ρ:Type} (v1:List Int) (v2:List Int) (v3:Int) (fn: (((List Int)×(List Int)×Int×Unit)×(Unit)×(Unit))→Option ρ) (fe: ((Bool×Unit)×(Unit)×(Unit))⊕((Unit×Unit)×(Unit)×(Unit))→Option ρ):Option ρ:=
 br (decide (v3 < (v1.length:Int))) (aq (0≤v3) ((v1[v3.toNat]?).bind fun x4=>aq (0≤v3) ((v2[v3.toNat]?).bind fun x5=>br (!(x4==x5)) (fe (.inl ((false,()),(()),(())))) (fn ((v1,v2,(IntKind.wrap .i64 (v3+1)),()),(()),(())))) none) none) (fe (.inr (((),()),(()),(()))))
def ef (s:dK.D):Option (dK.D⊕bg.D ib):=iZ s.1.1 s.1.2.1 s.1.2.2.1 (fun s=>some (.inl s)) (fun e=>some (.inr e))
def mB:dK.D→Option (bg.D ib):=ko ef
theorem D7 {ρ:Type} (s:dK.D) (fn:dK.D→Option ρ) (fe:bg.D ib→Option ρ):iZ s.1.1 s.1.2.1 s.1.2.2.1 fn fe=(ef s).bind (Sum.elim fn fe):=by
 simp only [ef,iZ,ao,ap,Option.bind_none,Option.bind_assoc,Option.bind_some,Sum.elim_inl,Sum.elim_inr]
abbrev xT:cW:=df [] [0,1,5] dK ib mB
theorem CA (s:dK.D):ez Θ (aE Be) (aF []) mA (dK.mk' s) (cU [0,1,5] [4] fun x S=>some (x,S))=(ef s).bind (Sum.elim (fun s'=>some (.nor,dK.mk' s')) fun e=>some (bg.e ib e)):=
 Eq.trans (by kernel_rfl:_=iZ s.1.1 s.1.2.1 s.1.2.2.1 (fun s'=>some (.nor,dK.mk' s')) (fun e=>some (bg.e ib e))) (D7 s _ _)
theorem CB:bP Tryz.prog mA xT:=aW aG wD af (by kernel_rfl) (dp (by kernel_rfl:_= []) ah) [] [0,1,5] [4] dK ib (by kernel_rfl) ef CA mB (gf ef) (aL ef)
def nM {ρ:Type} (a0:List Int) (a1:List Int) (k:Bool×Unit→Option ρ):Option ρ:=
 br (!((a0.length:Int)==(a1.length:Int))) (k (false,())) ((mB ((a0,a1,0,()),(()),(()))).bind fun e6=>Sum.elim (fun e6_=>k (e6_.1.1,())) (fun _=>k (true,())) e6)
def iM (a0:List Int) (a1:List Int):Option (Bool×Unit):=nM a0 a1 some
theorem HK {ρ:Type} (a0:List Int) (a1:List Int) (k:Bool×Unit→Option ρ):nM a0 a1 k=(iM a0 a1).bind k:=by
 simp only [iM,nM,ao,bR,Option.bind_assoc,Option.bind_some]
abbrev Bf:bc:=bh [.ty (.ls (.i .i64)), .ty (.ls (.i .i64))] [.b] fun x=>iM x.1 x.2.1
theorem MO:ax Tryz.prog 159 Bf:=
 an (Λ:=aF [(bU mA,xT)]) (fn:=Tryz.f159) aG wD af (by kernel_rfl) (az (by kernel_rfl:_= [mA]) (aK (q:=bU mA) rfl CB fun _ _ _=>by kernel_rfl)) (by kernel_rfl) (fun x=>iM x.1 x.2.1)
  (fun x=>Eq.trans (by kernel_rfl:_=nM x.1 x.2.1 (fun y=>ret (ay [.b] y) fun v g=>some (v,g))) (HK x.1 x.2.1 _)) fun _ _ h=>h
abbrev MP:List (Nat×bc):= [(159,Bf)]
theorem FG:au Tryz.prog (aE MP):=ae MO <| al _
def nN {ρ:Type} (a0:ai) (a1:ai) (k:Bool×Unit→Option ρ):Option ρ:=
 br (a0.epoch==a1.epoch) (br (a0.primary==a1.primary) ((iM a0.replicas a1.replicas).bind fun y1=>br y1.1 ((iM a0.witnesses a1.witnesses).bind fun y2=>k (y2.1,())) (k (false,()))) (k (false,()))) (k (false,()))
def iO (a0:ai) (a1:ai):Option (Bool×Unit):=nN a0 a1 some
theorem HL {ρ:Type} (a0:ai) (a1:ai) (k:Bool×Unit→Option ρ):nN a0 a1 k=(iO a0 a1).bind k:=by
 simp only [iO,nN,ao,Option.bind_assoc,Option.bind_some]
abbrev vB:bc:=bh [.ty (.st .config), .ty (.st .config)] [.b] fun x=>iO x.1 x.2.1
theorem Bg:ax Tryz.prog 90 vB:=
 an (Λ:=aF []) (fn:=Tryz.f90) aG FG af (by kernel_rfl) (az (by kernel_rfl:_= []) ah) (by kernel_rfl) (fun x=>iO x.1 x.2.1)
  (fun x=>Eq.trans (by kernel_rfl:_=nN x.1 x.2.1 (fun y=>ret (ay [.b] y) fun v g=>some (v,g))) (HL x.1 x.2.1 _)) fun _ _ h=>h
abbrev XZ:List (Nat×bc):= [(90,vB)]
theorem Rv:au Tryz.prog (aE XZ):=ae Bg <| al _
def vC {ρ:Type} (a0:ai) (k:Bool×Unit→Option ρ):Option ρ:=
 (iO a0 (⟨0,0,([]:List Int),([]:List Int)⟩:ai)).bind fun y1=>k (y1.1,())
def rY (a0:ai):Option (Bool×Unit):=vC a0 some
theorem T7 {ρ:Type} (a0:ai) (k:Bool×Unit→Option ρ):vC a0 k=(rY a0).bind k:=by
 simp only [rY,vC,Option.bind_assoc,Option.bind_some]
abbrev HM:bc:=bh [.ty (.st .config)] [.b] fun x=>rY x.1
theorem Qb:ax Tryz.prog 89 HM:=
 an (Λ:=aF []) (fn:=Tryz.f89) aG Rv af (by kernel_rfl) (az (by kernel_rfl:_= []) ah) (by kernel_rfl) (fun x=>rY x.1)
  (fun x=>Eq.trans (by kernel_rfl:_=vC x.1 (fun y=>ret (ay [.b] y) fun v g=>some (v,g))) (T7 x.1 _)) fun _ _ h=>h
abbrev X0:List (Nat×bc):= []
theorem Rx:au Tryz.prog (aE X0):=al _
def vD {ρ:Type} (a0:List ar) (k:Int×Unit→Option ρ):Option ρ:=
 br ((a0.length:Int)==0) (k (0,())) (aq (0≤(IntKind.wrap .i64 ((a0.length:Int) - 1))) ((a0[(IntKind.wrap .i64 ((a0.length:Int) - 1)).toNat]?).bind fun x1=>k (x1.epoch,())) none)
def p7 (a0:List ar):Option (Int×Unit):=vD a0 some
theorem T8 {ρ:Type} (a0:List ar) (k:Int×Unit→Option ρ):vD a0 k=(p7 a0).bind k:=by
 simp only [p7,vD,ao,ap,Option.bind_none,Option.bind_assoc,Option.bind_some]
abbrev Cr:bc:=bh [.ty (.ls (.st .entry))] [.i .i64] fun x=>p7 x.1
theorem HN:ax Tryz.prog 126 Cr:=
 an (Λ:=aF []) (fn:=Tryz.f126) aG Rx af (by kernel_rfl) (az (by kernel_rfl:_= []) ah) (by kernel_rfl) (fun x=>p7 x.1)
  (fun x=>Eq.trans (by kernel_rfl:_=vD x.1 (fun y=>ret (ay [.i .i64] y) fun v g=>some (v,g))) (T8 x.1 _)) fun _ _ h=>h
abbrev ZX:List (Nat×bc):= [(169,rq),(51,wA)]
theorem T9:au Tryz.prog (aE ZX):=ae uy <| ae A8 <| al _
def tJ {ρ:Type} (a0:ai) (a1:Int) (k:Int×Unit→Option ρ):Option ρ:=
 (bZ a0).bind fun y1=>br (!y1.1) (k (0,())) (br (a1==a0.primary) (k (1,())) ((jR a0.replicas a1).bind fun y2=>br y2.1 (k (2,())) ((jR a0.witnesses a1).bind fun y3=>br y3.1 (k (3,())) (k (0,())))))
def mD (a0:ai) (a1:Int):Option (Int×Unit):=tJ a0 a1 some
theorem V2 {ρ:Type} (a0:ai) (a1:Int) (k:Int×Unit→Option ρ):tJ a0 a1 k=(mD a0 a1).bind k:=by
 simp only [mD,tJ,ao,Option.bind_assoc,Option.bind_some]
abbrev FH:bc:=bh [.ty (.st .config), .ty (.i .i64)] [.i .i64] fun x=>mD x.1 x.2.1
theorem MQ:ax Tryz.prog 171 FH:=
 an (Λ:=aF []) (fn:=Tryz.f171) aG T9 af (by kernel_rfl) (az (by kernel_rfl:_= []) ah) (by kernel_rfl) (fun x=>mD x.1 x.2.1)
  (fun x=>Eq.trans (by kernel_rfl:_=tJ x.1 x.2.1 (fun y=>ret (ay [.i .i64] y) fun v g=>some (v,g))) (V2 x.1 x.2.1 _)) fun _ _ h=>h
abbrev JZ:List (Nat×bc):= [(120,rC),(172,Ru),(89,HM),(126,Cr),(171,FH)]
theorem D8:au Tryz.prog (aE JZ):=ae sG <| ae Xa <| ae Qb <| ae HN <| ae MQ <| al _
def ic {ρ:Type} (a0:am) (a1:Int) (k:Bool×Unit→Option ρ):Option ρ:=
 (eA a0.version 1 2).bind fun y1=>br (!y1.1) (k (false,())) ((eA a0.epoch 0 20).bind fun y2=>br (!y2.1) (k (false,())) ((rr a0.log).bind fun y3=>br (!y3.1) (k (false,())) ((rr a0.learned).bind fun y4=>br (!y4.1) (k (false,())) ((eA a0.first 0 16).bind fun y5=>br (!y5.1) (k (false,())) ((eA (IntKind.wrap .i64 (a0.first+(a0.log.length:Int))) 0 16).bind fun y6=>br (!y6.1) (k (false,())) ((eA a0.commit 0 (IntKind.wrap .i64 (a0.first+(a0.log.length:Int)))).bind fun y7=>br (!y7.1) (k (false,())) ((rY a0.config).bind fun y8=>br y8.1 (br (a0.first==0) (br ((a0.log.length:Int)==0) (k ((a0.commit==0),())) (k (false,()))) (k (false,()))) (br (!a0.intact) (k (false,())) (br (decide (a0.epoch < a0.config.epoch)) (k (false,())) ((p7 a0.log).bind fun y9=>br (decide (y9.1 > a0.config.epoch)) (k (false,())) ((mD a0.config a1).bind fun y10=>br (y10.1==0) (k (false,())) (br (y10.1==3) (br (decide ((a0.log.length:Int)≤3)) (br ((a0.log.length:Int)==3) (k (true,())) (k ((a0.first==0),()))) (k (false,()))) (k ((a0.first==0),()))))))))))))))
def ck (a0:am) (a1:Int):Option (Bool×Unit):=ic a0 a1 some
theorem FI {ρ:Type} (a0:am) (a1:Int) (k:Bool×Unit→Option ρ):ic a0 a1 k=(ck a0 a1).bind k:=by
 simp only [ck,ic,ao,Option.bind_assoc,Option.bind_some]
abbrev zD:bc:=bh [.ty (.st .server), .ty (.i .i64)] [.b] fun x=>ck x.1 x.2.1
theorem J0:ax Tryz.prog 125 zD:=
 an (Λ:=aF []) (fn:=Tryz.f125) aG D8 af (by kernel_rfl) (az (by kernel_rfl:_= []) ah) (by kernel_rfl) (fun x=>ck x.1 x.2.1)
  (fun x=>Eq.trans (by kernel_rfl:_=ic x.1 x.2.1 (fun y=>ret (ay [.b] y) fun v g=>some (v,g))) (FI x.1 x.2.1 _)) fun _ _ h=>h
abbrev xU:List (Nat×bc):= [(120,rC),(121,D6),(122,qM),(123,Cq),(124,Jj),(125,zD),(126,Cr),(127,D4),(89,HM),(90,vB)]
theorem uL:au Tryz.prog (aE xU):=ae sG <| ae ML <| ae tU <| ae HH <| ae T3 <| ae J0 <| ae HN <| ae MH <| ae Qb <| ae Bg <| al _
noncomputable abbrev kv:Code:=bV (bT Tryz.f46) 0
abbrev cX:en:=⟨[(1, .cl (.ptr 0 0)),(3, .cl (.int .i64))],[[.int .i64, .ro (.st .server), .ro (.i .i64), .ro (.st .config), .int .i64, .int .i64, .int .i64, .int .i64, .int .i64, .ro (.st .place)]],[],0,123⟩
abbrev fP:List (X×en):= [(.ret,⟨[(2, .cl (.bl))],[],[],0,123⟩),(.ext 0,⟨[(2, .cl (.dead))],[],[],0,123⟩)]
def dI {ρ:Type} (v7:Int) (v8:Int) (v9:List am) (v10:List Int) (v11:List ai) (v12:Int) (v13:Int) (v14:Int) (v15:Int) (v16:Int) (v17:List aU) (fn: ((Unit×Int×Unit)×((Int×(List am)×(List Int)×(List ai)×Int×Int×Int×Int×Int×(List aU)×Unit)×Unit)×(Unit))→Option ρ) (fe: ((Bool×Unit)×(Unit)×(Unit))⊕((Unit×Unit)×(Unit)×(Unit))→Option ρ):Option ρ:=
 br (decide (v7 < (v9.length:Int))) (aq (0≤v7) ((v9[v7.toNat]?).bind fun x18=>(ck x18 v7).bind fun y19=>br (!y19.1) (fe (.inl ((false,()),(()),(())))) (br (decide (x18.epoch > (v11.length:Int))) (fe (.inl ((false,()),(()),(())))) ((p7 x18.learned).bind fun y20=>br (decide (y20.1 > v12)) (fe (.inl ((false,()),(()),(())))) ((lQ (⟨v11,v12⟩:ak) x18.config.epoch).bind fun y21=>(rY x18.config).bind fun y22=>br (!y22.1) (br (!y21.2.1) (fe (.inl ((false,()),(()),(())))) ((iO y21.1 x18.config).bind fun y23=>br (!y23.1) (fe (.inl ((false,()),(()),(())))) (br (decide (x18.config.epoch > v12)) (fe (.inl ((false,()),(()),(())))) (fn (((),(IntKind.wrap .i64 (v7+1)),()),((v8,v9,v10,v11,v12,v13,v14,v15,v16,v17,()),()),(())))))) (fn (((),(IntKind.wrap .i64 (v7+1)),()),((v8,v9,v10,v11,v12,v13,v14,v15,v16,v17,()),()),(()))))))) none) (fe (.inr (((),()),(()),(()))))
def bu (s:cX.D):Option (cX.D⊕bg.D fP):=dI s.1.2.1 s.2.1.1.1 s.2.1.1.2.1 s.2.1.1.2.2.1 s.2.1.1.2.2.2.1 s.2.1.1.2.2.2.2.1 s.2.1.1.2.2.2.2.2.1 s.2.1.1.2.2.2.2.2.2.1 s.2.1.1.2.2.2.2.2.2.2.1 s.2.1.1.2.2.2.2.2.2.2.2.1 s.2.1.1.2.2.2.2.2.2.2.2.2.1 (fun s=>some (.inl s)) (fun e=>some (.inr e))
def ig:cX.D→Option (bg.D fP):=ko bu
theorem Bh {ρ:Type} (s:cX.D) (fn:cX.D→Option ρ) (fe:bg.D fP→Option ρ):dI s.1.2.1 s.2.1.1.1 s.2.1.1.2.1 s.2.1.1.2.2.1 s.2.1.1.2.2.2.1 s.2.1.1.2.2.2.2.1 s.2.1.1.2.2.2.2.2.1 s.2.1.1.2.2.2.2.2.2.1 s.2.1.1.2.2.2.2.2.2.2.1 s.2.1.1.2.2.2.2.2.2.2.2.1 s.2.1.1.2.2.2.2.2.2.2.2.2.1 fn fe=(bu s).bind (Sum.elim fn fe):=by
 simp only [bu,dI,ao,ap,Option.bind_none,Option.bind_assoc,Option.bind_some,Sum.elim_inl,Sum.elim_inr]
abbrev vE:cW:=df [] [1,3] cX fP ig
theorem Ak (s:cX.D):ez Θ (aE xU) (aF []) kv (cX.mk' s) (cU [1,3] [2] fun x S=>some (x,S))=(bu s).bind (Sum.elim (fun s'=>some (.nor,cX.mk' s')) fun e=>some (bg.e fP e)):=
 Eq.trans (by kernel_rfl:_=dI s.1.2.1 s.2.1.1.1 s.2.1.1.2.1 s.2.1.1.2.2.1 s.2.1.1.2.2.2.1 s.2.1.1.2.2.2.2.1 s.2.1.1.2.2.2.2.2.1 s.2.1.1.2.2.2.2.2.2.1 s.2.1.1.2.2.2.2.2.2.2.1 s.2.1.1.2.2.2.2.2.2.2.2.1 s.2.1.1.2.2.2.2.2.2.2.2.2.1 (fun s'=>some (.nor,cX.mk' s')) (fun e=>some (bg.e fP e))) (Bh s _ _)
theorem Al:bP Tryz.prog kv vE:=aW aG uL af (by kernel_rfl) (dp (by kernel_rfl:_= []) ah) [] [1,3] [2] cX fP (by kernel_rfl) bu Ak ig (gf bu) (aL bu)
def i4 {ρ:Type} (a0:aj) (k:Bool×Unit→Option ρ):Option ρ:=
 (eA a0.now 0 999).bind fun y1=>br (!y1.1) (k (false,())) (br (!((a0.servers.length:Int)==5)) (k (false,())) ((ku a0.sides).bind fun y2=>br (!y2.1) (k (false,())) ((cR a0.master).bind fun y3=>br (!y3.1) (k (false,())) ((eA a0.masterUp 0 3).bind fun y4=>br (!y4.1) (k (false,())) ((oa a0.lease).bind fun y5=>br (!y5.1) (k (false,())) ((nq a0.places).bind fun y6=>br (!y6.1) (k (false,())) (br (decide (a0.lease.epoch > a0.master.activated)) (k (false,())) ((ig (((),0,()),((a0.now,a0.servers,a0.sides,a0.master.configs,a0.master.activated,a0.masterUp,a0.lease.epoch,a0.lease.holder,a0.lease.ends,a0.places,()),()),(()))).bind fun e24=>Sum.elim (fun e24_=>k (e24_.1.1,())) (fun _=>k (true,())) e24))))))))
def bn (a0:aj):Option (Bool×Unit):=i4 a0 some
theorem D9 {ρ:Type} (a0:aj) (k:Bool×Unit→Option ρ):i4 a0 k=(bn a0).bind k:=by
 simp only [bn,i4,ao,bR,Option.bind_assoc,Option.bind_some]
abbrev mF:bc:=bh [.ty (.st .cluster)] [.b] fun x=>bn x.1
theorem p8:ax Tryz.prog 46 mF:=
 an (Λ:=aF [(bU kv,vE)]) (fn:=Tryz.f46) aG uL af (by kernel_rfl) (az (by kernel_rfl:_= [kv]) (aK (q:=bU kv) rfl Al fun _ _ _=>by kernel_rfl)) (by kernel_rfl) (fun x=>bn x.1)
  (fun x=>Eq.trans (by kernel_rfl:_=i4 x.1 (fun y=>ret (ay [.b] y) fun v g=>some (v,g))) (D9 x.1 _)) fun _ _ h=>h
abbrev vF:List (Nat×bc):= [(50,uz),(46,mF)]
theorem tw:au Tryz.prog (aE vF):=ae zC <| ae p8 <| al _
noncomputable abbrev iP:Code:=bV (bT Tryz.f167) 0
abbrev cq:en:=⟨[(1, .cl (.ptr 0 0)),(3, .cl (.ptr 1 0)),(4, .cl (.bl)),(5, .cl (.int .i64))],[[.int .i64, .ro (.st .server), .ro (.i .i64), .ro (.st .config), .int .i64, .int .i64, .int .i64, .int .i64, .int .i64, .ro (.st .place)],[.int .i64, .int .i64, .own 0 (.i .i64), .own 1 (.i .i64)]],[.i .i64, .i .i64],0,41⟩
abbrev eC:List (X×en):= [(.ret,⟨[(2, .cl (.bl)),(4, .cl (.bl))],[],[],0,41⟩),(.ext 0,⟨[(2, .cl (.dead)),(4, .cl (.bl))],[],[],0,41⟩)]
def ek {ρ:Type} (v3:List Int) (v4:List Int) (v5:Bool) (v6:Int) (v7:Int) (v8:List am) (v9:List Int) (v10:List ai) (v11:Int) (v12:Int) (v13:Int) (v14:Int) (v15:Int) (v16:List aU) (v17:Int) (v18:Int) (fn: ((Unit×Unit×Bool×Int×Unit)×((Int×(List am)×(List Int)×(List ai)×Int×Int×Int×Int×Int×(List aU)×Unit)×(Int×Int×Unit×Unit×Unit)×Unit)×((List Int)×(List Int)×Unit))→Option ρ) (fe: ((Bool×Bool×Unit)×(Unit)×(Unit))⊕((Unit×Bool×Unit)×(Unit)×(Unit))→Option ρ):Option ρ:=
 br (decide (v6 < (v3.length:Int))) (br v5 (aq (0≤v6∧v6 < (v3.length:Int)) ((v3[v6.toNat]?).bind fun x19=>aq (0≤x19) ((v8[x19.toNat]?).bind fun x20=>br (x20.config.epoch==v17) (fe (.inl ((true,v5,()),(()),(())))) (fn (((),(),v5,(IntKind.wrap .i64 (v6+1)),()),((v7,v8,v9,v10,v11,v12,v13,v14,v15,v16,()),(v17,v18,(),(),()),()),(v3,v4,())))) none) none) (fe (.inr (((),v5,()),(()),(()))))) (fe (.inr (((),v5,()),(()),(()))))
def cr (s:cq.D):Option (cq.D⊕bg.D eC):=ek s.2.2.1 s.2.2.2.1 s.1.2.2.1 s.1.2.2.2.1 s.2.1.1.1 s.2.1.1.2.1 s.2.1.1.2.2.1 s.2.1.1.2.2.2.1 s.2.1.1.2.2.2.2.1 s.2.1.1.2.2.2.2.2.1 s.2.1.1.2.2.2.2.2.2.1 s.2.1.1.2.2.2.2.2.2.2.1 s.2.1.1.2.2.2.2.2.2.2.2.1 s.2.1.1.2.2.2.2.2.2.2.2.2.1 s.2.1.2.1.1 s.2.1.2.1.2.1 (fun s=>some (.inl s)) (fun e=>some (.inr e))
def fW:cq.D→Option (bg.D eC):=ko cr
theorem yQ {ρ:Type} (s:cq.D) (fn:cq.D→Option ρ) (fe:bg.D eC→Option ρ):ek s.2.2.1 s.2.2.2.1 s.1.2.2.1 s.1.2.2.2.1 s.2.1.1.1 s.2.1.1.2.1 s.2.1.1.2.2.1 s.2.1.1.2.2.2.1 s.2.1.1.2.2.2.2.1 s.2.1.1.2.2.2.2.2.1 s.2.1.1.2.2.2.2.2.2.1 s.2.1.1.2.2.2.2.2.2.2.1 s.2.1.1.2.2.2.2.2.2.2.2.1 s.2.1.1.2.2.2.2.2.2.2.2.2.1 s.2.1.2.1.1 s.2.1.2.1.2.1 fn fe=(cr s).bind (Sum.elim fn fe):=by
 simp only [cr,ek,ao,ap,Option.bind_none,Option.bind_assoc,Option.bind_some,Sum.elim_inl,Sum.elim_inr]
abbrev ue:cW:=df [] [1,3,4,5] cq eC fW
theorem xV (s:cq.D):ez Θ (aE vF) (aF []) iP (cq.mk' s) (cU [1,3,4,5] [2,4] fun x S=>some (x,S))=(cr s).bind (Sum.elim (fun s'=>some (.nor,cq.mk' s')) fun e=>some (bg.e eC e)):=
 Eq.trans (by kernel_rfl:_=ek s.2.2.1 s.2.2.2.1 s.1.2.2.1 s.1.2.2.2.1 s.2.1.1.1 s.2.1.1.2.1 s.2.1.1.2.2.1 s.2.1.1.2.2.2.1 s.2.1.1.2.2.2.2.1 s.2.1.1.2.2.2.2.2.1 s.2.1.1.2.2.2.2.2.2.1 s.2.1.1.2.2.2.2.2.2.2.1 s.2.1.1.2.2.2.2.2.2.2.2.1 s.2.1.1.2.2.2.2.2.2.2.2.2.1 s.2.1.2.1.1 s.2.1.2.1.2.1 (fun s'=>some (.nor,cq.mk' s')) (fun e=>some (bg.e eC e))) (yQ s _ _)
theorem xW:bP Tryz.prog iP ue:=aW aG tw af (by kernel_rfl) (dp (by kernel_rfl:_= []) ah) [] [1,3,4,5] [2,4] cq eC (by kernel_rfl) cr xV fW (gf cr) (aL cr)
def jv {ρ:Type} (a0:aj) (k:Bool×Unit→Option ρ):Option ρ:=
 (fK a0.master).bind fun y1=>(bn a0).bind fun y2=>br (!y2.1) (k (false,())) ((fW (((),(),y1.2.1,0,()),((a0.now,a0.servers,a0.sides,a0.master.configs,a0.master.activated,a0.masterUp,a0.lease.epoch,a0.lease.holder,a0.lease.ends,a0.places,()),(y1.1.epoch,y1.1.primary,(),(),()),()),(y1.1.replicas,y1.1.witnesses,()))).bind fun e21=>Sum.elim (fun e21_=>k (e21_.1.1,())) (fun e21_=>k ((!e21_.1.2.1),())) e21)
def fQ (a0:aj):Option (Bool×Unit):=jv a0 some
theorem Bi {ρ:Type} (a0:aj) (k:Bool×Unit→Option ρ):jv a0 k=(fQ a0).bind k:=by
 simp only [fQ,jv,ao,bR,Option.bind_assoc,Option.bind_some]
abbrev vG:bc:=bh [.ty (.st .cluster)] [.b] fun x=>fQ x.1
theorem Ea:ax Tryz.prog 167 vG:=
 an (Λ:=aF [(bU iP,ue)]) (fn:=Tryz.f167) aG tw af (by kernel_rfl) (az (by kernel_rfl:_= [iP]) (aK (q:=bU iP) rfl xW fun _ _ _=>by kernel_rfl)) (by kernel_rfl) (fun x=>fQ x.1)
  (fun x=>Eq.trans (by kernel_rfl:_=jv x.1 (fun y=>ret (ay [.b] y) fun v g=>some (v,g))) (Bi x.1 _)) fun _ _ h=>h
abbrev OK:List (Nat×bc):= [(50,uz),(46,mF),(167,vG)]
theorem HO:au Tryz.prog (aE OK):=ae zC <| ae p8 <| ae Ea <| al _
def pd {ρ:Type} (a0:aj) (k:Bool×Unit→Option ρ):Option ρ:=
 (fK a0.master).bind fun y1=>(bn a0).bind fun y2=>br y2.1 (br y1.2.1 ((fQ a0).bind fun y3=>k ((!y3.1),())) (k (false,()))) (k (false,()))
def lS (a0:aj):Option (Bool×Unit):=pd a0 some
theorem J1 {ρ:Type} (a0:aj) (k:Bool×Unit→Option ρ):pd a0 k=(lS a0).bind k:=by
 simp only [lS,pd,ao,Option.bind_assoc,Option.bind_some]
abbrev Da:bc:=bh [.ty (.st .cluster)] [.b] fun x=>lS x.1
theorem OL:ax Tryz.prog 96 Da:=
 an (Λ:=aF []) (fn:=Tryz.f96) aG HO af (by kernel_rfl) (az (by kernel_rfl:_= []) ah) (by kernel_rfl) (fun x=>lS x.1)
  (fun x=>Eq.trans (by kernel_rfl:_=pd x.1 (fun y=>ret (ay [.b] y) fun v g=>some (v,g))) (J1 x.1 _)) fun _ _ h=>h
abbrev Jl:List (Nat×bc):= [(46,mF)]
theorem Bk:au Tryz.prog (aE Jl):=ae p8 <| al _
noncomputable abbrev qP:Code:=bV (bT Tryz.f129) 0
abbrev fw:en:=⟨[(1, .cl (.ptr 0 0)),(3, .cl (.own 0 (.i .i64))),(4, .cl (.int .i64))],[[.int .i64, .ro (.st .server), .ro (.i .i64), .ro (.st .config), .int .i64, .int .i64, .int .i64, .int .i64, .int .i64, .ro (.st .place)]],[.i .i64],0,28⟩
abbrev lT:List (X×en):= [(.ext 0,⟨[(3, .cl (.own 0 (.i .i64)))],[],[.i .i64],0,28⟩)]
def kw {ρ:Type} (v1:List Int) (v2:Int) (v3:Int) (v4:List am) (v5:List Int) (v6:List ai) (v7:Int) (v8:Int) (v9:Int) (v10:Int) (v11:Int) (v12:List aU) (fn: ((Unit×Unit×Int×Unit)×((Int×(List am)×(List Int)×(List ai)×Int×Int×Int×Int×Int×(List aU)×Unit)×Unit)×((List Int)×Unit))→Option ρ) (fe: ((Unit×Unit)×(Unit)×((List Int)×Unit))→Option ρ):Option ρ:=
 br (decide (v2 < (v4.length:Int))) ((bn (⟨v3,v4,v5,(⟨v6,v7⟩:ak),v8,(⟨v9,v10,v11⟩:eg),v12⟩:aj)).bind fun y13=>br y13.1 (aq (0≤v2) ((v4[v2.toNat]?).bind fun x14=>br x14.up (aq ((v1++([v2]:List Int)).length*8≤2 ^ 40) (fn (((),(),(IntKind.wrap .i64 (v2+1)),()),((v3,v4,v5,v6,v7,v8,v9,v10,v11,v12,()),()),((v1++([v2]:List Int)),()))) none) (fn (((),(),(IntKind.wrap .i64 (v2+1)),()),((v3,v4,v5,v6,v7,v8,v9,v10,v11,v12,()),()),(v1,())))) none) (fe (((),()),(()),(v1,())))) (fe (((),()),(()),(v1,())))
def fx (s:fw.D):Option (fw.D⊕bg.D lT):=kw s.2.2.1 s.1.2.2.1 s.2.1.1.1 s.2.1.1.2.1 s.2.1.1.2.2.1 s.2.1.1.2.2.2.1 s.2.1.1.2.2.2.2.1 s.2.1.1.2.2.2.2.2.1 s.2.1.1.2.2.2.2.2.2.1 s.2.1.1.2.2.2.2.2.2.2.1 s.2.1.1.2.2.2.2.2.2.2.2.1 s.2.1.1.2.2.2.2.2.2.2.2.2.1 (fun s=>some (.inl s)) (fun e=>some (.inr e))
def qQ:fw.D→Option (bg.D lT):=ko fx
theorem J2 {ρ:Type} (s:fw.D) (fn:fw.D→Option ρ) (fe:bg.D lT→Option ρ):kw s.2.2.1 s.1.2.2.1 s.2.1.1.1 s.2.1.1.2.1 s.2.1.1.2.2.1 s.2.1.1.2.2.2.1 s.2.1.1.2.2.2.2.1 s.2.1.1.2.2.2.2.2.1 s.2.1.1.2.2.2.2.2.2.1 s.2.1.1.2.2.2.2.2.2.2.1 s.2.1.1.2.2.2.2.2.2.2.2.1 s.2.1.1.2.2.2.2.2.2.2.2.2.1 fn fe=(fx s).bind (Sum.elim fn fe):=by
 simp only [fx,kw,ao,ap,Option.bind_none,Option.bind_assoc,Option.bind_some,Sum.elim_inl,Sum.elim_inr]
abbrev Db:cW:=df [] [1,3,4] fw lT qQ
theorem HP (s:fw.D):ez Θ (aE Jl) (aF []) qP (fw.mk' s) (cU [1,3,4] [3] fun x S=>some (x,S))=(fx s).bind (Sum.elim (fun s'=>some (.nor,fw.mk' s')) fun e=>some (bg.e lT e)):=
 Eq.trans (by kernel_rfl:_=kw s.2.2.1 s.1.2.2.1 s.2.1.1.1 s.2.1.1.2.1 s.2.1.1.2.2.1 s.2.1.1.2.2.2.1 s.2.1.1.2.2.2.2.1 s.2.1.1.2.2.2.2.2.1 s.2.1.1.2.2.2.2.2.2.1 s.2.1.1.2.2.2.2.2.2.2.1 s.2.1.1.2.2.2.2.2.2.2.2.1 s.2.1.1.2.2.2.2.2.2.2.2.2.1 (fun s'=>some (.nor,fw.mk' s')) (fun e=>some (bg.e lT e))) (J2 s _ _)
theorem HQ:bP Tryz.prog qP Db:=aW aG Bk af (by kernel_rfl) (dp (by kernel_rfl:_= []) ah) [] [1,3,4] [3] fw lT (by kernel_rfl) fx HP qQ (gf fx) (aL fx)
def p9 {ρ:Type} (a0:aj) (k: (List Int)×Unit→Option ρ):Option ρ:=
 (qQ (((),(),0,()),((a0.now,a0.servers,a0.sides,a0.master.configs,a0.master.activated,a0.masterUp,a0.lease.epoch,a0.lease.holder,a0.lease.ends,a0.places,()),()),(([]:List Int),()))).bind fun e15=>k (e15.2.2.1,())
def ln (a0:aj):Option ((List Int)×Unit):=p9 a0 some
theorem OM {ρ:Type} (a0:aj) (k: (List Int)×Unit→Option ρ):p9 a0 k=(ln a0).bind k:=by
 simp only [ln,p9,Option.bind_assoc,Option.bind_some]
abbrev Jm:bc:=bh [.ty (.st .cluster)] [.ls (.i .i64)] fun x=>ln x.1
theorem Ua:ax Tryz.prog 129 Jm:=
 an (Λ:=aF [(bU qP,Db)]) (fn:=Tryz.f129) aG Bk af (by kernel_rfl) (az (by kernel_rfl:_= [qP]) (aK (q:=bU qP) rfl HQ fun _ _ _=>by kernel_rfl)) (by kernel_rfl) (fun x=>ln x.1)
  (fun x=>Eq.trans (by kernel_rfl:_=p9 x.1 (fun y=>ret (ay [.ls (.i .i64)] y) fun v g=>some (v,g))) (OM x.1 _)) fun _ _ h=>h
abbrev FJ:List (Nat×bc):= [(121,D6)]
theorem zE:au Tryz.prog (aE FJ):=ae ML <| al _
noncomputable abbrev pe:Code:=bV (bT Tryz.f130) 0
abbrev eD:en:=⟨[(0, .cl (.ro (.i .i64))),(3, .cl (.own 0 (.i .i64))),(4, .cl (.int .i64))],[],[.i .i64],0,26⟩
abbrev kx:List (X×en):= [(.ext 0,⟨[(3, .cl (.own 0 (.i .i64)))],[],[.i .i64],0,26⟩)]
def jf {ρ:Type} (v1:List Int) (v2:List Int) (v3:Int) (fn: (((List Int)×Unit×Int×Unit)×(Unit)×((List Int)×Unit))→Option ρ) (fe: ((Unit×Unit)×(Unit)×((List Int)×Unit))→Option ρ):Option ρ:=
 br (decide (v3 < (v2.length:Int))) ((ku v2).bind fun y4=>br y4.1 (aq (0≤v3) ((v2[v3.toNat]?).bind fun x5=>br (x5==0) (aq ((v1++([v3]:List Int)).length*8≤2 ^ 40) (fn ((v2,(),(IntKind.wrap .i64 (v3+1)),()),(()),((v1++([v3]:List Int)),()))) none) (fn ((v2,(),(IntKind.wrap .i64 (v3+1)),()),(()),(v1,())))) none) (fe (((),()),(()),(v1,())))) (fe (((),()),(()),(v1,())))
def eE (s:eD.D):Option (eD.D⊕bg.D kx):=jf s.2.2.1 s.1.1 s.1.2.2.1 (fun s=>some (.inl s)) (fun e=>some (.inr e))
def pf:eD.D→Option (bg.D kx):=ko eE
theorem HS {ρ:Type} (s:eD.D) (fn:eD.D→Option ρ) (fe:bg.D kx→Option ρ):jf s.2.2.1 s.1.1 s.1.2.2.1 fn fe=(eE s).bind (Sum.elim fn fe):=by
 simp only [eE,jf,ao,ap,Option.bind_none,Option.bind_assoc,Option.bind_some,Sum.elim_inl,Sum.elim_inr]
abbrev Bl:cW:=df [] [0,3,4] eD kx pf
theorem FK (s:eD.D):ez Θ (aE FJ) (aF []) pe (eD.mk' s) (cU [0,3,4] [3] fun x S=>some (x,S))=(eE s).bind (Sum.elim (fun s'=>some (.nor,eD.mk' s')) fun e=>some (bg.e kx e)):=
 Eq.trans (by kernel_rfl:_=jf s.2.2.1 s.1.1 s.1.2.2.1 (fun s'=>some (.nor,eD.mk' s')) (fun e=>some (bg.e kx e))) (HS s _ _)
theorem FL:bP Tryz.prog pe Bl:=aW aG zE af (by kernel_rfl) (dp (by kernel_rfl:_= []) ah) [] [0,3,4] [3] eD kx (by kernel_rfl) eE FK pf (gf eE) (aL eE)
def oc {ρ:Type} (a0:List Int) (k: (List Int)×Unit→Option ρ):Option ρ:=
 (pf ((a0,(),0,()),(()),(([]:List Int),()))).bind fun e6=>k (e6.2.2.1,())
def jG (a0:List Int):Option ((List Int)×Unit):=oc a0 some
theorem MR {ρ:Type} (a0:List Int) (k: (List Int)×Unit→Option ρ):oc a0 k=(jG a0).bind k:=by
 simp only [jG,oc,Option.bind_assoc,Option.bind_some]
abbrev FM:bc:=bh [.ty (.ls (.i .i64))] [.ls (.i .i64)] fun x=>jG x.1
theorem Ry:ax Tryz.prog 130 FM:=
 an (Λ:=aF [(bU pe,Bl)]) (fn:=Tryz.f130) aG zE af (by kernel_rfl) (az (by kernel_rfl:_= [pe]) (aK (q:=bU pe) rfl FL fun _ _ _=>by kernel_rfl)) (by kernel_rfl) (fun x=>jG x.1)
  (fun x=>Eq.trans (by kernel_rfl:_=oc x.1 (fun y=>ret (ay [.ls (.i .i64)] y) fun v g=>some (v,g))) (MR x.1 _)) fun _ _ h=>h
abbrev V3:List (Nat×bc):= [(129,Jm),(130,FM),(128,ux)]
theorem OO:au Tryz.prog (aE V3):=ae Ua <| ae Ry <| ae zA <| al _
def rZ {ρ:Type} (a0:aj) (k: (List Int)×Unit→Option ρ):Option ρ:=
 (ln a0).bind fun y1=>(jG a0.sides).bind fun y2=>(fJ y1.1 y2.1).bind fun y3=>k (y3.1,())
def pg (a0:aj):Option ((List Int)×Unit):=rZ a0 some
theorem Rz {ρ:Type} (a0:aj) (k: (List Int)×Unit→Option ρ):rZ a0 k=(pg a0).bind k:=by
 simp only [pg,rZ,Option.bind_assoc,Option.bind_some]
abbrev MS:bc:=bh [.ty (.st .cluster)] [.ls (.i .i64)] fun x=>pg x.1
theorem V4:ax Tryz.prog 48 MS:=
 an (Λ:=aF []) (fn:=Tryz.f48) aG OO af (by kernel_rfl) (az (by kernel_rfl:_= []) ah) (by kernel_rfl) (fun x=>pg x.1)
  (fun x=>Eq.trans (by kernel_rfl:_=rZ x.1 (fun y=>ret (ay [.ls (.i .i64)] y) fun v g=>some (v,g))) (Rz x.1 _)) fun _ _ h=>h
abbrev J3:List (Nat×bc):= [(120,rC),(79,A5)]
theorem Eb:au Tryz.prog (aE J3):=ae sG <| ae Ft <| al _
def mG {ρ:Type} (a0:am) (k: (List ar)×Unit→Option ρ):Option ρ:=
 (eA a0.commit a0.first (IntKind.wrap .i64 (a0.first+(a0.log.length:Int)))).bind fun y1=>br (!y1.1) (k (([]:List ar),())) (br (decide (a0.first < 0)) (k (([]:List ar),())) (aq (0≤(0:Int)∧(0:Int)≤(IntKind.wrap .i64 (a0.commit - a0.first))∧(IntKind.wrap .i64 (a0.commit - a0.first))≤(a0.log.length:Int)) ((ju ((a0.log.drop (0:Int).toNat).take ((IntKind.wrap .i64 (a0.commit - a0.first)).toNat - (0:Int).toNat))).bind fun y2=>k (y2.1,())) none))
def gP (a0:am):Option ((List ar)×Unit):=mG a0 some
theorem FN {ρ:Type} (a0:am) (k: (List ar)×Unit→Option ρ):mG a0 k=(gP a0).bind k:=by
 simp only [gP,mG,ao,ap,Option.bind_none,Option.bind_assoc,Option.bind_some]
abbrev zF:bc:=bh [.ty (.st .server)] [.ls (.st .entry)] fun x=>gP x.1
theorem J4:ax Tryz.prog 223 zF:=
 an (Λ:=aF []) (fn:=Tryz.f223) aG Eb af (by kernel_rfl) (az (by kernel_rfl:_= []) ah) (by kernel_rfl) (fun x=>gP x.1)
  (fun x=>Eq.trans (by kernel_rfl:_=mG x.1 (fun y=>ret (ay [.ls (.st .entry)] y) fun v g=>some (v,g))) (FN x.1 _)) fun _ _ h=>h
abbrev X1:List (Nat×bc):= [(171,FH),(79,A5),(223,zF)]
theorem RA:au Tryz.prog (aE X1):=ae MQ <| ae Ft <| ae J4 <| al _
def vH {ρ:Type} (a0:am) (a1:Int) (k: (List ar)×Unit→Option ρ):Option ρ:=
 (mD a0.config a1).bind fun y1=>(ju a0.learned).bind fun y2=>br (y1.1==1) ((gP a0).bind fun y3=>br (decide ((y3.1.length:Int) > (y2.1.length:Int))) (k (y3.1,())) (k (y2.1,()))) (br (y1.1==2) ((gP a0).bind fun y4=>br (decide ((y4.1.length:Int) > (y2.1.length:Int))) (k (y4.1,())) (k (y2.1,()))) (k (y2.1,())))
def tK (a0:am) (a1:Int):Option ((List ar)×Unit):=vH a0 a1 some
theorem Ub {ρ:Type} (a0:am) (a1:Int) (k: (List ar)×Unit→Option ρ):vH a0 a1 k=(tK a0 a1).bind k:=by
 simp only [tK,vH,ao,Option.bind_assoc,Option.bind_some]
abbrev Qc:bc:=bh [.ty (.st .server), .ty (.i .i64)] [.ls (.st .entry)] fun x=>tK x.1 x.2.1
theorem X2:ax Tryz.prog 168 Qc:=
 an (Λ:=aF []) (fn:=Tryz.f168) aG RA af (by kernel_rfl) (az (by kernel_rfl:_= []) ah) (by kernel_rfl) (fun x=>tK x.1 x.2.1)
  (fun x=>Eq.trans (by kernel_rfl:_=vH x.1 x.2.1 (fun y=>ret (ay [.ls (.st .entry)] y) fun v g=>some (v,g))) (Ub x.1 x.2.1 _)) fun _ _ h=>h
abbrev X3:List (Nat×bc):= [(168,Qc)]
theorem RB:au Tryz.prog (aE X3):=ae X2 <| al _
def vI {ρ:Type} (a0:aj) (a1:Int) (k: (List ar)×Unit→Option ρ):Option ρ:=
 aq (0≤a1) ((a0.servers[a1.toNat]?).bind fun x1=>(tK x1 a1).bind fun y2=>k (y2.1,())) none
def mH (a0:aj) (a1:Int):Option ((List ar)×Unit):=vI a0 a1 some
theorem Uc {ρ:Type} (a0:aj) (a1:Int) (k: (List ar)×Unit→Option ρ):vI a0 a1 k=(mH a0 a1).bind k:=by
 simp only [mH,vI,ap,Option.bind_none,Option.bind_assoc,Option.bind_some]
abbrev HT:bc:=bh [.ty (.st .cluster), .ty (.i .i64)] [.ls (.st .entry)] fun x=>mH x.1 x.2.1
theorem Qd:ax Tryz.prog 99 HT:=
 an (Λ:=aF []) (fn:=Tryz.f99) aG RB af (by kernel_rfl) (az (by kernel_rfl:_= []) ah) (by kernel_rfl) (fun x=>mH x.1 x.2.1)
  (fun x=>Eq.trans (by kernel_rfl:_=vI x.1 x.2.1 (fun y=>ret (ay [.ls (.st .entry)] y) fun v g=>some (v,g))) (Uc x.1 x.2.1 _)) fun _ _ h=>h
abbrev wE:List (Nat×bc):= [(48,MS),(46,mF),(99,HT)]
theorem uf:au Tryz.prog (aE wE):=ae V4 <| ae p8 <| ae Qd <| al _
noncomputable abbrev jw:Code:=bV (bT Tryz.f97) 0
abbrev cJ:en:=⟨[(1, .cl (.ptr 0 0)),(3, .cl (.int .i64)),(4, .cl (.own 0 (.i .i64))),(5, .cl (.int .i64))],[[.int .i64, .ro (.st .server), .ro (.i .i64), .ro (.st .config), .int .i64, .int .i64, .int .i64, .int .i64, .int .i64, .ro (.st .place)]],[.i .i64],0,39⟩
abbrev eZ:List (X×en):= [(.ext 0,⟨[(3, .cl (.int .i64))],[],[],0,39⟩)]
def eF {ρ:Type} (v2:List Int) (v3:Int) (v4:Int) (v5:Int) (v6:List am) (v7:List Int) (v8:List ai) (v9:Int) (v10:Int) (v11:Int) (v12:Int) (v13:Int) (v14:List aU) (fn: ((Unit×Int×Unit×Int×Unit)×((Int×(List am)×(List Int)×(List ai)×Int×Int×Int×Int×Int×(List aU)×Unit)×Unit)×((List Int)×Unit))→Option ρ) (fe: ((Int×Unit)×(Unit)×(Unit))→Option ρ):Option ρ:=
 br (decide (v4 < (v2.length:Int))) ((bn (⟨v5,v6,v7,(⟨v8,v9⟩:ak),v10,(⟨v11,v12,v13⟩:eg),v14⟩:aj)).bind fun y15=>br y15.1 (br (decide (v3 < 0)) (aq (0≤v4∧v4 < (v2.length:Int)) ((v2[v4.toNat]?).bind fun x16=>fn (((),x16,(),(IntKind.wrap .i64 (v4+1)),()),((v5,v6,v7,v8,v9,v10,v11,v12,v13,v14,()),()),(v2,()))) none) (aq (0≤v4∧v4 < (v2.length:Int)) ((v2[v4.toNat]?).bind fun x17=>(mH (⟨v5,v6,v7,(⟨v8,v9⟩:ak),v10,(⟨v11,v12,v13⟩:eg),v14⟩:aj) x17).bind fun y18=>(mH (⟨v5,v6,v7,(⟨v8,v9⟩:ak),v10,(⟨v11,v12,v13⟩:eg),v14⟩:aj) v3).bind fun y19=>br (decide ((y18.1.length:Int) > (y19.1.length:Int))) (aq (0≤v4∧v4 < (v2.length:Int)) ((v2[v4.toNat]?).bind fun x20=>fn (((),x20,(),(IntKind.wrap .i64 (v4+1)),()),((v5,v6,v7,v8,v9,v10,v11,v12,v13,v14,()),()),(v2,()))) none) (fn (((),v3,(),(IntKind.wrap .i64 (v4+1)),()),((v5,v6,v7,v8,v9,v10,v11,v12,v13,v14,()),()),(v2,())))) none)) (fe ((v3,()),(()),(())))) (fe ((v3,()),(()),(())))
def cK (s:cJ.D):Option (cJ.D⊕bg.D eZ):=eF s.2.2.1 s.1.2.1 s.1.2.2.2.1 s.2.1.1.1 s.2.1.1.2.1 s.2.1.1.2.2.1 s.2.1.1.2.2.2.1 s.2.1.1.2.2.2.2.1 s.2.1.1.2.2.2.2.2.1 s.2.1.1.2.2.2.2.2.2.1 s.2.1.1.2.2.2.2.2.2.2.1 s.2.1.1.2.2.2.2.2.2.2.2.1 s.2.1.1.2.2.2.2.2.2.2.2.2.1 (fun s=>some (.inl s)) (fun e=>some (.inr e))
def jx:cJ.D→Option (bg.D eZ):=ko cK
theorem Am {ρ:Type} (s:cJ.D) (fn:cJ.D→Option ρ) (fe:bg.D eZ→Option ρ):eF s.2.2.1 s.1.2.1 s.1.2.2.2.1 s.2.1.1.1 s.2.1.1.2.1 s.2.1.1.2.2.1 s.2.1.1.2.2.2.1 s.2.1.1.2.2.2.2.1 s.2.1.1.2.2.2.2.2.1 s.2.1.1.2.2.2.2.2.2.1 s.2.1.1.2.2.2.2.2.2.2.1 s.2.1.1.2.2.2.2.2.2.2.2.1 s.2.1.1.2.2.2.2.2.2.2.2.2.1 fn fe=(cK s).bind (Sum.elim fn fe):=by
 simp only [cK,eF,ao,ap,Option.bind_none,Option.bind_assoc,Option.bind_some,Sum.elim_inl,Sum.elim_inr]
abbrev uM:cW:=df [] [1,3,4,5] cJ eZ jx
theorem yR (s:cJ.D):ez Θ (aE wE) (aF []) jw (cJ.mk' s) (cU [1,3,4,5] [3] fun x S=>some (x,S))=(cK s).bind (Sum.elim (fun s'=>some (.nor,cJ.mk' s')) fun e=>some (bg.e eZ e)):=
 Eq.trans (by kernel_rfl:_=eF s.2.2.1 s.1.2.1 s.1.2.2.2.1 s.2.1.1.1 s.2.1.1.2.1 s.2.1.1.2.2.1 s.2.1.1.2.2.2.1 s.2.1.1.2.2.2.2.1 s.2.1.1.2.2.2.2.2.1 s.2.1.1.2.2.2.2.2.2.1 s.2.1.1.2.2.2.2.2.2.2.1 s.2.1.1.2.2.2.2.2.2.2.2.1 s.2.1.1.2.2.2.2.2.2.2.2.2.1 (fun s'=>some (.nor,cJ.mk' s')) (fun e=>some (bg.e eZ e))) (Am s _ _)
theorem yS:bP Tryz.prog jw uM:=aW aG uf af (by kernel_rfl) (dp (by kernel_rfl:_= []) ah) [] [1,3,4,5] [3] cJ eZ (by kernel_rfl) cK yR jx (gf cK) (aL cK)
def ii {ρ:Type} (a0:aj) (k:Int×Unit→Option ρ):Option ρ:=
 (pg a0).bind fun y1=>(jx (((),(-1),(),0,()),((a0.now,a0.servers,a0.sides,a0.master.configs,a0.master.activated,a0.masterUp,a0.lease.epoch,a0.lease.holder,a0.lease.ends,a0.places,()),()),(y1.1,()))).bind fun e21=>k (e21.1.1,())
def eo (a0:aj):Option (Int×Unit):=ii a0 some
theorem CC {ρ:Type} (a0:aj) (k:Int×Unit→Option ρ):ii a0 k=(eo a0).bind k:=by
 simp only [eo,ii,Option.bind_assoc,Option.bind_some]
abbrev wF:bc:=bh [.ty (.st .cluster)] [.i .i64] fun x=>eo x.1
theorem FO:ax Tryz.prog 97 wF:=
 an (Λ:=aF [(bU jw,uM)]) (fn:=Tryz.f97) aG uf af (by kernel_rfl) (az (by kernel_rfl:_= [jw]) (aK (q:=bU jw) rfl yS fun _ _ _=>by kernel_rfl)) (by kernel_rfl) (fun x=>eo x.1)
  (fun x=>Eq.trans (by kernel_rfl:_=ii x.1 (fun y=>ret (ay [.i .i64] y) fun v g=>some (v,g))) (CC x.1 _)) fun _ _ h=>h
abbrev V5:List (Nat×bc):= [(123,Cq)]
theorem OP:au Tryz.prog (aE V5):=ae HH <| al _
def ug {ρ:Type} (a0:eg) (k:Int×Unit→Option ρ):Option ρ:=
 (oa a0).bind fun y1=>br (!y1.1) (k (0,())) (br (a0.ends==0) (k (0,())) (k ((IntKind.wrap .i64 (a0.ends+3)),())))
def rD (a0:eg):Option (Int×Unit):=ug a0 some
theorem RC {ρ:Type} (a0:eg) (k:Int×Unit→Option ρ):ug a0 k=(rD a0).bind k:=by
 simp only [rD,ug,ao,Option.bind_assoc,Option.bind_some]
abbrev MT:bc:=bh [.ty (.st .lease)] [.i .i64] fun x=>rD x.1
theorem V6:ax Tryz.prog 47 MT:=
 an (Λ:=aF []) (fn:=Tryz.f47) aG OP af (by kernel_rfl) (az (by kernel_rfl:_= []) ah) (by kernel_rfl) (fun x=>rD x.1)
  (fun x=>Eq.trans (by kernel_rfl:_=ug x.1 (fun y=>ret (ay [.i .i64] y) fun v g=>some (v,g))) (RC x.1 _)) fun _ _ h=>h
abbrev OQ:List (Nat×bc):= [(123,Cq),(120,rC),(47,MT)]
theorem HU:au Tryz.prog (aE OQ):=ae HH <| ae sG <| ae V6 <| al _
def ph {ρ:Type} (a0:eg) (a1:Int) (k:Bool×Unit→Option ρ):Option ρ:=
 (oa a0).bind fun y1=>br y1.1 ((eA a1 0 999).bind fun y2=>br y2.1 ((rD a0).bind fun y3=>k ((decide (a1≥y3.1)),())) (k (false,()))) (k (false,()))
def lU (a0:eg) (a1:Int):Option (Bool×Unit):=ph a0 a1 some
theorem J5 {ρ:Type} (a0:eg) (a1:Int) (k:Bool×Unit→Option ρ):ph a0 a1 k=(lU a0 a1).bind k:=by
 simp only [lU,ph,ao,Option.bind_assoc,Option.bind_some]
abbrev Dc:bc:=bh [.ty (.st .lease), .ty (.i .i64)] [.b] fun x=>lU x.1 x.2.1
theorem OS:ax Tryz.prog 98 Dc:=
 an (Λ:=aF []) (fn:=Tryz.f98) aG HU af (by kernel_rfl) (az (by kernel_rfl:_= []) ah) (by kernel_rfl) (fun x=>lU x.1 x.2.1)
  (fun x=>Eq.trans (by kernel_rfl:_=ph x.1 x.2.1 (fun y=>ret (ay [.b] y) fun v g=>some (v,g))) (J5 x.1 x.2.1 _)) fun _ _ h=>h
abbrev OT:List (Nat×bc):= []
theorem HV:au Tryz.prog (aE OT):=al _
def mJ {ρ:Type} (a0:Op) (k:Bool×Unit→Option ρ):Option ρ:=
 k ((a0.kind==2),())
def lV (a0:Op):Option (Bool×Unit):=mJ a0 some
theorem J6 {ρ:Type} (a0:Op) (k:Bool×Unit→Option ρ):mJ a0 k=(lV a0).bind k:=by
 simp only [lV,mJ,Option.bind_some]
abbrev Dd:bc:=bh [.ty (.st .op)] [.b] fun x=>lV x.1
theorem OU:ax Tryz.prog 218 Dd:=
 an (Λ:=aF []) (fn:=Tryz.f218) aG HV af (by kernel_rfl) (az (by kernel_rfl:_= []) ah) (by kernel_rfl) (fun x=>lV x.1)
  (fun x=>Eq.trans (by kernel_rfl:_=mJ x.1 (fun y=>ret (ay [.b] y) fun v g=>some (v,g))) (J6 x.1 _)) fun _ _ h=>h
abbrev Bm:List (Nat×bc):= [(218,Dd)]
theorem wG:au Tryz.prog (aE Bm):=ae OU <| al _
noncomputable abbrev mL:Code:=bV (bT Tryz.f158) 0
abbrev dL:en:=⟨[(0, .cl (.ro (.st .entry))),(3, .cl (.int .i64))],[],[],0,16⟩
abbrev ij:List (X×en):= [(.ret,⟨[(2, .cl (.bl))],[],[],0,16⟩),(.ext 0,⟨[(2, .cl (.dead))],[],[],0,16⟩)]
def fh {ρ:Type} (v1:List ar) (v2:Int) (fn: (((List ar)×Int×Unit)×(Unit)×(Unit))→Option ρ) (fe: ((Bool×Unit)×(Unit)×(Unit))⊕((Unit×Unit)×(Unit)×(Unit))→Option ρ):Option ρ:=
 br (decide (v2 < (v1.length:Int))) (aq (0≤v2) ((v1[v2.toNat]?).bind fun x3=>(lV x3.op).bind fun y4=>br y4.1 (fe (.inl ((true,()),(()),(())))) (fn ((v1,(IntKind.wrap .i64 (v2+1)),()),(()),(())))) none) (fe (.inr (((),()),(()),(()))))
def cS (s:dL.D):Option (dL.D⊕bg.D ij):=fh s.1.1 s.1.2.1 (fun s=>some (.inl s)) (fun e=>some (.inr e))
def ik:dL.D→Option (bg.D ij):=ko cS
theorem Ec {ρ:Type} (s:dL.D) (fn:dL.D→Option ρ) (fe:bg.D ij→Option ρ):fh s.1.1 s.1.2.1 fn fe=(cS s).bind (Sum.elim fn fe):=by
 simp only [cS,fh,ao,ap,Option.bind_none,Option.bind_assoc,Option.bind_some,Sum.elim_inl,Sum.elim_inr]
abbrev xX:cW:=df [] [0,3] dL ij ik
theorem CD (s:dL.D):ez Θ (aE Bm) (aF []) mL (dL.mk' s) (cU [0,3] [2] fun x S=>some (x,S))=(cS s).bind (Sum.elim (fun s'=>some (.nor,dL.mk' s')) fun e=>some (bg.e ij e)):=
 Eq.trans (by kernel_rfl:_=fh s.1.1 s.1.2.1 (fun s'=>some (.nor,dL.mk' s')) (fun e=>some (bg.e ij e))) (Ec s _ _)
theorem CE:bP Tryz.prog mL xX:=aW aG wG af (by kernel_rfl) (dp (by kernel_rfl:_= []) ah) [] [0,3] [2] dL ij (by kernel_rfl) cS CD ik (gf cS) (aL cS)
def kW {ρ:Type} (a0:List ar) (k:Bool×Unit→Option ρ):Option ρ:=
 (ik ((a0,0,()),(()),(()))).bind fun e5=>Sum.elim (fun e5_=>k (e5_.1.1,())) (fun _=>k (false,())) e5
def fy (a0:List ar):Option (Bool×Unit):=kW a0 some
theorem HW {ρ:Type} (a0:List ar) (k:Bool×Unit→Option ρ):kW a0 k=(fy a0).bind k:=by
 simp only [fy,kW,bR,Option.bind_assoc,Option.bind_some]
abbrev vJ:bc:=bh [.ty (.ls (.st .entry))] [.b] fun x=>fy x.1
theorem Bn:ax Tryz.prog 158 vJ:=
 an (Λ:=aF [(bU mL,xX)]) (fn:=Tryz.f158) aG wG af (by kernel_rfl) (az (by kernel_rfl:_= [mL]) (aK (q:=bU mL) rfl CE fun _ _ _=>by kernel_rfl)) (by kernel_rfl) (fun x=>fy x.1)
  (fun x=>Eq.trans (by kernel_rfl:_=kW x.1 (fun y=>ret (ay [.b] y) fun v g=>some (v,g))) (HW x.1 _)) fun _ _ h=>h
abbrev MU:List (Nat×bc):= [(158,vJ)]
theorem FP:au Tryz.prog (aE MU):=ae Bn <| al _
def jg {ρ:Type} (a0:List ar) (k:Bool×Unit→Option ρ):Option ρ:=
 (fy a0).bind fun y1=>k (y1.1,())
def eG (a0:List ar):Option (Bool×Unit):=jg a0 some
theorem HX {ρ:Type} (a0:List ar) (k:Bool×Unit→Option ρ):jg a0 k=(eG a0).bind k:=by
 simp only [eG,jg,Option.bind_assoc,Option.bind_some]
abbrev Bo:bc:=bh [.ty (.ls (.st .entry))] [.b] fun x=>eG x.1
theorem MV:ax Tryz.prog 88 Bo:=
 an (Λ:=aF []) (fn:=Tryz.f88) aG FP af (by kernel_rfl) (az (by kernel_rfl:_= []) ah) (by kernel_rfl) (fun x=>eG x.1)
  (fun x=>Eq.trans (by kernel_rfl:_=jg x.1 (fun y=>ret (ay [.b] y) fun v g=>some (v,g))) (HX x.1 _)) fun _ _ h=>h
abbrev J7:List (Nat×bc):= [(155,Co),(122,qM),(169,rq),(170,xO)]
theorem Ed:au Tryz.prog (aE J7):=ae HD <| ae tU <| ae uy <| ae A4 <| al _
def mM {ρ:Type} (a0:ak) (a1:ai) (k:ak×Bool×Unit→Option ρ):Option ρ:=
 (pZ a0).bind fun y1=>(cR a0).bind fun y2=>br (!y2.1) (k (y1.1,false,())) ((bZ a1).bind fun y3=>br (!y3.1) (k (y1.1,false,())) (br (!(a1.epoch==(IntKind.wrap .i64 ((a0.configs.length:Int)+1)))) (k (y1.1,false,())) ((jt a1).bind fun y4=>aq ((y1.1.configs++([y4.1]:List ai)).length*64≤2 ^ 40) (k ((⟨(y1.1.configs++([y4.1]:List ai)),y1.1.activated⟩:ak),true,())) none)))
def gQ (a0:ak) (a1:ai):Option (ak×Bool×Unit):=mM a0 a1 some
theorem FQ {ρ:Type} (a0:ak) (a1:ai) (k:ak×Bool×Unit→Option ρ):mM a0 a1 k=(gQ a0 a1).bind k:=by
 simp only [gQ,mM,ao,ap,Option.bind_none,Option.bind_assoc,Option.bind_some]
abbrev zG:bc:=bh [.ty (.st .masterLog), .ty (.st .config)] [.st .masterLog, .b] fun x=>gQ x.1 x.2.1
theorem J8:ax Tryz.prog 100 zG:=
 an (Λ:=aF []) (fn:=Tryz.f100) aG Ed af (by kernel_rfl) (az (by kernel_rfl:_= []) ah) (by kernel_rfl) (fun x=>gQ x.1 x.2.1)
  (fun x=>Eq.trans (by kernel_rfl:_=mM x.1 x.2.1 (fun y=>ret (ay [.st .masterLog, .b] y) fun v g=>some (v,g))) (FQ x.1 x.2.1 _)) fun _ _ h=>h
abbrev HY:List (Nat×bc):= [(155,Co),(122,qM)]
theorem CF:au Tryz.prog (aE HY):=ae HD <| ae tU <| al _
def lp {ρ:Type} (a0:ak) (a1:Int) (k:ak×Bool×Unit→Option ρ):Option ρ:=
 (pZ a0).bind fun y1=>(cR a0).bind fun y2=>br (!y2.1) (k (y1.1,false,())) (br (!(a1==(a0.configs.length:Int))) (k (y1.1,false,())) (br (decide (a1≤a0.activated)) (k (y1.1,false,())) (k ((⟨y1.1.configs,a1⟩:ak),true,()))))
def fX (a0:ak) (a1:Int):Option (ak×Bool×Unit):=lp a0 a1 some
theorem Ee {ρ:Type} (a0:ak) (a1:Int) (k:ak×Bool×Unit→Option ρ):lp a0 a1 k=(fX a0 a1).bind k:=by
 simp only [fX,lp,ao,Option.bind_assoc,Option.bind_some]
abbrev xY:bc:=bh [.ty (.st .masterLog), .ty (.i .i64)] [.st .masterLog, .b] fun x=>fX x.1 x.2.1
theorem HZ:ax Tryz.prog 101 xY:=
 an (Λ:=aF []) (fn:=Tryz.f101) aG CF af (by kernel_rfl) (az (by kernel_rfl:_= []) ah) (by kernel_rfl) (fun x=>fX x.1 x.2.1)
  (fun x=>Eq.trans (by kernel_rfl:_=lp x.1 x.2.1 (fun y=>ret (ay [.st .masterLog, .b] y) fun v g=>some (v,g))) (Ee x.1 x.2.1 _)) fun _ _ h=>h
abbrev J9:List (Nat×bc):= [(171,FH),(154,HC),(172,Ru),(120,rC),(126,Cr),(158,vJ),(170,xO),(79,A5)]
theorem Ef:au Tryz.prog (aE J9):=ae MQ <| ae P5 <| ae Xa <| ae sG <| ae HN <| ae Bn <| ae A4 <| ae Ft <| al _
def mN {ρ:Type} (a0:am) (a1:ai) (a2:Int) (a3:List ar) (k:am×Bool×Unit→Option ρ):Option ρ:=
 (mD a1 a2).bind fun y1=>br (y1.1==0) ((j6 a0).bind fun y2=>k (y2.1,false,())) ((rr a3).bind fun y3=>br (!y3.1) ((j6 a0).bind fun y4=>k (y4.1,false,())) ((eA a0.version 1 2).bind fun y5=>br (!y5.1) ((j6 a0).bind fun y6=>k (y6.1,false,())) ((eA a0.epoch 0 a1.epoch).bind fun y7=>br (!y7.1) ((j6 a0).bind fun y8=>k (y8.1,false,())) ((p7 a3).bind fun y9=>br (decide (y9.1 > a1.epoch)) ((j6 a0).bind fun y10=>k (y10.1,false,())) (br (a0.version==1) ((fy a3).bind fun y11=>br y11.1 ((j6 a0).bind fun y12=>k (y12.1,false,())) ((jt a1).bind fun y13=>(ju a3).bind fun y14=>br (y1.1==3) (aq (0≤(if (IntKind.wrap .i64 ((a3.length:Int) - 3)) > 0 then (IntKind.wrap .i64 ((a3.length:Int) - 3)) else 0)∧(if (IntKind.wrap .i64 ((a3.length:Int) - 3)) > 0 then (IntKind.wrap .i64 ((a3.length:Int) - 3)) else 0)≤(a3.length:Int)∧(a3.length:Int)≤(a3.length:Int)) ((ju ((a3.drop (if (IntKind.wrap .i64 ((a3.length:Int) - 3)) > 0 then (IntKind.wrap .i64 ((a3.length:Int) - 3)) else 0).toNat).take ((a3.length:Int).toNat - (if (IntKind.wrap .i64 ((a3.length:Int) - 3)) > 0 then (IntKind.wrap .i64 ((a3.length:Int) - 3)) else 0).toNat))).bind fun y15=>k ((⟨a0.up,true,a0.version,a1.epoch,y13.1,(if (IntKind.wrap .i64 ((a3.length:Int) - 3)) > 0 then (IntKind.wrap .i64 ((a3.length:Int) - 3)) else 0),y15.1,(a3.length:Int),([]:List ar)⟩:am),true,())) none) (k ((⟨a0.up,true,a0.version,a1.epoch,y13.1,0,y14.1,(a3.length:Int),([]:List ar)⟩:am),true,())))) ((jt a1).bind fun y16=>(ju a3).bind fun y17=>br (y1.1==3) (aq (0≤(if (IntKind.wrap .i64 ((a3.length:Int) - 3)) > 0 then (IntKind.wrap .i64 ((a3.length:Int) - 3)) else 0)∧(if (IntKind.wrap .i64 ((a3.length:Int) - 3)) > 0 then (IntKind.wrap .i64 ((a3.length:Int) - 3)) else 0)≤(a3.length:Int)∧(a3.length:Int)≤(a3.length:Int)) ((ju ((a3.drop (if (IntKind.wrap .i64 ((a3.length:Int) - 3)) > 0 then (IntKind.wrap .i64 ((a3.length:Int) - 3)) else 0).toNat).take ((a3.length:Int).toNat - (if (IntKind.wrap .i64 ((a3.length:Int) - 3)) > 0 then (IntKind.wrap .i64 ((a3.length:Int) - 3)) else 0).toNat))).bind fun y18=>k ((⟨a0.up,true,a0.version,a1.epoch,y16.1,(if (IntKind.wrap .i64 ((a3.length:Int) - 3)) > 0 then (IntKind.wrap .i64 ((a3.length:Int) - 3)) else 0),y18.1,(a3.length:Int),([]:List ar)⟩:am),true,())) none) (k ((⟨a0.up,true,a0.version,a1.epoch,y16.1,0,y17.1,(a3.length:Int),([]:List ar)⟩:am),true,()))))))))
def gR (a0:am) (a1:ai) (a2:Int) (a3:List ar):Option (am×Bool×Unit):=mN a0 a1 a2 a3 some
theorem FR {ρ:Type} (a0:am) (a1:ai) (a2:Int) (a3:List ar) (k:am×Bool×Unit→Option ρ):mN a0 a1 a2 a3 k=(gR a0 a1 a2 a3).bind k:=by
 simp only [gR,mN,ao,ap,Option.bind_none,Option.bind_assoc,Option.bind_some]
abbrev zH:bc:=bh [.ty (.st .server), .ty (.st .config), .ty (.i .i64), .ty (.ls (.st .entry))] [.st .server, .b] fun x=>gR x.1 x.2.1 x.2.2.1 x.2.2.2.1
theorem Ka:ax Tryz.prog 102 zH:=
 an (Λ:=aF []) (fn:=Tryz.f102) aG Ef af (by kernel_rfl) (az (by kernel_rfl:_= []) ah) (by kernel_rfl) (fun x=>gR x.1 x.2.1 x.2.2.1 x.2.2.2.1)
  (fun x=>Eq.trans (by kernel_rfl:_=mN x.1 x.2.1 x.2.2.1 x.2.2.2.1 (fun y=>ret (ay [.st .server, .b] y) fun v g=>some (v,g))) (FR x.1 x.2.1 x.2.2.1 x.2.2.2.1 _)) fun _ _ h=>h
abbrev Kb:List (Nat×bc):= [(82,P8),(96,Da),(97,wF),(98,Dc),(99,HT),(88,Bo),(100,zG),(101,xY),(102,zH)]
theorem Eg:au Tryz.prog (aE Kb):=ae XU <| ae OL <| ae FO <| ae OS <| ae Qd <| ae MV <| ae J8 <| ae HZ <| ae Ka <| al _
def mO {ρ:Type} (a0:aj) (k:aj×Int×Unit→Option ρ):Option ρ:=
 (tE a0).bind fun y1=>(lS a0).bind fun y2=>br (!y2.1) (k (y1.1,1,())) (br ((a0.master.configs.length:Int)==20) (k (y1.1,1,())) ((eo a0).bind fun y3=>br (decide ((IntKind.wrap .i64 (a0.masterUp*2))≤3)) (k (y1.1,8,())) (br (decide (y3.1 < 0)) (k (y1.1,10,())) ((lU a0.lease a0.now).bind fun y4=>br (!y4.1) (k (y1.1,7,())) (aq (0≤y3.1) ((a0.servers[y3.1.toNat]?).bind fun x5=>br (x5.version==1) ((mH a0 y3.1).bind fun y6=>(eG y6.1).bind fun y7=>br y7.1 (k (y1.1,6,())) ((gQ a0.master (⟨(IntKind.wrap .i64 ((a0.master.configs.length:Int)+1)),y3.1,([y3.1]:List Int),([]:List Int)⟩:ai)).bind fun y8=>(fX y8.1 (IntKind.wrap .i64 ((a0.master.configs.length:Int)+1))).bind fun y9=>aq (0≤y3.1) ((a0.servers[y3.1.toNat]?).bind fun x10=>(mH a0 y3.1).bind fun y11=>(gR x10 (⟨(IntKind.wrap .i64 ((a0.master.configs.length:Int)+1)),y3.1,([y3.1]:List Int),([]:List Int)⟩:ai) y3.1 y11.1).bind fun y12=>aq (0≤y3.1∧y3.1 < (y1.1.servers.length:Int)) ((y1.1.servers[y3.1.toNat]?).bind fun _=>k ((⟨y1.1.now,(y1.1.servers.set y3.1.toNat y12.1),y1.1.sides,y9.1,y1.1.masterUp,(⟨0,0,0⟩:eg),y1.1.places⟩:aj),0,())) none) none)) ((gQ a0.master (⟨(IntKind.wrap .i64 ((a0.master.configs.length:Int)+1)),y3.1,([y3.1]:List Int),([]:List Int)⟩:ai)).bind fun y15=>(fX y15.1 (IntKind.wrap .i64 ((a0.master.configs.length:Int)+1))).bind fun y16=>aq (0≤y3.1) ((a0.servers[y3.1.toNat]?).bind fun x17=>(mH a0 y3.1).bind fun y18=>(gR x17 (⟨(IntKind.wrap .i64 ((a0.master.configs.length:Int)+1)),y3.1,([y3.1]:List Int),([]:List Int)⟩:ai) y3.1 y18.1).bind fun y19=>aq (0≤y3.1∧y3.1 < (y1.1.servers.length:Int)) ((y1.1.servers[y3.1.toNat]?).bind fun _=>k ((⟨y1.1.now,(y1.1.servers.set y3.1.toNat y19.1),y1.1.sides,y16.1,y1.1.masterUp,(⟨0,0,0⟩:eg),y1.1.places⟩:aj),0,())) none) none)) none)))))
def jh (a0:aj):Option (aj×Int×Unit):=mO a0 some
theorem FS {ρ:Type} (a0:aj) (k:aj×Int×Unit→Option ρ):mO a0 k=(jh a0).bind k:=by
 simp only [jh,mO,ao,ap,Option.bind_none,Option.bind_assoc,Option.bind_some]
abbrev zI:bc:=bh [.ty (.st .cluster)] [.st .cluster, .i .i64] fun x=>jh x.1
theorem Kd:ax Tryz.prog 33 zI:=
 an (Λ:=aF []) (fn:=Tryz.f33) aG Eg af (by kernel_rfl) (az (by kernel_rfl:_= []) ah) (by kernel_rfl) (fun x=>jh x.1)
  (fun x=>Eq.trans (by kernel_rfl:_=mO x.1 (fun y=>ret (ay [.st .cluster, .i .i64] y) fun v g=>some (v,g))) (FS x.1 _)) fun _ _ h=>h
abbrev RD:List (Nat×bc):= []
theorem Ke:au Tryz.prog (aE RD):=al _
def lW {ρ:Type} (a0:ai) (k:ai×Unit→Option ρ):Option ρ:=
 aq ((([]:List Int)++a0.replicas).length*8≤2 ^ 40) (aq ((([]:List Int)++a0.witnesses).length*8≤2 ^ 40) (k ((⟨a0.epoch,a0.primary,(([]:List Int)++a0.replicas),(([]:List Int)++a0.witnesses)⟩:ai),())) none) none
def dJ (a0:ai):Option (ai×Unit):=lW a0 some
theorem MW {ρ:Type} (a0:ai) (k:ai×Unit→Option ρ):lW a0 k=(dJ a0).bind k:=by
 simp only [dJ,lW,ap,Option.bind_none,Option.bind_some]
abbrev qa:bc:=bh [.ty (.st .config)] [.st .config] fun x=>dJ x.1
theorem sM:ax Tryz.prog 177 qa:=
 an (Λ:=aF []) (fn:=Tryz.f177) aG Ke af (by kernel_rfl) (az (by kernel_rfl:_= []) ah) (by kernel_rfl) (fun x=>dJ x.1)
  (fun x=>Eq.trans (by kernel_rfl:_=lW x.1 (fun y=>ret (ay [.st .config] y) fun v g=>some (v,g))) (MW x.1 _)) fun _ _ h=>h
abbrev MX:List (Nat×bc):= []
theorem FT:au Tryz.prog (aE MX):=al _
def rt {ρ:Type} (a0:List ar) (k: (List ar)×Unit→Option ρ):Option ρ:=
 aq (a0.length*56≤2 ^ 40) (k (a0,())) none
def dt (a0:List ar):Option ((List ar)×Unit):=rt a0 some
abbrev mQ:bc:=bh [.ty (.ls (.st .entry))] [.ls (.st .entry)] fun x=>dt x.1
abbrev sN (y: (List ar)×Unit):Option (V×List cc):=ret (ay [.ls (.st .entry)] y) fun v g=>some (v,g)
theorem pi:ax Tryz.prog 80 mQ:=
 an (Λ:=aF []) (fn:=Tryz.f80) aG FT af (by kernel_rfl) (az (by kernel_rfl:_= []) ah) (by kernel_rfl) (fun x=>dt x.1)
  (fun x=>Eq.trans (by kernel_rfl:_=Y1 x.1 (Y0 (sN ([],())) (aq ((([]:List ar)++x.1).length*56≤2 ^ 40) (sN (([]:List ar)++x.1,())) none) none) (aq ((([]:List ar)++x.1).length*56≤2 ^ 40) (sN (([]:List ar)++x.1,())) none)) (Q6 x.1 56 sN)) fun _ _ h=>h
abbrev RE:List (Nat×bc):= [(177,qa),(80,mQ)]
theorem Kf:au Tryz.prog (aE RE):=ae sM <| ae pi <| al _
def qR {ρ:Type} (a0:am) (k:am×Unit→Option ρ):Option ρ:=
 (dJ a0.config).bind fun y1=>(dt a0.log).bind fun y2=>(dt a0.learned).bind fun y3=>k ((⟨a0.up,a0.intact,a0.version,a0.epoch,y1.1,a0.first,y2.1,a0.commit,y3.1⟩:am),())
def eW (a0:am):Option (am×Unit):=qR a0 some
theorem MY {ρ:Type} (a0:am) (k:am×Unit→Option ρ):qR a0 k=(eW a0).bind k:=by
 simp only [eW,qR,Option.bind_assoc,Option.bind_some]
abbrev yT:bc:=bh [.ty (.st .server)] [.st .server] fun x=>eW x.1
theorem FU:ax Tryz.prog 163 yT:=
 an (Λ:=aF []) (fn:=Tryz.f163) aG Kf af (by kernel_rfl) (az (by kernel_rfl:_= []) ah) (by kernel_rfl) (fun x=>eW x.1)
  (fun x=>Eq.trans (by kernel_rfl:_=qR x.1 (fun y=>ret (ay [.st .server] y) fun v g=>some (v,g))) (MY x.1 _)) fun _ _ h=>h
abbrev RF:List (Nat×bc):= []
theorem Kg:au Tryz.prog (aE RF):=al _
def xj {ρ:Type} (a0:List Int) (k: (List Int)×Unit→Option ρ):Option ρ:=
 aq (a0.length*8≤2 ^ 40) (k (a0,())) none
def nz (a0:List Int):Option ((List Int)×Unit):=xj a0 some
abbrev yU:bc:=bh [.ty (.ls (.i .i64))] [.ls (.i .i64)] fun x=>nz x.1
abbrev u5 (y: (List Int)×Unit):Option (V×List cc):=ret (ay [.ls (.i .i64)] y) fun v g=>some (v,g)
theorem FV:ax Tryz.prog 164 yU:=
 an (Λ:=aF []) (fn:=Tryz.f164) aG Kg af (by kernel_rfl) (az (by kernel_rfl:_= []) ah) (by kernel_rfl) (fun x=>nz x.1)
  (fun x=>Eq.trans (by kernel_rfl:_=Y1 x.1 (Y0 (u5 ([],())) (aq ((([]:List Int)++x.1).length*8≤2 ^ 40) (u5 (([]:List Int)++x.1,())) none) none) (aq ((([]:List Int)++x.1).length*8≤2 ^ 40) (u5 (([]:List Int)++x.1,())) none)) (Q6 x.1 8 u5)) fun _ _ h=>h
abbrev FW:List (Nat×bc):= [(177,qa)]
theorem zJ:au Tryz.prog (aE FW):=ae sM <| al _
noncomputable abbrev pj:Code:=bV (bT Tryz.f165) 0
abbrev eH:en:=⟨[(2, .cl (.ptr 0 0)),(3, .cl (.ptr 1 0)),(10, .cl (.ro (.st .config))),(11, .cl (.int .i64)),(12, .cl (.int .i64))],[[.em, .int .i64],[.own 0 (.st .config), .int .i64]],[.st .config],0,25⟩
abbrev ky:List (X×en):= [(.ext 0,⟨[(2, .cl (.ptr 0 0)),(3, .cl (.ptr 1 0))],[[.em, .int .i64],[.own 0 (.st .config), .int .i64]],[.st .config],0,25⟩)]
def kX {ρ:Type} (v8:List ai) (v9:List ai) (v10:Int) (v11:Int) (v12:Int) (v13:Int) (fn: ((Unit×Unit×(List ai)×Int×Int×Unit)×((Unit×Int×Unit)×(Unit×Int×Unit)×Unit)×((List ai)×Unit))→Option ρ) (fe: ((Unit×Unit×Unit)×((Unit×Int×Unit)×(Unit×Int×Unit)×Unit)×((List ai)×Unit))→Option ρ):Option ρ:=
 br (decide (v11 < v10)) (aq (0≤v11) ((v9[v11.toNat]?).bind fun x14=>(dJ x14).bind fun y15=>aq ((v8++([y15.1]:List ai)).length*64≤2 ^ 40) (fn (((),(),v9,v10,(IntKind.wrap .i64 (v11+1)),()),(((),v12,()),((),v13,()),()),((v8++([y15.1]:List ai)),()))) none) none) (fe (((),(),()),(((),v12,()),((),v13,()),()),(v8,())))
def fA (s:eH.D):Option (eH.D⊕bg.D ky):=kX s.2.2.1 s.1.2.2.1 s.1.2.2.2.1 s.1.2.2.2.2.1 s.2.1.1.2.1 s.2.1.2.1.2.1 (fun s=>some (.inl s)) (fun e=>some (.inr e))
def sO:eH.D→Option (bg.D ky):=ko fA
theorem H0 {ρ:Type} (s:eH.D) (fn:eH.D→Option ρ) (fe:bg.D ky→Option ρ):kX s.2.2.1 s.1.2.2.1 s.1.2.2.2.1 s.1.2.2.2.2.1 s.2.1.1.2.1 s.2.1.2.1.2.1 fn fe=(fA s).bind (Sum.elim fn fe):=by
 simp only [fA,kX,ao,ap,Option.bind_none,Option.bind_assoc,Option.bind_some,Sum.elim_inl,Sum.elim_inr]
abbrev Bp:cW:=df [.b 2 0 (.st .config)] [2,3,10,11,12] eH ky sO
theorem FX (s:eH.D):ez Θ (aE FW) (aF []) pj (eH.mk' s) (cU [2,3,10,11,12] [2,3] fun x S=>some (x,S))=(fA s).bind (Sum.elim (fun s'=>some (.nor,eH.mk' s')) fun e=>some (bg.e ky e)):=
 Eq.trans (by kernel_rfl:_=kX s.2.2.1 s.1.2.2.1 s.1.2.2.2.1 s.1.2.2.2.2.1 s.2.1.1.2.1 s.2.1.2.1.2.1 (fun s'=>some (.nor,eH.mk' s')) (fun e=>some (bg.e ky e))) (H0 s _ _)
theorem FY:bP Tryz.prog pj Bp:=aW aG zJ af (by kernel_rfl) (dp (by kernel_rfl:_= []) ah) [.b 2 0 (.st .config)] [2,3,10,11,12] [2,3] eH ky (by kernel_rfl) fA FX sO (gf fA) (aL fA)
def qS {ρ:Type} (a0:ak) (k:ak×Unit→Option ρ):Option ρ:=
 (sO (((),(),a0.configs,(a0.configs.length:Int),0,()),(((),0,()),((),a0.activated,()),()),(([]:List ai),()))).bind fun e16=>k ((⟨e16.2.2.1,e16.2.1.2.1.2.1⟩:ak),())
def jH (a0:ak):Option (ak×Unit):=qS a0 some
theorem MZ {ρ:Type} (a0:ak) (k:ak×Unit→Option ρ):qS a0 k=(jH a0).bind k:=by
 simp only [jH,qS,Option.bind_assoc,Option.bind_some]
abbrev u6:bc:=bh [.ty (.st .masterLog)] [.st .masterLog] fun x=>jH x.1
theorem yV:ax Tryz.prog 165 u6:=
 an (Λ:=aF [(bU pj,Bp)]) (fn:=Tryz.f165) aG zJ af (by kernel_rfl) (az (by kernel_rfl:_= [pj]) (aK (q:=bU pj) rfl FY fun _ _ _=>by kernel_rfl)) (by kernel_rfl) (fun x=>jH x.1)
  (fun x=>Eq.trans (by kernel_rfl:_=qS x.1 (fun y=>ret (ay [.st .masterLog] y) fun v g=>some (v,g))) (MZ x.1 _)) fun _ _ h=>h
abbrev M0:List (Nat×bc):= []
theorem FZ:au Tryz.prog (aE M0):=al _
def zK {ρ:Type} (a0:List aU) (k: (List aU)×Unit→Option ρ):Option ρ:=
 aq (a0.length*24≤2 ^ 40) (k (a0,())) none
def pk (a0:List aU):Option ((List aU)×Unit):=zK a0 some
abbrev Bq:bc:=bh [.ty (.ls (.st .place))] [.ls (.st .place)] fun x=>pk x.1
abbrev sP (y: (List aU)×Unit):Option (V×List cc):=ret (ay [.ls (.st .place)] y) fun v g=>some (v,g)
theorem M1:ax Tryz.prog 166 Bq:=
 an (Λ:=aF []) (fn:=Tryz.f166) aG FZ af (by kernel_rfl) (az (by kernel_rfl:_= []) ah) (by kernel_rfl) (fun x=>pk x.1)
  (fun x=>Eq.trans (by kernel_rfl:_=Y1 x.1 (Y0 (sP ([],())) (aq ((([]:List aU)++x.1).length*24≤2 ^ 40) (sP (([]:List aU)++x.1,())) none) none) (aq ((([]:List aU)++x.1).length*24≤2 ^ 40) (sP (([]:List aU)++x.1,())) none)) (Q6 x.1 24 sP)) fun _ _ h=>h
abbrev De:List (Nat×bc):= [(163,yT),(164,yU),(165,u6),(166,Bq)]
theorem xZ:au Tryz.prog (aE De):=ae FU <| ae FV <| ae yV <| ae M1 <| al _
noncomputable abbrev nP:Code:=bV (bT Tryz.f95) 0
abbrev dX:en:=⟨[(1, .cl (.ptr 0 0)),(2, .cl (.ptr 1 0)),(3, .cl (.ptr 2 0)),(9, .cl (.ro (.st .server))),(10, .cl (.int .i64)),(11, .cl (.int .i64))],[[.int .i64, .ro (.st .server), .ro (.i .i64), .ro (.st .config), .int .i64, .int .i64, .int .i64, .int .i64, .int .i64, .ro (.st .place)],[.int .i64, .em, .em, .em, .int .i64, .int .i64, .int .i64, .int .i64, .int .i64, .em],[.int .i64, .own 0 (.st .server), .ro (.i .i64), .ro (.st .config), .int .i64, .int .i64, .int .i64, .int .i64, .int .i64, .ro (.st .place)]],[.st .server],0,36⟩
abbrev ji:List (X×en):= [(.ext 0,⟨[(1, .cl (.ptr 0 0)),(2, .cl (.ptr 1 0)),(3, .cl (.ptr 2 0))],[[.int .i64, .ro (.st .server), .ro (.i .i64), .ro (.st .config), .int .i64, .int .i64, .int .i64, .int .i64, .int .i64, .ro (.st .place)],[.int .i64, .em, .em, .em, .int .i64, .int .i64, .int .i64, .int .i64, .int .i64, .em],[.int .i64, .own 0 (.st .server), .ro (.i .i64), .ro (.st .config), .int .i64, .int .i64, .int .i64, .int .i64, .int .i64, .ro (.st .place)]],[.st .server],0,36⟩)]
def j9 {ρ:Type} (v31:List am) (v32:List am) (v33:Int) (v34:Int) (v35:Int) (v36:List am) (v37:List Int) (v38:List ai) (v39:Int) (v40:Int) (v41:Int) (v42:Int) (v43:Int) (v44:List aU) (v45:Int) (v46:Int) (v47:Int) (v48:Int) (v49:Int) (v50:Int) (v51:Int) (v52:List Int) (v53:List ai) (v54:Int) (v55:Int) (v56:Int) (v57:Int) (v58:Int) (v59:List aU) (fn: ((Unit×Unit×Unit×(List am)×Int×Int×Unit)×((Int×(List am)×(List Int)×(List ai)×Int×Int×Int×Int×Int×(List aU)×Unit)×(Int×Unit×Unit×Unit×Int×Int×Int×Int×Int×Unit×Unit)×(Int×Unit×(List Int)×(List ai)×Int×Int×Int×Int×Int×(List aU)×Unit)×Unit)×((List am)×Unit))→Option ρ) (fe: ((Unit×Unit×Unit×Unit)×((Int×(List am)×(List Int)×(List ai)×Int×Int×Int×Int×Int×(List aU)×Unit)×(Int×Unit×Unit×Unit×Int×Int×Int×Int×Int×Unit×Unit)×(Int×Unit×(List Int)×(List ai)×Int×Int×Int×Int×Int×(List aU)×Unit)×Unit)×((List am)×Unit))→Option ρ):Option ρ:=
 br (decide (v34 < v33)) (aq (0≤v34) ((v32[v34.toNat]?).bind fun x60=>(eW x60).bind fun y61=>aq ((v31++([y61.1]:List am)).length*152≤2 ^ 40) (fn (((),(),(),v32,v33,(IntKind.wrap .i64 (v34+1)),()),((v35,v36,v37,v38,v39,v40,v41,v42,v43,v44,()),(v45,(),(),(),v46,v47,v48,v49,v50,(),()),(v51,(),v52,v53,v54,v55,v56,v57,v58,v59,()),()),((v31++([y61.1]:List am)),()))) none) none) (fe (((),(),(),()),((v35,v36,v37,v38,v39,v40,v41,v42,v43,v44,()),(v45,(),(),(),v46,v47,v48,v49,v50,(),()),(v51,(),v52,v53,v54,v55,v56,v57,v58,v59,()),()),(v31,())))
def eO (s:dX.D):Option (dX.D⊕bg.D ji):=j9 s.2.2.1 s.1.2.2.2.1 s.1.2.2.2.2.1 s.1.2.2.2.2.2.1 s.2.1.1.1 s.2.1.1.2.1 s.2.1.1.2.2.1 s.2.1.1.2.2.2.1 s.2.1.1.2.2.2.2.1 s.2.1.1.2.2.2.2.2.1 s.2.1.1.2.2.2.2.2.2.1 s.2.1.1.2.2.2.2.2.2.2.1 s.2.1.1.2.2.2.2.2.2.2.2.1 s.2.1.1.2.2.2.2.2.2.2.2.2.1 s.2.1.2.1.1 s.2.1.2.1.2.2.2.2.1 s.2.1.2.1.2.2.2.2.2.1 s.2.1.2.1.2.2.2.2.2.2.1 s.2.1.2.1.2.2.2.2.2.2.2.1 s.2.1.2.1.2.2.2.2.2.2.2.2.1 s.2.1.2.2.1.1 s.2.1.2.2.1.2.2.1 s.2.1.2.2.1.2.2.2.1 s.2.1.2.2.1.2.2.2.2.1 s.2.1.2.2.1.2.2.2.2.2.1 s.2.1.2.2.1.2.2.2.2.2.2.1 s.2.1.2.2.1.2.2.2.2.2.2.2.1 s.2.1.2.2.1.2.2.2.2.2.2.2.2.1 s.2.1.2.2.1.2.2.2.2.2.2.2.2.2.1 (fun s=>some (.inl s)) (fun e=>some (.inr e))
def ru:dX.D→Option (bg.D ji):=ko eO
theorem F0 {ρ:Type} (s:dX.D) (fn:dX.D→Option ρ) (fe:bg.D ji→Option ρ):j9 s.2.2.1 s.1.2.2.2.1 s.1.2.2.2.2.1 s.1.2.2.2.2.2.1 s.2.1.1.1 s.2.1.1.2.1 s.2.1.1.2.2.1 s.2.1.1.2.2.2.1 s.2.1.1.2.2.2.2.1 s.2.1.1.2.2.2.2.2.1 s.2.1.1.2.2.2.2.2.2.1 s.2.1.1.2.2.2.2.2.2.2.1 s.2.1.1.2.2.2.2.2.2.2.2.1 s.2.1.1.2.2.2.2.2.2.2.2.2.1 s.2.1.2.1.1 s.2.1.2.1.2.2.2.2.1 s.2.1.2.1.2.2.2.2.2.1 s.2.1.2.1.2.2.2.2.2.2.1 s.2.1.2.1.2.2.2.2.2.2.2.1 s.2.1.2.1.2.2.2.2.2.2.2.2.1 s.2.1.2.2.1.1 s.2.1.2.2.1.2.2.1 s.2.1.2.2.1.2.2.2.1 s.2.1.2.2.1.2.2.2.2.1 s.2.1.2.2.1.2.2.2.2.2.1 s.2.1.2.2.1.2.2.2.2.2.2.1 s.2.1.2.2.1.2.2.2.2.2.2.2.1 s.2.1.2.2.1.2.2.2.2.2.2.2.2.1 s.2.1.2.2.1.2.2.2.2.2.2.2.2.2.1 fn fe=(eO s).bind (Sum.elim fn fe):=by
 simp only [eO,j9,ao,ap,Option.bind_none,Option.bind_assoc,Option.bind_some,Sum.elim_inl,Sum.elim_inr]
abbrev zL:cW:=df [.b 2 1 (.st .server)] [1,2,3,9,10,11] dX ji ru
theorem Eh (s:dX.D):ez Θ (aE De) (aF []) nP (dX.mk' s) (cU [1,2,3,9,10,11] [1,2,3] fun x S=>some (x,S))=(eO s).bind (Sum.elim (fun s'=>some (.nor,dX.mk' s')) fun e=>some (bg.e ji e)):=
 Eq.trans (by kernel_rfl:_=j9 s.2.2.1 s.1.2.2.2.1 s.1.2.2.2.2.1 s.1.2.2.2.2.2.1 s.2.1.1.1 s.2.1.1.2.1 s.2.1.1.2.2.1 s.2.1.1.2.2.2.1 s.2.1.1.2.2.2.2.1 s.2.1.1.2.2.2.2.2.1 s.2.1.1.2.2.2.2.2.2.1 s.2.1.1.2.2.2.2.2.2.2.1 s.2.1.1.2.2.2.2.2.2.2.2.1 s.2.1.1.2.2.2.2.2.2.2.2.2.1 s.2.1.2.1.1 s.2.1.2.1.2.2.2.2.1 s.2.1.2.1.2.2.2.2.2.1 s.2.1.2.1.2.2.2.2.2.2.1 s.2.1.2.1.2.2.2.2.2.2.2.1 s.2.1.2.1.2.2.2.2.2.2.2.2.1 s.2.1.2.2.1.1 s.2.1.2.2.1.2.2.1 s.2.1.2.2.1.2.2.2.1 s.2.1.2.2.1.2.2.2.2.1 s.2.1.2.2.1.2.2.2.2.2.1 s.2.1.2.2.1.2.2.2.2.2.2.1 s.2.1.2.2.1.2.2.2.2.2.2.2.1 s.2.1.2.2.1.2.2.2.2.2.2.2.2.1 s.2.1.2.2.1.2.2.2.2.2.2.2.2.2.1 (fun s'=>some (.nor,dX.mk' s')) (fun e=>some (bg.e ji e))) (F0 s _ _)
theorem Ei:bP Tryz.prog nP zL:=aW aG xZ af (by kernel_rfl) (dp (by kernel_rfl:_= []) ah) [.b 2 1 (.st .server)] [1,2,3,9,10,11] [1,2,3] dX ji (by kernel_rfl) eO Eh ru (gf eO) (aL eO)
def pm {ρ:Type} (a0:aj) (k:aj×Unit→Option ρ):Option ρ:=
 (ru (((),(),(),a0.servers,(a0.servers.length:Int),0,()),((a0.now,a0.servers,a0.sides,a0.master.configs,a0.master.activated,a0.masterUp,a0.lease.epoch,a0.lease.holder,a0.lease.ends,a0.places,()),(0,(),(),(),0,0,0,0,0,(),()),(a0.now,(),a0.sides,a0.master.configs,a0.master.activated,a0.masterUp,a0.lease.epoch,a0.lease.holder,a0.lease.ends,a0.places,()),()),(([]:List am),()))).bind fun e62=>(nz e62.2.1.1.2.2.1).bind fun y63=>(jH (⟨e62.2.1.1.2.2.2.1,e62.2.1.1.2.2.2.2.1⟩:ak)).bind fun y64=>(pk e62.2.1.1.2.2.2.2.2.2.2.2.2.1).bind fun y65=>k ((⟨e62.2.1.2.2.1.1,e62.2.2.1,y63.1,y64.1,e62.2.1.2.2.1.2.2.2.2.2.1,(⟨e62.2.1.2.2.1.2.2.2.2.2.2.1,e62.2.1.2.2.1.2.2.2.2.2.2.2.1,e62.2.1.2.2.1.2.2.2.2.2.2.2.2.1⟩:eg),y65.1⟩:aj),())
def lX (a0:aj):Option (aj×Unit):=pm a0 some
theorem Kh {ρ:Type} (a0:aj) (k:aj×Unit→Option ρ):pm a0 k=(lX a0).bind k:=by
 simp only [lX,pm,Option.bind_assoc,Option.bind_some]
abbrev Df:bc:=bh [.ty (.st .cluster)] [.st .cluster] fun x=>lX x.1
theorem OV:ax Tryz.prog 95 Df:=
 an (Λ:=aF [(bU nP,zL)]) (fn:=Tryz.f95) aG xZ af (by kernel_rfl) (az (by kernel_rfl:_= [nP]) (aK (q:=bU nP) rfl Ei fun _ _ _=>by kernel_rfl)) (by kernel_rfl) (fun x=>lX x.1)
  (fun x=>Eq.trans (by kernel_rfl:_=pm x.1 (fun y=>ret (ay [.st .cluster] y) fun v g=>some (v,g))) (Kh x.1 _)) fun _ _ h=>h
abbrev ZY:List (Nat×bc):= []
theorem Ud:au Tryz.prog (aE ZY):=al _
def x0 {ρ:Type} (a0:Int) (a1:Int) (a2:Int) (k:Bool×Unit→Option ρ):Option ρ:=
 br (decide (a1≤a0)) (k ((decide (a0≤a2)),())) (k (false,()))
def ct (a0:Int) (a1:Int) (a2:Int):Option (Bool×Unit):=x0 a0 a1 a2 some
theorem V7 {ρ:Type} (a0:Int) (a1:Int) (a2:Int) (k:Bool×Unit→Option ρ):x0 a0 a1 a2 k=(ct a0 a1 a2).bind k:=by
 simp only [ct,x0,ao,Option.bind_some]
abbrev jy:bc:=bh [.ty (.i .i64), .ty (.i .i64), .ty (.i .i64)] [.b] fun x=>ct x.1 x.2.1 x.2.2.1
theorem kz:ax Tryz.prog 135 jy:=
 an (Λ:=aF []) (fn:=Tryz.f135) aG Ud af (by kernel_rfl) (az (by kernel_rfl:_= []) ah) (by kernel_rfl) (fun x=>ct x.1 x.2.1 x.2.2.1)
  (fun x=>Eq.trans (by kernel_rfl:_=x0 x.1 x.2.1 x.2.2.1 (fun y=>ret (ay [.b] y) fun v g=>some (v,g))) (V7 x.1 x.2.1 x.2.2.1 _)) fun _ _ h=>h
abbrev OW:List (Nat×bc):= [(135,jy)]
theorem H1:au Tryz.prog (aE OW):=ae kz <| al _
def pn {ρ:Type} (a0:Int) (k:Bool×Unit→Option ρ):Option ρ:=
 (ct a0 0 3).bind fun y1=>k ((!y1.1),())
def od (a0:Int):Option (Bool×Unit):=pn a0 some
theorem Ki {ρ:Type} (a0:Int) (k:Bool×Unit→Option ρ):pn a0 k=(od a0).bind k:=by
 simp only [od,pn,Option.bind_assoc,Option.bind_some]
abbrev Dg:bc:=bh [.ty (.i .i64)] [.b] fun x=>od x.1
theorem OX:ax Tryz.prog 210 Dg:=
 an (Λ:=aF []) (fn:=Tryz.f210) aG H1 af (by kernel_rfl) (az (by kernel_rfl:_= []) ah) (by kernel_rfl) (fun x=>od x.1)
  (fun x=>Eq.trans (by kernel_rfl:_=pn x.1 (fun y=>ret (ay [.b] y) fun v g=>some (v,g))) (Ki x.1 _)) fun _ _ h=>h
abbrev nr:List (Nat×bc):= [(210,Dg)]
theorem lq:au Tryz.prog (aE nr):=ae OX <| al _
noncomputable abbrev dD:Code:=bV (bT Tryz.f143) 0
abbrev ba:en:=⟨[(0, .cl (.ro (.i .i64))),(1, .cl (.fc 210)),(7, .cl (.int .i64)),(8, .cl (.int .i64))],[],[],0,19⟩
abbrev b7:List (X×en):= [(.ret,⟨[(4, .cl (.int .i64))],[],[],0,19⟩),(.ext 0,⟨[(4, .cl (.dead))],[],[],0,19⟩)]
def cz {ρ:Type} (v1:List Int) (v2:Int) (v3:Int) (fn: (((List Int)×Unit×Int×Int×Unit)×(Unit)×(Unit))→Option ρ) (fe: ((Int×Unit)×(Unit)×(Unit))⊕((Unit×Unit)×(Unit)×(Unit))→Option ρ):Option ρ:=
 br (decide (v3 < v2)) (aq (0≤v3) ((v1[v3.toNat]?).bind fun x4=>(od x4).bind fun y5=>br y5.1 (fe (.inl ((v3,()),(()),(())))) (fn ((v1,(),v2,(IntKind.wrap .i64 (v3+1)),()),(()),(())))) none) (fe (.inr (((),()),(()),(()))))
def bi (s:ba.D):Option (ba.D⊕bg.D b7):=cz s.1.1 s.1.2.2.1 s.1.2.2.2.1 (fun s=>some (.inl s)) (fun e=>some (.inr e))
def dE:ba.D→Option (bg.D b7):=ko bi
theorem sg {ρ:Type} (s:ba.D) (fn:ba.D→Option ρ) (fe:bg.D b7→Option ρ):cz s.1.1 s.1.2.2.1 s.1.2.2.2.1 fn fe=(bi s).bind (Sum.elim fn fe):=by
 simp only [bi,cz,ao,ap,Option.bind_none,Option.bind_assoc,Option.bind_some,Sum.elim_inl,Sum.elim_inr]
abbrev me:cW:=df [] [0,1,7,8] ba b7 dE
theorem rE (s:ba.D):ez Θ (aE nr) (aF []) dD (ba.mk' s) (cU [0,1,7,8] [4] fun x S=>some (x,S))=(bi s).bind (Sum.elim (fun s'=>some (.nor,ba.mk' s')) fun e=>some (bg.e b7 e)):=
 Eq.trans (by kernel_rfl:_=cz s.1.1 s.1.2.2.1 s.1.2.2.2.1 (fun s'=>some (.nor,ba.mk' s')) (fun e=>some (bg.e b7 e))) (sg s _ _)
theorem rF:bP Tryz.prog dD me:=aW aG lq af (by kernel_rfl) (dp (by kernel_rfl:_= []) ah) [] [0,1,7,8] [4] ba b7 (by kernel_rfl) bi rE dE (gf bi) (aL bi)
def dM {ρ:Type} (a0:List Int) (k:Int×Unit→Option ρ):Option ρ:=
 (dE ((a0,(),(a0.length:Int),0,()),(()),(()))).bind fun e6=>Sum.elim (fun e6_=>k (e6_.1.1,())) (fun _=>k ((-1),())) e6
def db (a0:List Int):Option (Int×Unit):=dM a0 some
theorem tm {ρ:Type} (a0:List Int) (k:Int×Unit→Option ρ):dM a0 k=(db a0).bind k:=by
 simp only [db,dM,bR,Option.bind_assoc,Option.bind_some]
abbrev ns:bc:=bh [.ty (.ls (.i .i64)), .fc 210] [.i .i64] fun x=>db x.1
theorem uh:ax Tryz.prog 143 ns:=
 an (Λ:=aF [(bU dD,me)]) (fn:=Tryz.f143) aG lq af (by kernel_rfl) (az (by kernel_rfl:_= [dD]) (aK (q:=bU dD) rfl rF fun _ _ _=>by kernel_rfl)) (by kernel_rfl) (fun x=>db x.1)
  (fun x=>Eq.trans (by kernel_rfl:_=dM x.1 (fun y=>ret (ay [.i .i64] y) fun v g=>some (v,g))) (tm x.1 _)) fun _ _ h=>h
abbrev sQ:List (Nat×bc):= [(143,ns)]
theorem qT:au Tryz.prog (aE sQ):=ae uh <| al _
def dg {ρ:Type} (a0:List Int) (k:Bool×Unit→Option ρ):Option ρ:=
 (db a0).bind fun y1=>k ((decide (y1.1≥0)),())
def cA (a0:List Int):Option (Bool×Unit):=dg a0 some
theorem rG {ρ:Type} (a0:List Int) (k:Bool×Unit→Option ρ):dg a0 k=(cA a0).bind k:=by
 simp only [cA,dg,Option.bind_assoc,Option.bind_some]
abbrev lr:bc:=bh [.ty (.ls (.i .i64)), .fc 210] [.b] fun x=>cA x.1
theorem sR:ax Tryz.prog 61 lr:=
 an (Λ:=aF []) (fn:=Tryz.f61) aG qT af (by kernel_rfl) (az (by kernel_rfl:_= []) ah) (by kernel_rfl) (fun x=>cA x.1)
  (fun x=>Eq.trans (by kernel_rfl:_=dg x.1 (fun y=>ret (ay [.b] y) fun v g=>some (v,g))) (rG x.1 _)) fun _ _ h=>h
abbrev V8:List (Nat×bc):= [(61,lr)]
theorem OY:au Tryz.prog (aE V8):=ae sR <| al _
def sa {ρ:Type} (a0:List Int) (k:Bool×Unit→Option ρ):Option ρ:=
 br ((a0.length:Int)==5) ((cA a0).bind fun y1=>k ((!y1.1),())) (k (false,()))
def po (a0:List Int):Option (Bool×Unit):=sa a0 some
theorem RG {ρ:Type} (a0:List Int) (k:Bool×Unit→Option ρ):sa a0 k=(po a0).bind k:=by
 simp only [po,sa,ao,Option.bind_assoc,Option.bind_some]
abbrev M2:bc:=bh [.ty (.ls (.i .i64))] [.b] fun x=>po x.1
theorem V9:ax Tryz.prog 136 M2:=
 an (Λ:=aF []) (fn:=Tryz.f136) aG OY af (by kernel_rfl) (az (by kernel_rfl:_= []) ah) (by kernel_rfl) (fun x=>po x.1)
  (fun x=>Eq.trans (by kernel_rfl:_=sa x.1 (fun y=>ret (ay [.b] y) fun v g=>some (v,g))) (RG x.1 _)) fun _ _ h=>h
abbrev F1:List (Nat×bc):= [(135,jy)]
theorem zM:au Tryz.prog (aE F1):=ae kz <| al _
noncomputable abbrev pp:Code:=bV (bT Tryz.f227) 0
abbrev eI:en:=⟨[(0, .cl (.ro (.i .i64))),(5, .cl (.ro (.i .i64))),(6, .cl (.int .i64)),(7, .cl (.int .i64))],[],[],0,29⟩
abbrev kA:List (X×en):= [(.ret,⟨[(2, .cl (.bl))],[],[],0,29⟩),(.ext 0,⟨[(2, .cl (.dead))],[],[],0,29⟩)]
def kY {ρ:Type} (v1:List Int) (v2:List Int) (v3:Int) (v4:Int) (fn: (((List Int)×(List Int)×Int×Int×Unit)×(Unit)×(Unit))→Option ρ) (fe: ((Bool×Unit)×(Unit)×(Unit))⊕((Unit×Unit)×(Unit)×(Unit))→Option ρ):Option ρ:=
 br (decide (v4 < v3)) (aq (0≤v4) ((v2[v4.toNat]?).bind fun x5=>(ct x5 0 4).bind fun y6=>br (!y6.1) (fe (.inl ((false,()),(()),(())))) (br (decide (v4 > 0)) (aq (0≤(IntKind.wrap .i64 (v4 - 1))) ((v1[(IntKind.wrap .i64 (v4 - 1)).toNat]?).bind fun x7=>br (decide (x5≤x7)) (fe (.inl ((false,()),(()),(())))) (fn ((v1,v2,v3,(IntKind.wrap .i64 (v4+1)),()),(()),(())))) none) (fn ((v1,v2,v3,(IntKind.wrap .i64 (v4+1)),()),(()),(()))))) none) (fe (.inr (((),()),(()),(()))))
def fB (s:eI.D):Option (eI.D⊕bg.D kA):=kY s.1.1 s.1.2.1 s.1.2.2.1 s.1.2.2.2.1 (fun s=>some (.inl s)) (fun e=>some (.inr e))
def pq:eI.D→Option (bg.D kA):=ko fB
theorem H2 {ρ:Type} (s:eI.D) (fn:eI.D→Option ρ) (fe:bg.D kA→Option ρ):kY s.1.1 s.1.2.1 s.1.2.2.1 s.1.2.2.2.1 fn fe=(fB s).bind (Sum.elim fn fe):=by
 simp only [fB,kY,ao,ap,Option.bind_none,Option.bind_assoc,Option.bind_some,Sum.elim_inl,Sum.elim_inr]
abbrev Br:cW:=df [] [0,5,6,7] eI kA pq
theorem F2 (s:eI.D):ez Θ (aE F1) (aF []) pp (eI.mk' s) (cU [0,5,6,7] [2] fun x S=>some (x,S))=(fB s).bind (Sum.elim (fun s'=>some (.nor,eI.mk' s')) fun e=>some (bg.e kA e)):=
 Eq.trans (by kernel_rfl:_=kY s.1.1 s.1.2.1 s.1.2.2.1 s.1.2.2.2.1 (fun s'=>some (.nor,eI.mk' s')) (fun e=>some (bg.e kA e))) (H2 s _ _)
theorem F3:bP Tryz.prog pp Br:=aW aG zM af (by kernel_rfl) (dp (by kernel_rfl:_= []) ah) [] [0,5,6,7] [2] eI kA (by kernel_rfl) fB F2 pq (gf fB) (aL fB)
def qU {ρ:Type} (a0:List Int) (k:Bool×Unit→Option ρ):Option ρ:=
 (pq ((a0,a0,(a0.length:Int),0,()),(()),(()))).bind fun e8=>Sum.elim (fun e8_=>k (e8_.1.1,())) (fun _=>k (true,())) e8
def jI (a0:List Int):Option (Bool×Unit):=qU a0 some
theorem M3 {ρ:Type} (a0:List Int) (k:Bool×Unit→Option ρ):qU a0 k=(jI a0).bind k:=by
 simp only [jI,qU,bR,Option.bind_assoc,Option.bind_some]
abbrev F4:bc:=bh [.ty (.ls (.i .i64))] [.b] fun x=>jI x.1
theorem RH:ax Tryz.prog 227 F4:=
 an (Λ:=aF [(bU pp,Br)]) (fn:=Tryz.f227) aG zM af (by kernel_rfl) (az (by kernel_rfl:_= [pp]) (aK (q:=bU pp) rfl F3 fun _ _ _=>by kernel_rfl)) (by kernel_rfl) (fun x=>jI x.1)
  (fun x=>Eq.trans (by kernel_rfl:_=qU x.1 (fun y=>ret (ay [.b] y) fun v g=>some (v,g))) (M3 x.1 _)) fun _ _ h=>h
abbrev F5:List (Nat×bc):= []
theorem zN:au Tryz.prog (aE F5):=al _
noncomputable abbrev pt:Code:=bV (bT Tryz.f214) 0
abbrev eJ:en:=⟨[(0, .cl (.ro (.i .i64))),(1, .cl (.int .i64)),(7, .cl (.int .i64)),(8, .cl (.int .i64))],[],[],0,19⟩
abbrev kB:List (X×en):= [(.ret,⟨[(4, .cl (.int .i64))],[],[],0,19⟩),(.ext 0,⟨[(4, .cl (.dead))],[],[],0,19⟩)]
def kZ {ρ:Type} (v1:List Int) (v2:Int) (v3:Int) (v4:Int) (fn: (((List Int)×Int×Int×Int×Unit)×(Unit)×(Unit))→Option ρ) (fe: ((Int×Unit)×(Unit)×(Unit))⊕((Unit×Unit)×(Unit)×(Unit))→Option ρ):Option ρ:=
 br (decide (v4 < v3)) (aq (0≤v4) ((v1[v4.toNat]?).bind fun x5=>br (v2==x5) (fe (.inl ((v4,()),(()),(())))) (fn ((v1,v2,v3,(IntKind.wrap .i64 (v4+1)),()),(()),(())))) none) (fe (.inr (((),()),(()),(()))))
def fC (s:eJ.D):Option (eJ.D⊕bg.D kB):=kZ s.1.1 s.1.2.1 s.1.2.2.1 s.1.2.2.2.1 (fun s=>some (.inl s)) (fun e=>some (.inr e))
def pu:eJ.D→Option (bg.D kB):=ko fC
theorem H3 {ρ:Type} (s:eJ.D) (fn:eJ.D→Option ρ) (fe:bg.D kB→Option ρ):kZ s.1.1 s.1.2.1 s.1.2.2.1 s.1.2.2.2.1 fn fe=(fC s).bind (Sum.elim fn fe):=by
 simp only [fC,kZ,ao,ap,Option.bind_none,Option.bind_assoc,Option.bind_some,Sum.elim_inl,Sum.elim_inr]
abbrev Bs:cW:=df [] [0,1,7,8] eJ kB pu
theorem F6 (s:eJ.D):ez Θ (aE F5) (aF []) pt (eJ.mk' s) (cU [0,1,7,8] [4] fun x S=>some (x,S))=(fC s).bind (Sum.elim (fun s'=>some (.nor,eJ.mk' s')) fun e=>some (bg.e kB e)):=
 Eq.trans (by kernel_rfl:_=kZ s.1.1 s.1.2.1 s.1.2.2.1 s.1.2.2.2.1 (fun s'=>some (.nor,eJ.mk' s')) (fun e=>some (bg.e kB e))) (H3 s _ _)
theorem F7:bP Tryz.prog pt Bs:=aW aG zN af (by kernel_rfl) (dp (by kernel_rfl:_= []) ah) [] [0,1,7,8] [4] eJ kB (by kernel_rfl) fC F6 pu (gf fC) (aL fC)
def qV {ρ:Type} (a0:List Int) (a1:Int) (k:Int×Unit→Option ρ):Option ρ:=
 (pu ((a0,a1,(a0.length:Int),0,()),(()),(()))).bind fun e6=>Sum.elim (fun e6_=>k (e6_.1.1,())) (fun _=>k ((-1),())) e6
def qb (a0:List Int) (a1:Int):Option (Int×Unit):=qV a0 a1 some
theorem M4 {ρ:Type} (a0:List Int) (a1:Int) (k:Int×Unit→Option ρ):qV a0 a1 k=(qb a0 a1).bind k:=by
 simp only [qb,qV,bR,Option.bind_assoc,Option.bind_some]
abbrev F8:bc:=bh [.ty (.ls (.i .i64)), .ty (.i .i64)] [.i .i64] fun x=>qb x.1 x.2.1
theorem RI:ax Tryz.prog 214 F8:=
 an (Λ:=aF [(bU pt,Bs)]) (fn:=Tryz.f214) aG zN af (by kernel_rfl) (az (by kernel_rfl:_= [pt]) (aK (q:=bU pt) rfl F7 fun _ _ _=>by kernel_rfl)) (by kernel_rfl) (fun x=>qb x.1 x.2.1)
  (fun x=>Eq.trans (by kernel_rfl:_=qV x.1 x.2.1 (fun y=>ret (ay [.i .i64] y) fun v g=>some (v,g))) (M4 x.1 x.2.1 _)) fun _ _ h=>h
abbrev Kj:List (Nat×bc):= [(214,F8)]
theorem Ej:au Tryz.prog (aE Kj):=ae RI <| al _
def mR {ρ:Type} (a0:List Int) (a1:Int) (k:Bool×Unit→Option ρ):Option ρ:=
 (qb a0 a1).bind fun y1=>k ((decide (y1.1≥0)),())
def k9 (a0:List Int) (a1:Int):Option (Bool×Unit):=mR a0 a1 some
theorem F9 {ρ:Type} (a0:List Int) (a1:Int) (k:Bool×Unit→Option ρ):mR a0 a1 k=(k9 a0 a1).bind k:=by
 simp only [k9,mR,Option.bind_assoc,Option.bind_some]
abbrev zO:bc:=bh [.ty (.ls (.i .i64)), .ty (.i .i64)] [.b] fun x=>k9 x.1 x.2.1
theorem Kk:ax Tryz.prog 144 zO:=
 an (Λ:=aF []) (fn:=Tryz.f144) aG Ej af (by kernel_rfl) (az (by kernel_rfl:_= []) ah) (by kernel_rfl) (fun x=>k9 x.1 x.2.1)
  (fun x=>Eq.trans (by kernel_rfl:_=mR x.1 x.2.1 (fun y=>ret (ay [.b] y) fun v g=>some (v,g))) (F9 x.1 x.2.1 _)) fun _ _ h=>h
abbrev Ue:List (Nat×bc):= [(144,zO)]
theorem M5:au Tryz.prog (aE Ue):=ae Kk <| al _
def sS {ρ:Type} (a0:List Int) (a1:Int) (k:Bool×Unit→Option ρ):Option ρ:=
 (k9 a0 a1).bind fun y1=>k (y1.1,())
def iQ (a0:List Int) (a1:Int):Option (Bool×Unit):=sS a0 a1 some
theorem OZ {ρ:Type} (a0:List Int) (a1:Int) (k:Bool×Unit→Option ρ):sS a0 a1 k=(iQ a0 a1).bind k:=by
 simp only [iQ,sS,Option.bind_assoc,Option.bind_some]
abbrev uj:bc:=bh [.ty (.ls (.i .i64)), .ty (.i .i64)] [.b] fun x=>iQ x.1 x.2.1
theorem wH:ax Tryz.prog 66 uj:=
 an (Λ:=aF []) (fn:=Tryz.f66) aG M5 af (by kernel_rfl) (az (by kernel_rfl:_= []) ah) (by kernel_rfl) (fun x=>iQ x.1 x.2.1)
  (fun x=>Eq.trans (by kernel_rfl:_=sS x.1 x.2.1 (fun y=>ret (ay [.b] y) fun v g=>some (v,g))) (OZ x.1 x.2.1 _)) fun _ _ h=>h
abbrev Wa:List (Nat×bc):= []
theorem O0:au Tryz.prog (aE Wa):=al _
def wI {ρ:Type} (a0:Int) (k:Int×Unit→Option ρ):Option ρ:=
 br (decide (a0≥4294967296)) (none) (br (decide (a0≥65536)) (none) (br (decide (a0≥256)) (none) (aq (0≤(IntKind.wrap .u8 a0)) ((sb0[(IntKind.wrap .u8 a0).toNat]?).bind fun x1=>k ((IntKind.wrap .i64 (0+(IntKind.wrap .i64 (x1.toNat:Int)))),())) none)))
def vK (a0:Int):Option (Int×Unit):=wI a0 some
theorem RJ {ρ:Type} (a0:Int) (k:Int×Unit→Option ρ):wI a0 k=(vK a0).bind k:=by
 simp only [vK,wI,ao,ap,Option.bind_none,Option.bind_assoc,Option.bind_some]
abbrev M6:bc:=bh [.ty (.i .u64)] [.i .i64] fun x=>vK x.1
theorem Wb:ax Tryz.prog 298 M6:=
 an (Λ:=aF []) (fn:=Tryz.f298) aG O0 af (by kernel_rfl) (az (by kernel_rfl:_= []) ah) (by kernel_rfl) (fun x=>vK x.1)
  (fun x=>Eq.trans (by kernel_rfl:_=wI x.1 (fun y=>ret (ay [.i .i64] y) fun v g=>some (v,g))) (RJ x.1 _)) fun _ _ h=>h
abbrev ZZ:List (Nat×bc):= [(298,M6)]
theorem Uf:au Tryz.prog (aE ZZ):=ae Wb <| al _
def Ct {ρ:Type} (a0:Int) (k:Int×Unit→Option ρ):Option ρ:=
 (vK a0).bind fun y1=>k (y1.1,())
def ya (a0:Int):Option (Int×Unit):=Ct a0 some
theorem Wc {ρ:Type} (a0:Int) (k:Int×Unit→Option ρ):Ct a0 k=(ya a0).bind k:=by
 simp only [ya,Ct,Option.bind_assoc,Option.bind_some]
abbrev Ug:bc:=bh [.ty (.i .u64)] [.i .i64] fun x=>ya x.1
theorem Z0:ax Tryz.prog 268 Ug:=
 an (Λ:=aF []) (fn:=Tryz.f268) aG Uf af (by kernel_rfl) (az (by kernel_rfl:_= []) ah) (by kernel_rfl) (fun x=>ya x.1)
  (fun x=>Eq.trans (by kernel_rfl:_=Ct x.1 (fun y=>ret (ay [.i .i64] y) fun v g=>some (v,g))) (Wc x.1 _)) fun _ _ h=>h
abbrev O1:List (Nat×bc):= []
theorem H4:au Tryz.prog (aE O1):=al _
def pv {ρ:Type} (a0:Int) (k:Bool×Unit→Option ρ):Option ρ:=
 k ((!(a0==a0)),())
def lY (a0:Int):Option (Bool×Unit):=pv a0 some
theorem Kl {ρ:Type} (a0:Int) (k:Bool×Unit→Option ρ):pv a0 k=(lY a0).bind k:=by
 simp only [lY,pv,Option.bind_some]
abbrev Dh:bc:=bh [.ty (.i .i64)] [.b] fun x=>lY x.1
theorem O2:ax Tryz.prog 314 Dh:=
 an (Λ:=aF []) (fn:=Tryz.f314) aG H4 af (by kernel_rfl) (az (by kernel_rfl:_= []) ah) (by kernel_rfl) (fun x=>lY x.1)
  (fun x=>Eq.trans (by kernel_rfl:_=pv x.1 (fun y=>ret (ay [.b] y) fun v g=>some (v,g))) (Kl x.1 _)) fun _ _ h=>h
abbrev RK:List (Nat×bc):= [(314,Dh)]
theorem Km:au Tryz.prog (aE RK):=ae O2 <| al _
def qW {ρ:Type} (a0:Int) (a1:Int) (k:Bool×Unit→Option ρ):Option ρ:=
 (lY a0).bind fun y1=>br y1.1 ((lY a1).bind fun y2=>br (!y2.1) (k (true,())) (k ((decide (a0 < a1)),()))) (k ((decide (a0 < a1)),()))
def nA (a0:Int) (a1:Int):Option (Bool×Unit):=qW a0 a1 some
theorem M7 {ρ:Type} (a0:Int) (a1:Int) (k:Bool×Unit→Option ρ):qW a0 a1 k=(nA a0 a1).bind k:=by
 simp only [nA,qW,ao,Option.bind_assoc,Option.bind_some]
abbrev Ga:bc:=bh [.ty (.i .i64), .ty (.i .i64)] [.b] fun x=>nA x.1 x.2.1
theorem RL:ax Tryz.prog 294 Ga:=
 an (Λ:=aF []) (fn:=Tryz.f294) aG Km af (by kernel_rfl) (az (by kernel_rfl:_= []) ah) (by kernel_rfl) (fun x=>nA x.1 x.2.1)
  (fun x=>Eq.trans (by kernel_rfl:_=qW x.1 x.2.1 (fun y=>ret (ay [.b] y) fun v g=>some (v,g))) (M7 x.1 x.2.1 _)) fun _ _ h=>h
abbrev il:List (Nat×bc):= [(294,Ga)]
theorem gg:au Tryz.prog (aE il):=ae RL <| al _
noncomputable abbrev cB:Code:=bV (bT Tryz.f288) 0
noncomputable abbrev du:Code:=bV cB 0
abbrev aX:en:=⟨[(0, .cl (.own 0 (.i .i64))),(1, .cl (.int .i64)),(2, .cl (.int .i64)),(6, .cl (.int .i64)),(7, .cl (.int .i64))],[],[.i .i64],1,49⟩
abbrev bW:List (X×en):= [(.ext 2,⟨[(0, .cl (.own 0 (.i .i64))),(1, .cl (.int .i64)),(2, .cl (.int .i64)),(6, .cl (.int .i64))],[],[.i .i64],1,49⟩)]
def dh {ρ:Type} (v5:List Int) (v6:Int) (v7:Int) (v8:Int) (v9:Int) (fn: ((Unit×Int×Int×Int×Int×Unit)×(Unit)×((List Int)×Unit))→Option ρ) (fe: ((Unit×Int×Int×Int×Unit)×(Unit)×((List Int)×Unit))→Option ρ):Option ρ:=
 br (decide (v9 > v6)) (aq (0≤v9∧v9 < (v5.length:Int)) ((v5[v9.toNat]?).bind fun x10=>aq (0≤(IntKind.wrap .i64 (v9 - 1))∧(IntKind.wrap .i64 (v9 - 1)) < (v5.length:Int)) ((v5[(IntKind.wrap .i64 (v9 - 1)).toNat]?).bind fun x11=>(nA x10 x11).bind fun y12=>br y12.1 (aq (0≤(IntKind.wrap .i64 (v9 - 1))∧(IntKind.wrap .i64 (v9 - 1)) < (v5.length:Int)) ((v5[(IntKind.wrap .i64 (v9 - 1)).toNat]?).bind fun x13=>aq (0≤v9∧v9 < (v5.length:Int)) ((v5[v9.toNat]?).bind fun x14=>aq (0≤v9∧v9 < (v5.length:Int)) (aq (0≤(IntKind.wrap .i64 (v9 - 1))∧(IntKind.wrap .i64 (v9 - 1)) < (v5.length:Int)) ((v5[v9.toNat]?).bind fun _=>let z16:=v5.set v9.toNat x13; (z16[(IntKind.wrap .i64 (v9 - 1)).toNat]?).bind fun _=>fn (((),v6,v7,v8,(IntKind.wrap .i64 (v9 - 1)),()),(()),((z16.set ((IntKind.wrap .i64 (v9 - 1)).toNat) x14),()))) none) none) none) none) (fe (((),v6,v7,v8,()),(()),(v5,())))) none) none) (fe (((),v6,v7,v8,()),(()),(v5,())))
def bG (s:aX.D):Option (aX.D⊕bg.D bW):=dh s.2.2.1 s.1.2.1 s.1.2.2.1 s.1.2.2.2.1 s.1.2.2.2.2.1 (fun s=>some (.inl s)) (fun e=>some (.inr e))
def ep:aX.D→Option (bg.D bW):=ko bG
theorem rH {ρ:Type} (s:aX.D) (fn:aX.D→Option ρ) (fe:bg.D bW→Option ρ):dh s.2.2.1 s.1.2.1 s.1.2.2.1 s.1.2.2.2.1 s.1.2.2.2.2.1 fn fe=(bG s).bind (Sum.elim fn fe):=by
 simp only [bG,dh,ao,ap,Option.bind_none,Option.bind_assoc,Option.bind_some,Sum.elim_inl,Sum.elim_inr]
abbrev lu:cW:=df [] [0,1,2,6,7] aX bW ep
theorem qX (s:aX.D):ez Θ (aE il) (aF []) du (aX.mk' s) (cU [0,1,2,6,7] [0,1,2,6] fun x S=>some (x,S))=(bG s).bind (Sum.elim (fun s'=>some (.nor,aX.mk' s')) fun e=>some (bg.e bW e)):=
 Eq.trans (by kernel_rfl:_=dh s.2.2.1 s.1.2.1 s.1.2.2.1 s.1.2.2.2.1 s.1.2.2.2.2.1 (fun s'=>some (.nor,aX.mk' s')) (fun e=>some (bg.e bW e))) (rH s _ _)
theorem qY:bP Tryz.prog du lu:=aW aG gg af (by kernel_rfl) (dp (by kernel_rfl:_= []) ah) [] [0,1,2,6,7] [0,1,2,6] aX bW (by kernel_rfl) bG qX ep (gf bG) (aL bG)
abbrev aY:en:=⟨[(0, .cl (.own 0 (.i .i64))),(1, .cl (.int .i64)),(2, .cl (.int .i64)),(6, .cl (.int .i64))],[],[.i .i64],1,49⟩
abbrev bX:List (X×en):= [(.ext 0,⟨[],[],[.i .i64],1,49⟩)]
def cn {ρ:Type} (v1:List Int) (v2:Int) (v3:Int) (v4:Int) (fn: ((Unit×Int×Int×Int×Unit)×(Unit)×((List Int)×Unit))→Option ρ) (fe: ((Unit)×(Unit)×((List Int)×Unit))→Option ρ):Option ρ:=
 br (decide (v4 < v3)) ((ep (((),v2,v3,v4,v4,()),(()),(v1,()))).bind fun e19=>fn (((),e19.1.2.1,e19.1.2.2.1,(IntKind.wrap .i64 (e19.1.2.2.2.1+1)),()),(()),(e19.2.2.1,()))) (fe ((()),(()),(v1,())))
def bf (s:aY.D):Option (aY.D⊕bg.D bX):=cn s.2.2.1 s.1.2.1 s.1.2.2.1 s.1.2.2.2.1 (fun s=>some (.inl s)) (fun e=>some (.inr e))
def eu:aY.D→Option (bg.D bX):=ko bf
theorem rI {ρ:Type} (s:aY.D) (fn:aY.D→Option ρ) (fe:bg.D bX→Option ρ):cn s.2.2.1 s.1.2.1 s.1.2.2.1 s.1.2.2.2.1 fn fe=(bf s).bind (Sum.elim fn fe):=by
 simp only [bf,cn,ao,Option.bind_assoc,Option.bind_some,Sum.elim_inl,Sum.elim_inr]
abbrev lw:cW:=df [] [0,1,2,6] aY bX eu
theorem qZ (s:aY.D):ez Θ (aE il) (aF [(bU du,lu)]) cB (aY.mk' s) (cU [0,1,2,6] [] fun x S=>some (x,S))=(bf s).bind (Sum.elim (fun s'=>some (.nor,aY.mk' s')) fun e=>some (bg.e bX e)):=
 Eq.trans (by kernel_rfl:_=cn s.2.2.1 s.1.2.1 s.1.2.2.1 s.1.2.2.2.1 (fun s'=>some (.nor,aY.mk' s')) (fun e=>some (bg.e bX e))) (rI s _ _)
theorem q7:bP Tryz.prog cB lw:=aW aG gg af (by kernel_rfl) (dp (by kernel_rfl:_= [du]) (aK (q:=bU du) rfl qY fun _ _ _=>by kernel_rfl)) [] [0,1,2,6] [] aY bX (by kernel_rfl) bf qZ eu (gf bf) (aL bf)
def dF {ρ:Type} (a0:List Int) (a1:Int) (a2:Int) (k: (List Int)×Unit→Option ρ):Option ρ:=
 (eu (((),a1,a2,(IntKind.wrap .i64 (a1+1)),()),(()),(a0,()))).bind fun e20=>k (e20.2.2.1,())
def ce (a0:List Int) (a1:Int) (a2:Int):Option ((List Int)×Unit):=dF a0 a1 a2 some
theorem sT {ρ:Type} (a0:List Int) (a1:Int) (a2:Int) (k: (List Int)×Unit→Option ρ):dF a0 a1 a2 k=(ce a0 a1 a2).bind k:=by
 simp only [ce,dF,Option.bind_assoc,Option.bind_some]
abbrev mT:bc:=Oh (.i .i64) [.ty (.i .i64), .ty (.i .i64)] [] fun l x=>ce l x.1 x.2.1
theorem tL:ax Tryz.prog (qx 288) mT:=
 wr (Λ:=aF [(bU cB,lw)]) (fn:=Tryz.f288) aG gg af (by kernel_rfl) (az (by kernel_rfl:_= [cB]) (aK (q:=bU cB) rfl q7 fun _ _ _=>by kernel_rfl)) (by kernel_rfl) (fun l x=>ce l x.1 x.2.1)
  (fun l x=>Eq.trans (by kernel_rfl:_=dF l x.1 x.2.1 (fun y=>Og (.i .i64) [] y fun v g=>some (v,g))) (sT l x.1 x.2.1 _)) fun _ _ _ h=>h
abbrev q8:List (Nat×bc):= [(qx 288,mT)]
theorem oC:au Tryz.prog (aE q8):=ae tL <| al _
noncomputable abbrev eK:Code:=bV (bT Tryz.f267) 0
abbrev bw:en:=⟨[(0, .cl (.own 0 (.i .i64))),(1, .cl (.int .i64)),(2, .cl (.int .i64)),(3, .cl (.int .i64)),(8, .cl (.bl)),(9, .cl (.bl))],[],[.i .i64],1,134⟩
abbrev cY:List (X×en):= [(.ret,⟨[],[],[.i .i64],1,134⟩)]
def ev {ρ:Type} (v1:List Int) (v2:Int) (v3:Int) (v4:Int) (v5:Bool) (_v6:Bool) (_fn: ((Unit×Int×Int×Int×Bool×Bool×Unit)×(Unit)×((List Int)×Unit))→Option ρ) (fe: ((Unit)×(Unit)×((List Int)×Unit))→Option ρ):Option ρ:=
 br (decide ((IntKind.wrap .i64 (v3 - v2))≤12)) ((ce v1 v2 v3).bind fun y7=>aq (y7.1.length=v1.length) (fe ((()),(()),(y7.1,()))) none) (br (v4==0) (none) (br (!v5) (none) (none)))
def cu (s:bw.D):Option (bw.D⊕bg.D cY):=ev s.2.2.1 s.1.2.1 s.1.2.2.1 s.1.2.2.2.1 s.1.2.2.2.2.1 s.1.2.2.2.2.2.1 (fun s=>some (.inl s)) (fun e=>some (.inr e))
def gt:bw.D→Option (bg.D cY):=ko cu
theorem uA {ρ:Type} (s:bw.D) (fn:bw.D→Option ρ) (fe:bg.D cY→Option ρ):ev s.2.2.1 s.1.2.1 s.1.2.2.1 s.1.2.2.2.1 s.1.2.2.2.2.1 s.1.2.2.2.2.2.1 fn fe=(cu s).bind (Sum.elim fn fe):=by
 simp only [cu,ev,ao,ap,Option.bind_none,Option.bind_assoc,Option.bind_some,Sum.elim_inr]
abbrev pw:cW:=df [] [0,1,2,3,8,9] bw cY gt
theorem uk (s:bw.D):ez Θ (aE q8) (aF []) eK (bw.mk' s) (cU [0,1,2,3,8,9] [] fun x S=>some (x,S))=(cu s).bind (Sum.elim (fun s'=>some (.nor,bw.mk' s')) fun e=>some (bg.e cY e)):=
 Eq.trans (by kernel_rfl:_=ev s.2.2.1 s.1.2.1 s.1.2.2.1 s.1.2.2.2.1 s.1.2.2.2.2.1 s.1.2.2.2.2.2.1 (fun s'=>some (.nor,bw.mk' s')) (fun e=>some (bg.e cY e))) (uA s _ _)
theorem ul:bP Tryz.prog eK pw:=aW aG oC af (by kernel_rfl) (dp (by kernel_rfl:_= []) ah) [] [0,1,2,3,8,9] [] bw cY (by kernel_rfl) cu uk gt (gf cu) (aL cu)
def eY {ρ:Type} (a0:List Int) (a1:Int) (a2:Int) (a3:Int) (k: (List Int)×Unit→Option ρ):Option ρ:=
 (gt (((),a1,a2,a3,true,true,()),(()),(a0,()))).bind fun e8=>k (e8.2.2.1,())
def dx (a0:List Int) (a1:Int) (a2:Int) (a3:Int):Option ((List Int)×Unit):=eY a0 a1 a2 a3 some
theorem vL {ρ:Type} (a0:List Int) (a1:Int) (a2:Int) (a3:Int) (k: (List Int)×Unit→Option ρ):eY a0 a1 a2 a3 k=(dx a0 a1 a2 a3).bind k:=by
 simp only [dx,eY,Option.bind_assoc,Option.bind_some]
abbrev q9:bc:=Oh (.i .i64) [.ty (.i .i64), .ty (.i .i64), .ty (.i .i64)] [] fun l x=>dx l x.1 x.2.1 x.2.2.1
theorem xk:ax Tryz.prog (qx 267) q9:=
 wr (Λ:=aF [(bU eK,pw)]) (fn:=Tryz.f267) aG oC af (by kernel_rfl) (az (by kernel_rfl:_= [eK]) (aK (q:=bU eK) rfl ul fun _ _ _=>by kernel_rfl)) (by kernel_rfl) (fun l x=>dx l x.1 x.2.1 x.2.2.1)
  (fun l x=>Eq.trans (by kernel_rfl:_=eY l x.1 x.2.1 x.2.2.1 (fun y=>Og (.i .i64) [] y fun v g=>some (v,g))) (vL l x.1 x.2.1 x.2.2.1 _)) fun _ _ _ h=>h
abbrev M8:List (Nat×bc):= [(268,Ug),(qx 267,q9)]
theorem Gb:au Tryz.prog (aE M8):=ae Z0 <| ae xk <| al _
def nQ {ρ:Type} (a0:List Int) (k: (List Int)×Unit→Option ρ):Option ρ:=
 (ya (IntKind.wrap .u64 (a0.length:Int))).bind fun y1=>(dx a0 0 (a0.length:Int) y1.1).bind fun y2=>aq (y2.1.length=a0.length) (k (y2.1,())) none
def kC (a0:List Int):Option ((List Int)×Unit):=nQ a0 some
theorem H5 {ρ:Type} (a0:List Int) (k: (List Int)×Unit→Option ρ):nQ a0 k=(kC a0).bind k:=by
 simp only [kC,nQ,ap,Option.bind_none,Option.bind_assoc,Option.bind_some]
abbrev Bu:bc:=Oh (.i .i64) [] [] fun l _=>kC l
theorem M9:ax Tryz.prog (qx 216) Bu:=
 wr (Λ:=aF []) (fn:=Tryz.f216) aG Gb af (by kernel_rfl) (az (by kernel_rfl:_= []) ah) (by kernel_rfl) (fun l _=>kC l)
  (fun l _=>Eq.trans (by kernel_rfl:_=nQ l (fun y=>Og (.i .i64) [] y fun v g=>some (v,g))) (H5 l _)) fun _ _ _ h=>h
abbrev sU:List (Nat×bc):= []
theorem pz:au Tryz.prog (aE sU):=al _
noncomputable abbrev gJ:Code:=bV (bT Tryz.f217) 0
noncomputable abbrev jz:Code:=bV gJ 0
abbrev cL:en:=⟨[(0, .cl (.own 0 (.i .i64))),(3, .cl (.int .i64)),(4, .cl (.sub 0 (.i .i64))),(5, .cl (.int .i64))],[],[.i .i64],0,61⟩
abbrev fa:List (X×en):= [(.ext 2,⟨[(0, .cl (.own 0 (.i .i64))),(3, .cl (.int .i64))],[],[.i .i64],0,61⟩)]
def lx {ρ:Type} (v5:List Int) (v6:Int) (v7: (Nat×Nat)) (v8:Int) (fn: ((Unit×Int×((Nat×Nat))×Int×Unit)×(Unit)×((List Int)×Unit))→Option ρ) (fe: ((Unit×Int×Unit)×(Unit)×((List Int)×Unit))→Option ρ):Option ρ:=
 br (decide (v8 < ((v7.2:Nat):Int))) (aq (0≤v8∧v8 < ((v7.2:Nat):Int)) ((v5[(v7.1+v8.toNat)]?).bind fun x9=>aq (0≤(IntKind.wrap .i64 (v8 - 1))∧(IntKind.wrap .i64 (v8 - 1)) < ((v7.2:Nat):Int)) ((v5[(v7.1+(IntKind.wrap .i64 (v8 - 1)).toNat)]?).bind fun x10=>br (!(x9==x10)) (aq (0≤v8∧v8 < ((v7.2:Nat):Int)) ((v5[(v7.1+v8.toNat)]?).bind fun x11=>aq (0≤v6∧v6 < (v5.length:Int)) ((v5[v6.toNat]?).bind fun _=>fn (((),(IntKind.wrap .i64 (v6+1)),(v7.1,v7.2),(IntKind.wrap .i64 (v8+1)),()),(()),((v5.set v6.toNat x11),()))) none) none) (fn (((),v6,(v7.1,v7.2),(IntKind.wrap .i64 (v8+1)),()),(()),(v5,())))) none) none) (fe (((),v6,()),(()),(v5,())))
def fb (s:cL.D):Option (cL.D⊕bg.D fa):=lx s.2.2.1 s.1.2.1 s.1.2.2.1 s.1.2.2.2.1 (fun s=>some (.inl s)) (fun e=>some (.inr e))
def qz:cL.D→Option (bg.D fa):=ko fb
theorem An {ρ:Type} (s:cL.D) (fn:cL.D→Option ρ) (fe:bg.D fa→Option ρ):lx s.2.2.1 s.1.2.1 s.1.2.2.1 s.1.2.2.2.1 fn fe=(fb s).bind (Sum.elim fn fe):=by
 simp only [fb,lx,ao,ap,Option.bind_none,Option.bind_assoc,Option.bind_some,Sum.elim_inl,Sum.elim_inr]
abbrev uN:cW:=df [] [0,3,4,5] cL fa qz
theorem yW (s:cL.D):ez Θ (aE sU) (aF []) jz (cL.mk' s) (cU [0,3,4,5] [0,3] fun x S=>some (x,S))=(fb s).bind (Sum.elim (fun s'=>some (.nor,cL.mk' s')) fun e=>some (bg.e fa e)):=
 Eq.trans (by kernel_rfl:_=lx s.2.2.1 s.1.2.1 s.1.2.2.1 s.1.2.2.2.1 (fun s'=>some (.nor,cL.mk' s')) (fun e=>some (bg.e fa e))) (An s _ _)
theorem yX:bP Tryz.prog jz uN:=aW aG pz af (by kernel_rfl) (dp (by kernel_rfl:_= []) ah) [] [0,3,4,5] [0,3] cL fa (by kernel_rfl) fb yW qz (gf fb) (aL fb)
abbrev cM:en:=⟨[(0, .cl (.own 0 (.i .i64))),(3, .cl (.int .i64))],[],[.i .i64],0,61⟩
abbrev ff:List (X×en):= [(.ret,⟨[(0, .cl (.own 0 (.i .i64))),(2, .cl (.sub 0 (.i .i64)))],[],[.i .i64],0,61⟩),(.ext 0,⟨[(0, .cl (.own 0 (.i .i64))),(2, .cl (.dead))],[],[.i .i64],0,61⟩)]
def fY {ρ:Type} (v1:List Int) (v2:Int) (fn: ((Unit×Int×Unit)×(Unit)×((List Int)×Unit))→Option ρ) (fe: ((Unit×((Nat×Nat))×Unit)×(Unit)×((List Int)×Unit))⊕((Unit×Unit×Unit)×(Unit)×((List Int)×Unit))→Option ρ):Option ρ:=
 br (decide (v2 < (v1.length:Int))) (aq (0≤v2∧v2 < (v1.length:Int)) ((v1[v2.toNat]?).bind fun x3=>aq (0≤(IntKind.wrap .i64 (v2 - 1))∧(IntKind.wrap .i64 (v2 - 1)) < (v1.length:Int)) ((v1[(IntKind.wrap .i64 (v2 - 1)).toNat]?).bind fun x4=>br (x3==x4) (aq (0≤v2∧v2≤(v1.length:Int)∧(v1.length:Int)≤((v1.length:Nat):Int)) ((qz (((),v2,((0+v2.toNat),((v1.length:Int).toNat - v2.toNat)),1,()),(()),(v1,()))).bind fun e14=>aq (0≤e14.1.2.1∧e14.1.2.1≤(e14.2.2.1.length:Int)∧(e14.2.2.1.length:Int)≤((e14.2.2.1.length:Nat):Int)) (aq ((0+e14.1.2.1.toNat)+((e14.2.2.1.length:Int).toNat - e14.1.2.1.toNat)≤e14.2.2.1.length) (aq (0≤(0:Int)∧(0:Int)≤e14.1.2.1∧e14.1.2.1≤((e14.2.2.1.length:Nat):Int)) (fe (.inl (((),((0+(0:Int).toNat),(e14.1.2.1.toNat - (0:Int).toNat)),()),(()),((e14.2.2.1.take (0+e14.1.2.1.toNat)++List.replicate ((e14.2.2.1.length:Int).toNat - e14.1.2.1.toNat) (0:Int)++e14.2.2.1.drop ((0+e14.1.2.1.toNat)+((e14.2.2.1.length:Int).toNat - e14.1.2.1.toNat))),())))) none) none) none) none) (fn (((),(IntKind.wrap .i64 (v2+1)),()),(()),(v1,())))) none) none) (fe (.inr (((),(),()),(()),(v1,()))))
def dc (s:cM.D):Option (cM.D⊕bg.D ff):=fY s.2.2.1 s.1.2.1 (fun s=>some (.inl s)) (fun e=>some (.inr e))
def mh:cM.D→Option (bg.D ff):=ko dc
theorem Ao {ρ:Type} (s:cM.D) (fn:cM.D→Option ρ) (fe:bg.D ff→Option ρ):fY s.2.2.1 s.1.2.1 fn fe=(dc s).bind (Sum.elim fn fe):=by
 simp only [dc,fY,ao,ap,Option.bind_none,Option.bind_assoc,Option.bind_some,Sum.elim_inl,Sum.elim_inr]
abbrev uO:cW:=df [] [0,3] cM ff mh
theorem yY (s:cM.D):ez Θ (aE sU) (aF [(bU jz,uN)]) gJ (cM.mk' s) (cU [0,3] [0,2] fun x S=>some (x,S))=(dc s).bind (Sum.elim (fun s'=>some (.nor,cM.mk' s')) fun e=>some (bg.e ff e)):=
 Eq.trans (by kernel_rfl:_=fY s.2.2.1 s.1.2.1 (fun s'=>some (.nor,cM.mk' s')) (fun e=>some (bg.e ff e))) (Ao s _ _)
theorem yZ:bP Tryz.prog gJ uO:=aW aG pz af (by kernel_rfl) (dp (by kernel_rfl:_= [jz]) (aK (q:=bU jz) rfl yX fun _ _ _=>by kernel_rfl)) [] [0,3] [0,2] cM ff (by kernel_rfl) dc yY mh (gf dc) (aL dc)
def kD {ρ:Type} (a0:List Int) (k: (List Int)×Unit→Option ρ):Option ρ:=
 br (decide ((a0.length:Int) < 2)) (k (a0,())) ((mh (((),1,()),(()),(a0,()))).bind fun e15=>Sum.elim (fun e15_=>aq (e15_.1.2.1.1=0∧e15_.1.2.1.2≤e15_.2.2.1.length) (k ((e15_.2.2.1.take e15_.1.2.1.2),())) none) (fun e15_=>k (e15_.2.2.1,())) e15)
def gv (a0:List Int):Option ((List Int)×Unit):=kD a0 some
theorem CG {ρ:Type} (a0:List Int) (k: (List Int)×Unit→Option ρ):kD a0 k=(gv a0).bind k:=by
 simp only [gv,kD,ao,ap,Option.bind_none,bR,Option.bind_assoc,Option.bind_some]
abbrev wJ:bc:=abn (.i .i64) [] [.ls (.i .i64)] fun l _=>gv l
theorem Gc:ax Tryz.prog (LR 217) wJ:=
 W2 (Λ:=aF [(bU gJ,uO)]) (fn:=Tryz.f217) aG pz af (by kernel_rfl) (az (by kernel_rfl:_= [gJ]) (aK (q:=bU gJ) rfl yZ fun _ _ _=>by kernel_rfl)) (fun l _=>gv l)
  (fun l _=>Eq.trans (by kernel_rfl:_=kD l (fun y=>ret (ay [.ls (.i .i64)] y) fun v g=>some (v,g))) (CG l _)) fun _ _ _ h=>h
abbrev Uh:List (Nat×bc):= [(164,yU),(qx 216,Bu),(LR 217,wJ)]
theorem Na:au Tryz.prog (aE Uh):=ae FV <| ae M9 <| ae Gc <| al _
def sV {ρ:Type} (a0:List Int) (k: (List Int)×Unit→Option ρ):Option ρ:=
 (nz a0).bind fun y1=>(kC y1.1).bind fun y2=>aq (y2.1.length=y1.1.length) ((gv y2.1).bind fun y3=>k (y3.1,())) none
def pA (a0:List Int):Option ((List Int)×Unit):=sV a0 some
theorem O3 {ρ:Type} (a0:List Int) (k: (List Int)×Unit→Option ρ):sV a0 k=(pA a0).bind k:=by
 simp only [pA,sV,ap,Option.bind_none,Option.bind_assoc,Option.bind_some]
abbrev Jn:bc:=bh [.ty (.ls (.i .i64))] [.ls (.i .i64)] fun x=>pA x.1
theorem Ui:ax Tryz.prog 150 Jn:=
 an (Λ:=aF []) (fn:=Tryz.f150) aG Na af (by kernel_rfl) (az (by kernel_rfl:_= []) ah) (by kernel_rfl) (fun x=>pA x.1)
  (fun x=>Eq.trans (by kernel_rfl:_=sV x.1 (fun y=>ret (ay [.ls (.i .i64)] y) fun v g=>some (v,g))) (O3 x.1 _)) fun _ _ h=>h
abbrev CH:List (Nat×bc):= [(66,uj)]
theorem za:au Tryz.prog (aE CH):=ae wH <| al _
def iR {ρ:Type} (a0:Int) (a1:List Int) (k:Bool×Unit→Option ρ):Option ρ:=
 (iQ a1 a0).bind fun y1=>k (y1.1,())
def eh (a0:Int) (a1:List Int):Option (Bool×Unit):=iR a0 a1 some
theorem Ap {ρ:Type} (a0:Int) (a1:List Int) (k:Bool×Unit→Option ρ):iR a0 a1 k=(eh a0 a1).bind k:=by
 simp only [eh,iR,Option.bind_assoc,Option.bind_some]
abbrev qA:bc:=bh [.ty (.i .i64), .pr (.ls (.i .i64))] [.b] fun x=>eh x.1 x.2.1
theorem uP:ax Tryz.prog 151 qA:=
 an (Λ:=aF []) (fn:=Tryz.f151) aG za af (by kernel_rfl) (az (by kernel_rfl:_= []) ah) (by kernel_rfl) (fun x=>eh x.1 x.2.1)
  (fun x=>Eq.trans (by kernel_rfl:_=iR x.1 x.2.1 (fun y=>ret (ay [.b] y) fun v g=>some (v,g))) (Ap x.1 x.2.1 _)) fun _ _ h=>h
abbrev jS:List (Nat×bc):= [(151,qA)]
theorem iT:au Tryz.prog (aE jS):=ae uP <| al _
noncomputable abbrev cD:Code:=bV (bT Tryz.f143) 0
abbrev aM:en:=⟨[(0, .cl (.ro (.i .i64))),(1, .fn 151 [.pro (.ls (.i .i64))]),(7, .cl (.int .i64)),(8, .cl (.int .i64))],[],[],0,19⟩
abbrev bB:List (X×en):= [(.ret,⟨[(4, .cl (.int .i64))],[],[],0,19⟩),(.ext 0,⟨[(4, .cl (.dead))],[],[],0,19⟩)]
def bM {ρ:Type} (v1:List Int) (v2:List Int) (v3:Int) (v4:Int) (fn: (((List Int)×((List Int)×Unit)×Int×Int×Unit)×(Unit)×(Unit))→Option ρ) (fe: ((Int×Unit)×(Unit)×(Unit))⊕((Unit×Unit)×(Unit)×(Unit))→Option ρ):Option ρ:=
 br (decide (v4 < v3)) (aq (0≤v4) ((v1[v4.toNat]?).bind fun x5=>(eh x5 v2).bind fun y6=>br y6.1 (fe (.inl ((v4,()),(()),(())))) (fn ((v1,(v2,()),v3,(IntKind.wrap .i64 (v4+1)),()),(()),(())))) none) (fe (.inr (((),()),(()),(()))))
def aP (s:aM.D):Option (aM.D⊕bg.D bB):=bM s.1.1 s.1.2.1.1 s.1.2.2.1 s.1.2.2.2.1 (fun s=>some (.inl s)) (fun e=>some (.inr e))
def cE:aM.D→Option (bg.D bB):=ko aP
theorem oG {ρ:Type} (s:aM.D) (fn:aM.D→Option ρ) (fe:bg.D bB→Option ρ):bM s.1.1 s.1.2.1.1 s.1.2.2.1 s.1.2.2.2.1 fn fe=(aP s).bind (Sum.elim fn fe):=by
 simp only [aP,bM,ao,ap,Option.bind_none,Option.bind_assoc,Option.bind_some,Sum.elim_inl,Sum.elim_inr]
abbrev i5:cW:=df [] [0,1,7,8] aM bB cE
theorem om (s:aM.D):ez Θ (aE jS) (aF []) cD (aM.mk' s) (cU [0,1,7,8] [4] fun x S=>some (x,S))=(aP s).bind (Sum.elim (fun s'=>some (.nor,aM.mk' s')) fun e=>some (bg.e bB e)):=
 Eq.trans (by kernel_rfl:_=bM s.1.1 s.1.2.1.1 s.1.2.2.1 s.1.2.2.2.1 (fun s'=>some (.nor,aM.mk' s')) (fun e=>some (bg.e bB e))) (oG s _ _)
theorem oo:bP Tryz.prog cD i5:=aW aG iT af (by kernel_rfl) (dp (by kernel_rfl:_= []) ah) [] [0,1,7,8] [4] aM bB (by kernel_rfl) aP om cE (gf aP) (aL aP)
def cN {ρ:Type} (a0:List Int) (a1_0:List Int) (k:Int×Unit→Option ρ):Option ρ:=
 (cE ((a0,(a1_0,()),(a0.length:Int),0,()),(()),(()))).bind fun e7=>Sum.elim (fun e7_=>k (e7_.1.1,())) (fun _=>k ((-1),())) e7
def b8 (a0:List Int) (a1_0:List Int):Option (Int×Unit):=cN a0 a1_0 some
theorem qc {ρ:Type} (a0:List Int) (a1_0:List Int) (k:Int×Unit→Option ρ):cN a0 a1_0 k=(b8 a0 a1_0).bind k:=by
 simp only [b8,cN,bR,Option.bind_assoc,Option.bind_some]
abbrev jT:bc:=bh [.ty (.ls (.i .i64)), .fn 151 [.ls (.i .i64)]] [.i .i64] fun x=>b8 x.1 x.2.1.1
theorem rc:ax Tryz.prog 143 jT:=
 an (Λ:=aF [(bU cD,i5)]) (fn:=Tryz.f143) aG iT af (by kernel_rfl) (az (by kernel_rfl:_= [cD]) (aK (q:=bU cD) rfl oo fun _ _ _=>by kernel_rfl)) (by kernel_rfl) (fun x=>b8 x.1 x.2.1.1)
  (fun x=>Eq.trans (by kernel_rfl:_=cN x.1 x.2.1.1 (fun y=>ret (ay [.i .i64] y) fun v g=>some (v,g))) (qc x.1 x.2.1.1 _)) fun _ _ h=>h
abbrev iw:List (Nat×bc):= [(143,jT),(151,qA)]
theorem gx:au Tryz.prog (aE iw):=ae rc <| ae uP <| al _
noncomputable abbrev b0:Code:=bV (bT Tryz.f74) 0
abbrev aD:en:=⟨[(0, .cl (.own 0 (.i .i64))),(1, .fn 151 [.pro (.ls (.i .i64))]),(5, .cl (.int .i64)),(6, .cl (.int .i64))],[],[.i .i64],0,42⟩
abbrev bm:List (X×en):= [(.ext 0,⟨[(0, .cl (.own 0 (.i .i64))),(5, .cl (.int .i64))],[],[.i .i64],0,42⟩)]
def bC {ρ:Type} (v2:List Int) (v3:List Int) (v4:Int) (v5:Int) (fn: ((Unit×((List Int)×Unit)×Int×Int×Unit)×(Unit)×((List Int)×Unit))→Option ρ) (fe: ((Unit×Int×Unit)×(Unit)×((List Int)×Unit))→Option ρ):Option ρ:=
 br (decide (v5 < (v2.length:Int))) (aq (0≤v5∧v5 < (v2.length:Int)) ((v2[v5.toNat]?).bind fun x6=>(eh x6 v3).bind fun y7=>br (!y7.1) (aq (0≤v4∧v4 < (v2.length:Int)) ((v2[v4.toNat]?).bind fun _=>fn (((),(v3,()),(IntKind.wrap .i64 (v4+1)),(IntKind.wrap .i64 (v5+1)),()),(()),((v2.set v4.toNat x6),()))) none) (fn (((),(v3,()),v4,(IntKind.wrap .i64 (v5+1)),()),(()),(v2,())))) none) (fe (((),v4,()),(()),(v2,())))
def aJ (s:aD.D):Option (aD.D⊕bg.D bm):=bC s.2.2.1 s.1.2.1.1 s.1.2.2.1 s.1.2.2.2.1 (fun s=>some (.inl s)) (fun e=>some (.inr e))
def cT:aD.D→Option (bg.D bm):=ko aJ
theorem nn {ρ:Type} (s:aD.D) (fn:aD.D→Option ρ) (fe:bg.D bm→Option ρ):bC s.2.2.1 s.1.2.1.1 s.1.2.2.1 s.1.2.2.2.1 fn fe=(aJ s).bind (Sum.elim fn fe):=by
 simp only [aJ,bC,ao,ap,Option.bind_none,Option.bind_assoc,Option.bind_some,Sum.elim_inl,Sum.elim_inr]
abbrev gT:cW:=df [] [0,1,5,6] aD bm cT
theorem mU (s:aD.D):ez Θ (aE iw) (aF []) b0 (aD.mk' s) (cU [0,1,5,6] [0,5] fun x S=>some (x,S))=(aJ s).bind (Sum.elim (fun s'=>some (.nor,aD.mk' s')) fun e=>some (bg.e bm e)):=
 Eq.trans (by kernel_rfl:_=bC s.2.2.1 s.1.2.1.1 s.1.2.2.1 s.1.2.2.2.1 (fun s'=>some (.nor,aD.mk' s')) (fun e=>some (bg.e bm e))) (nn s _ _)
theorem mW:bP Tryz.prog b0 gT:=aW aG gx af (by kernel_rfl) (dp (by kernel_rfl:_= []) ah) [] [0,1,5,6] [0,5] aD bm (by kernel_rfl) aJ mU cT (gf aJ) (aL aJ)
def cd {ρ:Type} (a0:List Int) (a1_0:List Int) (k: (List Int)×Unit→Option ρ):Option ρ:=
 (b8 a0 a1_0).bind fun y1=>br (y1.1==(-1)) (k (a0,())) ((cT (((),(a1_0,()),y1.1,(IntKind.wrap .i64 (y1.1+1)),()),(()),(a0,()))).bind fun e10=>aq (0≤e10.1.2.1∧e10.1.2.1≤(e10.2.2.1.length:Int)∧(e10.2.2.1.length:Int)≤((e10.2.2.1.length:Nat):Int)) (aq ((0+e10.1.2.1.toNat)+((e10.2.2.1.length:Int).toNat - e10.1.2.1.toNat)≤e10.2.2.1.length) (aq (0≤(0:Int)∧(0:Int)≤e10.1.2.1∧e10.1.2.1≤((e10.2.2.1.length:Nat):Int)) (aq ((0+(0:Int).toNat)=0∧(e10.1.2.1.toNat - (0:Int).toNat)≤(e10.2.2.1.take (0+e10.1.2.1.toNat)++List.replicate ((e10.2.2.1.length:Int).toNat - e10.1.2.1.toNat) (0:Int)++e10.2.2.1.drop ((0+e10.1.2.1.toNat)+((e10.2.2.1.length:Int).toNat - e10.1.2.1.toNat))).length) (k (((e10.2.2.1.take (0+e10.1.2.1.toNat)++List.replicate ((e10.2.2.1.length:Int).toNat - e10.1.2.1.toNat) (0:Int)++e10.2.2.1.drop ((0+e10.1.2.1.toNat)+((e10.2.2.1.length:Int).toNat - e10.1.2.1.toNat))).take (e10.1.2.1.toNat - (0:Int).toNat)),())) none) none) none) none)
def bo (a0:List Int) (a1_0:List Int):Option ((List Int)×Unit):=cd a0 a1_0 some
theorem nR {ρ:Type} (a0:List Int) (a1_0:List Int) (k: (List Int)×Unit→Option ρ):cd a0 a1_0 k=(bo a0 a1_0).bind k:=by
 simp only [bo,cd,ao,ap,Option.bind_none,Option.bind_assoc,Option.bind_some]
abbrev iy:bc:=abn (.i .i64) [.fn 151 [.ls (.i .i64)]] [.ls (.i .i64)] fun l x=>bo l x.1.1
theorem oH:ax Tryz.prog (LR 74) iy:=
 W2 (Λ:=aF [(bU b0,gT)]) (fn:=Tryz.f74) aG gx af (by kernel_rfl) (az (by kernel_rfl:_= [b0]) (aK (q:=bU b0) rfl mW fun _ _ _=>by kernel_rfl)) (fun l x=>bo l x.1.1)
  (fun l x=>Eq.trans (by kernel_rfl:_=cd l x.1.1 (fun y=>ret (ay [.ls (.i .i64)] y) fun v g=>some (v,g))) (nR l x.1.1 _)) fun _ _ _ h=>h
abbrev H6:List (Nat×bc):= [(150,Jn),(LR 74,iy)]
theorem CI:au Tryz.prog (aE H6):=ae Ui <| ae oH <| al _
def ly {ρ:Type} (a0:List Int) (a1:List Int) (k: (List Int)×Unit→Option ρ):Option ρ:=
 (pA a0).bind fun y1=>(bo y1.1 a1).bind fun y2=>k (y2.1,())
def fZ (a0:List Int) (a1:List Int):Option ((List Int)×Unit):=ly a0 a1 some
theorem Ek {ρ:Type} (a0:List Int) (a1:List Int) (k: (List Int)×Unit→Option ρ):ly a0 a1 k=(fZ a0 a1).bind k:=by
 simp only [fZ,ly,Option.bind_assoc,Option.bind_some]
abbrev yb:bc:=bh [.ty (.ls (.i .i64)), .ty (.ls (.i .i64))] [.ls (.i .i64)] fun x=>fZ x.1 x.2.1
theorem H7:ax Tryz.prog 73 yb:=
 an (Λ:=aF []) (fn:=Tryz.f73) aG CI af (by kernel_rfl) (az (by kernel_rfl:_= []) ah) (by kernel_rfl) (fun x=>fZ x.1 x.2.1)
  (fun x=>Eq.trans (by kernel_rfl:_=ly x.1 x.2.1 (fun y=>ret (ay [.ls (.i .i64)] y) fun v g=>some (v,g))) (Ek x.1 x.2.1 _)) fun _ _ h=>h
abbrev Kn:List (Nat×bc):= [(73,yb)]
theorem El:au Tryz.prog (aE Kn):=ae H7 <| al _
def mX {ρ:Type} (a0:List Int) (a1:List Int) (k: (List Int)×Unit→Option ρ):Option ρ:=
 (fZ a0 a1).bind fun y1=>(fZ a0 y1.1).bind fun y2=>k (y2.1,())
def jj (a0:List Int) (a1:List Int):Option ((List Int)×Unit):=mX a0 a1 some
theorem Gd {ρ:Type} (a0:List Int) (a1:List Int) (k: (List Int)×Unit→Option ρ):mX a0 a1 k=(jj a0 a1).bind k:=by
 simp only [jj,mX,Option.bind_assoc,Option.bind_some]
abbrev zP:bc:=bh [.ty (.ls (.i .i64)), .ty (.ls (.i .i64))] [.ls (.i .i64)] fun x=>jj x.1 x.2.1
theorem Ko:ax Tryz.prog 228 zP:=
 an (Λ:=aF []) (fn:=Tryz.f228) aG El af (by kernel_rfl) (az (by kernel_rfl:_= []) ah) (by kernel_rfl) (fun x=>jj x.1 x.2.1)
  (fun x=>Eq.trans (by kernel_rfl:_=mX x.1 x.2.1 (fun y=>ret (ay [.ls (.i .i64)] y) fun v g=>some (v,g))) (Gd x.1 x.2.1 _)) fun _ _ h=>h
abbrev Kp:List (Nat×bc):= [(135,jy),(227,F4),(66,uj),(228,zP)]
theorem Em:au Tryz.prog (aE Kp):=ae kz <| ae RH <| ae wH <| ae Ko <| al _
def mY {ρ:Type} (a0:ai) (k:Bool×Unit→Option ρ):Option ρ:=
 (ct a0.epoch 1 20).bind fun y1=>br y1.1 ((jI a0.replicas).bind fun y2=>br y2.1 ((jI a0.witnesses).bind fun y3=>br y3.1 ((iQ a0.replicas a0.primary).bind fun y4=>br y4.1 ((jj a0.replicas a0.witnesses).bind fun y5=>k (((y5.1.length:Int)==0),())) (k (false,()))) (k (false,()))) (k (false,()))) (k (false,()))
def fL (a0:ai):Option (Bool×Unit):=mY a0 some
theorem Ge {ρ:Type} (a0:ai) (k:Bool×Unit→Option ρ):mY a0 k=(fL a0).bind k:=by
 simp only [fL,mY,ao,Option.bind_assoc,Option.bind_some]
abbrev rv:bc:=bh [.ty (.st .config)] [.b] fun x=>fL x.1
theorem uB:ax Tryz.prog 176 rv:=
 an (Λ:=aF []) (fn:=Tryz.f176) aG Em af (by kernel_rfl) (az (by kernel_rfl:_= []) ah) (by kernel_rfl) (fun x=>fL x.1)
  (fun x=>Eq.trans (by kernel_rfl:_=mY x.1 (fun y=>ret (ay [.b] y) fun v g=>some (v,g))) (Ge x.1 _)) fun _ _ h=>h
abbrev Di:List (Nat×bc):= [(176,rv),(135,jy)]
theorem yc:au Tryz.prog (aE Di):=ae uB <| ae kz <| al _
noncomputable abbrev nS:Code:=bV (bT Tryz.f137) 0
abbrev dY:en:=⟨[(1, .cl (.ptr 0 0)),(6, .cl (.ro (.st .config))),(7, .cl (.int .i64)),(8, .cl (.int .i64))],[[.ro (.st .config), .int .i64]],[],0,30⟩
abbrev jk:List (X×en):= [(.ret,⟨[(1, .cl (.ptr 0 0)),(2, .cl (.bl))],[[.ro (.st .config), .int .i64]],[],0,30⟩),(.ext 0,⟨[(1, .cl (.ptr 0 0)),(2, .cl (.dead))],[[.ro (.st .config), .int .i64]],[],0,30⟩)]
def ka {ρ:Type} (v1:List ai) (v2:Int) (v3:Int) (v4:List ai) (v5:Int) (fn: ((Unit×(List ai)×Int×Int×Unit)×(((List ai)×Int×Unit)×Unit)×(Unit))→Option ρ) (fe: ((Unit×Bool×Unit)×(((List ai)×Int×Unit)×Unit)×(Unit))⊕((Unit×Unit×Unit)×(((List ai)×Int×Unit)×Unit)×(Unit))→Option ρ):Option ρ:=
 br (decide (v3 < v2)) (aq (0≤v3) ((v1[v3.toNat]?).bind fun x6=>(fL x6).bind fun y7=>br (!y7.1) (fe (.inl (((),false,()),((v4,v5,()),()),(())))) (br (!(x6.epoch==(IntKind.wrap .i64 (v3+1)))) (fe (.inl (((),false,()),((v4,v5,()),()),(())))) (fn (((),v1,v2,(IntKind.wrap .i64 (v3+1)),()),((v4,v5,()),()),(()))))) none) (fe (.inr (((),(),()),((v4,v5,()),()),(()))))
def eP (s:dY.D):Option (dY.D⊕bg.D jk):=ka s.1.2.1 s.1.2.2.1 s.1.2.2.2.1 s.2.1.1.1 s.2.1.1.2.1 (fun s=>some (.inl s)) (fun e=>some (.inr e))
def nT:dY.D→Option (bg.D jk):=ko eP
theorem Gf {ρ:Type} (s:dY.D) (fn:dY.D→Option ρ) (fe:bg.D jk→Option ρ):ka s.1.2.1 s.1.2.2.1 s.1.2.2.2.1 s.2.1.1.1 s.2.1.1.2.1 fn fe=(eP s).bind (Sum.elim fn fe):=by
 simp only [eP,ka,ao,ap,Option.bind_none,Option.bind_assoc,Option.bind_some,Sum.elim_inl,Sum.elim_inr]
abbrev zQ:cW:=df [] [1,6,7,8] dY jk nT
theorem Eo (s:dY.D):ez Θ (aE Di) (aF []) nS (dY.mk' s) (cU [1,6,7,8] [1,2] fun x S=>some (x,S))=(eP s).bind (Sum.elim (fun s'=>some (.nor,dY.mk' s')) fun e=>some (bg.e jk e)):=
 Eq.trans (by kernel_rfl:_=ka s.1.2.1 s.1.2.2.1 s.1.2.2.2.1 s.2.1.1.1 s.2.1.1.2.1 (fun s'=>some (.nor,dY.mk' s')) (fun e=>some (bg.e jk e))) (Gf s _ _)
theorem Ep:bP Tryz.prog nS zQ:=aW aG yc af (by kernel_rfl) (dp (by kernel_rfl:_= []) ah) [] [1,6,7,8] [1,2] dY jk (by kernel_rfl) eP Eo nT (gf eP) (aL eP)
def pB {ρ:Type} (a0:ak) (k:Bool×Unit→Option ρ):Option ρ:=
 (nT (((),a0.configs,(a0.configs.length:Int),0,()),((a0.configs,a0.activated,()),()),(()))).bind fun e8=>Sum.elim (fun e8_=>k (e8_.1.2.1,())) (fun e8_=>(ct e8_.2.1.1.2.1 0 (e8_.2.1.1.1.length:Int)).bind fun y9=>k (y9.1,())) e8
def gl (a0:ak):Option (Bool×Unit):=pB a0 some
theorem Kq {ρ:Type} (a0:ak) (k:Bool×Unit→Option ρ):pB a0 k=(gl a0).bind k:=by
 simp only [gl,pB,bR,Option.bind_assoc,Option.bind_some]
abbrev rd:bc:=bh [.ty (.st .masterLog)] [.b] fun x=>gl x.1
theorem tV:ax Tryz.prog 137 rd:=
 an (Λ:=aF [(bU nS,zQ)]) (fn:=Tryz.f137) aG yc af (by kernel_rfl) (az (by kernel_rfl:_= [nS]) (aK (q:=bU nS) rfl Ep fun _ _ _=>by kernel_rfl)) (by kernel_rfl) (fun x=>gl x.1)
  (fun x=>Eq.trans (by kernel_rfl:_=pB x.1 (fun y=>ret (ay [.b] y) fun v g=>some (v,g))) (Kq x.1 _)) fun _ _ h=>h
abbrev X4:List (Nat×bc):= [(135,jy)]
theorem RM:au Tryz.prog (aE X4):=ae kz <| al _
def tM {ρ:Type} (a0:eg) (k:Bool×Unit→Option ρ):Option ρ:=
 br ((a0.epoch==0)&&((a0.holder==0)&&((a0.ends==0)&&true))) (k (true,())) ((ct a0.epoch 1 20).bind fun y1=>br y1.1 ((ct a0.holder 0 4).bind fun y2=>br y2.1 ((ct a0.ends 1 1049).bind fun y3=>k (y3.1,())) (k (false,()))) (k (false,())))
def oe (a0:eg):Option (Bool×Unit):=tM a0 some
theorem Uj {ρ:Type} (a0:eg) (k:Bool×Unit→Option ρ):tM a0 k=(oe a0).bind k:=by
 simp only [oe,tM,ao,Option.bind_assoc,Option.bind_some]
abbrev Cu:bc:=bh [.ty (.st .lease)] [.b] fun x=>oe x.1
theorem H8:ax Tryz.prog 138 Cu:=
 an (Λ:=aF []) (fn:=Tryz.f138) aG RM af (by kernel_rfl) (az (by kernel_rfl:_= []) ah) (by kernel_rfl) (fun x=>oe x.1)
  (fun x=>Eq.trans (by kernel_rfl:_=tM x.1 (fun y=>ret (ay [.b] y) fun v g=>some (v,g))) (Uj x.1 _)) fun _ _ h=>h
abbrev Nb:List (Nat×bc):= [(135,jy)]
theorem Gg:au Tryz.prog (aE Nb):=ae kz <| al _
def nU {ρ:Type} (a0:aU) (k:Bool×Unit→Option ρ):Option ρ:=
 (ct a0.rack 0 9).bind fun y1=>br (!y1.1) (k (true,())) ((ct a0.capacity 0 9).bind fun y2=>br (!y2.1) (k (true,())) ((ct a0.load 0 99).bind fun y3=>k ((!y3.1),())))
def mZ (a0:aU):Option (Bool×Unit):=nU a0 some
theorem H9 {ρ:Type} (a0:aU) (k:Bool×Unit→Option ρ):nU a0 k=(mZ a0).bind k:=by
 simp only [mZ,nU,ao,Option.bind_assoc,Option.bind_some]
abbrev Bv:bc:=bh [.ty (.st .place)] [.b] fun x=>mZ x.1
theorem Nc:ax Tryz.prog 212 Bv:=
 an (Λ:=aF []) (fn:=Tryz.f212) aG Gg af (by kernel_rfl) (az (by kernel_rfl:_= []) ah) (by kernel_rfl) (fun x=>mZ x.1)
  (fun x=>Eq.trans (by kernel_rfl:_=nU x.1 (fun y=>ret (ay [.b] y) fun v g=>some (v,g))) (H9 x.1 _)) fun _ _ h=>h
abbrev lz:List (Nat×bc):= [(212,Bv)]
theorem jU:au Tryz.prog (aE lz):=ae Nc <| al _
noncomputable abbrev cZ:Code:=bV (bT Tryz.f266) 0
abbrev aR:en:=⟨[(0, .cl (.ro (.st .place))),(1, .cl (.fc 212)),(7, .cl (.int .i64)),(8, .cl (.int .i64))],[],[],0,19⟩
abbrev bL:List (X×en):= [(.ret,⟨[(4, .cl (.int .i64))],[],[],0,19⟩),(.ext 0,⟨[(4, .cl (.dead))],[],[],0,19⟩)]
def b9 {ρ:Type} (v1:List aU) (v2:Int) (v3:Int) (fn: (((List aU)×Unit×Int×Int×Unit)×(Unit)×(Unit))→Option ρ) (fe: ((Int×Unit)×(Unit)×(Unit))⊕((Unit×Unit)×(Unit)×(Unit))→Option ρ):Option ρ:=
 br (decide (v3 < v2)) (aq (0≤v3) ((v1[v3.toNat]?).bind fun x4=>(mZ x4).bind fun y5=>br y5.1 (fe (.inl ((v3,()),(()),(())))) (fn ((v1,(),v2,(IntKind.wrap .i64 (v3+1)),()),(()),(())))) none) (fe (.inr (((),()),(()),(()))))
def aZ (s:aR.D):Option (aR.D⊕bg.D bL):=b9 s.1.1 s.1.2.2.1 s.1.2.2.2.1 (fun s=>some (.inl s)) (fun e=>some (.inr e))
def c7:aR.D→Option (bg.D bL):=ko aZ
theorem qB {ρ:Type} (s:aR.D) (fn:aR.D→Option ρ) (fe:bg.D bL→Option ρ):b9 s.1.1 s.1.2.2.1 s.1.2.2.2.1 fn fe=(aZ s).bind (Sum.elim fn fe):=by
 simp only [aZ,b9,ao,ap,Option.bind_none,Option.bind_assoc,Option.bind_some,Sum.elim_inl,Sum.elim_inr]
abbrev kE:cW:=df [] [0,1,7,8] aR bL c7
theorem qd (s:aR.D):ez Θ (aE lz) (aF []) cZ (aR.mk' s) (cU [0,1,7,8] [4] fun x S=>some (x,S))=(aZ s).bind (Sum.elim (fun s'=>some (.nor,aR.mk' s')) fun e=>some (bg.e bL e)):=
 Eq.trans (by kernel_rfl:_=b9 s.1.1 s.1.2.2.1 s.1.2.2.2.1 (fun s'=>some (.nor,aR.mk' s')) (fun e=>some (bg.e bL e))) (qB s _ _)
theorem qe:bP Tryz.prog cZ kE:=aW aG jU af (by kernel_rfl) (dp (by kernel_rfl:_= []) ah) [] [0,1,7,8] [4] aR bL (by kernel_rfl) aZ qd c7 (gf aZ) (aL aZ)
def dj {ρ:Type} (a0:List aU) (k:Int×Unit→Option ρ):Option ρ:=
 (c7 ((a0,(),(a0.length:Int),0,()),(()),(()))).bind fun e6=>Sum.elim (fun e6_=>k (e6_.1.1,())) (fun _=>k ((-1),())) e6
def cF (a0:List aU):Option (Int×Unit):=dj a0 some
theorem rJ {ρ:Type} (a0:List aU) (k:Int×Unit→Option ρ):dj a0 k=(cF a0).bind k:=by
 simp only [cF,dj,bR,Option.bind_assoc,Option.bind_some]
abbrev lA:bc:=bh [.ty (.ls (.st .place)), .fc 212] [.i .i64] fun x=>cF x.1
theorem sW:ax Tryz.prog 266 lA:=
 an (Λ:=aF [(bU cZ,kE)]) (fn:=Tryz.f266) aG jU af (by kernel_rfl) (az (by kernel_rfl:_= [cZ]) (aK (q:=bU cZ) rfl qe fun _ _ _=>by kernel_rfl)) (by kernel_rfl) (fun x=>cF x.1)
  (fun x=>Eq.trans (by kernel_rfl:_=dj x.1 (fun y=>ret (ay [.i .i64] y) fun v g=>some (v,g))) (rJ x.1 _)) fun _ _ h=>h
abbrev rf:List (Nat×bc):= [(266,lA)]
theorem pC:au Tryz.prog (aE rf):=ae sW <| al _
def cO {ρ:Type} (a0:List aU) (k:Bool×Unit→Option ρ):Option ρ:=
 (cF a0).bind fun y1=>k ((decide (y1.1≥0)),())
def ca (a0:List aU):Option (Bool×Unit):=cO a0 some
theorem qf {ρ:Type} (a0:List aU) (k:Bool×Unit→Option ρ):cO a0 k=(ca a0).bind k:=by
 simp only [ca,cO,Option.bind_assoc,Option.bind_some]
abbrev jV:bc:=bh [.ty (.ls (.st .place)), .fc 212] [.b] fun x=>ca x.1
theorem rg:ax Tryz.prog 211 jV:=
 an (Λ:=aF []) (fn:=Tryz.f211) aG pC af (by kernel_rfl) (az (by kernel_rfl:_= []) ah) (by kernel_rfl) (fun x=>ca x.1)
  (fun x=>Eq.trans (by kernel_rfl:_=cO x.1 (fun y=>ret (ay [.b] y) fun v g=>some (v,g))) (qf x.1 _)) fun _ _ h=>h
abbrev Uk:List (Nat×bc):= [(211,jV)]
theorem Nd:au Tryz.prog (aE Uk):=ae rg <| al _
def sX {ρ:Type} (a0:List aU) (k:Bool×Unit→Option ρ):Option ρ:=
 br ((a0.length:Int)==5) ((ca a0).bind fun y1=>k ((!y1.1),())) (k (false,()))
def pD (a0:List aU):Option (Bool×Unit):=sX a0 some
theorem O4 {ρ:Type} (a0:List aU) (k:Bool×Unit→Option ρ):sX a0 k=(pD a0).bind k:=by
 simp only [pD,sX,ao,Option.bind_assoc,Option.bind_some]
abbrev Jo:bc:=bh [.ty (.ls (.st .place))] [.b] fun x=>pD x.1
theorem Ul:ax Tryz.prog 139 Jo:=
 an (Λ:=aF []) (fn:=Tryz.f139) aG Nd af (by kernel_rfl) (az (by kernel_rfl:_= []) ah) (by kernel_rfl) (fun x=>pD x.1)
  (fun x=>Eq.trans (by kernel_rfl:_=sX x.1 (fun y=>ret (ay [.b] y) fun v g=>some (v,g))) (O4 x.1 _)) fun _ _ h=>h
abbrev Um:List (Nat×bc):= [(135,jy)]
theorem Nf:au Tryz.prog (aE Um):=ae kz <| al _
def sY {ρ:Type} (a0:Op) (k:Bool×Unit→Option ρ):Option ρ:=
 (ct a0.client 0 2).bind fun y1=>br (!y1.1) (k (false,())) ((ct a0.seq 1 99).bind fun y2=>br (!y2.1) (k (false,())) ((ct a0.object 0 2).bind fun y3=>br (!y3.1) (k (false,())) ((ct a0.value 0 9).bind fun y4=>br (!y4.1) (k (false,())) (br (a0.kind==1) (br (a0.old==0) (k (true,())) (br (a0.kind==2) ((ct a0.old 0 9).bind fun y5=>k (y5.1,())) (k (false,())))) (br (a0.kind==2) ((ct a0.old 0 9).bind fun y6=>k (y6.1,())) (k (false,())))))))
def nu (a0:Op):Option (Bool×Unit):=sY a0 some
theorem O5 {ρ:Type} (a0:Op) (k:Bool×Unit→Option ρ):sY a0 k=(nu a0).bind k:=by
 simp only [nu,sY,ao,Option.bind_assoc,Option.bind_some]
abbrev Jp:bc:=bh [.ty (.st .op)] [.b] fun x=>nu x.1
theorem Un:ax Tryz.prog 229 Jp:=
 an (Λ:=aF []) (fn:=Tryz.f229) aG Nf af (by kernel_rfl) (az (by kernel_rfl:_= []) ah) (by kernel_rfl) (fun x=>nu x.1)
  (fun x=>Eq.trans (by kernel_rfl:_=sY x.1 (fun y=>ret (ay [.b] y) fun v g=>some (v,g))) (O5 x.1 _)) fun _ _ h=>h
abbrev Xb:List (Nat×bc):= [(135,jy),(229,Jp)]
theorem Ng:au Tryz.prog (aE Xb):=ae kz <| ae Un <| al _
noncomputable abbrev yd:Code:=bV (bT Tryz.f179) 0
abbrev m0:en:=⟨[(0, .cl (.ro (.st .entry))),(5, .cl (.ro (.st .entry))),(6, .cl (.int .i64)),(7, .cl (.int .i64))],[],[],0,41⟩
abbrev tN:List (X×en):= [(.ret,⟨[(0, .cl (.ro (.st .entry))),(2, .cl (.bl))],[],[],0,41⟩),(.ext 0,⟨[(0, .cl (.ro (.st .entry))),(2, .cl (.dead))],[],[],0,41⟩)]
def tO {ρ:Type} (v1:List ar) (v2:List ar) (v3:Int) (v4:Int) (fn: (((List ar)×(List ar)×Int×Int×Unit)×(Unit)×(Unit))→Option ρ) (fe: (((List ar)×Bool×Unit)×(Unit)×(Unit))⊕(((List ar)×Unit×Unit)×(Unit)×(Unit))→Option ρ):Option ρ:=
 br (decide (v4 < v3)) (aq (0≤v4) ((v2[v4.toNat]?).bind fun x5=>(ct x5.epoch 1 20).bind fun y6=>br (!y6.1) (fe (.inl ((v1,false,()),(()),(())))) (br (decide (v4 > 0)) (aq (0≤(IntKind.wrap .i64 (v4 - 1))) ((v1[(IntKind.wrap .i64 (v4 - 1)).toNat]?).bind fun x7=>br (decide (x5.epoch < x7.epoch)) (fe (.inl ((v1,false,()),(()),(())))) ((nu x5.op).bind fun y8=>br (!y8.1) (fe (.inl ((v1,false,()),(()),(())))) (fn ((v1,v2,v3,(IntKind.wrap .i64 (v4+1)),()),(()),(()))))) none) ((nu x5.op).bind fun y9=>br (!y9.1) (fe (.inl ((v1,false,()),(()),(())))) (fn ((v1,v2,v3,(IntKind.wrap .i64 (v4+1)),()),(()),(())))))) none) (fe (.inr ((v1,(),()),(()),(()))))
def of (s:m0.D):Option (m0.D⊕bg.D tN):=tO s.1.1 s.1.2.1 s.1.2.2.1 s.1.2.2.2.1 (fun s=>some (.inl s)) (fun e=>some (.inr e))
def ye:m0.D→Option (bg.D tN):=ko of
theorem Uo {ρ:Type} (s:m0.D) (fn:m0.D→Option ρ) (fe:bg.D tN→Option ρ):tO s.1.1 s.1.2.1 s.1.2.2.1 s.1.2.2.2.1 fn fe=(of s).bind (Sum.elim fn fe):=by
 simp only [of,tO,ao,ap,Option.bind_none,Option.bind_assoc,Option.bind_some,Sum.elim_inl,Sum.elim_inr]
abbrev Qe:cW:=df [] [0,5,6,7] m0 tN ye
theorem RN (s:m0.D):ez Θ (aE Xb) (aF []) yd (m0.mk' s) (cU [0,5,6,7] [0,2] fun x S=>some (x,S))=(of s).bind (Sum.elim (fun s'=>some (.nor,m0.mk' s')) fun e=>some (bg.e tN e)):=
 Eq.trans (by kernel_rfl:_=tO s.1.1 s.1.2.1 s.1.2.2.1 s.1.2.2.2.1 (fun s'=>some (.nor,m0.mk' s')) (fun e=>some (bg.e tN e))) (Uo s _ _)
theorem RP:bP Tryz.prog yd Qe:=aW aG Ng af (by kernel_rfl) (dp (by kernel_rfl:_= []) ah) [] [0,5,6,7] [0,2] m0 tN (by kernel_rfl) of RN ye (gf of) (aL of)
def Bw {ρ:Type} (a0:List ar) (k:Bool×Unit→Option ρ):Option ρ:=
 (ye ((a0,a0,(a0.length:Int),0,()),(()),(()))).bind fun e10=>Sum.elim (fun e10_=>k (e10_.1.2.1,())) (fun e10_=>k ((decide ((e10_.1.1.length:Int)≤16)),())) e10
def qg (a0:List ar):Option (Bool×Unit):=Bw a0 some
theorem X5 {ρ:Type} (a0:List ar) (k:Bool×Unit→Option ρ):Bw a0 k=(qg a0).bind k:=by
 simp only [qg,Bw,bR,Option.bind_assoc,Option.bind_some]
abbrev Gh:bc:=bh [.ty (.ls (.st .entry))] [.b] fun x=>qg x.1
theorem Ld:ax Tryz.prog 179 Gh:=
 an (Λ:=aF [(bU yd,Qe)]) (fn:=Tryz.f179) aG Ng af (by kernel_rfl) (az (by kernel_rfl:_= [yd]) (aK (q:=bU yd) rfl RP fun _ _ _=>by kernel_rfl)) (by kernel_rfl) (fun x=>qg x.1)
  (fun x=>Eq.trans (by kernel_rfl:_=Bw x.1 (fun y=>ret (ay [.b] y) fun v g=>some (v,g))) (X5 x.1 _)) fun _ _ h=>h
abbrev Gi:List (Nat×bc):= []
theorem zR:au Tryz.prog (aE Gi):=al _
noncomputable abbrev pE:Code:=bV (bT Tryz.f219) 0
abbrev eL:en:=⟨[(0, .cl (.ro (.i .i64))),(1, .cl (.ro (.i .i64))),(12, .cl (.int .i64)),(13, .cl (.int .i64))],[],[],0,26⟩
abbrev kF:List (X×en):= [(.ret,⟨[(4, .cl (.bl))],[],[],0,26⟩),(.ext 0,⟨[(4, .cl (.dead))],[],[],0,26⟩)]
def la {ρ:Type} (v1:List Int) (v2:List Int) (v3:Int) (v4:Int) (fn: (((List Int)×(List Int)×Int×Int×Unit)×(Unit)×(Unit))→Option ρ) (fe: ((Bool×Unit)×(Unit)×(Unit))⊕((Unit×Unit)×(Unit)×(Unit))→Option ρ):Option ρ:=
 br (decide (v4 < v3)) (aq (0≤v4) ((v1[v4.toNat]?).bind fun x5=>aq (0≤v4) ((v2[v4.toNat]?).bind fun x6=>br (!(x5==x6)) (fe (.inl ((false,()),(()),(())))) (fn ((v1,v2,v3,(IntKind.wrap .i64 (v4+1)),()),(()),(())))) none) none) (fe (.inr (((),()),(()),(()))))
def fD (s:eL.D):Option (eL.D⊕bg.D kF):=la s.1.1 s.1.2.1 s.1.2.2.1 s.1.2.2.2.1 (fun s=>some (.inl s)) (fun e=>some (.inr e))
def pF:eL.D→Option (bg.D kF):=ko fD
theorem Ia {ρ:Type} (s:eL.D) (fn:eL.D→Option ρ) (fe:bg.D kF→Option ρ):la s.1.1 s.1.2.1 s.1.2.2.1 s.1.2.2.2.1 fn fe=(fD s).bind (Sum.elim fn fe):=by
 simp only [fD,la,ao,ap,Option.bind_none,Option.bind_assoc,Option.bind_some,Sum.elim_inl,Sum.elim_inr]
abbrev Bx:cW:=df [] [0,1,12,13] eL kF pF
theorem Gj (s:eL.D):ez Θ (aE Gi) (aF []) pE (eL.mk' s) (cU [0,1,12,13] [4] fun x S=>some (x,S))=(fD s).bind (Sum.elim (fun s'=>some (.nor,eL.mk' s')) fun e=>some (bg.e kF e)):=
 Eq.trans (by kernel_rfl:_=la s.1.1 s.1.2.1 s.1.2.2.1 s.1.2.2.2.1 (fun s'=>some (.nor,eL.mk' s')) (fun e=>some (bg.e kF e))) (Ia s _ _)
theorem Gk:bP Tryz.prog pE Bx:=aW aG zR af (by kernel_rfl) (dp (by kernel_rfl:_= []) ah) [] [0,1,12,13] [4] eL kF (by kernel_rfl) fD Gj pF (gf fD) (aL fD)
def rh {ρ:Type} (a0:List Int) (a1:List Int) (k:Bool×Unit→Option ρ):Option ρ:=
 br (!((a0.length:Int)==(a1.length:Int))) (k (false,())) ((pF ((a0,a1,(a0.length:Int),0,()),(()),(()))).bind fun e7=>Sum.elim (fun e7_=>k (e7_.1.1,())) (fun _=>k (true,())) e7)
def qh (a0:List Int) (a1:List Int):Option (Bool×Unit):=rh a0 a1 some
theorem Nh {ρ:Type} (a0:List Int) (a1:List Int) (k:Bool×Unit→Option ρ):rh a0 a1 k=(qh a0 a1).bind k:=by
 simp only [qh,rh,ao,bR,Option.bind_assoc,Option.bind_some]
abbrev Gl:bc:=bh [.ty (.ls (.i .i64)), .ty (.ls (.i .i64))] [.b] fun x=>qh x.1 x.2.1
theorem RQ:ax Tryz.prog 219 Gl:=
 an (Λ:=aF [(bU pE,Bx)]) (fn:=Tryz.f219) aG zR af (by kernel_rfl) (az (by kernel_rfl:_= [pE]) (aK (q:=bU pE) rfl Gk fun _ _ _=>by kernel_rfl)) (by kernel_rfl) (fun x=>qh x.1 x.2.1)
  (fun x=>Eq.trans (by kernel_rfl:_=rh x.1 x.2.1 (fun y=>ret (ay [.b] y) fun v g=>some (v,g))) (Nh x.1 x.2.1 _)) fun _ _ h=>h
abbrev Ni:List (Nat×bc):= [(219,Gl)]
theorem Gm:au Tryz.prog (aE Ni):=ae RQ <| al _
def nV {ρ:Type} (a0:List Int) (a1:List Int) (k:Bool×Unit→Option ρ):Option ρ:=
 (qh a0 a1).bind fun y1=>k (y1.1,())
def iU (a0:List Int) (a1:List Int):Option (Bool×Unit):=nV a0 a1 some
theorem Ib {ρ:Type} (a0:List Int) (a1:List Int) (k:Bool×Unit→Option ρ):nV a0 a1 k=(iU a0 a1).bind k:=by
 simp only [iU,nV,Option.bind_assoc,Option.bind_some]
abbrev Bz:bc:=bh [.ty (.ls (.i .i64)), .ty (.ls (.i .i64))] [.b] fun x=>iU x.1 x.2.1
theorem Nj:ax Tryz.prog 160 Bz:=
 an (Λ:=aF []) (fn:=Tryz.f160) aG Gm af (by kernel_rfl) (az (by kernel_rfl:_= []) ah) (by kernel_rfl) (fun x=>iU x.1 x.2.1)
  (fun x=>Eq.trans (by kernel_rfl:_=nV x.1 x.2.1 (fun y=>ret (ay [.b] y) fun v g=>some (v,g))) (Ib x.1 x.2.1 _)) fun _ _ h=>h
abbrev Nk:List (Nat×bc):= [(160,Bz)]
theorem Gn:au Tryz.prog (aE Nk):=ae Nj <| al _
def nW {ρ:Type} (a0:ai) (a1:ai) (k:Bool×Unit→Option ρ):Option ρ:=
 br (a0.epoch==a1.epoch) (br (a0.primary==a1.primary) ((iU a0.replicas a1.replicas).bind fun y1=>br y1.1 ((iU a0.witnesses a1.witnesses).bind fun y2=>k (y2.1,())) (k (false,()))) (k (false,()))) (k (false,()))
def gy (a0:ai) (a1:ai):Option (Bool×Unit):=nW a0 a1 some
theorem Ic {ρ:Type} (a0:ai) (a1:ai) (k:Bool×Unit→Option ρ):nW a0 a1 k=(gy a0 a1).bind k:=by
 simp only [gy,nW,ao,Option.bind_assoc,Option.bind_some]
abbrev vM:bc:=bh [.ty (.st .config), .ty (.st .config)] [.b] fun x=>gy x.1 x.2.1
theorem BA:ax Tryz.prog 91 vM:=
 an (Λ:=aF []) (fn:=Tryz.f91) aG Gn af (by kernel_rfl) (az (by kernel_rfl:_= []) ah) (by kernel_rfl) (fun x=>gy x.1 x.2.1)
  (fun x=>Eq.trans (by kernel_rfl:_=nW x.1 x.2.1 (fun y=>ret (ay [.b] y) fun v g=>some (v,g))) (Ic x.1 x.2.1 _)) fun _ _ h=>h
abbrev Up:List (Nat×bc):= []
theorem Nl:au Tryz.prog (aE Up):=al _
def sZ {ρ:Type} (a0:List ar) (k:Int×Unit→Option ρ):Option ρ:=
 br ((a0.length:Int)==0) (k (0,())) (aq (0≤(IntKind.wrap .i64 ((a0.length:Int) - 1))) ((a0[(IntKind.wrap .i64 ((a0.length:Int) - 1)).toNat]?).bind fun x1=>k (x1.epoch,())) none)
def lB (a0:List ar):Option (Int×Unit):=sZ a0 some
theorem O6 {ρ:Type} (a0:List ar) (k:Int×Unit→Option ρ):sZ a0 k=(lB a0).bind k:=by
 simp only [lB,sZ,ao,ap,Option.bind_none,Option.bind_assoc,Option.bind_some]
abbrev wK:bc:=bh [.ty (.ls (.st .entry))] [.i .i64] fun x=>lB x.1
theorem BB:ax Tryz.prog 141 wK:=
 an (Λ:=aF []) (fn:=Tryz.f141) aG Nl af (by kernel_rfl) (az (by kernel_rfl:_= []) ah) (by kernel_rfl) (fun x=>lB x.1)
  (fun x=>Eq.trans (by kernel_rfl:_=sZ x.1 (fun y=>ret (ay [.i .i64] y) fun v g=>some (v,g))) (O6 x.1 _)) fun _ _ h=>h
abbrev Z1:List (Nat×bc):= [(176,rv),(66,uj)]
theorem Uq:au Tryz.prog (aE Z1):=ae uB <| ae wH <| al _
def yf {ρ:Type} (a0:ai) (a1:Int) (k:Int×Unit→Option ρ):Option ρ:=
 (fL a0).bind fun y1=>br (!y1.1) (k (0,())) (br (a1==a0.primary) (k (1,())) ((iQ a0.replicas a1).bind fun y2=>br y2.1 (k (2,())) ((iQ a0.witnesses a1).bind fun y3=>br y3.1 (k (3,())) (k (0,())))))
def um (a0:ai) (a1:Int):Option (Int×Unit):=yf a0 a1 some
theorem Wd {ρ:Type} (a0:ai) (a1:Int) (k:Int×Unit→Option ρ):yf a0 a1 k=(um a0 a1).bind k:=by
 simp only [um,yf,ao,Option.bind_assoc,Option.bind_some]
abbrev Nm:bc:=bh [.ty (.st .config), .ty (.i .i64)] [.i .i64] fun x=>um x.1 x.2.1
theorem Ur:ax Tryz.prog 178 Nm:=
 an (Λ:=aF []) (fn:=Tryz.f178) aG Uq af (by kernel_rfl) (az (by kernel_rfl:_= []) ah) (by kernel_rfl) (fun x=>um x.1 x.2.1)
  (fun x=>Eq.trans (by kernel_rfl:_=yf x.1 x.2.1 (fun y=>ret (ay [.i .i64] y) fun v g=>some (v,g))) (Wd x.1 x.2.1 _)) fun _ _ h=>h
abbrev Z2:List (Nat×bc):= [(179,Gh),(135,jy)]
theorem Us:au Tryz.prog (aE Z2):=ae Ld <| ae kz <| al _
def yg {ρ:Type} (a0:Int) (a1:List ar) (k:Bool×Unit→Option ρ):Option ρ:=
 (qg a1).bind fun y1=>br y1.1 (br (decide ((a1.length:Int)≤3)) ((ct a0 0 (IntKind.wrap .i64 (16 - (a1.length:Int)))).bind fun y2=>br y2.1 (br (a0==0) (k (true,())) (k (((a1.length:Int)==3),()))) (k (false,()))) (k (false,()))) (k (false,()))
def vN (a0:Int) (a1:List ar):Option (Bool×Unit):=yg a0 a1 some
theorem We {ρ:Type} (a0:Int) (a1:List ar) (k:Bool×Unit→Option ρ):yg a0 a1 k=(vN a0 a1).bind k:=by
 simp only [vN,yg,ao,Option.bind_assoc,Option.bind_some]
abbrev Ut:bc:=bh [.ty (.i .i64), .ty (.ls (.st .entry))] [.b] fun x=>vN x.1 x.2.1
theorem Z3:ax Tryz.prog 213 Ut:=
 an (Λ:=aF []) (fn:=Tryz.f213) aG Us af (by kernel_rfl) (az (by kernel_rfl:_= []) ah) (by kernel_rfl) (fun x=>vN x.1 x.2.1)
  (fun x=>Eq.trans (by kernel_rfl:_=yg x.1 x.2.1 (fun y=>ret (ay [.b] y) fun v g=>some (v,g))) (We x.1 x.2.1 _)) fun _ _ h=>h
abbrev Kr:List (Nat×bc):= [(135,jy),(179,Gh),(91,vM),(141,wK),(178,Nm),(213,Ut)]
theorem Er:au Tryz.prog (aE Kr):=ae kz <| ae Ld <| ae BA <| ae BB <| ae Ur <| ae Z3 <| al _
def m8 {ρ:Type} (a0:am) (a1:Int) (k:Bool×Unit→Option ρ):Option ρ:=
 (ct a0.version 1 2).bind fun y1=>br (!y1.1) (k (false,())) ((ct a0.epoch 0 20).bind fun y2=>br (!y2.1) (k (false,())) ((qg a0.log).bind fun y3=>br (!y3.1) (k (false,())) ((qg a0.learned).bind fun y4=>br (!y4.1) (k (false,())) ((ct a0.first 0 16).bind fun y5=>br (!y5.1) (k (false,())) (br (decide ((IntKind.wrap .i64 (a0.first+(a0.log.length:Int))) > 16)) (k (false,())) ((ct a0.commit 0 (IntKind.wrap .i64 (a0.first+(a0.log.length:Int)))).bind fun y6=>br (!y6.1) (k (false,())) ((gy a0.config (⟨0,0,([]:List Int),([]:List Int)⟩:ai)).bind fun y7=>br y7.1 (br (a0.first==0) (br (a0.commit==0) (k (((a0.log.length:Int)==0),())) (k (false,()))) (k (false,()))) (br (!a0.intact) (k (false,())) (br (decide (a0.epoch < a0.config.epoch)) (k (false,())) ((lB a0.log).bind fun y8=>br (decide (y8.1 > a0.config.epoch)) (k (false,())) ((um a0.config a1).bind fun y9=>br (y9.1==1) (k ((a0.first==0),())) (br (y9.1==2) (k ((a0.first==0),())) (br (y9.1==3) ((vN a0.first a0.log).bind fun y10=>k (y10.1,())) (k (false,())))))))))))))))
def jl (a0:am) (a1:Int):Option (Bool×Unit):=m8 a0 a1 some
theorem Gp {ρ:Type} (a0:am) (a1:Int) (k:Bool×Unit→Option ρ):m8 a0 a1 k=(jl a0 a1).bind k:=by
 simp only [jl,m8,ao,Option.bind_assoc,Option.bind_some]
abbrev zS:bc:=bh [.ty (.st .server), .ty (.i .i64)] [.b] fun x=>jl x.1 x.2.1
theorem Ks:ax Tryz.prog 140 zS:=
 an (Λ:=aF []) (fn:=Tryz.f140) aG Er af (by kernel_rfl) (az (by kernel_rfl:_= []) ah) (by kernel_rfl) (fun x=>jl x.1 x.2.1)
  (fun x=>Eq.trans (by kernel_rfl:_=m8 x.1 x.2.1 (fun y=>ret (ay [.b] y) fun v g=>some (v,g))) (Gp x.1 x.2.1 _)) fun _ _ h=>h
abbrev Wf:List (Nat×bc):= [(137,rd),(135,jy),(177,qa)]
theorem O7:au Tryz.prog (aE Wf):=ae tV <| ae kz <| ae sM <| al _
def sb {ρ:Type} (a0:ak) (a1:Int) (k:ai×Bool×Unit→Option ρ):Option ρ:=
 (gl a0).bind fun y1=>br (!y1.1) (k ((⟨0,0,([]:List Int),([]:List Int)⟩:ai),false,())) ((ct a1 1 (a0.configs.length:Int)).bind fun y2=>br (!y2.1) (k ((⟨0,0,([]:List Int),([]:List Int)⟩:ai),false,())) (aq (0≤(IntKind.wrap .i64 (a1 - 1))) ((a0.configs[(IntKind.wrap .i64 (a1 - 1)).toNat]?).bind fun x3=>(dJ x3).bind fun y4=>k (y4.1,true,())) none))
def lZ (a0:ak) (a1:Int):Option (ai×Bool×Unit):=sb a0 a1 some
theorem RR {ρ:Type} (a0:ak) (a1:Int) (k:ai×Bool×Unit→Option ρ):sb a0 a1 k=(lZ a0 a1).bind k:=by
 simp only [lZ,sb,ao,ap,Option.bind_none,Option.bind_assoc,Option.bind_some]
abbrev Es:bc:=bh [.ty (.st .masterLog), .ty (.i .i64)] [.st .config, .b] fun x=>lZ x.1 x.2.1
theorem Nn:ax Tryz.prog 142 Es:=
 an (Λ:=aF []) (fn:=Tryz.f142) aG O7 af (by kernel_rfl) (az (by kernel_rfl:_= []) ah) (by kernel_rfl) (fun x=>lZ x.1 x.2.1)
  (fun x=>Eq.trans (by kernel_rfl:_=sb x.1 x.2.1 (fun y=>ret (ay [.st .config, .b] y) fun v g=>some (v,g))) (RR x.1 x.2.1 _)) fun _ _ h=>h
abbrev yh:List (Nat×bc):= [(135,jy),(136,M2),(137,rd),(138,Cu),(139,Jo),(140,zS),(141,wK),(91,vM),(142,Es)]
theorem uQ:au Tryz.prog (aE yh):=ae kz <| ae V9 <| ae tV <| ae H8 <| ae Ul <| ae Ks <| ae BB <| ae BA <| ae Nn <| al _
noncomputable abbrev kG:Code:=bV (bT Tryz.f57) 0
abbrev c8:en:=⟨[(1, .cl (.ptr 0 0)),(57, .cl (.ro (.st .server))),(58, .cl (.int .i64)),(59, .cl (.int .i64))],[[.int .i64, .ro (.st .server), .ro (.i .i64), .ro (.st .config), .int .i64, .int .i64, .int .i64, .int .i64, .int .i64, .ro (.st .place)]],[],0,118⟩
abbrev fR:List (X×en):= [(.ret,⟨[(2, .cl (.bl))],[],[],0,118⟩),(.ext 0,⟨[(2, .cl (.dead))],[],[],0,118⟩)]
def gK {ρ:Type} (v7:List am) (v8:Int) (v9:Int) (v10:Int) (v11:List am) (v12:List Int) (v13:List ai) (v14:Int) (v15:Int) (v16:Int) (v17:Int) (v18:Int) (v19:List aU) (fn: ((Unit×(List am)×Int×Int×Unit)×((Int×(List am)×(List Int)×(List ai)×Int×Int×Int×Int×Int×(List aU)×Unit)×Unit)×(Unit))→Option ρ) (fe: ((Bool×Unit)×(Unit)×(Unit))⊕((Unit×Unit)×(Unit)×(Unit))→Option ρ):Option ρ:=
 br (decide (v9 < v8)) (aq (0≤v9) ((v7[v9.toNat]?).bind fun x20=>(jl x20 v9).bind fun y21=>br (!y21.1) (fe (.inl ((false,()),(()),(())))) (br (decide (x20.epoch > (v13.length:Int))) (fe (.inl ((false,()),(()),(())))) ((lB x20.learned).bind fun y22=>br (decide (y22.1 > v14)) (fe (.inl ((false,()),(()),(())))) ((gy x20.config (⟨0,0,([]:List Int),([]:List Int)⟩:ai)).bind fun y23=>br y23.1 (fn (((),v7,v8,(IntKind.wrap .i64 (v9+1)),()),((v10,v11,v12,v13,v14,v15,v16,v17,v18,v19,()),()),(()))) ((lZ (⟨v13,v14⟩:ak) x20.config.epoch).bind fun y24=>br (!y24.2.1) (fe (.inl ((false,()),(()),(())))) ((gy y24.1 x20.config).bind fun y25=>br (!y25.1) (fe (.inl ((false,()),(()),(())))) (br (decide (x20.config.epoch > v14)) (fe (.inl ((false,()),(()),(())))) (fn (((),v7,v8,(IntKind.wrap .i64 (v9+1)),()),((v10,v11,v12,v13,v14,v15,v16,v17,v18,v19,()),()),(())))))))))) none) (fe (.inr (((),()),(()),(()))))
def dy (s:c8.D):Option (c8.D⊕bg.D fR):=gK s.1.2.1 s.1.2.2.1 s.1.2.2.2.1 s.2.1.1.1 s.2.1.1.2.1 s.2.1.1.2.2.1 s.2.1.1.2.2.2.1 s.2.1.1.2.2.2.2.1 s.2.1.1.2.2.2.2.2.1 s.2.1.1.2.2.2.2.2.2.1 s.2.1.1.2.2.2.2.2.2.2.1 s.2.1.1.2.2.2.2.2.2.2.2.1 s.2.1.1.2.2.2.2.2.2.2.2.2.1 (fun s=>some (.inl s)) (fun e=>some (.inr e))
def kH:c8.D→Option (bg.D fR):=ko dy
theorem BC {ρ:Type} (s:c8.D) (fn:c8.D→Option ρ) (fe:bg.D fR→Option ρ):gK s.1.2.1 s.1.2.2.1 s.1.2.2.2.1 s.2.1.1.1 s.2.1.1.2.1 s.2.1.1.2.2.1 s.2.1.1.2.2.2.1 s.2.1.1.2.2.2.2.1 s.2.1.1.2.2.2.2.2.1 s.2.1.1.2.2.2.2.2.2.1 s.2.1.1.2.2.2.2.2.2.2.1 s.2.1.1.2.2.2.2.2.2.2.2.1 s.2.1.1.2.2.2.2.2.2.2.2.2.1 fn fe=(dy s).bind (Sum.elim fn fe):=by
 simp only [dy,gK,ao,ap,Option.bind_none,Option.bind_assoc,Option.bind_some,Sum.elim_inl,Sum.elim_inr]
abbrev vO:cW:=df [] [1,57,58,59] c8 fR kH
theorem Aq (s:c8.D):ez Θ (aE yh) (aF []) kG (c8.mk' s) (cU [1,57,58,59] [2] fun x S=>some (x,S))=(dy s).bind (Sum.elim (fun s'=>some (.nor,c8.mk' s')) fun e=>some (bg.e fR e)):=
 Eq.trans (by kernel_rfl:_=gK s.1.2.1 s.1.2.2.1 s.1.2.2.2.1 s.2.1.1.1 s.2.1.1.2.1 s.2.1.1.2.2.1 s.2.1.1.2.2.2.1 s.2.1.1.2.2.2.2.1 s.2.1.1.2.2.2.2.2.1 s.2.1.1.2.2.2.2.2.2.1 s.2.1.1.2.2.2.2.2.2.2.1 s.2.1.1.2.2.2.2.2.2.2.2.1 s.2.1.1.2.2.2.2.2.2.2.2.2.1 (fun s'=>some (.nor,c8.mk' s')) (fun e=>some (bg.e fR e))) (BC s _ _)
theorem Ar:bP Tryz.prog kG vO:=aW aG uQ af (by kernel_rfl) (dp (by kernel_rfl:_= []) ah) [] [1,57,58,59] [2] c8 fR (by kernel_rfl) dy Aq kH (gf dy) (aL dy)
def lC {ρ:Type} (a0:aj) (k:Bool×Unit→Option ρ):Option ρ:=
 (ct a0.now 0 999).bind fun y1=>br (!y1.1) (k (false,())) (br (!((a0.servers.length:Int)==5)) (k (false,())) ((po a0.sides).bind fun y2=>br (!y2.1) (k (false,())) ((gl a0.master).bind fun y3=>br (!y3.1) (k (false,())) ((oe a0.lease).bind fun y4=>br (!y4.1) (k (false,())) ((pD a0.places).bind fun y5=>br (!y5.1) (k (false,())) ((ct a0.masterUp 0 3).bind fun y6=>br (!y6.1) (k (false,())) (br (decide (a0.lease.epoch > a0.master.activated)) (k (false,())) ((kH (((),a0.servers,(a0.servers.length:Int),0,()),((a0.now,a0.servers,a0.sides,a0.master.configs,a0.master.activated,a0.masterUp,a0.lease.epoch,a0.lease.holder,a0.lease.ends,a0.places,()),()),(()))).bind fun e26=>Sum.elim (fun e26_=>k (e26_.1.1,())) (fun _=>k (true,())) e26))))))))
def dk (a0:aj):Option (Bool×Unit):=lC a0 some
theorem Et {ρ:Type} (a0:aj) (k:Bool×Unit→Option ρ):lC a0 k=(dk a0).bind k:=by
 simp only [dk,lC,ao,bR,Option.bind_assoc,Option.bind_some]
abbrev qi:bc:=bh [.ty (.st .cluster)] [.b] fun x=>dk x.1
theorem tP:ax Tryz.prog 57 qi:=
 an (Λ:=aF [(bU kG,vO)]) (fn:=Tryz.f57) aG uQ af (by kernel_rfl) (az (by kernel_rfl:_= [kG]) (aK (q:=bU kG) rfl Ar fun _ _ _=>by kernel_rfl)) (by kernel_rfl) (fun x=>dk x.1)
  (fun x=>Eq.trans (by kernel_rfl:_=lC x.1 (fun y=>ret (ay [.b] y) fun v g=>some (v,g))) (Et x.1 _)) fun _ _ h=>h
abbrev Kt:List (Nat×bc):= [(135,jy),(80,mQ)]
theorem Eu:au Tryz.prog (aE Kt):=ae kz <| ae pi <| al _
def m9 {ρ:Type} (a0:am) (k: (List ar)×Unit→Option ρ):Option ρ:=
 br (decide (a0.first < 0)) (k (([]:List ar),())) ((ct a0.commit a0.first (IntKind.wrap .i64 (a0.first+(a0.log.length:Int)))).bind fun y1=>br (!y1.1) (k (([]:List ar),())) (aq (0≤(0:Int)∧(0:Int)≤(IntKind.wrap .i64 (a0.commit - a0.first))∧(IntKind.wrap .i64 (a0.commit - a0.first))≤(a0.log.length:Int)) ((dt ((a0.log.drop (0:Int).toNat).take ((IntKind.wrap .i64 (a0.commit - a0.first)).toNat - (0:Int).toNat))).bind fun y2=>k (y2.1,())) none))
def jm (a0:am):Option ((List ar)×Unit):=m9 a0 some
theorem Gq {ρ:Type} (a0:am) (k: (List ar)×Unit→Option ρ):m9 a0 k=(jm a0).bind k:=by
 simp only [jm,m9,ao,ap,Option.bind_none,Option.bind_assoc,Option.bind_some]
abbrev zT:bc:=bh [.ty (.st .server)] [.ls (.st .entry)] fun x=>jm x.1
theorem Ku:ax Tryz.prog 174 zT:=
 an (Λ:=aF []) (fn:=Tryz.f174) aG Eu af (by kernel_rfl) (az (by kernel_rfl:_= []) ah) (by kernel_rfl) (fun x=>jm x.1)
  (fun x=>Eq.trans (by kernel_rfl:_=m9 x.1 (fun y=>ret (ay [.ls (.st .entry)] y) fun v g=>some (v,g))) (Gq x.1 _)) fun _ _ h=>h
abbrev Uu:List (Nat×bc):= [(66,uj)]
theorem Np:au Tryz.prog (aE Uu):=ae wH <| al _
def s3 {ρ:Type} (a0:am) (a1:Int) (k:Bool×Unit→Option ρ):Option ρ:=
 (iQ a0.config.replicas a1).bind fun y1=>k (y1.1,())
def pG (a0:am) (a1:Int):Option (Bool×Unit):=s3 a0 a1 some
theorem O8 {ρ:Type} (a0:am) (a1:Int) (k:Bool×Unit→Option ρ):s3 a0 a1 k=(pG a0 a1).bind k:=by
 simp only [pG,s3,Option.bind_assoc,Option.bind_some]
abbrev Jq:bc:=bh [.ty (.st .server), .ty (.i .i64)] [.b] fun x=>pG x.1 x.2.1
theorem Uv:ax Tryz.prog 175 Jq:=
 an (Λ:=aF []) (fn:=Tryz.f175) aG Np af (by kernel_rfl) (az (by kernel_rfl:_= []) ah) (by kernel_rfl) (fun x=>pG x.1 x.2.1)
  (fun x=>Eq.trans (by kernel_rfl:_=s3 x.1 x.2.1 (fun y=>ret (ay [.b] y) fun v g=>some (v,g))) (O8 x.1 x.2.1 _)) fun _ _ h=>h
abbrev Kv:List (Nat×bc):= [(174,zT),(175,Jq),(80,mQ)]
theorem Ev:au Tryz.prog (aE Kv):=ae Ku <| ae Uv <| ae pi <| al _
def na {ρ:Type} (a0:am) (a1:Int) (k: (List ar)×Unit→Option ρ):Option ρ:=
 (jm a0).bind fun y1=>(pG a0 a1).bind fun y2=>br y2.1 (br (decide ((y1.1.length:Int) > (a0.learned.length:Int))) (k (y1.1,())) ((dt a0.learned).bind fun y3=>k (y3.1,()))) ((dt a0.learned).bind fun y4=>k (y4.1,()))
def fM (a0:am) (a1:Int):Option ((List ar)×Unit):=na a0 a1 some
theorem Gr {ρ:Type} (a0:am) (a1:Int) (k: (List ar)×Unit→Option ρ):na a0 a1 k=(fM a0 a1).bind k:=by
 simp only [fM,na,ao,Option.bind_assoc,Option.bind_some]
abbrev uC:bc:=bh [.ty (.st .server), .ty (.i .i64)] [.ls (.st .entry)] fun x=>fM x.1 x.2.1
theorem zU:ax Tryz.prog 106 uC:=
 an (Λ:=aF []) (fn:=Tryz.f106) aG Ev af (by kernel_rfl) (az (by kernel_rfl:_= []) ah) (by kernel_rfl) (fun x=>fM x.1 x.2.1)
  (fun x=>Eq.trans (by kernel_rfl:_=na x.1 x.2.1 (fun y=>ret (ay [.ls (.st .entry)] y) fun v g=>some (v,g))) (Gr x.1 x.2.1 _)) fun _ _ h=>h
abbrev Wg:List (Nat×bc):= []
theorem O9:au Tryz.prog (aE Wg):=al _
def uo {ρ:Type} (a0:aj) (a1:Int) (k:Bool×Unit→Option ρ):Option ρ:=
 aq (0≤a1) ((a0.servers[a1.toNat]?).bind fun x1=>br x1.up (aq (0≤a1) ((a0.sides[a1.toNat]?).bind fun x2=>k ((x2==0),())) none) (k (false,()))) none
def rK (a0:aj) (a1:Int):Option (Bool×Unit):=uo a0 a1 some
theorem RS {ρ:Type} (a0:aj) (a1:Int) (k:Bool×Unit→Option ρ):uo a0 a1 k=(rK a0 a1).bind k:=by
 simp only [rK,uo,ao,ap,Option.bind_none,Option.bind_assoc,Option.bind_some]
abbrev Nq:bc:=bh [.ty (.st .cluster), .ty (.i .i64)] [.b] fun x=>rK x.1 x.2.1
theorem Wh:ax Tryz.prog 64 Nq:=
 an (Λ:=aF []) (fn:=Tryz.f64) aG O9 af (by kernel_rfl) (az (by kernel_rfl:_= []) ah) (by kernel_rfl) (fun x=>rK x.1 x.2.1)
  (fun x=>Eq.trans (by kernel_rfl:_=uo x.1 x.2.1 (fun y=>ret (ay [.b] y) fun v g=>some (v,g))) (RS x.1 x.2.1 _)) fun _ _ h=>h
abbrev wL:List (Nat×bc):= [(57,qi),(106,uC),(64,Nq)]
theorem uq:au Tryz.prog (aE wL):=ae tP <| ae zU <| ae Wh <| al _
noncomputable abbrev jA:Code:=bV (bT Tryz.f103) 0
abbrev cP:en:=⟨[(1, .cl (.ptr 0 0)),(3, .cl (.int .i64)),(4, .cl (.int .i64)),(13, .cl (.ro (.st .server))),(14, .cl (.int .i64)),(15, .cl (.int .i64))],[[.int .i64, .ro (.st .server), .ro (.i .i64), .ro (.st .config), .int .i64, .int .i64, .int .i64, .int .i64, .int .i64, .ro (.st .place)]],[],0,40⟩
abbrev fg:List (X×en):= [(.ext 0,⟨[(3, .cl (.int .i64))],[],[],0,40⟩)]
def f7 {ρ:Type} (v2:Int) (v3:Int) (v4:List am) (v5:Int) (v6:Int) (v7:Int) (v8:List am) (v9:List Int) (v10:List ai) (v11:Int) (v12:Int) (v13:Int) (v14:Int) (v15:Int) (v16:List aU) (fn: ((Unit×Int×Int×(List am)×Int×Int×Unit)×((Int×(List am)×(List Int)×(List ai)×Int×Int×Int×Int×Int×(List aU)×Unit)×Unit)×(Unit))→Option ρ) (fe: ((Int×Unit)×(Unit)×(Unit))→Option ρ):Option ρ:=
 br (decide (v6 < v5)) (aq (0≤v6) ((v4[v6.toNat]?).bind fun x17=>(fM x17 v6).bind fun y18=>(rK (⟨v7,v8,v9,(⟨v10,v11⟩:ak),v12,(⟨v13,v14,v15⟩:eg),v16⟩:aj) v6).bind fun y19=>br y19.1 (br (decide (v2 < 0)) (fn (((),v6,(y18.1.length:Int),v4,v5,(IntKind.wrap .i64 (v6+1)),()),((v7,v8,v9,v10,v11,v12,v13,v14,v15,v16,()),()),(()))) (br (decide ((y18.1.length:Int) > v3)) (fn (((),v6,(y18.1.length:Int),v4,v5,(IntKind.wrap .i64 (v6+1)),()),((v7,v8,v9,v10,v11,v12,v13,v14,v15,v16,()),()),(()))) (fn (((),v2,v3,v4,v5,(IntKind.wrap .i64 (v6+1)),()),((v7,v8,v9,v10,v11,v12,v13,v14,v15,v16,()),()),(()))))) (fn (((),v2,v3,v4,v5,(IntKind.wrap .i64 (v6+1)),()),((v7,v8,v9,v10,v11,v12,v13,v14,v15,v16,()),()),(())))) none) (fe ((v2,()),(()),(())))
def de (s:cP.D):Option (cP.D⊕bg.D fg):=f7 s.1.2.1 s.1.2.2.1 s.1.2.2.2.1 s.1.2.2.2.2.1 s.1.2.2.2.2.2.1 s.2.1.1.1 s.2.1.1.2.1 s.2.1.1.2.2.1 s.2.1.1.2.2.2.1 s.2.1.1.2.2.2.2.1 s.2.1.1.2.2.2.2.2.1 s.2.1.1.2.2.2.2.2.2.1 s.2.1.1.2.2.2.2.2.2.2.1 s.2.1.1.2.2.2.2.2.2.2.2.1 s.2.1.1.2.2.2.2.2.2.2.2.2.1 (fun s=>some (.inl s)) (fun e=>some (.inr e))
def mi:cP.D→Option (bg.D fg):=ko de
theorem Au {ρ:Type} (s:cP.D) (fn:cP.D→Option ρ) (fe:bg.D fg→Option ρ):f7 s.1.2.1 s.1.2.2.1 s.1.2.2.2.1 s.1.2.2.2.2.1 s.1.2.2.2.2.2.1 s.2.1.1.1 s.2.1.1.2.1 s.2.1.1.2.2.1 s.2.1.1.2.2.2.1 s.2.1.1.2.2.2.2.1 s.2.1.1.2.2.2.2.2.1 s.2.1.1.2.2.2.2.2.2.1 s.2.1.1.2.2.2.2.2.2.2.1 s.2.1.1.2.2.2.2.2.2.2.2.1 s.2.1.1.2.2.2.2.2.2.2.2.2.1 fn fe=(de s).bind (Sum.elim fn fe):=by
 simp only [de,f7,ao,ap,Option.bind_none,Option.bind_assoc,Option.bind_some,Sum.elim_inl,Sum.elim_inr]
abbrev uR:cW:=df [] [1,3,4,13,14,15] cP fg mi
theorem zb (s:cP.D):ez Θ (aE wL) (aF []) jA (cP.mk' s) (cU [1,3,4,13,14,15] [3] fun x S=>some (x,S))=(de s).bind (Sum.elim (fun s'=>some (.nor,cP.mk' s')) fun e=>some (bg.e fg e)):=
 Eq.trans (by kernel_rfl:_=f7 s.1.2.1 s.1.2.2.1 s.1.2.2.2.1 s.1.2.2.2.2.1 s.1.2.2.2.2.2.1 s.2.1.1.1 s.2.1.1.2.1 s.2.1.1.2.2.1 s.2.1.1.2.2.2.1 s.2.1.1.2.2.2.2.1 s.2.1.1.2.2.2.2.2.1 s.2.1.1.2.2.2.2.2.2.1 s.2.1.1.2.2.2.2.2.2.2.1 s.2.1.1.2.2.2.2.2.2.2.2.1 s.2.1.1.2.2.2.2.2.2.2.2.2.1 (fun s'=>some (.nor,cP.mk' s')) (fun e=>some (bg.e fg e))) (Au s _ _)
theorem zd:bP Tryz.prog jA uR:=aW aG uq af (by kernel_rfl) (dp (by kernel_rfl:_= []) ah) [] [1,3,4,13,14,15] [3] cP fg (by kernel_rfl) de zb mi (gf de) (aL de)
def im {ρ:Type} (a0:aj) (k:Int×Unit→Option ρ):Option ρ:=
 (dk a0).bind fun y1=>br (!y1.1) (k ((-1),())) ((mi (((),(-1),0,a0.servers,(a0.servers.length:Int),0,()),((a0.now,a0.servers,a0.sides,a0.master.configs,a0.master.activated,a0.masterUp,a0.lease.epoch,a0.lease.holder,a0.lease.ends,a0.places,()),()),(()))).bind fun e20=>k (e20.1.1,()))
def ew (a0:aj):Option (Int×Unit):=im a0 some
theorem CJ {ρ:Type} (a0:aj) (k:Int×Unit→Option ρ):im a0 k=(ew a0).bind k:=by
 simp only [ew,im,ao,Option.bind_assoc,Option.bind_some]
abbrev wM:bc:=bh [.ty (.st .cluster)] [.i .i64] fun x=>ew x.1
theorem Gs:ax Tryz.prog 103 wM:=
 an (Λ:=aF [(bU jA,uR)]) (fn:=Tryz.f103) aG uq af (by kernel_rfl) (az (by kernel_rfl:_= [jA]) (aK (q:=bU jA) rfl zd fun _ _ _=>by kernel_rfl)) (by kernel_rfl) (fun x=>ew x.1)
  (fun x=>Eq.trans (by kernel_rfl:_=im x.1 (fun y=>ret (ay [.i .i64] y) fun v g=>some (v,g))) (CJ x.1 _)) fun _ _ h=>h
abbrev Kw:List (Nat×bc):= [(142,Es)]
theorem Ew:au Tryz.prog (aE Kw):=ae Nn <| al _
def nc {ρ:Type} (a0:ak) (k:ai×Bool×Unit→Option ρ):Option ρ:=
 (lZ a0 a0.activated).bind fun y1=>k (y1.1,y1.2.1,())
def jn (a0:ak):Option (ai×Bool×Unit):=nc a0 some
theorem Gt {ρ:Type} (a0:ak) (k:ai×Bool×Unit→Option ρ):nc a0 k=(jn a0).bind k:=by
 simp only [jn,nc,Option.bind_assoc,Option.bind_some]
abbrev zV:bc:=bh [.ty (.st .masterLog)] [.st .config, .b] fun x=>jn x.1
theorem Kx:ax Tryz.prog 60 zV:=
 an (Λ:=aF []) (fn:=Tryz.f60) aG Ew af (by kernel_rfl) (az (by kernel_rfl:_= []) ah) (by kernel_rfl) (fun x=>jn x.1)
  (fun x=>Eq.trans (by kernel_rfl:_=nc x.1 (fun y=>ret (ay [.st .config, .b] y) fun v g=>some (v,g))) (Gt x.1 _)) fun _ _ h=>h
abbrev Av:List (Nat×bc):= []
theorem xm:au Tryz.prog (aE Av):=al _
def gz {ρ:Type} (a0:Int) (a1:aj) (a2:ai) (k:Bool×Unit→Option ρ):Option ρ:=
 aq (0≤a0) ((a1.servers[a0.toNat]?).bind fun x1=>k ((x1.config.epoch==a2.epoch),())) none
def fj (a0:Int) (a1:aj) (a2:ai):Option (Bool×Unit):=gz a0 a1 a2 some
theorem yi {ρ:Type} (a0:Int) (a1:aj) (a2:ai) (k:Bool×Unit→Option ρ):gz a0 a1 a2 k=(fj a0 a1 a2).bind k:=by
 simp only [fj,gz,ap,Option.bind_none,Option.bind_assoc,Option.bind_some]
abbrev tz:bc:=bh [.ty (.i .i64), .pr (.st .cluster), .pr (.st .config)] [.b] fun x=>fj x.1 x.2.1 x.2.2.1
theorem Aw:ax Tryz.prog 226 tz:=
 an (Λ:=aF []) (fn:=Tryz.f226) aG xm af (by kernel_rfl) (az (by kernel_rfl:_= []) ah) (by kernel_rfl) (fun x=>fj x.1 x.2.1 x.2.2.1)
  (fun x=>Eq.trans (by kernel_rfl:_=gz x.1 x.2.1 x.2.2.1 (fun y=>ret (ay [.b] y) fun v g=>some (v,g))) (yi x.1 x.2.1 x.2.2.1 _)) fun _ _ h=>h
abbrev i6:List (Nat×bc):= [(226,tz)]
theorem hQ:au Tryz.prog (aE i6):=ae Aw <| al _
noncomputable abbrev cf:Code:=bV (bT Tryz.f143) 0
abbrev aI:en:=⟨[(0, .cl (.ro (.i .i64))),(1, .fn 226 [.pro (.st .cluster), .pro (.st .config)]),(7, .cl (.int .i64)),(8, .cl (.int .i64))],[],[],0,19⟩
abbrev bq:List (X×en):= [(.ret,⟨[(4, .cl (.int .i64))],[],[],0,19⟩),(.ext 0,⟨[(4, .cl (.dead))],[],[],0,19⟩)]
def bH {ρ:Type} (v1:List Int) (v2:aj) (v3:ai) (v4:Int) (v5:Int) (fn: (((List Int)×(aj×ai×Unit)×Int×Int×Unit)×(Unit)×(Unit))→Option ρ) (fe: ((Int×Unit)×(Unit)×(Unit))⊕((Unit×Unit)×(Unit)×(Unit))→Option ρ):Option ρ:=
 br (decide (v5 < v4)) (aq (0≤v5) ((v1[v5.toNat]?).bind fun x6=>(fj x6 v2 v3).bind fun y7=>br y7.1 (fe (.inl ((v5,()),(()),(())))) (fn ((v1,(v2,v3,()),v4,(IntKind.wrap .i64 (v5+1)),()),(()),(())))) none) (fe (.inr (((),()),(()),(()))))
def aO (s:aI.D):Option (aI.D⊕bg.D bq):=bH s.1.1 s.1.2.1.1 s.1.2.1.2.1 s.1.2.2.1 s.1.2.2.2.1 (fun s=>some (.inl s)) (fun e=>some (.inr e))
def cg:aI.D→Option (bg.D bq):=ko aO
theorem nX {ρ:Type} (s:aI.D) (fn:aI.D→Option ρ) (fe:bg.D bq→Option ρ):bH s.1.1 s.1.2.1.1 s.1.2.1.2.1 s.1.2.2.1 s.1.2.2.2.1 fn fe=(aO s).bind (Sum.elim fn fe):=by
 simp only [aO,bH,ao,ap,Option.bind_none,Option.bind_assoc,Option.bind_some,Sum.elim_inl,Sum.elim_inr]
abbrev iz:cW:=df [] [0,1,7,8] aI bq cg
theorem nB (s:aI.D):ez Θ (aE i6) (aF []) cf (aI.mk' s) (cU [0,1,7,8] [4] fun x S=>some (x,S))=(aO s).bind (Sum.elim (fun s'=>some (.nor,aI.mk' s')) fun e=>some (bg.e bq e)):=
 Eq.trans (by kernel_rfl:_=bH s.1.1 s.1.2.1.1 s.1.2.1.2.1 s.1.2.2.1 s.1.2.2.2.1 (fun s'=>some (.nor,aI.mk' s')) (fun e=>some (bg.e bq e))) (nX s _ _)
theorem nC:bP Tryz.prog cf iz:=aW aG hQ af (by kernel_rfl) (dp (by kernel_rfl:_= []) ah) [] [0,1,7,8] [4] aI bq (by kernel_rfl) aO nB cg (gf aO) (aL aO)
def cw {ρ:Type} (a0:List Int) (a1_0:aj) (a1_1:ai) (k:Int×Unit→Option ρ):Option ρ:=
 (cg ((a0,(a1_0,a1_1,()),(a0.length:Int),0,()),(()),(()))).bind fun e8=>Sum.elim (fun e8_=>k (e8_.1.1,())) (fun _=>k ((-1),())) e8
def bS (a0:List Int) (a1_0:aj) (a1_1:ai):Option (Int×Unit):=cw a0 a1_0 a1_1 some
theorem oI {ρ:Type} (a0:List Int) (a1_0:aj) (a1_1:ai) (k:Int×Unit→Option ρ):cw a0 a1_0 a1_1 k=(bS a0 a1_0 a1_1).bind k:=by
 simp only [bS,cw,bR,Option.bind_assoc,Option.bind_some]
abbrev i7:bc:=bh [.ty (.ls (.i .i64)), .fn 226 [.st .cluster, .st .config]] [.i .i64] fun x=>bS x.1 x.2.1.1 x.2.1.2.1
theorem qj:ax Tryz.prog 143 i7:=
 an (Λ:=aF [(bU cf,iz)]) (fn:=Tryz.f143) aG hQ af (by kernel_rfl) (az (by kernel_rfl:_= [cf]) (aK (q:=bU cf) rfl nC fun _ _ _=>by kernel_rfl)) (by kernel_rfl) (fun x=>bS x.1 x.2.1.1 x.2.1.2.1)
  (fun x=>Eq.trans (by kernel_rfl:_=cw x.1 x.2.1.1 x.2.1.2.1 (fun y=>ret (ay [.i .i64] y) fun v g=>some (v,g))) (oI x.1 x.2.1.1 x.2.1.2.1 _)) fun _ _ h=>h
abbrev oq:List (Nat×bc):= [(143,i7)]
theorem np:au Tryz.prog (aE oq):=ae qj <| al _
def b6 {ρ:Type} (a0:List Int) (a1_0:aj) (a1_1:ai) (k:Bool×Unit→Option ρ):Option ρ:=
 (bS a0 a1_0 a1_1).bind fun y1=>k ((decide (y1.1≥0)),())
def bI (a0:List Int) (a1_0:aj) (a1_1:ai):Option (Bool×Unit):=b6 a0 a1_0 a1_1 some
theorem nD {ρ:Type} (a0:List Int) (a1_0:aj) (a1_1:ai) (k:Bool×Unit→Option ρ):b6 a0 a1_0 a1_1 k=(bI a0 a1_0 a1_1).bind k:=by
 simp only [bI,b6,Option.bind_assoc,Option.bind_some]
abbrev hU:bc:=bh [.ty (.ls (.i .i64)), .fn 226 [.st .cluster, .st .config]] [.b] fun x=>bI x.1 x.2.1.1 x.2.1.2.1
theorem ot:ax Tryz.prog 61 hU:=
 an (Λ:=aF []) (fn:=Tryz.f61) aG np af (by kernel_rfl) (az (by kernel_rfl:_= []) ah) (by kernel_rfl) (fun x=>bI x.1 x.2.1.1 x.2.1.2.1)
  (fun x=>Eq.trans (by kernel_rfl:_=b6 x.1 x.2.1.1 x.2.1.2.1 (fun y=>ret (ay [.b] y) fun v g=>some (v,g))) (nD x.1 x.2.1.1 x.2.1.2.1 _)) fun _ _ h=>h
abbrev Ey:List (Nat×bc):= [(60,zV),(57,qi),(61,hU)]
theorem Ax:au Tryz.prog (aE Ey):=ae Kx <| ae tP <| ae ot <| al _
def jB {ρ:Type} (a0:aj) (k:Bool×Unit→Option ρ):Option ρ:=
 (jn a0.master).bind fun y1=>(dk a0).bind fun y2=>br (!y2.1) ((dk a0).bind fun y3=>k (y3.1,())) (br (!y1.2.1) ((dk a0).bind fun y4=>k (y4.1,())) ((bI y1.1.replicas a0 y1.1).bind fun y5=>k (y5.1,())))
def fS (a0:aj):Option (Bool×Unit):=jB a0 some
theorem BD {ρ:Type} (a0:aj) (k:Bool×Unit→Option ρ):jB a0 k=(fS a0).bind k:=by
 simp only [fS,jB,ao,Option.bind_assoc,Option.bind_some]
abbrev vP:bc:=bh [.ty (.st .cluster)] [.b] fun x=>fS x.1
theorem Ez:ax Tryz.prog 173 vP:=
 an (Λ:=aF []) (fn:=Tryz.f173) aG Ax af (by kernel_rfl) (az (by kernel_rfl:_= []) ah) (by kernel_rfl) (fun x=>fS x.1)
  (fun x=>Eq.trans (by kernel_rfl:_=jB x.1 (fun y=>ret (ay [.b] y) fun v g=>some (v,g))) (BD x.1 _)) fun _ _ h=>h
abbrev Pa:List (Nat×bc):= [(57,qi),(173,vP)]
theorem Ie:au Tryz.prog (aE Pa):=ae tP <| ae Ez <| al _
def ne {ρ:Type} (a0:aj) (k:Bool×Unit→Option ρ):Option ρ:=
 (dk a0).bind fun y1=>br y1.1 (br (decide (a0.master.activated > 0)) ((fS a0).bind fun y2=>k ((!y2.1),())) (k (false,()))) (k (false,()))
def jW (a0:aj):Option (Bool×Unit):=ne a0 some
theorem Ky {ρ:Type} (a0:aj) (k:Bool×Unit→Option ρ):ne a0 k=(jW a0).bind k:=by
 simp only [jW,ne,ao,Option.bind_assoc,Option.bind_some]
abbrev Dj:bc:=bh [.ty (.st .cluster)] [.b] fun x=>jW x.1
theorem Pb:ax Tryz.prog 104 Dj:=
 an (Λ:=aF []) (fn:=Tryz.f104) aG Ie af (by kernel_rfl) (az (by kernel_rfl:_= []) ah) (by kernel_rfl) (fun x=>jW x.1)
  (fun x=>Eq.trans (by kernel_rfl:_=ne x.1 (fun y=>ret (ay [.b] y) fun v g=>some (v,g))) (Ky x.1 _)) fun _ _ h=>h
abbrev Pc:List (Nat×bc):= []
theorem Ig:au Tryz.prog (aE Pc):=al _
def pH {ρ:Type} (a0:aj) (k:Bool×Unit→Option ρ):Option ρ:=
 k ((decide ((IntKind.wrap .i64 (2*a0.masterUp)) > 3)),())
def og (a0:aj):Option (Bool×Unit):=pH a0 some
theorem Kz {ρ:Type} (a0:aj) (k:Bool×Unit→Option ρ):pH a0 k=(og a0).bind k:=by
 simp only [og,pH,Option.bind_some]
abbrev Dk:bc:=bh [.ty (.st .cluster)] [.b] fun x=>og x.1
theorem Pd:ax Tryz.prog 58 Dk:=
 an (Λ:=aF []) (fn:=Tryz.f58) aG Ig af (by kernel_rfl) (az (by kernel_rfl:_= []) ah) (by kernel_rfl) (fun x=>og x.1)
  (fun x=>Eq.trans (by kernel_rfl:_=pH x.1 (fun y=>ret (ay [.b] y) fun v g=>some (v,g))) (Kz x.1 _)) fun _ _ h=>h
abbrev Wi:List (Nat×bc):= [(138,Cu)]
theorem Pe:au Tryz.prog (aE Wi):=ae H8 <| al _
def ur {ρ:Type} (a0:eg) (k:Int×Unit→Option ρ):Option ρ:=
 br ((a0.epoch==0)&&((a0.holder==0)&&((a0.ends==0)&&true))) (k (0,())) ((oe a0).bind fun y1=>br (!y1.1) (k (0,())) (k ((IntKind.wrap .i64 (a0.ends+3)),())))
def rL (a0:eg):Option (Int×Unit):=ur a0 some
theorem RT {ρ:Type} (a0:eg) (k:Int×Unit→Option ρ):ur a0 k=(rL a0).bind k:=by
 simp only [rL,ur,ao,Option.bind_assoc,Option.bind_some]
abbrev Nr:bc:=bh [.ty (.st .lease)] [.i .i64] fun x=>rL x.1
theorem Wj:ax Tryz.prog 59 Nr:=
 an (Λ:=aF []) (fn:=Tryz.f59) aG Pe af (by kernel_rfl) (az (by kernel_rfl:_= []) ah) (by kernel_rfl) (fun x=>rL x.1)
  (fun x=>Eq.trans (by kernel_rfl:_=ur x.1 (fun y=>ret (ay [.i .i64] y) fun v g=>some (v,g))) (RT x.1 _)) fun _ _ h=>h
abbrev Pf:List (Nat×bc):= [(138,Cu),(135,jy),(59,Nr)]
theorem Ih:au Tryz.prog (aE Pf):=ae H8 <| ae kz <| ae Wj <| al _
def pI {ρ:Type} (a0:eg) (a1:Int) (k:Bool×Unit→Option ρ):Option ρ:=
 (oe a0).bind fun y1=>br y1.1 ((ct a1 0 999).bind fun y2=>br y2.1 ((rL a0).bind fun y3=>k ((decide (a1≥y3.1)),())) (k (false,()))) (k (false,()))
def l4 (a0:eg) (a1:Int):Option (Bool×Unit):=pI a0 a1 some
theorem KA {ρ:Type} (a0:eg) (a1:Int) (k:Bool×Unit→Option ρ):pI a0 a1 k=(l4 a0 a1).bind k:=by
 simp only [l4,pI,ao,Option.bind_assoc,Option.bind_some]
abbrev Dl:bc:=bh [.ty (.st .lease), .ty (.i .i64)] [.b] fun x=>l4 x.1 x.2.1
theorem Pg:ax Tryz.prog 105 Dl:=
 an (Λ:=aF []) (fn:=Tryz.f105) aG Ih af (by kernel_rfl) (az (by kernel_rfl:_= []) ah) (by kernel_rfl) (fun x=>l4 x.1 x.2.1)
  (fun x=>Eq.trans (by kernel_rfl:_=pI x.1 x.2.1 (fun y=>ret (ay [.b] y) fun v g=>some (v,g))) (KA x.1 x.2.1 _)) fun _ _ h=>h
abbrev Ph:List (Nat×bc):= []
theorem Ii:au Tryz.prog (aE Ph):=al _
def pJ {ρ:Type} (a0:Op) (k:Bool×Unit→Option ρ):Option ρ:=
 k ((a0.kind==2),())
def oh (a0:Op):Option (Bool×Unit):=pJ a0 some
theorem KB {ρ:Type} (a0:Op) (k:Bool×Unit→Option ρ):pJ a0 k=(oh a0).bind k:=by
 simp only [oh,pJ,Option.bind_some]
abbrev Dm:bc:=bh [.ty (.st .op)] [.b] fun x=>oh x.1
theorem Pi:ax Tryz.prog 222 Dm:=
 an (Λ:=aF []) (fn:=Tryz.f222) aG Ii af (by kernel_rfl) (az (by kernel_rfl:_= []) ah) (by kernel_rfl) (fun x=>oh x.1)
  (fun x=>Eq.trans (by kernel_rfl:_=pJ x.1 (fun y=>ret (ay [.b] y) fun v g=>some (v,g))) (KB x.1 _)) fun _ _ h=>h
abbrev Gu:List (Nat×bc):= [(222,Dm)]
theorem BE:au Tryz.prog (aE Gu):=ae Pi <| al _
def kI {ρ:Type} (a0:ar) (k:Bool×Unit→Option ρ):Option ρ:=
 (oh a0.op).bind fun y1=>k (y1.1,())
def i8 (a0:ar):Option (Bool×Unit):=kI a0 some
theorem CK {ρ:Type} (a0:ar) (k:Bool×Unit→Option ρ):kI a0 k=(i8 a0).bind k:=by
 simp only [i8,kI,Option.bind_assoc,Option.bind_some]
abbrev wN:bc:=bh [.ty (.st .entry)] [.b] fun x=>i8 x.1
theorem Gv:ax Tryz.prog 221 wN:=
 an (Λ:=aF []) (fn:=Tryz.f221) aG BE af (by kernel_rfl) (az (by kernel_rfl:_= []) ah) (by kernel_rfl) (fun x=>i8 x.1)
  (fun x=>Eq.trans (by kernel_rfl:_=kI x.1 (fun y=>ret (ay [.b] y) fun v g=>some (v,g))) (CK x.1 _)) fun _ _ h=>h
abbrev jX:List (Nat×bc):= [(221,wN)]
theorem iV:au Tryz.prog (aE jX):=ae Gv <| al _
noncomputable abbrev cG:Code:=bV (bT Tryz.f262) 0
abbrev aN:en:=⟨[(0, .cl (.ro (.st .entry))),(1, .cl (.fc 221)),(7, .cl (.int .i64)),(8, .cl (.int .i64))],[],[],0,19⟩
abbrev bD:List (X×en):= [(.ret,⟨[(4, .cl (.int .i64))],[],[],0,19⟩),(.ext 0,⟨[(4, .cl (.dead))],[],[],0,19⟩)]
def bN {ρ:Type} (v1:List ar) (v2:Int) (v3:Int) (fn: (((List ar)×Unit×Int×Int×Unit)×(Unit)×(Unit))→Option ρ) (fe: ((Int×Unit)×(Unit)×(Unit))⊕((Unit×Unit)×(Unit)×(Unit))→Option ρ):Option ρ:=
 br (decide (v3 < v2)) (aq (0≤v3) ((v1[v3.toNat]?).bind fun x4=>(i8 x4).bind fun y5=>br y5.1 (fe (.inl ((v3,()),(()),(())))) (fn ((v1,(),v2,(IntKind.wrap .i64 (v3+1)),()),(()),(())))) none) (fe (.inr (((),()),(()),(()))))
def aQ (s:aN.D):Option (aN.D⊕bg.D bD):=bN s.1.1 s.1.2.2.1 s.1.2.2.2.1 (fun s=>some (.inl s)) (fun e=>some (.inr e))
def cH:aN.D→Option (bg.D bD):=ko aQ
theorem oJ {ρ:Type} (s:aN.D) (fn:aN.D→Option ρ) (fe:bg.D bD→Option ρ):bN s.1.1 s.1.2.2.1 s.1.2.2.2.1 fn fe=(aQ s).bind (Sum.elim fn fe):=by
 simp only [aQ,bN,ao,ap,Option.bind_none,Option.bind_assoc,Option.bind_some,Sum.elim_inl,Sum.elim_inr]
abbrev i9:cW:=df [] [0,1,7,8] aN bD cH
theorem ou (s:aN.D):ez Θ (aE jX) (aF []) cG (aN.mk' s) (cU [0,1,7,8] [4] fun x S=>some (x,S))=(aQ s).bind (Sum.elim (fun s'=>some (.nor,aN.mk' s')) fun e=>some (bg.e bD e)):=
 Eq.trans (by kernel_rfl:_=bN s.1.1 s.1.2.2.1 s.1.2.2.2.1 (fun s'=>some (.nor,aN.mk' s')) (fun e=>some (bg.e bD e))) (oJ s _ _)
theorem ov:bP Tryz.prog cG i9:=aW aG iV af (by kernel_rfl) (dp (by kernel_rfl:_= []) ah) [] [0,1,7,8] [4] aN bD (by kernel_rfl) aQ ou cH (gf aQ) (aL aQ)
def cQ {ρ:Type} (a0:List ar) (k:Int×Unit→Option ρ):Option ρ:=
 (cH ((a0,(),(a0.length:Int),0,()),(()),(()))).bind fun e6=>Sum.elim (fun e6_=>k (e6_.1.1,())) (fun _=>k ((-1),())) e6
def cb (a0:List ar):Option (Int×Unit):=cQ a0 some
theorem qk {ρ:Type} (a0:List ar) (k:Int×Unit→Option ρ):cQ a0 k=(cb a0).bind k:=by
 simp only [cb,cQ,bR,Option.bind_assoc,Option.bind_some]
abbrev jY:bc:=bh [.ty (.ls (.st .entry)), .fc 221] [.i .i64] fun x=>cb x.1
theorem ri:ax Tryz.prog 262 jY:=
 an (Λ:=aF [(bU cG,i9)]) (fn:=Tryz.f262) aG iV af (by kernel_rfl) (az (by kernel_rfl:_= [cG]) (aK (q:=bU cG) rfl ov fun _ _ _=>by kernel_rfl)) (by kernel_rfl) (fun x=>cb x.1)
  (fun x=>Eq.trans (by kernel_rfl:_=cQ x.1 (fun y=>ret (ay [.i .i64] y) fun v g=>some (v,g))) (qk x.1 _)) fun _ _ h=>h
abbrev pK:List (Nat×bc):= [(262,jY)]
theorem nY:au Tryz.prog (aE pK):=ae ri <| al _
def ch {ρ:Type} (a0:List ar) (k:Bool×Unit→Option ρ):Option ρ:=
 (cb a0).bind fun y1=>k ((decide (y1.1≥0)),())
def bO (a0:List ar):Option (Bool×Unit):=ch a0 some
theorem ow {ρ:Type} (a0:List ar) (k:Bool×Unit→Option ρ):ch a0 k=(bO a0).bind k:=by
 simp only [bO,ch,Option.bind_assoc,Option.bind_some]
abbrev iW:bc:=bh [.ty (.ls (.st .entry)), .fc 221] [.b] fun x=>bO x.1
theorem pL:ax Tryz.prog 220 iW:=
 an (Λ:=aF []) (fn:=Tryz.f220) aG nY af (by kernel_rfl) (az (by kernel_rfl:_= []) ah) (by kernel_rfl) (fun x=>bO x.1)
  (fun x=>Eq.trans (by kernel_rfl:_=ch x.1 (fun y=>ret (ay [.b] y) fun v g=>some (v,g))) (ow x.1 _)) fun _ _ h=>h
abbrev Ns:List (Nat×bc):= [(220,iW)]
theorem Gw:au Tryz.prog (aE Ns):=ae pL <| al _
def nZ {ρ:Type} (a0:List ar) (k:Bool×Unit→Option ρ):Option ρ:=
 (bO a0).bind fun y1=>k (y1.1,())
def gA (a0:List ar):Option (Bool×Unit):=nZ a0 some
theorem Ij {ρ:Type} (a0:List ar) (k:Bool×Unit→Option ρ):nZ a0 k=(gA a0).bind k:=by
 simp only [gA,nZ,Option.bind_assoc,Option.bind_some]
abbrev vQ:bc:=bh [.ty (.ls (.st .entry))] [.b] fun x=>gA x.1
theorem BF:ax Tryz.prog 162 vQ:=
 an (Λ:=aF []) (fn:=Tryz.f162) aG Gw af (by kernel_rfl) (az (by kernel_rfl:_= []) ah) (by kernel_rfl) (fun x=>gA x.1)
  (fun x=>Eq.trans (by kernel_rfl:_=nZ x.1 (fun y=>ret (ay [.b] y) fun v g=>some (v,g))) (Ij x.1 _)) fun _ _ h=>h
abbrev Nt:List (Nat×bc):= [(162,vQ)]
theorem Gx:au Tryz.prog (aE Nt):=ae BF <| al _
def lb {ρ:Type} (a0:List ar) (k:Bool×Unit→Option ρ):Option ρ:=
 (gA a0).bind fun y1=>k (y1.1,())
def gC (a0:List ar):Option (Bool×Unit):=lb a0 some
theorem Ik {ρ:Type} (a0:List ar) (k:Bool×Unit→Option ρ):lb a0 k=(gC a0).bind k:=by
 simp only [gC,lb,Option.bind_assoc,Option.bind_some]
abbrev BG:bc:=bh [.ty (.ls (.st .entry))] [.b] fun x=>gC x.1
theorem Nu:ax Tryz.prog 94 BG:=
 an (Λ:=aF []) (fn:=Tryz.f94) aG Gx af (by kernel_rfl) (az (by kernel_rfl:_= []) ah) (by kernel_rfl) (fun x=>gC x.1)
  (fun x=>Eq.trans (by kernel_rfl:_=lb x.1 (fun y=>ret (ay [.b] y) fun v g=>some (v,g))) (Ik x.1 _)) fun _ _ h=>h
abbrev KC:List (Nat×bc):= [(165,u6),(137,rd),(176,rv),(177,qa)]
theorem EA:au Tryz.prog (aE KC):=ae yV <| ae tV <| ae uB <| ae sM <| al _
def nh {ρ:Type} (a0:ak) (a1:ai) (k:ak×Bool×Unit→Option ρ):Option ρ:=
 (jH a0).bind fun y1=>(gl a0).bind fun y2=>br (!y2.1) (k (y1.1,false,())) ((fL a1).bind fun y3=>br (!y3.1) (k (y1.1,false,())) (br (!(a1.epoch==(IntKind.wrap .i64 ((a0.configs.length:Int)+1)))) (k (y1.1,false,())) ((dJ a1).bind fun y4=>aq ((y1.1.configs++([y4.1]:List ai)).length*64≤2 ^ 40) (k ((⟨(y1.1.configs++([y4.1]:List ai)),y1.1.activated⟩:ak),true,())) none)))
def gU (a0:ak) (a1:ai):Option (ak×Bool×Unit):=nh a0 a1 some
theorem Gy {ρ:Type} (a0:ak) (a1:ai) (k:ak×Bool×Unit→Option ρ):nh a0 a1 k=(gU a0 a1).bind k:=by
 simp only [gU,nh,ao,ap,Option.bind_none,Option.bind_assoc,Option.bind_some]
abbrev zW:bc:=bh [.ty (.st .masterLog), .ty (.st .config)] [.st .masterLog, .b] fun x=>gU x.1 x.2.1
theorem KD:ax Tryz.prog 107 zW:=
 an (Λ:=aF []) (fn:=Tryz.f107) aG EA af (by kernel_rfl) (az (by kernel_rfl:_= []) ah) (by kernel_rfl) (fun x=>gU x.1 x.2.1)
  (fun x=>Eq.trans (by kernel_rfl:_=nh x.1 x.2.1 (fun y=>ret (ay [.st .masterLog, .b] y) fun v g=>some (v,g))) (Gy x.1 x.2.1 _)) fun _ _ h=>h
abbrev X6:List (Nat×bc):= [(179,Gh),(80,mQ)]
theorem RU:au Tryz.prog (aE X6):=ae Ld <| ae pi <| al _
def vR {ρ:Type} (a0:List ar) (k:Int×(List ar)×Unit→Option ρ):Option ρ:=
 (qg a0).bind fun y1=>br (!y1.1) (k (0,([]:List ar),())) (aq (0≤(if (IntKind.wrap .i64 ((a0.length:Int) - 3)) > 0 then (IntKind.wrap .i64 ((a0.length:Int) - 3)) else 0)∧(if (IntKind.wrap .i64 ((a0.length:Int) - 3)) > 0 then (IntKind.wrap .i64 ((a0.length:Int) - 3)) else 0)≤(a0.length:Int)∧(a0.length:Int)≤(a0.length:Int)) ((dt ((a0.drop (if (IntKind.wrap .i64 ((a0.length:Int) - 3)) > 0 then (IntKind.wrap .i64 ((a0.length:Int) - 3)) else 0).toNat).take ((a0.length:Int).toNat - (if (IntKind.wrap .i64 ((a0.length:Int) - 3)) > 0 then (IntKind.wrap .i64 ((a0.length:Int) - 3)) else 0).toNat))).bind fun y2=>k ((if (IntKind.wrap .i64 ((a0.length:Int) - 3)) > 0 then (IntKind.wrap .i64 ((a0.length:Int) - 3)) else 0),y2.1,())) none)
def sd (a0:List ar):Option (Int×(List ar)×Unit):=vR a0 some
theorem Uw {ρ:Type} (a0:List ar) (k:Int×(List ar)×Unit→Option ρ):vR a0 k=(sd a0).bind k:=by
 simp only [sd,vR,ao,ap,Option.bind_none,Option.bind_assoc,Option.bind_some]
abbrev Qf:bc:=bh [.ty (.ls (.st .entry))] [.i .i64, .ls (.st .entry)] fun x=>sd x.1
theorem X7:ax Tryz.prog 180 Qf:=
 an (Λ:=aF []) (fn:=Tryz.f180) aG RU af (by kernel_rfl) (az (by kernel_rfl:_= []) ah) (by kernel_rfl) (fun x=>sd x.1)
  (fun x=>Eq.trans (by kernel_rfl:_=vR x.1 (fun y=>ret (ay [.i .i64, .ls (.st .entry)] y) fun v g=>some (v,g))) (Uw x.1 _)) fun _ _ h=>h
abbrev KE:List (Nat×bc):= [(178,Nm),(163,yT),(179,Gh),(135,jy),(141,wK),(162,vQ),(177,qa),(80,mQ),(180,Qf)]
theorem EB:au Tryz.prog (aE KE):=ae Ur <| ae FU <| ae Ld <| ae kz <| ae BB <| ae BF <| ae sM <| ae pi <| ae X7 <| al _
def ni {ρ:Type} (a0:am) (a1:ai) (a2:Int) (a3:List ar) (k:am×Bool×Unit→Option ρ):Option ρ:=
 (um a1 a2).bind fun y1=>br (y1.1==0) ((eW a0).bind fun y2=>k (y2.1,false,())) ((qg a3).bind fun y3=>br (!y3.1) ((eW a0).bind fun y4=>k (y4.1,false,())) ((ct a0.version 1 2).bind fun y5=>br (!y5.1) ((eW a0).bind fun y6=>k (y6.1,false,())) ((ct a0.epoch 0 a1.epoch).bind fun y7=>br (!y7.1) ((eW a0).bind fun y8=>k (y8.1,false,())) ((lB a3).bind fun y9=>br (decide (y9.1 > a1.epoch)) ((eW a0).bind fun y10=>k (y10.1,false,())) (br (a0.version==1) ((gA a3).bind fun y11=>br y11.1 ((eW a0).bind fun y12=>k (y12.1,false,())) ((dJ a1).bind fun y13=>(dt a3).bind fun y14=>br (y1.1==3) ((sd a3).bind fun y15=>k ((⟨a0.up,true,a0.version,a1.epoch,y13.1,y15.1,y15.2.1,(a3.length:Int),([]:List ar)⟩:am),true,())) (k ((⟨a0.up,true,a0.version,a1.epoch,y13.1,0,y14.1,(a3.length:Int),([]:List ar)⟩:am),true,())))) ((dJ a1).bind fun y16=>(dt a3).bind fun y17=>br (y1.1==3) ((sd a3).bind fun y18=>k ((⟨a0.up,true,a0.version,a1.epoch,y16.1,y18.1,y18.2.1,(a3.length:Int),([]:List ar)⟩:am),true,())) (k ((⟨a0.up,true,a0.version,a1.epoch,y16.1,0,y17.1,(a3.length:Int),([]:List ar)⟩:am),true,()))))))))
def gV (a0:am) (a1:ai) (a2:Int) (a3:List ar):Option (am×Bool×Unit):=ni a0 a1 a2 a3 some
theorem Gz {ρ:Type} (a0:am) (a1:ai) (a2:Int) (a3:List ar) (k:am×Bool×Unit→Option ρ):ni a0 a1 a2 a3 k=(gV a0 a1 a2 a3).bind k:=by
 simp only [gV,ni,ao,Option.bind_assoc,Option.bind_some]
abbrev zX:bc:=bh [.ty (.st .server), .ty (.st .config), .ty (.i .i64), .ty (.ls (.st .entry))] [.st .server, .b] fun x=>gV x.1 x.2.1 x.2.2.1 x.2.2.2.1
theorem KF:ax Tryz.prog 108 zX:=
 an (Λ:=aF []) (fn:=Tryz.f108) aG EB af (by kernel_rfl) (az (by kernel_rfl:_= []) ah) (by kernel_rfl) (fun x=>gV x.1 x.2.1 x.2.2.1 x.2.2.2.1)
  (fun x=>Eq.trans (by kernel_rfl:_=ni x.1 x.2.1 x.2.2.1 x.2.2.2.1 (fun y=>ret (ay [.st .server, .b] y) fun v g=>some (v,g))) (Gz x.1 x.2.1 x.2.2.1 x.2.2.2.1 _)) fun _ _ h=>h
abbrev Il:List (Nat×bc):= [(165,u6),(137,rd)]
theorem CL:au Tryz.prog (aE Il):=ae yV <| ae tV <| al _
def lD {ρ:Type} (a0:ak) (a1:Int) (k:ak×Bool×Unit→Option ρ):Option ρ:=
 (jH a0).bind fun y1=>(gl a0).bind fun y2=>br (!y2.1) (k (y1.1,false,())) (br (!(a1==(a0.configs.length:Int))) (k (y1.1,false,())) (br (decide (a1≤a0.activated)) (k (y1.1,false,())) (k ((⟨y1.1.configs,a1⟩:ak),true,()))))
def f9 (a0:ak) (a1:Int):Option (ak×Bool×Unit):=lD a0 a1 some
theorem EC {ρ:Type} (a0:ak) (a1:Int) (k:ak×Bool×Unit→Option ρ):lD a0 a1 k=(f9 a0 a1).bind k:=by
 simp only [f9,lD,ao,Option.bind_assoc,Option.bind_some]
abbrev yj:bc:=bh [.ty (.st .masterLog), .ty (.i .i64)] [.st .masterLog, .b] fun x=>f9 x.1 x.2.1
theorem Im:ax Tryz.prog 109 yj:=
 an (Λ:=aF []) (fn:=Tryz.f109) aG CL af (by kernel_rfl) (az (by kernel_rfl:_= []) ah) (by kernel_rfl) (fun x=>f9 x.1 x.2.1)
  (fun x=>Eq.trans (by kernel_rfl:_=lD x.1 x.2.1 (fun y=>ret (ay [.st .masterLog, .b] y) fun v g=>some (v,g))) (EC x.1 x.2.1 _)) fun _ _ h=>h
end
end Go.Proofs.YtkcgfceffffmoaaGreat.En
