/- Printed by a program: the walk. -/
import Derived.Test.YtkcgfceffffmoaaGreatZTh
namespace Go.Proofs.YtkcgfceffffmoaaGreat.En
open Go
noncomputable section
def T3:ByteArray:=⟨⟨[0,1,2,2,3,3,3,3,4,4,4,4,4,4,4,4,5,5,5,5,5,5,5,5,5,5,5,5,5,5,5,5,6,6,6,6,6,6,6,6,6,6,6,6,6,6,6,6,6,6,6,6,6,6,6,6,6,6,6,6,6,6,6,6,7,7,7,7,7,7,7,7,7,7,7,7,7,7,7,7,7,7,7,7,7,7,7,7,7,7,7,7,7,7,7,7,7,7,7,7,7,7,7,7,7,7,7,7,7,7,7,7,7,7,7,7,7,7,7,7,7,7,7,7,7,7,7,7,8,8,8,8,8,8,8,8,8,8,8,8,8,8,8,8,8,8,8,8,8,8,8,8,8,8,8,8,8,8,8,8,8,8,8,8,8,8,8,8,8,8,8,8,8,8,8,8,8,8,8,8,8,8,8,8,8,8,8,8,8,8,8,8,8,8,8,8,8,8,8,8,8,8,8,8,8,8,8,8,8,8,8,8,8,8,8,8,8,8,8,8,8,8,8,8,8,8,8,8,8,8,8,8,8,8,8,8,8,8,8,8,8,8,8,8,8,8,8,8,8,8,8,8,8,8,8,8]⟩⟩
theorem af:Tryz.prog.follows .mixedOrders=true:=by kernel_rfl
abbrev Pu:List (Nat×bA):= []
theorem JB:az Tryz.prog (aP Pu):=aj _
def vi {ρ:Type} (a0:List Int) (a1:Int) (k:Int×Unit→Option ρ):Option ρ:=
 br (decide ((IntKind.wrap .i64 (a1 - (a0.length:Int))) < 0)) (k ((-1),())) (k ((IntKind.wrap .i64 (a1 - (a0.length:Int))),()))
def nx (a0:List Int) (a1:Int):Option (Int×Unit):=vi a0 a1 some
theorem Lj {ρ:Type} (a0:List Int) (a1:Int) (k:Int×Unit→Option ρ):vi a0 a1 k=(nx a0 a1).bind k:=by
 simp only [nx,vi,al,Option.bind_some]
abbrev DA:bA:=bO [.ty (.ls (.i .i64)), .ty (.i .i64)] [.i .i64] fun x=>nx x.1 x.2.1
theorem JC:aF Tryz.prog 43 DA:=
 ak (Λ:=aO []) (fn:=Tryz.f43) aR JB af (by kernel_rfl) (aM (by kernel_rfl:_= []) ah) (by kernel_rfl) (fun x=>nx x.1 x.2.1)
  (fun x=>Eq.trans (by kernel_rfl:_=vi x.1 x.2.1 (fun y=>ret (aH [.i .i64] y) fun v g=>some (v,g))) (Lj x.1 x.2.1 _)) fun _ _ h=>h
abbrev Lk:List (Nat×bA):= [(43,DA)]
theorem Fd:az Tryz.prog (aP Lk):=ae JC <| aj _
def na {ρ:Type} (a0:ai) (a1:Int) (k:Int×Unit→Option ρ):Option ρ:=
 (nx a0.replicas a1).bind fun y1=>br (decide (y1.1 < 0)) (k ((-1),())) ((nx a0.witnesses y1.1).bind fun y2=>br (decide (y2.1 < 0)) (k ((-1),())) (k (y2.1,())))
def fK (a0:ai) (a1:Int):Option (Int×Unit):=na a0 a1 some
theorem Hq {ρ:Type} (a0:ai) (a1:Int) (k:Int×Unit→Option ρ):na a0 a1 k=(fK a0 a1).bind k:=by
 simp only [fK,na,al,Option.bind_assoc,Option.bind_some]
abbrev wG:bA:=bO [.ty (.st .config), .ty (.i .i64)] [.i .i64] fun x=>fK x.1 x.2.1
theorem DB:aF Tryz.prog 206 wG:=
 ak (Λ:=aO []) (fn:=Tryz.f206) aR Fd af (by kernel_rfl) (aM (by kernel_rfl:_= []) ah) (by kernel_rfl) (fun x=>fK x.1 x.2.1)
  (fun x=>Eq.trans (by kernel_rfl:_=na x.1 x.2.1 (fun y=>ret (aH [.i .i64] y) fun v g=>some (v,g))) (Hq x.1 x.2.1 _)) fun _ _ h=>h
abbrev Ll:List (Nat×bA):= []
theorem Fe:az Tryz.prog (aP Ll):=aj _
def qG {ρ:Type} (a0:List aA) (a1:Int) (k:Int×Unit→Option ρ):Option ρ:=
 br (decide ((IntKind.wrap .i64 (a1 - (a0.length:Int))) < 0)) (k ((-1),())) (k ((IntKind.wrap .i64 (a1 - (a0.length:Int))),()))
def kM (a0:List aA) (a1:Int):Option (Int×Unit):=qG a0 a1 some
theorem Hr {ρ:Type} (a0:List aA) (a1:Int) (k:Int×Unit→Option ρ):qG a0 a1 k=(kM a0 a1).bind k:=by
 simp only [kM,qG,al,Option.bind_some]
abbrev DC:bA:=bO [.ty (.ls (.st .entry)), .ty (.i .i64)] [.i .i64] fun x=>kM x.1 x.2.1
theorem Lm:aF Tryz.prog 207 DC:=
 ak (Λ:=aO []) (fn:=Tryz.f207) aR Fe af (by kernel_rfl) (aM (by kernel_rfl:_= []) ah) (by kernel_rfl) (fun x=>kM x.1 x.2.1)
  (fun x=>Eq.trans (by kernel_rfl:_=qG x.1 x.2.1 (fun y=>ret (aH [.i .i64] y) fun v g=>some (v,g))) (Hr x.1 x.2.1 _)) fun _ _ h=>h
abbrev Ln:List (Nat×bA):= [(206,wG),(207,DC)]
theorem Ff:az Tryz.prog (aP Ln):=ae DB <| ae Lm <| aj _
def nc {ρ:Type} (a0:ay) (a1:Int) (k:Int×Unit→Option ρ):Option ρ:=
 (fK a0.config a1).bind fun y1=>br (decide (y1.1 < 0)) (k ((-1),())) ((kM a0.log y1.1).bind fun y2=>br (decide (y2.1 < 0)) (k ((-1),())) ((kM a0.learned y2.1).bind fun y3=>br (decide (y3.1 < 0)) (k ((-1),())) (k (y3.1,()))))
def gF (a0:ay) (a1:Int):Option (Int×Unit):=nc a0 a1 some
theorem Hs {ρ:Type} (a0:ay) (a1:Int) (k:Int×Unit→Option ρ):nc a0 a1 k=(gF a0 a1).bind k:=by
 simp only [gF,nc,al,Option.bind_assoc,Option.bind_some]
abbrev DD:bA:=bO [.ty (.st .server), .ty (.i .i64)] [.i .i64] fun x=>gF x.1 x.2.1
theorem Lo:aF Tryz.prog 118 DD:=
 ak (Λ:=aO []) (fn:=Tryz.f118) aR Ff af (by kernel_rfl) (aM (by kernel_rfl:_= []) ah) (by kernel_rfl) (fun x=>gF x.1 x.2.1)
  (fun x=>Eq.trans (by kernel_rfl:_=nc x.1 x.2.1 (fun y=>ret (aH [.i .i64] y) fun v g=>some (v,g))) (Hs x.1 x.2.1 _)) fun _ _ h=>h
abbrev AY:List (Nat×bA):= [(118,DD)]
theorem ud:az Tryz.prog (aP AY):=ae Lo <| aj _
noncomputable abbrev lX:Code:=cu (cm Tryz.f42) 0
abbrev dH:ev:=⟨[(0, .cl (.ro (.st .server))),(1, .cl (.int .i64)),(5, .cl (.int .i64))],[],[],0,27⟩
abbrev iO:List (X×ev):= [(.ret,⟨[(1, .cl (.int .i64)),(4, .cl (.int .i64))],[],[],0,27⟩),(.ext 0,⟨[(1, .cl (.int .i64)),(4, .cl (.dead))],[],[],0,27⟩)]
def ny {ρ:Type} (v1:List ay) (v2:Int) (v3:Int) (fn: (((List ay)×Int×Int×Unit)×(Unit)×(Unit))→Option ρ) (fe: ((Int×Int×Unit)×(Unit)×(Unit))⊕((Int×Unit×Unit)×(Unit)×(Unit))→Option ρ):Option ρ:=
 br (decide (v3 < (v1.length:Int))) (aq (0≤v3) ((v1[v3.toNat]?).bind fun x4=>(gF x4 v2).bind fun y5=>br (decide (y5.1 < 0)) (fe (.inl ((y5.1,(-1),()),(()),(())))) (fn ((v1,y5.1,(IntKind.wrap .i64 (v3+1)),()),(()),(())))) none) (fe (.inr ((v2,(),()),(()),(()))))
def ft (s:dH.D):Option (dH.D⊕bq.D iO):=ny s.1.1 s.1.2.1 s.1.2.2.1 (fun s=>some (.inl s)) (fun e=>some (.inr e))
def rh:dH.D→Option (bq.D iO):=jF ft
theorem BA {ρ:Type} (s:dH.D) (fn:dH.D→Option ρ) (fe:bq.D iO→Option ρ):ny s.1.1 s.1.2.1 s.1.2.2.1 fn fe=(ft s).bind (Sum.elim fn fe):=by
 simp only [ft,ny,al,ap,Option.bind_none,Option.bind_assoc,Option.bind_some,Sum.elim_inl,Sum.elim_inr]
abbrev vI:dg:=dB [] [0,1,5] dH iO rh
theorem zK (s:dH.D):eP Θ (aP AY) (aO []) lX (dH.mk' s) (dp [0,1,5] [1,4] fun x S=>some (x,S))=(ft s).bind (Sum.elim (fun s'=>some (.nor,dH.mk' s')) fun e=>some (bq.e iO e)):=
 Eq.trans (by kernel_rfl:_=ny s.1.1 s.1.2.1 s.1.2.2.1 (fun s'=>some (.nor,dH.mk' s')) (fun e=>some (bq.e iO e))) (BA s _ _)
theorem zL:ck Tryz.prog lX vI:=bi aR ud af (by kernel_rfl) (dF (by kernel_rfl:_= []) ah) [] [0,1,5] [1,4] dH iO (by kernel_rfl) ft zK rh (hU ft) (aW ft)
def pw {ρ:Type} (a0:List ay) (a1:Int) (k:Int×Unit→Option ρ):Option ρ:=
 br (decide ((IntKind.wrap .i64 (a1 - (a0.length:Int))) < 0)) (k ((-1),())) ((rh ((a0,(IntKind.wrap .i64 (a1 - (a0.length:Int))),0,()),(()),(()))).bind fun e6=>Sum.elim (fun e6_=>k (e6_.1.2.1,())) (fun e6_=>k (e6_.1.1,())) e6)
def kN (a0:List ay) (a1:Int):Option (Int×Unit):=pw a0 a1 some
theorem Fg {ρ:Type} (a0:List ay) (a1:Int) (k:Int×Unit→Option ρ):pw a0 a1 k=(kN a0 a1).bind k:=by
 simp only [kN,pw,al,cv,Option.bind_assoc,Option.bind_some]
abbrev AZ:bA:=bO [.ty (.ls (.st .server)), .ty (.i .i64)] [.i .i64] fun x=>kN x.1 x.2.1
theorem JD:aF Tryz.prog 42 AZ:=
 ak (Λ:=aO [(b8 lX,vI)]) (fn:=Tryz.f42) aR ud af (by kernel_rfl) (aM (by kernel_rfl:_= [lX]) (aV (q:=b8 lX) rfl zL fun _ _ _=>by kernel_rfl)) (by kernel_rfl) (fun x=>kN x.1 x.2.1)
  (fun x=>Eq.trans (by kernel_rfl:_=pw x.1 x.2.1 (fun y=>ret (aH [.i .i64] y) fun v g=>some (v,g))) (Fg x.1 x.2.1 _)) fun _ _ h=>h
abbrev A0:List (Nat×bA):= [(206,wG)]
theorem ue:az Tryz.prog (aP A0):=ae DB <| aj _
noncomputable abbrev lY:Code:=cu (cm Tryz.f119) 0
abbrev dI:ev:=⟨[(0, .cl (.ro (.st .config))),(1, .cl (.int .i64)),(5, .cl (.int .i64))],[],[],0,27⟩
abbrev iP:List (X×ev):= [(.ret,⟨[(1, .cl (.int .i64)),(4, .cl (.int .i64))],[],[],0,27⟩),(.ext 0,⟨[(1, .cl (.int .i64)),(4, .cl (.dead))],[],[],0,27⟩)]
def nz {ρ:Type} (v1:List ai) (v2:Int) (v3:Int) (fn: (((List ai)×Int×Int×Unit)×(Unit)×(Unit))→Option ρ) (fe: ((Int×Int×Unit)×(Unit)×(Unit))⊕((Int×Unit×Unit)×(Unit)×(Unit))→Option ρ):Option ρ:=
 br (decide (v3 < (v1.length:Int))) (aq (0≤v3) ((v1[v3.toNat]?).bind fun x4=>(fK x4 v2).bind fun y5=>br (decide (y5.1 < 0)) (fe (.inl ((y5.1,(-1),()),(()),(())))) (fn ((v1,y5.1,(IntKind.wrap .i64 (v3+1)),()),(()),(())))) none) (fe (.inr ((v2,(),()),(()),(()))))
def fu (s:dI.D):Option (dI.D⊕bq.D iP):=nz s.1.1 s.1.2.1 s.1.2.2.1 (fun s=>some (.inl s)) (fun e=>some (.inr e))
def ri:dI.D→Option (bq.D iP):=jF fu
theorem BB {ρ:Type} (s:dI.D) (fn:dI.D→Option ρ) (fe:bq.D iP→Option ρ):nz s.1.1 s.1.2.1 s.1.2.2.1 fn fe=(fu s).bind (Sum.elim fn fe):=by
 simp only [fu,nz,al,ap,Option.bind_none,Option.bind_assoc,Option.bind_some,Sum.elim_inl,Sum.elim_inr]
abbrev vJ:dg:=dB [] [0,1,5] dI iP ri
theorem zM (s:dI.D):eP Θ (aP A0) (aO []) lY (dI.mk' s) (dp [0,1,5] [1,4] fun x S=>some (x,S))=(fu s).bind (Sum.elim (fun s'=>some (.nor,dI.mk' s')) fun e=>some (bq.e iP e)):=
 Eq.trans (by kernel_rfl:_=nz s.1.1 s.1.2.1 s.1.2.2.1 (fun s'=>some (.nor,dI.mk' s')) (fun e=>some (bq.e iP e))) (BB s _ _)
theorem zN:ck Tryz.prog lY vJ:=bi aR ue af (by kernel_rfl) (dF (by kernel_rfl:_= []) ah) [] [0,1,5] [1,4] dI iP (by kernel_rfl) fu zM ri (hU fu) (aW fu)
def pz {ρ:Type} (a0:List ai) (a1:Int) (k:Int×Unit→Option ρ):Option ρ:=
 br (decide ((IntKind.wrap .i64 (a1 - (a0.length:Int))) < 0)) (k ((-1),())) ((ri ((a0,(IntKind.wrap .i64 (a1 - (a0.length:Int))),0,()),(()),(()))).bind fun e6=>Sum.elim (fun e6_=>k (e6_.1.2.1,())) (fun e6_=>k (e6_.1.1,())) e6)
def kO (a0:List ai) (a1:Int):Option (Int×Unit):=pz a0 a1 some
theorem Fh {ρ:Type} (a0:List ai) (a1:Int) (k:Int×Unit→Option ρ):pz a0 a1 k=(kO a0 a1).bind k:=by
 simp only [kO,pz,al,cv,Option.bind_assoc,Option.bind_some]
abbrev A1:bA:=bO [.ty (.ls (.st .config)), .ty (.i .i64)] [.i .i64] fun x=>kO x.1 x.2.1
theorem JE:aF Tryz.prog 119 A1:=
 ak (Λ:=aO [(b8 lY,vJ)]) (fn:=Tryz.f119) aR ue af (by kernel_rfl) (aM (by kernel_rfl:_= [lY]) (aV (q:=b8 lY) rfl zN fun _ _ _=>by kernel_rfl)) (by kernel_rfl) (fun x=>kO x.1 x.2.1)
  (fun x=>Eq.trans (by kernel_rfl:_=pz x.1 x.2.1 (fun y=>ret (aH [.i .i64] y) fun v g=>some (v,g))) (Fh x.1 x.2.1 _)) fun _ _ h=>h
abbrev Fi:List (Nat×bA):= [(119,A1)]
theorem zO:az Tryz.prog (aP Fi):=ae JE <| aj _
def jg {ρ:Type} (a0:aw) (a1:Int) (k:Int×Unit→Option ρ):Option ρ:=
 (kO a0.configs a1).bind fun y1=>br (decide (y1.1 < 0)) (k ((-1),())) (k (y1.1,()))
def fv (a0:aw) (a1:Int):Option (Int×Unit):=jg a0 a1 some
theorem BC {ρ:Type} (a0:aw) (a1:Int) (k:Int×Unit→Option ρ):jg a0 a1 k=(fv a0 a1).bind k:=by
 simp only [fv,jg,al,Option.bind_assoc,Option.bind_some]
abbrev vK:bA:=bO [.ty (.st .masterLog), .ty (.i .i64)] [.i .i64] fun x=>fv x.1 x.2.1
theorem Fj:aF Tryz.prog 44 vK:=
 ak (Λ:=aO []) (fn:=Tryz.f44) aR zO af (by kernel_rfl) (aM (by kernel_rfl:_= []) ah) (by kernel_rfl) (fun x=>fv x.1 x.2.1)
  (fun x=>Eq.trans (by kernel_rfl:_=jg x.1 x.2.1 (fun y=>ret (aH [.i .i64] y) fun v g=>some (v,g))) (BC x.1 x.2.1 _)) fun _ _ h=>h
abbrev Lp:List (Nat×bA):= []
theorem Fk:az Tryz.prog (aP Lp):=aj _
def qH {ρ:Type} (a0:List bh) (a1:Int) (k:Int×Unit→Option ρ):Option ρ:=
 br (decide ((IntKind.wrap .i64 (a1 - (a0.length:Int))) < 0)) (k ((-1),())) (k ((IntKind.wrap .i64 (a1 - (a0.length:Int))),()))
def mF (a0:List bh) (a1:Int):Option (Int×Unit):=qH a0 a1 some
theorem Ht {ρ:Type} (a0:List bh) (a1:Int) (k:Int×Unit→Option ρ):qH a0 a1 k=(mF a0 a1).bind k:=by
 simp only [mF,qH,al,Option.bind_some]
abbrev DE:bA:=bO [.ty (.ls (.st .place)), .ty (.i .i64)] [.i .i64] fun x=>mF x.1 x.2.1
theorem Lq:aF Tryz.prog 45 DE:=
 ak (Λ:=aO []) (fn:=Tryz.f45) aR Fk af (by kernel_rfl) (aM (by kernel_rfl:_= []) ah) (by kernel_rfl) (fun x=>mF x.1 x.2.1)
  (fun x=>Eq.trans (by kernel_rfl:_=qH x.1 x.2.1 (fun y=>ret (aH [.i .i64] y) fun v g=>some (v,g))) (Ht x.1 x.2.1 _)) fun _ _ h=>h
abbrev JF:List (Nat×bA):= [(42,AZ),(43,DA),(44,vK),(45,DE)]
theorem DF:az Tryz.prog (aP JF):=ae JD <| ae JC <| ae Fj <| ae Lq <| aj _
def lD {ρ:Type} (a0:aQ) (a1:Int) (k:Int×Unit→Option ρ):Option ρ:=
 (kN a0.servers a1).bind fun y1=>br (decide (y1.1 < 0)) (k ((-1),())) ((nx a0.sides y1.1).bind fun y2=>br (decide (y2.1 < 0)) (k ((-1),())) ((fv a0.master y2.1).bind fun y3=>br (decide (y3.1 < 0)) (k ((-1),())) ((mF a0.places y3.1).bind fun y4=>br (decide (y4.1 < 0)) (k ((-1),())) (k (y4.1,())))))
def f8 (a0:aQ) (a1:Int):Option (Int×Unit):=lD a0 a1 some
theorem Fl {ρ:Type} (a0:aQ) (a1:Int) (k:Int×Unit→Option ρ):lD a0 a1 k=(f8 a0 a1).bind k:=by
 simp only [f8,lD,al,Option.bind_assoc,Option.bind_some]
abbrev A2:bA:=bO [.ty (.st .cluster), .ty (.i .i64)] [.i .i64] fun x=>f8 x.1 x.2.1
theorem JG:aF Tryz.prog 12 A2:=
 ak (Λ:=aO []) (fn:=Tryz.f12) aR DF af (by kernel_rfl) (aM (by kernel_rfl:_= []) ah) (by kernel_rfl) (fun x=>f8 x.1 x.2.1)
  (fun x=>Eq.trans (by kernel_rfl:_=lD x.1 x.2.1 (fun y=>ret (aH [.i .i64] y) fun v g=>some (v,g))) (Fl x.1 x.2.1 _)) fun _ _ h=>h
abbrev JH:List (Nat×bA):= []
theorem A3:az Tryz.prog (aP JH):=aj _
noncomputable abbrev pW:Code:=cu (cm Tryz.f53) 0
abbrev gG:ev:=⟨[(0, .cl (.ro (.i .i64))),(3, .cl (.own 0 (.i .i64))),(4, .cl (.int .i64))],[],[.i .i64],0,22⟩
abbrev mG:List (X×ev):= [(.ext 0,⟨[(3, .cl (.own 0 (.i .i64)))],[],[.i .i64],0,22⟩)]
def qI {ρ:Type} (v1:List Int) (v2:List Int) (v3:Int) (fn: (((List Int)×Unit×Int×Unit)×(Unit)×((List Int)×Unit))→Option ρ) (fe: ((Unit×Unit)×(Unit)×((List Int)×Unit))→Option ρ):Option ρ:=
 br (decide (v3 < (v2.length:Int))) (aq (0≤v3) ((v2[v3.toNat]?).bind fun x4=>aq (0≤v3∧v3 < (v1.length:Int)) ((v1[v3.toNat]?).bind fun _=>fn ((v2,(),(IntKind.wrap .i64 (v3+1)),()),(()),((v1.set v3.toNat x4),()))) none) none) (fe (((),()),(()),(v1,())))
def kP (s:gG.D):Option (gG.D⊕bq.D mG):=qI s.2.2.1 s.1.1 s.1.2.2.1 (fun s=>some (.inl s)) (fun e=>some (.inr e))
def wH:gG.D→Option (bq.D mG):=jF kP
theorem Hu {ρ:Type} (s:gG.D) (fn:gG.D→Option ρ) (fe:bq.D mG→Option ρ):qI s.2.2.1 s.1.1 s.1.2.2.1 fn fe=(kP s).bind (Sum.elim fn fe):=by
 simp only [kP,qI,al,ap,Option.bind_none,Option.bind_assoc,Option.bind_some,Sum.elim_inl,Sum.elim_inr]
abbrev DG:dg:=dB [] [0,3,4] gG mG wH
theorem Fm (s:gG.D):eP Θ (aP JH) (aO []) pW (gG.mk' s) (dp [0,3,4] [3] fun x S=>some (x,S))=(kP s).bind (Sum.elim (fun s'=>some (.nor,gG.mk' s')) fun e=>some (bq.e mG e)):=
 Eq.trans (by kernel_rfl:_=qI s.2.2.1 s.1.1 s.1.2.2.1 (fun s'=>some (.nor,gG.mk' s')) (fun e=>some (bq.e mG e))) (Hu s _ _)
theorem Fn:ck Tryz.prog pW DG:=bi aR A3 af (by kernel_rfl) (dF (by kernel_rfl:_= []) ah) [] [0,3,4] [3] gG mG (by kernel_rfl) kP Fm wH (hU kP) (aW kP)
def vj {ρ:Type} (a0:List Int) (k: (List Int)×Unit→Option ρ):Option ρ:=
 aq (0≤(a0.length:Int)∧(a0.length:Int)=(a0.length:Int)∧(a0.length:Int)*((8:Nat):Int)≤2 ^ 40) ((wH ((a0,(),0,()),(()),((List.replicate (a0.length:Int).toNat (0:Int)),()))).bind fun e7=>k (e7.2.2.1,())) none
def nA (a0:List Int):Option ((List Int)×Unit):=vj a0 some
theorem Lr {ρ:Type} (a0:List Int) (k: (List Int)×Unit→Option ρ):vj a0 k=(nA a0).bind k:=by
 simp only [nA,vj,ap,Option.bind_none,Option.bind_assoc,Option.bind_some]
abbrev DH:bA:=bO [.ty (.ls (.i .i64))] [.ls (.i .i64)] fun x=>nA x.1
theorem JI:aF Tryz.prog 53 DH:=
 ak (Λ:=aO [(b8 pW,DG)]) (fn:=Tryz.f53) aR A3 af (by kernel_rfl) (aM (by kernel_rfl:_= [pW]) (aV (q:=b8 pW) rfl Fn fun _ _ _=>by kernel_rfl)) (by kernel_rfl) (fun x=>nA x.1)
  (fun x=>Eq.trans (by kernel_rfl:_=vj x.1 (fun y=>ret (aH [.ls (.i .i64)] y) fun v g=>some (v,g))) (Lr x.1 _)) fun _ _ h=>h
abbrev Ls:List (Nat×bA):= [(53,DH)]
theorem Fo:az Tryz.prog (aP Ls):=ae JI <| aj _
def oT {ρ:Type} (a0:ai) (k:ai×Unit→Option ρ):Option ρ:=
 (nA a0.replicas).bind fun y1=>(nA a0.witnesses).bind fun y2=>k ((⟨a0.epoch,a0.primary,y1.1,y2.1⟩:ai),())
def jL (a0:ai):Option (ai×Unit):=oT a0 some
theorem Hv {ρ:Type} (a0:ai) (k:ai×Unit→Option ρ):oT a0 k=(jL a0).bind k:=by
 simp only [jL,oT,Option.bind_assoc,Option.bind_some]
abbrev wI:bA:=bO [.ty (.st .config)] [.st .config] fun x=>jL x.1
theorem DI:aF Tryz.prog 208 wI:=
 ak (Λ:=aO []) (fn:=Tryz.f208) aR Fo af (by kernel_rfl) (aM (by kernel_rfl:_= []) ah) (by kernel_rfl) (fun x=>jL x.1)
  (fun x=>Eq.trans (by kernel_rfl:_=oT x.1 (fun y=>ret (aH [.st .config] y) fun v g=>some (v,g))) (Hv x.1 _)) fun _ _ h=>h
abbrev Sl:List (Nat×bA):= []
theorem Ns:az Tryz.prog (aP Sl):=aj _
def CF {ρ:Type} (a0:Op) (k:Op×Unit→Option ρ):Option ρ:=
 k (a0,())
def DJ (a0:Op):Option (Op×Unit):=CF a0 some
theorem Pv {ρ:Type} (a0:Op) (k:Op×Unit→Option ρ):CF a0 k=(DJ a0).bind k:=by
 simp only [DJ,CF,Option.bind_some]
abbrev Pw:bA:=bO [.ty (.st .op)] [.st .op] fun x=>DJ x.1
theorem So:aF Tryz.prog 40 Pw:=
 ak (Λ:=aO []) (fn:=Tryz.f40) aR Ns af (by kernel_rfl) (aM (by kernel_rfl:_= []) ah) (by kernel_rfl) (fun x=>DJ x.1)
  (fun x=>Eq.trans (by kernel_rfl:_=CF x.1 (fun y=>ret (aH [.st .op] y) fun v g=>some (v,g))) (Pv x.1 _)) fun _ _ h=>h
abbrev Nt:List (Nat×bA):= [(40,Pw)]
theorem Hw:az Tryz.prog (aP Nt):=ae So <| aj _
def sK {ρ:Type} (a0:aA) (k:aA×Unit→Option ρ):Option ρ:=
 (DJ a0.op).bind fun y1=>k ((⟨a0.epoch,y1.1⟩:aA),())
def pK (a0:aA):Option (aA×Unit):=sK a0 some
theorem JJ {ρ:Type} (a0:aA) (k:aA×Unit→Option ρ):sK a0 k=(pK a0).bind k:=by
 simp only [pK,sK,Option.bind_assoc,Option.bind_some]
abbrev Gm:bA:=bO [.ty (.st .entry)] [.st .entry] fun x=>pK x.1
theorem Nu:aF Tryz.prog 265 Gm:=
 ak (Λ:=aO []) (fn:=Tryz.f265) aR Hw af (by kernel_rfl) (aM (by kernel_rfl:_= []) ah) (by kernel_rfl) (fun x=>pK x.1)
  (fun x=>Eq.trans (by kernel_rfl:_=sK x.1 (fun y=>ret (aH [.st .entry] y) fun v g=>some (v,g))) (JJ x.1 _)) fun _ _ h=>h
abbrev DK:List (Nat×bA):= [(265,Gm)]
theorem vL:az Tryz.prog (aP DK):=ae Nu <| aj _
noncomputable abbrev nB:Code:=cu (cm Tryz.f209) 0
abbrev ew:ev:=⟨[(0, .cl (.ro (.st .entry))),(3, .cl (.own 0 (.st .entry))),(4, .cl (.int .i64))],[],[.st .entry],0,23⟩
abbrev jM:List (X×ev):= [(.ext 0,⟨[(3, .cl (.own 0 (.st .entry)))],[],[.st .entry],0,23⟩)]
def oH {ρ:Type} (v1:List aA) (v2:List aA) (v3:Int) (fn: (((List aA)×Unit×Int×Unit)×(Unit)×((List aA)×Unit))→Option ρ) (fe: ((Unit×Unit)×(Unit)×((List aA)×Unit))→Option ρ):Option ρ:=
 br (decide (v3 < (v2.length:Int))) (aq (0≤v3) ((v2[v3.toNat]?).bind fun x4=>(pK x4).bind fun y5=>aq (0≤v3∧v3 < (v1.length:Int)) ((v1[v3.toNat]?).bind fun _=>fn ((v2,(),(IntKind.wrap .i64 (v3+1)),()),(()),((v1.set v3.toNat y5.1),()))) none) none) (fe (((),()),(()),(v1,())))
def ir (s:ew.D):Option (ew.D⊕bq.D jM):=oH s.2.2.1 s.1.1 s.1.2.2.1 (fun s=>some (.inl s)) (fun e=>some (.inr e))
def sL:ew.D→Option (bq.D jM):=jF ir
theorem DL {ρ:Type} (s:ew.D) (fn:ew.D→Option ρ) (fe:bq.D jM→Option ρ):oH s.2.2.1 s.1.1 s.1.2.2.1 fn fe=(ir s).bind (Sum.elim fn fe):=by
 simp only [ir,oH,al,ap,Option.bind_none,Option.bind_assoc,Option.bind_some,Sum.elim_inl,Sum.elim_inr]
abbrev xT:dg:=dB [] [0,3,4] ew jM sL
theorem BD (s:ew.D):eP Θ (aP DK) (aO []) nB (ew.mk' s) (dp [0,3,4] [3] fun x S=>some (x,S))=(ir s).bind (Sum.elim (fun s'=>some (.nor,ew.mk' s')) fun e=>some (bq.e jM e)):=
 Eq.trans (by kernel_rfl:_=oH s.2.2.1 s.1.1 s.1.2.2.1 (fun s'=>some (.nor,ew.mk' s')) (fun e=>some (bq.e jM e))) (DL s _ _)
theorem BE:ck Tryz.prog nB xT:=bi aR vL af (by kernel_rfl) (dF (by kernel_rfl:_= []) ah) [] [0,3,4] [3] ew jM (by kernel_rfl) ir BD sL (hU ir) (aW ir)
def qJ {ρ:Type} (a0:List aA) (k: (List aA)×Unit→Option ρ):Option ρ:=
 aq (0≤(a0.length:Int)∧(a0.length:Int)=(a0.length:Int)∧(a0.length:Int)*((56:Nat):Int)≤2 ^ 40) ((sL ((a0,(),0,()),(()),((List.replicate (a0.length:Int).toNat (⟨0,(⟨0,0,0,0,0,0⟩:Op)⟩:aA)),()))).bind fun e8=>k (e8.2.2.1,())) none
def kQ (a0:List aA):Option ((List aA)×Unit):=qJ a0 some
theorem Hx {ρ:Type} (a0:List aA) (k: (List aA)×Unit→Option ρ):qJ a0 k=(kQ a0).bind k:=by
 simp only [kQ,qJ,ap,Option.bind_none,Option.bind_assoc,Option.bind_some]
abbrev DM:bA:=bO [.ty (.ls (.st .entry))] [.ls (.st .entry)] fun x=>kQ x.1
theorem Lt:aF Tryz.prog 209 DM:=
 ak (Λ:=aO [(b8 nB,xT)]) (fn:=Tryz.f209) aR vL af (by kernel_rfl) (aM (by kernel_rfl:_= [nB]) (aV (q:=b8 nB) rfl BE fun _ _ _=>by kernel_rfl)) (by kernel_rfl) (fun x=>kQ x.1)
  (fun x=>Eq.trans (by kernel_rfl:_=qJ x.1 (fun y=>ret (aH [.ls (.st .entry)] y) fun v g=>some (v,g))) (Hx x.1 _)) fun _ _ h=>h
abbrev Lu:List (Nat×bA):= [(208,wI),(209,DM)]
theorem Fp:az Tryz.prog (aP Lu):=ae DI <| ae Lt <| aj _
def oU {ρ:Type} (a0:ay) (k:ay×Unit→Option ρ):Option ρ:=
 (jL a0.config).bind fun y1=>(kQ a0.log).bind fun y2=>(kQ a0.learned).bind fun y3=>k ((⟨a0.up,a0.intact,a0.version,a0.epoch,y1.1,a0.first,y2.1,a0.commit,y3.1⟩:ay),())
def kR (a0:ay):Option (ay×Unit):=oU a0 some
theorem Hy {ρ:Type} (a0:ay) (k:ay×Unit→Option ρ):oU a0 k=(kR a0).bind k:=by
 simp only [kR,oU,Option.bind_assoc,Option.bind_some]
abbrev DN:bA:=bO [.ty (.st .server)] [.st .server] fun x=>kR x.1
theorem Lw:aF Tryz.prog 132 DN:=
 ak (Λ:=aO []) (fn:=Tryz.f132) aR Fp af (by kernel_rfl) (aM (by kernel_rfl:_= []) ah) (by kernel_rfl) (fun x=>kR x.1)
  (fun x=>Eq.trans (by kernel_rfl:_=oU x.1 (fun y=>ret (aH [.st .server] y) fun v g=>some (v,g))) (Hy x.1 _)) fun _ _ h=>h
abbrev A4:List (Nat×bA):= [(132,DN)]
theorem uf:az Tryz.prog (aP A4):=ae Lw <| aj _
noncomputable abbrev lZ:Code:=cu (cm Tryz.f52) 0
abbrev dJ:ev:=⟨[(0, .cl (.ro (.st .server))),(3, .cl (.own 0 (.st .server))),(4, .cl (.int .i64))],[],[.st .server],0,23⟩
abbrev iQ:List (X×ev):= [(.ext 0,⟨[(3, .cl (.own 0 (.st .server)))],[],[.st .server],0,23⟩)]
def nC {ρ:Type} (v1:List ay) (v2:List ay) (v3:Int) (fn: (((List ay)×Unit×Int×Unit)×(Unit)×((List ay)×Unit))→Option ρ) (fe: ((Unit×Unit)×(Unit)×((List ay)×Unit))→Option ρ):Option ρ:=
 br (decide (v3 < (v2.length:Int))) (aq (0≤v3) ((v2[v3.toNat]?).bind fun x4=>(kR x4).bind fun y5=>aq (0≤v3∧v3 < (v1.length:Int)) ((v1[v3.toNat]?).bind fun _=>fn ((v2,(),(IntKind.wrap .i64 (v3+1)),()),(()),((v1.set v3.toNat y5.1),()))) none) none) (fe (((),()),(()),(v1,())))
def f9 (s:dJ.D):Option (dJ.D⊕bq.D iQ):=nC s.2.2.1 s.1.1 s.1.2.2.1 (fun s=>some (.inl s)) (fun e=>some (.inr e))
def rj:dJ.D→Option (bq.D iQ):=jF f9
theorem BF {ρ:Type} (s:dJ.D) (fn:dJ.D→Option ρ) (fe:bq.D iQ→Option ρ):nC s.2.2.1 s.1.1 s.1.2.2.1 fn fe=(f9 s).bind (Sum.elim fn fe):=by
 simp only [f9,nC,al,ap,Option.bind_none,Option.bind_assoc,Option.bind_some,Sum.elim_inl,Sum.elim_inr]
abbrev vM:dg:=dB [] [0,3,4] dJ iQ rj
theorem zP (s:dJ.D):eP Θ (aP A4) (aO []) lZ (dJ.mk' s) (dp [0,3,4] [3] fun x S=>some (x,S))=(f9 s).bind (Sum.elim (fun s'=>some (.nor,dJ.mk' s')) fun e=>some (bq.e iQ e)):=
 Eq.trans (by kernel_rfl:_=nC s.2.2.1 s.1.1 s.1.2.2.1 (fun s'=>some (.nor,dJ.mk' s')) (fun e=>some (bq.e iQ e))) (BF s _ _)
theorem zQ:ck Tryz.prog lZ vM:=bi aR uf af (by kernel_rfl) (dF (by kernel_rfl:_= []) ah) [] [0,3,4] [3] dJ iQ (by kernel_rfl) f9 zP rj (hU f9) (aW f9)
def pA {ρ:Type} (a0:List ay) (k: (List ay)×Unit→Option ρ):Option ρ:=
 aq (0≤(a0.length:Int)∧(a0.length:Int)=(a0.length:Int)∧(a0.length:Int)*((152:Nat):Int)≤2 ^ 40) ((rj ((a0,(),0,()),(()),((List.replicate (a0.length:Int).toNat (⟨false,false,0,0,(⟨0,0,([]:List Int),([]:List Int)⟩:ai),0,([]:List aA),0,([]:List aA)⟩:ay)),()))).bind fun e8=>k (e8.2.2.1,())) none
def kT (a0:List ay):Option ((List ay)×Unit):=pA a0 some
theorem Fq {ρ:Type} (a0:List ay) (k: (List ay)×Unit→Option ρ):pA a0 k=(kT a0).bind k:=by
 simp only [kT,pA,ap,Option.bind_none,Option.bind_assoc,Option.bind_some]
abbrev A5:bA:=bO [.ty (.ls (.st .server))] [.ls (.st .server)] fun x=>kT x.1
theorem JK:aF Tryz.prog 52 A5:=
 ak (Λ:=aO [(b8 lZ,vM)]) (fn:=Tryz.f52) aR uf af (by kernel_rfl) (aM (by kernel_rfl:_= [lZ]) (aV (q:=b8 lZ) rfl zQ fun _ _ _=>by kernel_rfl)) (by kernel_rfl) (fun x=>kT x.1)
  (fun x=>Eq.trans (by kernel_rfl:_=pA x.1 (fun y=>ret (aH [.ls (.st .server)] y) fun v g=>some (v,g))) (Fq x.1 _)) fun _ _ h=>h
abbrev A6:List (Nat×bA):= [(208,wI)]
theorem ug:az Tryz.prog (aP A6):=ae DI <| aj _
noncomputable abbrev l4:Code:=cu (cm Tryz.f133) 0
abbrev dK:ev:=⟨[(0, .cl (.ro (.st .config))),(3, .cl (.own 0 (.st .config))),(4, .cl (.int .i64))],[],[.st .config],0,23⟩
abbrev iR:List (X×ev):= [(.ext 0,⟨[(3, .cl (.own 0 (.st .config)))],[],[.st .config],0,23⟩)]
def nD {ρ:Type} (v1:List ai) (v2:List ai) (v3:Int) (fn: (((List ai)×Unit×Int×Unit)×(Unit)×((List ai)×Unit))→Option ρ) (fe: ((Unit×Unit)×(Unit)×((List ai)×Unit))→Option ρ):Option ρ:=
 br (decide (v3 < (v2.length:Int))) (aq (0≤v3) ((v2[v3.toNat]?).bind fun x4=>(jL x4).bind fun y5=>aq (0≤v3∧v3 < (v1.length:Int)) ((v1[v3.toNat]?).bind fun _=>fn ((v2,(),(IntKind.wrap .i64 (v3+1)),()),(()),((v1.set v3.toNat y5.1),()))) none) none) (fe (((),()),(()),(v1,())))
def ga (s:dK.D):Option (dK.D⊕bq.D iR):=nD s.2.2.1 s.1.1 s.1.2.2.1 (fun s=>some (.inl s)) (fun e=>some (.inr e))
def rk:dK.D→Option (bq.D iR):=jF ga
theorem BG {ρ:Type} (s:dK.D) (fn:dK.D→Option ρ) (fe:bq.D iR→Option ρ):nD s.2.2.1 s.1.1 s.1.2.2.1 fn fe=(ga s).bind (Sum.elim fn fe):=by
 simp only [ga,nD,al,ap,Option.bind_none,Option.bind_assoc,Option.bind_some,Sum.elim_inl,Sum.elim_inr]
abbrev vN:dg:=dB [] [0,3,4] dK iR rk
theorem zR (s:dK.D):eP Θ (aP A6) (aO []) l4 (dK.mk' s) (dp [0,3,4] [3] fun x S=>some (x,S))=(ga s).bind (Sum.elim (fun s'=>some (.nor,dK.mk' s')) fun e=>some (bq.e iR e)):=
 Eq.trans (by kernel_rfl:_=nD s.2.2.1 s.1.1 s.1.2.2.1 (fun s'=>some (.nor,dK.mk' s')) (fun e=>some (bq.e iR e))) (BG s _ _)
theorem zS:ck Tryz.prog l4 vN:=bi aR ug af (by kernel_rfl) (dF (by kernel_rfl:_= []) ah) [] [0,3,4] [3] dK iR (by kernel_rfl) ga zR rk (hU ga) (aW ga)
def pB {ρ:Type} (a0:List ai) (k: (List ai)×Unit→Option ρ):Option ρ:=
 aq (0≤(a0.length:Int)∧(a0.length:Int)=(a0.length:Int)∧(a0.length:Int)*((64:Nat):Int)≤2 ^ 40) ((rk ((a0,(),0,()),(()),((List.replicate (a0.length:Int).toNat (⟨0,0,([]:List Int),([]:List Int)⟩:ai)),()))).bind fun e8=>k (e8.2.2.1,())) none
def kU (a0:List ai):Option ((List ai)×Unit):=pB a0 some
theorem Fr {ρ:Type} (a0:List ai) (k: (List ai)×Unit→Option ρ):pB a0 k=(kU a0).bind k:=by
 simp only [kU,pB,ap,Option.bind_none,Option.bind_assoc,Option.bind_some]
abbrev A7:bA:=bO [.ty (.ls (.st .config))] [.ls (.st .config)] fun x=>kU x.1
theorem JL:aF Tryz.prog 133 A7:=
 ak (Λ:=aO [(b8 l4,vN)]) (fn:=Tryz.f133) aR ug af (by kernel_rfl) (aM (by kernel_rfl:_= [l4]) (aV (q:=b8 l4) rfl zS fun _ _ _=>by kernel_rfl)) (by kernel_rfl) (fun x=>kU x.1)
  (fun x=>Eq.trans (by kernel_rfl:_=pB x.1 (fun y=>ret (aH [.ls (.st .config)] y) fun v g=>some (v,g))) (Fr x.1 _)) fun _ _ h=>h
abbrev Fs:List (Nat×bA):= [(133,A7)]
theorem zT:az Tryz.prog (aP Fs):=ae JL <| aj _
def kV {ρ:Type} (a0:aw) (k:aw×Unit→Option ρ):Option ρ:=
 (kU a0.configs).bind fun y1=>k ((⟨y1.1,a0.activated⟩:aw),())
def iT (a0:aw):Option (aw×Unit):=kV a0 some
theorem BH {ρ:Type} (a0:aw) (k:aw×Unit→Option ρ):kV a0 k=(iT a0).bind k:=by
 simp only [iT,kV,Option.bind_assoc,Option.bind_some]
abbrev vO:bA:=bO [.ty (.st .masterLog)] [.st .masterLog] fun x=>iT x.1
theorem Ft:aF Tryz.prog 54 vO:=
 ak (Λ:=aO []) (fn:=Tryz.f54) aR zT af (by kernel_rfl) (aM (by kernel_rfl:_= []) ah) (by kernel_rfl) (fun x=>iT x.1)
  (fun x=>Eq.trans (by kernel_rfl:_=kV x.1 (fun y=>ret (aH [.st .masterLog] y) fun v g=>some (v,g))) (BH x.1 _)) fun _ _ h=>h
abbrev Nv:List (Nat×bA):= []
theorem Hz:az Tryz.prog (aP Nv):=aj _
def sM {ρ:Type} (a0:jV) (k:jV×Unit→Option ρ):Option ρ:=
 k (a0,())
def pL (a0:jV):Option (jV×Unit):=sM a0 some
theorem JM {ρ:Type} (a0:jV) (k:jV×Unit→Option ρ):sM a0 k=(pL a0).bind k:=by
 simp only [pL,sM,Option.bind_some]
abbrev Gn:bA:=bO [.ty (.st .lease)] [.st .lease] fun x=>pL x.1
theorem Nw:aF Tryz.prog 55 Gn:=
 ak (Λ:=aO []) (fn:=Tryz.f55) aR Hz af (by kernel_rfl) (aM (by kernel_rfl:_= []) ah) (by kernel_rfl) (fun x=>pL x.1)
  (fun x=>Eq.trans (by kernel_rfl:_=sM x.1 (fun y=>ret (aH [.st .lease] y) fun v g=>some (v,g))) (JM x.1 _)) fun _ _ h=>h
abbrev Nx:List (Nat×bA):= []
theorem HA:az Tryz.prog (aP Nx):=aj _
def sN {ρ:Type} (a0:bh) (k:bh×Unit→Option ρ):Option ρ:=
 k (a0,())
def pM (a0:bh):Option (bh×Unit):=sN a0 some
theorem JN {ρ:Type} (a0:bh) (k:bh×Unit→Option ρ):sN a0 k=(pM a0).bind k:=by
 simp only [pM,sN,Option.bind_some]
abbrev Gp:bA:=bO [.ty (.st .place)] [.st .place] fun x=>pM x.1
theorem Ny:aF Tryz.prog 134 Gp:=
 ak (Λ:=aO []) (fn:=Tryz.f134) aR HA af (by kernel_rfl) (aM (by kernel_rfl:_= []) ah) (by kernel_rfl) (fun x=>pM x.1)
  (fun x=>Eq.trans (by kernel_rfl:_=sN x.1 (fun y=>ret (aH [.st .place] y) fun v g=>some (v,g))) (JN x.1 _)) fun _ _ h=>h
abbrev DP:List (Nat×bA):= [(134,Gp)]
theorem vP:az Tryz.prog (aP DP):=ae Ny <| aj _
noncomputable abbrev nE:Code:=cu (cm Tryz.f56) 0
abbrev ex:ev:=⟨[(0, .cl (.ro (.st .place))),(3, .cl (.own 0 (.st .place))),(4, .cl (.int .i64))],[],[.st .place],0,23⟩
abbrev jN:List (X×ev):= [(.ext 0,⟨[(3, .cl (.own 0 (.st .place)))],[],[.st .place],0,23⟩)]
def oI {ρ:Type} (v1:List bh) (v2:List bh) (v3:Int) (fn: (((List bh)×Unit×Int×Unit)×(Unit)×((List bh)×Unit))→Option ρ) (fe: ((Unit×Unit)×(Unit)×((List bh)×Unit))→Option ρ):Option ρ:=
 br (decide (v3 < (v2.length:Int))) (aq (0≤v3) ((v2[v3.toNat]?).bind fun x4=>(pM x4).bind fun y5=>aq (0≤v3∧v3 < (v1.length:Int)) ((v1[v3.toNat]?).bind fun _=>fn ((v2,(),(IntKind.wrap .i64 (v3+1)),()),(()),((v1.set v3.toNat y5.1),()))) none) none) (fe (((),()),(()),(v1,())))
def it (s:ex.D):Option (ex.D⊕bq.D jN):=oI s.2.2.1 s.1.1 s.1.2.2.1 (fun s=>some (.inl s)) (fun e=>some (.inr e))
def sO:ex.D→Option (bq.D jN):=jF it
theorem DQ {ρ:Type} (s:ex.D) (fn:ex.D→Option ρ) (fe:bq.D jN→Option ρ):oI s.2.2.1 s.1.1 s.1.2.2.1 fn fe=(it s).bind (Sum.elim fn fe):=by
 simp only [it,oI,al,ap,Option.bind_none,Option.bind_assoc,Option.bind_some,Sum.elim_inl,Sum.elim_inr]
abbrev xU:dg:=dB [] [0,3,4] ex jN sO
theorem BI (s:ex.D):eP Θ (aP DP) (aO []) nE (ex.mk' s) (dp [0,3,4] [3] fun x S=>some (x,S))=(it s).bind (Sum.elim (fun s'=>some (.nor,ex.mk' s')) fun e=>some (bq.e jN e)):=
 Eq.trans (by kernel_rfl:_=oI s.2.2.1 s.1.1 s.1.2.2.1 (fun s'=>some (.nor,ex.mk' s')) (fun e=>some (bq.e jN e))) (DQ s _ _)
theorem BJ:ck Tryz.prog nE xU:=bi aR vP af (by kernel_rfl) (dF (by kernel_rfl:_= []) ah) [] [0,3,4] [3] ex jN (by kernel_rfl) it BI sO (hU it) (aW it)
def qK {ρ:Type} (a0:List bh) (k: (List bh)×Unit→Option ρ):Option ρ:=
 aq (0≤(a0.length:Int)∧(a0.length:Int)=(a0.length:Int)∧(a0.length:Int)*((24:Nat):Int)≤2 ^ 40) ((sO ((a0,(),0,()),(()),((List.replicate (a0.length:Int).toNat (⟨0,0,0⟩:bh)),()))).bind fun e8=>k (e8.2.2.1,())) none
def mH (a0:List bh):Option ((List bh)×Unit):=qK a0 some
theorem HB {ρ:Type} (a0:List bh) (k: (List bh)×Unit→Option ρ):qK a0 k=(mH a0).bind k:=by
 simp only [mH,qK,ap,Option.bind_none,Option.bind_assoc,Option.bind_some]
abbrev DR:bA:=bO [.ty (.ls (.st .place))] [.ls (.st .place)] fun x=>mH x.1
theorem Lx:aF Tryz.prog 56 DR:=
 ak (Λ:=aO [(b8 nE,xU)]) (fn:=Tryz.f56) aR vP af (by kernel_rfl) (aM (by kernel_rfl:_= [nE]) (aV (q:=b8 nE) rfl BJ fun _ _ _=>by kernel_rfl)) (by kernel_rfl) (fun x=>mH x.1)
  (fun x=>Eq.trans (by kernel_rfl:_=qK x.1 (fun y=>ret (aH [.ls (.st .place)] y) fun v g=>some (v,g))) (HB x.1 _)) fun _ _ h=>h
abbrev JO:List (Nat×bA):= [(52,A5),(53,DH),(54,vO),(55,Gn),(56,DR)]
theorem DS:az Tryz.prog (aP JO):=ae JK <| ae JI <| ae Ft <| ae Nw <| ae Lx <| aj _
def nF {ρ:Type} (a0:aQ) (k:aQ×Unit→Option ρ):Option ρ:=
 (kT a0.servers).bind fun y1=>(nA a0.sides).bind fun y2=>(iT a0.master).bind fun y3=>(pL a0.lease).bind fun y4=>(mH a0.places).bind fun y5=>k ((⟨a0.now,y1.1,y2.1,y3.1,a0.masterUp,y4.1,y5.1⟩:aQ),())
def gb (a0:aQ):Option (aQ×Unit):=nF a0 some
theorem Fu {ρ:Type} (a0:aQ) (k:aQ×Unit→Option ρ):nF a0 k=(gb a0).bind k:=by
 simp only [gb,nF,Option.bind_assoc,Option.bind_some]
abbrev A8:bA:=bO [.ty (.st .cluster)] [.st .cluster] fun x=>gb x.1
theorem JP:aF Tryz.prog 14 A8:=
 ak (Λ:=aO []) (fn:=Tryz.f14) aR DS af (by kernel_rfl) (aM (by kernel_rfl:_= []) ah) (by kernel_rfl) (fun x=>gb x.1)
  (fun x=>Eq.trans (by kernel_rfl:_=nF x.1 (fun y=>ret (aH [.st .cluster] y) fun v g=>some (v,g))) (Fu x.1 _)) fun _ _ h=>h
abbrev Sq:List (Nat×bA):= []
theorem Nz:az Tryz.prog (aP Sq):=aj _
def xV {ρ:Type} (a0:Int) (a1:Int) (a2:Int) (k:Bool×Unit→Option ρ):Option ρ:=
 br (decide (a0≥a1)) (k ((decide (a0≤a2)),())) (k (false,()))
def ea (a0:Int) (a1:Int) (a2:Int):Option (Bool×Unit):=xV a0 a1 a2 some
theorem Px {ρ:Type} (a0:Int) (a1:Int) (a2:Int) (k:Bool×Unit→Option ρ):xV a0 a1 a2 k=(ea a0 a1 a2).bind k:=by
 simp only [ea,xV,al,Option.bind_some]
abbrev o7:bA:=bO [.ty (.i .i64), .ty (.i .i64), .ty (.i .i64)] [.b] fun x=>ea x.1 x.2.1 x.2.2.1
theorem pX:aF Tryz.prog 120 o7:=
 ak (Λ:=aO []) (fn:=Tryz.f120) aR Nz af (by kernel_rfl) (aM (by kernel_rfl:_= []) ah) (by kernel_rfl) (fun x=>ea x.1 x.2.1 x.2.2.1)
  (fun x=>Eq.trans (by kernel_rfl:_=xV x.1 x.2.1 x.2.2.1 (fun y=>ret (aH [.b] y) fun v g=>some (v,g))) (Px x.1 x.2.1 x.2.2.1 _)) fun _ _ h=>h
abbrev xW:List (Nat×bA):= [(120,o7)]
theorem s8:az Tryz.prog (aP xW):=ae pX <| aj _
noncomputable abbrev kW:Code:=cu (cm Tryz.f224) 0
abbrev dq:ev:=⟨[(0, .cl (.ro (.i .i64))),(3, .cl (.int .i64))],[],[],0,32⟩
abbrev gH:List (X×ev):= [(.ret,⟨[(2, .cl (.bl))],[],[],0,32⟩),(.ext 0,⟨[(2, .cl (.dead))],[],[],0,32⟩)]
def ii {ρ:Type} (v1:List Int) (v2:Int) (fn: (((List Int)×Int×Unit)×(Unit)×(Unit))→Option ρ) (fe: ((Bool×Unit)×(Unit)×(Unit))⊕((Unit×Unit)×(Unit)×(Unit))→Option ρ):Option ρ:=
 br (decide (v2 < (v1.length:Int))) (aq (0≤v2) ((v1[v2.toNat]?).bind fun x3=>(ea x3 0 4).bind fun y4=>br (!y4.1) (fe (.inl ((false,()),(()),(())))) (br (decide (v2 > 0)) (aq (0≤(IntKind.wrap .i64 (v2 - 1))) ((v1[(IntKind.wrap .i64 (v2 - 1)).toNat]?).bind fun x5=>aq (0≤v2) ((v1[v2.toNat]?).bind fun x6=>br (decide (x5≥x6)) (fe (.inl ((false,()),(()),(())))) (fn ((v1,(IntKind.wrap .i64 (v2+1)),()),(()),(())))) none) none) (fn ((v1,(IntKind.wrap .i64 (v2+1)),()),(()),(()))))) none) (fe (.inr (((),()),(()),(()))))
def dL (s:dq.D):Option (dq.D⊕bq.D gH):=ii s.1.1 s.1.2.1 (fun s=>some (.inl s)) (fun e=>some (.inr e))
def kX:dq.D→Option (bq.D gH):=jF dL
theorem zU {ρ:Type} (s:dq.D) (fn:dq.D→Option ρ) (fe:bq.D gH→Option ρ):ii s.1.1 s.1.2.1 fn fe=(dL s).bind (Sum.elim fn fe):=by
 simp only [dL,ii,al,ap,Option.bind_none,Option.bind_assoc,Option.bind_some,Sum.elim_inl,Sum.elim_inr]
abbrev uh:dg:=dB [] [0,3] dq gH kX
theorem xX (s:dq.D):eP Θ (aP xW) (aO []) kW (dq.mk' s) (dp [0,3] [2] fun x S=>some (x,S))=(dL s).bind (Sum.elim (fun s'=>some (.nor,dq.mk' s')) fun e=>some (bq.e gH e)):=
 Eq.trans (by kernel_rfl:_=ii s.1.1 s.1.2.1 (fun s'=>some (.nor,dq.mk' s')) (fun e=>some (bq.e gH e))) (zU s _ _)
theorem xY:ck Tryz.prog kW uh:=bi aR s8 af (by kernel_rfl) (dF (by kernel_rfl:_= []) ah) [] [0,3] [2] dq gH (by kernel_rfl) dL xX kX (hU dL) (aW dL)
def l5 {ρ:Type} (a0:List Int) (k:Bool×Unit→Option ρ):Option ρ:=
 (kX ((a0,0,()),(()),(()))).bind fun e7=>Sum.elim (fun e7_=>k (e7_.1.1,())) (fun e7_=>k (true,())) e7
def fX (a0:List Int):Option (Bool×Unit):=l5 a0 some
theorem DT {ρ:Type} (a0:List Int) (k:Bool×Unit→Option ρ):l5 a0 k=(fX a0).bind k:=by
 simp only [fX,l5,cv,Option.bind_assoc,Option.bind_some]
abbrev xZ:bA:=bO [.ty (.ls (.i .i64))] [.b] fun x=>fX x.1
theorem HC:aF Tryz.prog 224 xZ:=
 ak (Λ:=aO [(b8 kW,uh)]) (fn:=Tryz.f224) aR s8 af (by kernel_rfl) (aM (by kernel_rfl:_= [kW]) (aV (q:=b8 kW) rfl xY fun _ _ _=>by kernel_rfl)) (by kernel_rfl) (fun x=>fX x.1)
  (fun x=>Eq.trans (by kernel_rfl:_=l5 x.1 (fun y=>ret (aH [.b] y) fun v g=>some (v,g))) (DT x.1 _)) fun _ _ h=>h
abbrev A9:List (Nat×bA):= []
theorem uj:az Tryz.prog (aP A9):=aj _
noncomputable abbrev l6:Code:=cu (cm Tryz.f51) 0
abbrev dM:ev:=⟨[(0, .cl (.ro (.i .i64))),(1, .cl (.int .i64)),(5, .cl (.int .i64))],[],[],0,18⟩
abbrev iU:List (X×ev):= [(.ret,⟨[(4, .cl (.bl))],[],[],0,18⟩),(.ext 0,⟨[(4, .cl (.dead))],[],[],0,18⟩)]
def jh {ρ:Type} (v1:List Int) (v2:Int) (v3:Int) (fn: (((List Int)×Int×Int×Unit)×(Unit)×(Unit))→Option ρ) (fe: ((Bool×Unit)×(Unit)×(Unit))⊕((Unit×Unit)×(Unit)×(Unit))→Option ρ):Option ρ:=
 br (decide (v3 < (v1.length:Int))) (aq (0≤v3) ((v1[v3.toNat]?).bind fun x4=>br (x4==v2) (fe (.inl ((true,()),(()),(())))) (fn ((v1,v2,(IntKind.wrap .i64 (v3+1)),()),(()),(())))) none) (fe (.inr (((),()),(()),(()))))
def eo (s:dM.D):Option (dM.D⊕bq.D iU):=jh s.1.1 s.1.2.1 s.1.2.2.1 (fun s=>some (.inl s)) (fun e=>some (.inr e))
def l7:dM.D→Option (bq.D iU):=jF eo
theorem BK {ρ:Type} (s:dM.D) (fn:dM.D→Option ρ) (fe:bq.D iU→Option ρ):jh s.1.1 s.1.2.1 s.1.2.2.1 fn fe=(eo s).bind (Sum.elim fn fe):=by
 simp only [eo,jh,al,ap,Option.bind_none,Option.bind_assoc,Option.bind_some,Sum.elim_inl,Sum.elim_inr]
abbrev vQ:dg:=dB [] [0,1,5] dM iU l7
theorem zV (s:dM.D):eP Θ (aP A9) (aO []) l6 (dM.mk' s) (dp [0,1,5] [4] fun x S=>some (x,S))=(eo s).bind (Sum.elim (fun s'=>some (.nor,dM.mk' s')) fun e=>some (bq.e iU e)):=
 Eq.trans (by kernel_rfl:_=jh s.1.1 s.1.2.1 s.1.2.2.1 (fun s'=>some (.nor,dM.mk' s')) (fun e=>some (bq.e iU e))) (BK s _ _)
theorem zW:ck Tryz.prog l6 vQ:=bi aR uj af (by kernel_rfl) (dF (by kernel_rfl:_= []) ah) [] [0,1,5] [4] dM iU (by kernel_rfl) eo zV l7 (hU eo) (aW eo)
def nG {ρ:Type} (a0:List Int) (a1:Int) (k:Bool×Unit→Option ρ):Option ρ:=
 (l7 ((a0,a1,0,()),(()),(()))).bind fun e5=>Sum.elim (fun e5_=>k (e5_.1.1,())) (fun e5_=>k (false,())) e5
def gf (a0:List Int) (a1:Int):Option (Bool×Unit):=nG a0 a1 some
theorem Fv {ρ:Type} (a0:List Int) (a1:Int) (k:Bool×Unit→Option ρ):nG a0 a1 k=(gf a0 a1).bind k:=by
 simp only [gf,nG,cv,Option.bind_assoc,Option.bind_some]
abbrev qL:bA:=bO [.ty (.ls (.i .i64)), .ty (.i .i64)] [.b] fun x=>gf x.1 x.2.1
theorem uk:aF Tryz.prog 51 qL:=
 ak (Λ:=aO [(b8 l6,vQ)]) (fn:=Tryz.f51) aR uj af (by kernel_rfl) (aM (by kernel_rfl:_= [l6]) (aV (q:=b8 l6) rfl zW fun _ _ _=>by kernel_rfl)) (by kernel_rfl) (fun x=>gf x.1 x.2.1)
  (fun x=>Eq.trans (by kernel_rfl:_=nG x.1 x.2.1 (fun y=>ret (aH [.b] y) fun v g=>some (v,g))) (Fv x.1 x.2.1 _)) fun _ _ h=>h
abbrev MF:List (Nat×bA):= []
theorem DU:az Tryz.prog (aP MF):=aj _
noncomputable abbrev rM:Code:=cu (cm Tryz.f148) 0
abbrev ji:ev:=⟨[(0, .cl (.ro (.i .i64))),(1, .cl (.int .i64)),(5, .cl (.int .i64))],[],[],0,47⟩
abbrev ou:List (X×ev):= [(.ext 0,⟨[(0, .cl (.ro (.i .i64))),(1, .cl (.int .i64)),(5, .cl (.int .i64))],[],[],0,47⟩)]
def ov {ρ:Type} (v1:List Int) (v2:Int) (v3:Int) (fn: (((List Int)×Int×Int×Unit)×(Unit)×(Unit))→Option ρ) (fe: (((List Int)×Int×Int×Unit)×(Unit)×(Unit))→Option ρ):Option ρ:=
 br (decide (v3 < (v1.length:Int))) (aq (0≤v3) ((v1[v3.toNat]?).bind fun x4=>br (decide (x4 < v2)) (fn ((v1,v2,(IntKind.wrap .i64 (v3+1)),()),(()),(()))) (fe ((v1,v2,v3,()),(()),(())))) none) (fe ((v1,v2,v3,()),(()),(())))
def kg (s:ji.D):Option (ji.D⊕bq.D ou):=ov s.1.1 s.1.2.1 s.1.2.2.1 (fun s=>some (.inl s)) (fun e=>some (.inr e))
def vk:ji.D→Option (bq.D ou):=jF kg
theorem JQ {ρ:Type} (s:ji.D) (fn:ji.D→Option ρ) (fe:bq.D ou→Option ρ):ov s.1.1 s.1.2.1 s.1.2.2.1 fn fe=(kg s).bind (Sum.elim fn fe):=by
 simp only [kg,ov,al,ap,Option.bind_none,Option.bind_assoc,Option.bind_some,Sum.elim_inl,Sum.elim_inr]
abbrev Gq:dg:=dB [] [0,1,5] ji ou vk
theorem HD (s:ji.D):eP Θ (aP MF) (aO []) rM (ji.mk' s) (dp [0,1,5] [0,1,5] fun x S=>some (x,S))=(kg s).bind (Sum.elim (fun s'=>some (.nor,ji.mk' s')) fun e=>some (bq.e ou e)):=
 Eq.trans (by kernel_rfl:_=ov s.1.1 s.1.2.1 s.1.2.2.1 (fun s'=>some (.nor,ji.mk' s')) (fun e=>some (bq.e ou e))) (JQ s _ _)
theorem HE:ck Tryz.prog rM Gq:=bi aR DU af (by kernel_rfl) (dF (by kernel_rfl:_= []) ah) [] [0,1,5] [0,1,5] ji ou (by kernel_rfl) kg HD vk (hU kg) (aW kg)
def ul {ρ:Type} (a0:List Int) (a1:Int) (k: (List Int)×Unit→Option ρ):Option ρ:=
 (vk ((a0,a1,0,()),(()),(()))).bind fun e5=>br (decide (e5.1.2.2.1 < (e5.1.1.length:Int))) (aq (0≤e5.1.2.2.1) ((e5.1.1[e5.1.2.2.1.toNat]?).bind fun x6=>br (x6==e5.1.2.1) (aq ((([]:List Int)++e5.1.1).length*8≤2 ^ 40) (k ((([]:List Int)++e5.1.1),())) none) (aq (0≤(0:Int)∧(0:Int)≤e5.1.2.2.1∧e5.1.2.2.1≤(e5.1.1.length:Int)) (aq ((([]:List Int)++((e5.1.1.drop (0:Int).toNat).take (e5.1.2.2.1.toNat - (0:Int).toNat))).length*8≤2 ^ 40) (aq (((([]:List Int)++((e5.1.1.drop (0:Int).toNat).take (e5.1.2.2.1.toNat - (0:Int).toNat)))++([e5.1.2.1]:List Int)).length*8≤2 ^ 40) (aq (0≤e5.1.2.2.1∧e5.1.2.2.1≤(e5.1.1.length:Int)∧(e5.1.1.length:Int)≤(e5.1.1.length:Int)) (aq ((((([]:List Int)++((e5.1.1.drop (0:Int).toNat).take (e5.1.2.2.1.toNat - (0:Int).toNat)))++([e5.1.2.1]:List Int))++((e5.1.1.drop e5.1.2.2.1.toNat).take ((e5.1.1.length:Int).toNat - e5.1.2.2.1.toNat))).length*8≤2 ^ 40) (k ((((([]:List Int)++((e5.1.1.drop (0:Int).toNat).take (e5.1.2.2.1.toNat - (0:Int).toNat)))++([e5.1.2.1]:List Int))++((e5.1.1.drop e5.1.2.2.1.toNat).take ((e5.1.1.length:Int).toNat - e5.1.2.2.1.toNat))),())) none) none) none) none) none)) none) (aq (0≤(0:Int)∧(0:Int)≤e5.1.2.2.1∧e5.1.2.2.1≤(e5.1.1.length:Int)) (aq ((([]:List Int)++((e5.1.1.drop (0:Int).toNat).take (e5.1.2.2.1.toNat - (0:Int).toNat))).length*8≤2 ^ 40) (aq (((([]:List Int)++((e5.1.1.drop (0:Int).toNat).take (e5.1.2.2.1.toNat - (0:Int).toNat)))++([e5.1.2.1]:List Int)).length*8≤2 ^ 40) (aq (0≤e5.1.2.2.1∧e5.1.2.2.1≤(e5.1.1.length:Int)∧(e5.1.1.length:Int)≤(e5.1.1.length:Int)) (aq ((((([]:List Int)++((e5.1.1.drop (0:Int).toNat).take (e5.1.2.2.1.toNat - (0:Int).toNat)))++([e5.1.2.1]:List Int))++((e5.1.1.drop e5.1.2.2.1.toNat).take ((e5.1.1.length:Int).toNat - e5.1.2.2.1.toNat))).length*8≤2 ^ 40) (k ((((([]:List Int)++((e5.1.1.drop (0:Int).toNat).take (e5.1.2.2.1.toNat - (0:Int).toNat)))++([e5.1.2.1]:List Int))++((e5.1.1.drop e5.1.2.2.1.toNat).take ((e5.1.1.length:Int).toNat - e5.1.2.2.1.toNat))),())) none) none) none) none) none)
def sP (a0:List Int) (a1:Int):Option ((List Int)×Unit):=ul a0 a1 some
theorem NA {ρ:Type} (a0:List Int) (a1:Int) (k: (List Int)×Unit→Option ρ):ul a0 a1 k=(sP a0 a1).bind k:=by
 simp only [sP,ul,al,ap,Option.bind_none,Option.bind_assoc,Option.bind_some]
abbrev MG:bA:=bO [.ty (.ls (.i .i64)), .ty (.i .i64)] [.ls (.i .i64)] fun x=>sP x.1 x.2.1
theorem Q7:aF Tryz.prog 148 MG:=
 ak (Λ:=aO [(b8 rM,Gq)]) (fn:=Tryz.f148) aR DU af (by kernel_rfl) (aM (by kernel_rfl:_= [rM]) (aV (q:=b8 rM) rfl HE fun _ _ _=>by kernel_rfl)) (by kernel_rfl) (fun x=>sP x.1 x.2.1)
  (fun x=>Eq.trans (by kernel_rfl:_=ul x.1 x.2.1 (fun y=>ret (aH [.ls (.i .i64)] y) fun v g=>some (v,g))) (NA x.1 x.2.1 _)) fun _ _ h=>h
abbrev s9:List (Nat×bA):= [(51,qL),(148,MG)]
theorem pY:az Tryz.prog (aP s9):=ae uk <| ae Q7 <| aj _
noncomputable abbrev iu:Code:=cu (cm Tryz.f128) 0
abbrev cw:ev:=⟨[(0, .cl (.ro (.i .i64))),(1, .cl (.ro (.i .i64))),(5, .cl (.own 0 (.i .i64))),(6, .cl (.int .i64))],[],[.i .i64],0,27⟩
abbrev ey:List (X×ev):= [(.ext 0,⟨[(5, .cl (.own 0 (.i .i64)))],[],[.i .i64],0,27⟩)]
def eX {ρ:Type} (v1:List Int) (v2:List Int) (v3:List Int) (v4:Int) (fn: (((List Int)×(List Int)×Unit×Int×Unit)×(Unit)×((List Int)×Unit))→Option ρ) (fe: ((Unit×Unit)×(Unit)×((List Int)×Unit))→Option ρ):Option ρ:=
 br (decide (v4 < (v2.length:Int))) (aq (0≤v4) ((v2[v4.toNat]?).bind fun x5=>(gf v3 x5).bind fun y6=>br y6.1 (aq (0≤v4) ((v2[v4.toNat]?).bind fun x7=>(sP v1 x7).bind fun y8=>fn ((v2,v3,(),(IntKind.wrap .i64 (v4+1)),()),(()),(y8.1,()))) none) (fn ((v2,v3,(),(IntKind.wrap .i64 (v4+1)),()),(()),(v1,())))) none) (fe (((),()),(()),(v1,())))
def cP (s:cw.D):Option (cw.D⊕bq.D ey):=eX s.2.2.1 s.1.1 s.1.2.1 s.1.2.2.2.1 (fun s=>some (.inl s)) (fun e=>some (.inr e))
def ku:cw.D→Option (bq.D ey):=jF cP
theorem vp {ρ:Type} (s:cw.D) (fn:cw.D→Option ρ) (fe:bq.D ey→Option ρ):eX s.2.2.1 s.1.1 s.1.2.1 s.1.2.2.2.1 fn fe=(cP s).bind (Sum.elim fn fe):=by
 simp only [cP,eX,al,ap,Option.bind_none,Option.bind_assoc,Option.bind_some,Sum.elim_inl,Sum.elim_inr]
abbrev qM:dg:=dB [] [0,1,5,6] cw ey ku
theorem um (s:cw.D):eP Θ (aP s9) (aO []) iu (cw.mk' s) (dp [0,1,5,6] [5] fun x S=>some (x,S))=(cP s).bind (Sum.elim (fun s'=>some (.nor,cw.mk' s')) fun e=>some (bq.e ey e)):=
 Eq.trans (by kernel_rfl:_=eX s.2.2.1 s.1.1 s.1.2.1 s.1.2.2.2.1 (fun s'=>some (.nor,cw.mk' s')) (fun e=>some (bq.e ey e))) (vp s _ _)
theorem uo:ck Tryz.prog iu qM:=bi aR pY af (by kernel_rfl) (dF (by kernel_rfl:_= []) ah) [] [0,1,5,6] [5] cw ey (by kernel_rfl) cP um ku (hU cP) (aW cP)
def jj {ρ:Type} (a0:List Int) (a1:List Int) (k: (List Int)×Unit→Option ρ):Option ρ:=
 (ku ((a0,a1,(),0,()),(()),(([]:List Int),()))).bind fun e9=>k (e9.2.2.1,())
def fL (a0:List Int) (a1:List Int):Option ((List Int)×Unit):=jj a0 a1 some
theorem x0 {ρ:Type} (a0:List Int) (a1:List Int) (k: (List Int)×Unit→Option ρ):jj a0 a1 k=(fL a0 a1).bind k:=by
 simp only [fL,jj,Option.bind_assoc,Option.bind_some]
abbrev ta:bA:=bO [.ty (.ls (.i .i64)), .ty (.ls (.i .i64))] [.ls (.i .i64)] fun x=>fL x.1 x.2.1
theorem BL:aF Tryz.prog 128 ta:=
 ak (Λ:=aO [(b8 iu,qM)]) (fn:=Tryz.f128) aR pY af (by kernel_rfl) (aM (by kernel_rfl:_= [iu]) (aV (q:=b8 iu) rfl uo fun _ _ _=>by kernel_rfl)) (by kernel_rfl) (fun x=>fL x.1 x.2.1)
  (fun x=>Eq.trans (by kernel_rfl:_=jj x.1 x.2.1 (fun y=>ret (aH [.ls (.i .i64)] y) fun v g=>some (v,g))) (x0 x.1 x.2.1 _)) fun _ _ h=>h
abbrev BM:List (Nat×bA):= [(120,o7),(224,xZ),(51,qL),(128,ta)]
theorem wJ:az Tryz.prog (aP BM):=ae pX <| ae HC <| ae uk <| ae BL <| aj _
def gt {ρ:Type} (a0:ai) (k:Bool×Unit→Option ρ):Option ρ:=
 (ea a0.epoch 1 20).bind fun y1=>br y1.1 ((fX a0.replicas).bind fun y2=>br y2.1 ((fX a0.witnesses).bind fun y3=>br y3.1 ((gf a0.replicas a0.primary).bind fun y4=>br y4.1 ((fL a0.replicas a0.witnesses).bind fun y5=>k (((y5.1.length:Int)==0),())) (k (false,()))) (k (false,()))) (k (false,()))) (k (false,()))
def b9 (a0:ai):Option (Bool×Unit):=gt a0 some
theorem ya {ρ:Type} (a0:ai) (k:Bool×Unit→Option ρ):gt a0 k=(b9 a0).bind k:=by
 simp only [b9,gt,al,Option.bind_assoc,Option.bind_some]
abbrev o8:bA:=bO [.ty (.st .config)] [.b] fun x=>b9 x.1
theorem tb:aF Tryz.prog 169 o8:=
 ak (Λ:=aO []) (fn:=Tryz.f169) aR wJ af (by kernel_rfl) (aM (by kernel_rfl:_= []) ah) (by kernel_rfl) (fun x=>b9 x.1)
  (fun x=>Eq.trans (by kernel_rfl:_=gt x.1 (fun y=>ret (aH [.b] y) fun v g=>some (v,g))) (ya x.1 _)) fun _ _ h=>h
abbrev vR:List (Nat×bA):= [(169,o8),(120,o7)]
theorem rN:az Tryz.prog (aP vR):=ae tb <| ae pX <| aj _
noncomputable abbrev jW:Code:=cu (cm Tryz.f122) 0
abbrev cY:ev:=⟨[(1, .cl (.ptr 0 0)),(3, .cl (.int .i64))],[[.ro (.st .config), .int .i64]],[],0,35⟩
abbrev fM:List (X×ev):= [(.ret,⟨[(1, .cl (.ptr 0 0)),(2, .cl (.bl))],[[.ro (.st .config), .int .i64]],[],0,35⟩),(.ext 0,⟨[(1, .cl (.ptr 0 0)),(2, .cl (.dead))],[[.ro (.st .config), .int .i64]],[],0,35⟩)]
def dC {ρ:Type} (v1:Int) (v2:List ai) (v3:Int) (fn: ((Unit×Int×Unit)×(((List ai)×Int×Unit)×Unit)×(Unit))→Option ρ) (fe: ((Unit×Bool×Unit)×(((List ai)×Int×Unit)×Unit)×(Unit))⊕((Unit×Unit×Unit)×(((List ai)×Int×Unit)×Unit)×(Unit))→Option ρ):Option ρ:=
 br (decide (v1 < (v2.length:Int))) (aq (0≤v1) ((v2[v1.toNat]?).bind fun x4=>(b9 x4).bind fun y5=>br (!y5.1) (fe (.inl (((),false,()),((v2,v3,()),()),(())))) (aq (0≤v1) ((v2[v1.toNat]?).bind fun x6=>br (!(x6.epoch==(IntKind.wrap .i64 (v1+1)))) (fe (.inl (((),false,()),((v2,v3,()),()),(())))) (fn (((),(IntKind.wrap .i64 (v1+1)),()),((v2,v3,()),()),(())))) none)) none) (fe (.inr (((),(),()),((v2,v3,()),()),(()))))
def bK (s:cY.D):Option (cY.D⊕bq.D fM):=dC s.1.2.1 s.2.1.1.1 s.2.1.1.2.1 (fun s=>some (.inl s)) (fun e=>some (.inr e))
def fO:cY.D→Option (bq.D fM):=jF bK
theorem yb {ρ:Type} (s:cY.D) (fn:cY.D→Option ρ) (fe:bq.D fM→Option ρ):dC s.1.2.1 s.2.1.1.1 s.2.1.1.2.1 fn fe=(bK s).bind (Sum.elim fn fe):=by
 simp only [bK,dC,al,ap,Option.bind_none,Option.bind_assoc,Option.bind_some,Sum.elim_inl,Sum.elim_inr]
abbrev tc:dg:=dB [] [1,3] cY fM fO
theorem wK (s:cY.D):eP Θ (aP vR) (aO []) jW (cY.mk' s) (dp [1,3] [1,2] fun x S=>some (x,S))=(bK s).bind (Sum.elim (fun s'=>some (.nor,cY.mk' s')) fun e=>some (bq.e fM e)):=
 Eq.trans (by kernel_rfl:_=dC s.1.2.1 s.2.1.1.1 s.2.1.1.2.1 (fun s'=>some (.nor,cY.mk' s')) (fun e=>some (bq.e fM e))) (yb s _ _)
theorem wL:ck Tryz.prog jW tc:=bi aR rN af (by kernel_rfl) (dF (by kernel_rfl:_= []) ah) [] [1,3] [1,2] cY fM (by kernel_rfl) bK wK fO (hU bK) (aW bK)
def jk {ρ:Type} (a0:aw) (k:Bool×Unit→Option ρ):Option ρ:=
 (fO (((),0,()),((a0.configs,a0.activated,()),()),(()))).bind fun e7=>Sum.elim (fun e7_=>k (e7_.1.2.1,())) (fun e7_=>(ea e7_.2.1.1.2.1 0 (e7_.2.1.1.1.length:Int)).bind fun y8=>k (y8.1,())) e7
def dy (a0:aw):Option (Bool×Unit):=jk a0 some
theorem BN {ρ:Type} (a0:aw) (k:Bool×Unit→Option ρ):jk a0 k=(dy a0).bind k:=by
 simp only [dy,jk,cv,Option.bind_assoc,Option.bind_some]
abbrev rl:bA:=bO [.ty (.st .masterLog)] [.b] fun x=>dy x.1
theorem vS:aF Tryz.prog 122 rl:=
 ak (Λ:=aO [(b8 jW,tc)]) (fn:=Tryz.f122) aR rN af (by kernel_rfl) (aM (by kernel_rfl:_= [jW]) (aV (q:=b8 jW) rfl wL fun _ _ _=>by kernel_rfl)) (by kernel_rfl) (fun x=>dy x.1)
  (fun x=>Eq.trans (by kernel_rfl:_=jk x.1 (fun y=>ret (aH [.b] y) fun v g=>some (v,g))) (BN x.1 _)) fun _ _ h=>h
abbrev Py:List (Nat×bA):= []
theorem JR:az Tryz.prog (aP Py):=aj _
def pN {ρ:Type} (a0:ai) (k:ai×Unit→Option ρ):Option ρ:=
 aq ((([]:List Int)++a0.replicas).length*8≤2 ^ 40) (aq ((([]:List Int)++a0.witnesses).length*8≤2 ^ 40) (k ((⟨a0.epoch,a0.primary,(([]:List Int)++a0.replicas),(([]:List Int)++a0.witnesses)⟩:ai),())) none) none
def nH (a0:ai):Option (ai×Unit):=pN a0 some
theorem Ly {ρ:Type} (a0:ai) (k:ai×Unit→Option ρ):pN a0 k=(nH a0).bind k:=by
 simp only [nH,pN,ap,Option.bind_none,Option.bind_some]
abbrev JS:bA:=bO [.ty (.st .config)] [.st .config] fun x=>nH x.1
theorem Pz:aF Tryz.prog 170 JS:=
 ak (Λ:=aO []) (fn:=Tryz.f170) aR JR af (by kernel_rfl) (aM (by kernel_rfl:_= []) ah) (by kernel_rfl) (fun x=>nH x.1)
  (fun x=>Eq.trans (by kernel_rfl:_=pN x.1 (fun y=>ret (aH [.st .config] y) fun v g=>some (v,g))) (Ly x.1 _)) fun _ _ h=>h
abbrev Lz:List (Nat×bA):= [(122,rl),(120,o7),(170,JS)]
theorem Fw:az Tryz.prog (aP Lz):=ae vS <| ae pX <| ae Pz <| aj _
def ne {ρ:Type} (a0:aw) (a1:Int) (k:ai×Bool×Unit→Option ρ):Option ρ:=
 (dy a0).bind fun y1=>br (!y1.1) (k ((⟨0,0,([]:List Int),([]:List Int)⟩:ai),false,())) ((ea a1 1 (a0.configs.length:Int)).bind fun y2=>br (!y2.1) (k ((⟨0,0,([]:List Int),([]:List Int)⟩:ai),false,())) (aq (0≤(IntKind.wrap .i64 (a1 - 1))) ((a0.configs[(IntKind.wrap .i64 (a1 - 1)).toNat]?).bind fun x3=>(nH x3).bind fun y4=>k (y4.1,true,())) none))
def iV (a0:aw) (a1:Int):Option (ai×Bool×Unit):=ne a0 a1 some
theorem HF {ρ:Type} (a0:aw) (a1:Int) (k:ai×Bool×Unit→Option ρ):ne a0 a1 k=(iV a0 a1).bind k:=by
 simp only [iV,ne,al,ap,Option.bind_none,Option.bind_assoc,Option.bind_some]
abbrev wM:bA:=bO [.ty (.st .masterLog), .ty (.i .i64)] [.st .config, .b] fun x=>iV x.1 x.2.1
theorem DV:aF Tryz.prog 127 wM:=
 ak (Λ:=aO []) (fn:=Tryz.f127) aR Fw af (by kernel_rfl) (aM (by kernel_rfl:_= []) ah) (by kernel_rfl) (fun x=>iV x.1 x.2.1)
  (fun x=>Eq.trans (by kernel_rfl:_=ne x.1 x.2.1 (fun y=>ret (aH [.st .config, .b] y) fun v g=>some (v,g))) (HF x.1 x.2.1 _)) fun _ _ h=>h
abbrev BO:List (Nat×bA):= [(127,wM)]
theorem wN:az Tryz.prog (aP BO):=ae DV <| aj _
def gv {ρ:Type} (a0:aw) (k:ai×Bool×Unit→Option ρ):Option ρ:=
 (iV a0 a0.activated).bind fun y1=>k (y1.1,y1.2.1,())
def dW (a0:aw):Option (ai×Bool×Unit):=gv a0 some
theorem yc {ρ:Type} (a0:aw) (k:ai×Bool×Unit→Option ρ):gv a0 k=(dW a0).bind k:=by
 simp only [dW,gv,Option.bind_assoc,Option.bind_some]
abbrev td:bA:=bO [.ty (.st .masterLog)] [.st .config, .b] fun x=>dW x.1
theorem BP:aF Tryz.prog 50 td:=
 ak (Λ:=aO []) (fn:=Tryz.f50) aR wN af (by kernel_rfl) (aM (by kernel_rfl:_= []) ah) (by kernel_rfl) (fun x=>dW x.1)
  (fun x=>Eq.trans (by kernel_rfl:_=gv x.1 (fun y=>ret (aH [.st .config, .b] y) fun v g=>some (v,g))) (yc x.1 _)) fun _ _ h=>h
abbrev DW:List (Nat×bA):= [(120,o7)]
theorem vT:az Tryz.prog (aP DW):=ae pX <| aj _
noncomputable abbrev nI:Code:=cu (cm Tryz.f121) 0
abbrev ez:ev:=⟨[(0, .cl (.ro (.i .i64))),(3, .cl (.int .i64))],[],[],0,19⟩
abbrev jO:List (X×ev):= [(.ret,⟨[(0, .cl (.ro (.i .i64))),(2, .cl (.bl))],[],[],0,19⟩),(.ext 0,⟨[(0, .cl (.ro (.i .i64))),(2, .cl (.dead))],[],[],0,19⟩)]
def kh {ρ:Type} (v1:List Int) (v2:Int) (fn: (((List Int)×Int×Unit)×(Unit)×(Unit))→Option ρ) (fe: (((List Int)×Bool×Unit)×(Unit)×(Unit))⊕(((List Int)×Unit×Unit)×(Unit)×(Unit))→Option ρ):Option ρ:=
 br (decide (v2 < (v1.length:Int))) (aq (0≤v2) ((v1[v2.toNat]?).bind fun x3=>(ea x3 0 3).bind fun y4=>br (!y4.1) (fe (.inl ((v1,false,()),(()),(())))) (fn ((v1,(IntKind.wrap .i64 (v2+1)),()),(()),(())))) none) (fe (.inr ((v1,(),()),(()),(()))))
def fw (s:ez.D):Option (ez.D⊕bq.D jO):=kh s.1.1 s.1.2.1 (fun s=>some (.inl s)) (fun e=>some (.inr e))
def nJ:ez.D→Option (bq.D jO):=jF fw
theorem DX {ρ:Type} (s:ez.D) (fn:ez.D→Option ρ) (fe:bq.D jO→Option ρ):kh s.1.1 s.1.2.1 fn fe=(fw s).bind (Sum.elim fn fe):=by
 simp only [fw,kh,al,ap,Option.bind_none,Option.bind_assoc,Option.bind_some,Sum.elim_inl,Sum.elim_inr]
abbrev yd:dg:=dB [] [0,3] ez jO nJ
theorem BQ (s:ez.D):eP Θ (aP DW) (aO []) nI (ez.mk' s) (dp [0,3] [0,2] fun x S=>some (x,S))=(fw s).bind (Sum.elim (fun s'=>some (.nor,ez.mk' s')) fun e=>some (bq.e jO e)):=
 Eq.trans (by kernel_rfl:_=kh s.1.1 s.1.2.1 (fun s'=>some (.nor,ez.mk' s')) (fun e=>some (bq.e jO e))) (DX s _ _)
theorem BR:ck Tryz.prog nI yd:=bi aR vT af (by kernel_rfl) (dF (by kernel_rfl:_= []) ah) [] [0,3] [0,2] ez jO (by kernel_rfl) fw BQ nJ (hU fw) (aW fw)
def oV {ρ:Type} (a0:List Int) (k:Bool×Unit→Option ρ):Option ρ:=
 (nJ ((a0,0,()),(()),(()))).bind fun e5=>Sum.elim (fun e5_=>k (e5_.1.2.1,())) (fun e5_=>k (((e5_.1.1.length:Int)==5),())) e5
def kY (a0:List Int):Option (Bool×Unit):=oV a0 some
theorem HG {ρ:Type} (a0:List Int) (k:Bool×Unit→Option ρ):oV a0 k=(kY a0).bind k:=by
 simp only [kY,oV,cv,Option.bind_assoc,Option.bind_some]
abbrev DY:bA:=bO [.ty (.ls (.i .i64))] [.b] fun x=>kY x.1
theorem LA:aF Tryz.prog 121 DY:=
 ak (Λ:=aO [(b8 nI,yd)]) (fn:=Tryz.f121) aR vT af (by kernel_rfl) (aM (by kernel_rfl:_= [nI]) (aV (q:=b8 nI) rfl BR fun _ _ _=>by kernel_rfl)) (by kernel_rfl) (fun x=>kY x.1)
  (fun x=>Eq.trans (by kernel_rfl:_=oV x.1 (fun y=>ret (aH [.b] y) fun v g=>some (v,g))) (HG x.1 _)) fun _ _ h=>h
abbrev NB:List (Nat×bA):= [(120,o7)]
theorem HH:az Tryz.prog (aP NB):=ae pX <| aj _
def pZ {ρ:Type} (a0:jV) (k:Bool×Unit→Option ρ):Option ρ:=
 br ((a0.epoch==0)&&((a0.holder==0)&&((a0.ends==0)&&true))) (k (true,())) ((ea a0.epoch 1 20).bind fun y1=>br y1.1 ((ea a0.holder 0 4).bind fun y2=>br y2.1 ((ea a0.ends 1 1049).bind fun y3=>k (y3.1,())) (k (false,()))) (k (false,())))
def nf (a0:jV):Option (Bool×Unit):=pZ a0 some
theorem JT {ρ:Type} (a0:jV) (k:Bool×Unit→Option ρ):pZ a0 k=(nf a0).bind k:=by
 simp only [nf,pZ,al,Option.bind_assoc,Option.bind_some]
abbrev Gr:bA:=bO [.ty (.st .lease)] [.b] fun x=>nf x.1
theorem NC:aF Tryz.prog 123 Gr:=
 ak (Λ:=aO []) (fn:=Tryz.f123) aR HH af (by kernel_rfl) (aM (by kernel_rfl:_= []) ah) (by kernel_rfl) (fun x=>nf x.1)
  (fun x=>Eq.trans (by kernel_rfl:_=pZ x.1 (fun y=>ret (aH [.b] y) fun v g=>some (v,g))) (JT x.1 _)) fun _ _ h=>h
abbrev Ba:List (Nat×bA):= [(120,o7)]
theorem uq:az Tryz.prog (aP Ba):=ae pX <| aj _
noncomputable abbrev l8:Code:=cu (cm Tryz.f124) 0
abbrev dN:ev:=⟨[(0, .cl (.ro (.st .place))),(3, .cl (.int .i64))],[],[],0,38⟩
abbrev iW:List (X×ev):= [(.ret,⟨[(0, .cl (.ro (.st .place))),(2, .cl (.bl))],[],[],0,38⟩),(.ext 0,⟨[(0, .cl (.ro (.st .place))),(2, .cl (.dead))],[],[],0,38⟩)]
def jl {ρ:Type} (v1:List bh) (v2:Int) (fn: (((List bh)×Int×Unit)×(Unit)×(Unit))→Option ρ) (fe: (((List bh)×Bool×Unit)×(Unit)×(Unit))⊕(((List bh)×Unit×Unit)×(Unit)×(Unit))→Option ρ):Option ρ:=
 br (decide (v2 < (v1.length:Int))) (aq (0≤v2) ((v1[v2.toNat]?).bind fun x3=>(ea x3.rack 0 9).bind fun y4=>br (!y4.1) (fe (.inl ((v1,false,()),(()),(())))) (aq (0≤v2) ((v1[v2.toNat]?).bind fun x5=>(ea x5.capacity 0 9).bind fun y6=>br (!y6.1) (fe (.inl ((v1,false,()),(()),(())))) (aq (0≤v2) ((v1[v2.toNat]?).bind fun x7=>(ea x7.load 0 99).bind fun y8=>br (!y8.1) (fe (.inl ((v1,false,()),(()),(())))) (fn ((v1,(IntKind.wrap .i64 (v2+1)),()),(()),(())))) none)) none)) none) (fe (.inr ((v1,(),()),(()),(()))))
def ep (s:dN.D):Option (dN.D⊕bq.D iW):=jl s.1.1 s.1.2.1 (fun s=>some (.inl s)) (fun e=>some (.inr e))
def l9:dN.D→Option (bq.D iW):=jF ep
theorem BS {ρ:Type} (s:dN.D) (fn:dN.D→Option ρ) (fe:bq.D iW→Option ρ):jl s.1.1 s.1.2.1 fn fe=(ep s).bind (Sum.elim fn fe):=by
 simp only [ep,jl,al,ap,Option.bind_none,Option.bind_assoc,Option.bind_some,Sum.elim_inl,Sum.elim_inr]
abbrev vU:dg:=dB [] [0,3] dN iW l9
theorem zX (s:dN.D):eP Θ (aP Ba) (aO []) l8 (dN.mk' s) (dp [0,3] [0,2] fun x S=>some (x,S))=(ep s).bind (Sum.elim (fun s'=>some (.nor,dN.mk' s')) fun e=>some (bq.e iW e)):=
 Eq.trans (by kernel_rfl:_=jl s.1.1 s.1.2.1 (fun s'=>some (.nor,dN.mk' s')) (fun e=>some (bq.e iW e))) (BS s _ _)
theorem zY:ck Tryz.prog l8 vU:=bi aR uq af (by kernel_rfl) (dF (by kernel_rfl:_= []) ah) [] [0,3] [0,2] dN iW (by kernel_rfl) ep zX l9 (hU ep) (aW ep)
def nK {ρ:Type} (a0:List bh) (k:Bool×Unit→Option ρ):Option ρ:=
 (l9 ((a0,0,()),(()),(()))).bind fun e9=>Sum.elim (fun e9_=>k (e9_.1.2.1,())) (fun e9_=>k (((e9_.1.1.length:Int)==5),())) e9
def jG (a0:List bh):Option (Bool×Unit):=nK a0 some
theorem Fx {ρ:Type} (a0:List bh) (k:Bool×Unit→Option ρ):nK a0 k=(jG a0).bind k:=by
 simp only [jG,nK,cv,Option.bind_assoc,Option.bind_some]
abbrev Bb:bA:=bO [.ty (.ls (.st .place))] [.b] fun x=>jG x.1
theorem JU:aF Tryz.prog 124 Bb:=
 ak (Λ:=aO [(b8 l8,vU)]) (fn:=Tryz.f124) aR uq af (by kernel_rfl) (aM (by kernel_rfl:_= [l8]) (aV (q:=b8 l8) rfl zY fun _ _ _=>by kernel_rfl)) (by kernel_rfl) (fun x=>jG x.1)
  (fun x=>Eq.trans (by kernel_rfl:_=nK x.1 (fun y=>ret (aH [.b] y) fun v g=>some (v,g))) (Fx x.1 _)) fun _ _ h=>h
abbrev JV:List (Nat×bA):= [(120,o7)]
theorem DZ:az Tryz.prog (aP JV):=ae pX <| aj _
def nL {ρ:Type} (a0:Op) (k:Bool×Unit→Option ρ):Option ρ:=
 (ea a0.client 0 2).bind fun y1=>br (!y1.1) (k (false,())) ((ea a0.seq 1 99).bind fun y2=>br (!y2.1) (k (false,())) ((ea a0.object 0 2).bind fun y3=>br (!y3.1) (k (false,())) ((ea a0.value 0 9).bind fun y4=>br (!y4.1) (k (false,())) (br (a0.kind==1) (br (a0.old==0) (k (true,())) (br (a0.kind==2) ((ea a0.old 0 9).bind fun y5=>k (y5.1,())) (k (false,())))) (br (a0.kind==2) ((ea a0.old 0 9).bind fun y6=>k (y6.1,())) (k (false,())))))))
def kZ (a0:Op):Option (Bool×Unit):=nL a0 some
theorem Fy {ρ:Type} (a0:Op) (k:Bool×Unit→Option ρ):nL a0 k=(kZ a0).bind k:=by
 simp only [kZ,nL,al,Option.bind_assoc,Option.bind_some]
abbrev Bc:bA:=bO [.ty (.st .op)] [.b] fun x=>kZ x.1
theorem JW:aF Tryz.prog 225 Bc:=
 ak (Λ:=aO []) (fn:=Tryz.f225) aR DZ af (by kernel_rfl) (aM (by kernel_rfl:_= []) ah) (by kernel_rfl) (fun x=>kZ x.1)
  (fun x=>Eq.trans (by kernel_rfl:_=nL x.1 (fun y=>ret (aH [.b] y) fun v g=>some (v,g))) (Fy x.1 _)) fun _ _ h=>h
abbrev MH:List (Nat×bA):= [(120,o7),(225,Bc)]
theorem D0:az Tryz.prog (aP MH):=ae pX <| ae JW <| aj _
noncomputable abbrev rO:Code:=cu (cm Tryz.f172) 0
abbrev jm:ev:=⟨[(0, .cl (.ro (.st .entry))),(3, .cl (.int .i64))],[],[],0,47⟩
abbrev ow:List (X×ev):= [(.ret,⟨[(0, .cl (.ro (.st .entry))),(2, .cl (.bl))],[],[],0,47⟩),(.ext 0,⟨[(0, .cl (.ro (.st .entry))),(2, .cl (.dead))],[],[],0,47⟩)]
def ox {ρ:Type} (v1:List aA) (v2:Int) (fn: (((List aA)×Int×Unit)×(Unit)×(Unit))→Option ρ) (fe: (((List aA)×Bool×Unit)×(Unit)×(Unit))⊕(((List aA)×Unit×Unit)×(Unit)×(Unit))→Option ρ):Option ρ:=
 br (decide (v2 < (v1.length:Int))) (aq (0≤v2) ((v1[v2.toNat]?).bind fun x3=>(ea x3.epoch 1 20).bind fun y4=>br (!y4.1) (fe (.inl ((v1,false,()),(()),(())))) (aq (0≤v2) ((v1[v2.toNat]?).bind fun x5=>(kZ x5.op).bind fun y6=>br (!y6.1) (fe (.inl ((v1,false,()),(()),(())))) (br (decide (v2 > 0)) (aq (0≤(IntKind.wrap .i64 (v2 - 1))) ((v1[(IntKind.wrap .i64 (v2 - 1)).toNat]?).bind fun x7=>aq (0≤v2) ((v1[v2.toNat]?).bind fun x8=>br (decide (x7.epoch > x8.epoch)) (fe (.inl ((v1,false,()),(()),(())))) (fn ((v1,(IntKind.wrap .i64 (v2+1)),()),(()),(())))) none) none) (fn ((v1,(IntKind.wrap .i64 (v2+1)),()),(()),(()))))) none)) none) (fe (.inr ((v1,(),()),(()),(()))))
def ki (s:jm.D):Option (jm.D⊕bq.D ow):=ox s.1.1 s.1.2.1 (fun s=>some (.inl s)) (fun e=>some (.inr e))
def rP:jm.D→Option (bq.D ow):=jF ki
theorem JX {ρ:Type} (s:jm.D) (fn:jm.D→Option ρ) (fe:bq.D ow→Option ρ):ox s.1.1 s.1.2.1 fn fe=(ki s).bind (Sum.elim fn fe):=by
 simp only [ki,ox,al,ap,Option.bind_none,Option.bind_assoc,Option.bind_some,Sum.elim_inl,Sum.elim_inr]
abbrev Gs:dg:=dB [] [0,3] jm ow rP
theorem HI (s:jm.D):eP Θ (aP MH) (aO []) rO (jm.mk' s) (dp [0,3] [0,2] fun x S=>some (x,S))=(ki s).bind (Sum.elim (fun s'=>some (.nor,jm.mk' s')) fun e=>some (bq.e ow e)):=
 Eq.trans (by kernel_rfl:_=ox s.1.1 s.1.2.1 (fun s'=>some (.nor,jm.mk' s')) (fun e=>some (bq.e ow e))) (JX s _ _)
theorem HJ:ck Tryz.prog rO Gs:=bi aR D0 af (by kernel_rfl) (dF (by kernel_rfl:_= []) ah) [] [0,3] [0,2] jm ow (by kernel_rfl) ki HI rP (hU ki) (aW ki)
def ur {ρ:Type} (a0:List aA) (k:Bool×Unit→Option ρ):Option ρ:=
 (rP ((a0,0,()),(()),(()))).bind fun e9=>Sum.elim (fun e9_=>k (e9_.1.2.1,())) (fun e9_=>k ((decide ((e9_.1.1.length:Int)≤16)),())) e9
def pC (a0:List aA):Option (Bool×Unit):=ur a0 some
theorem ND {ρ:Type} (a0:List aA) (k:Bool×Unit→Option ρ):ur a0 k=(pC a0).bind k:=by
 simp only [pC,ur,cv,Option.bind_assoc,Option.bind_some]
abbrev MI:bA:=bO [.ty (.ls (.st .entry))] [.b] fun x=>pC x.1
theorem Q8:aF Tryz.prog 172 MI:=
 ak (Λ:=aO [(b8 rO,Gs)]) (fn:=Tryz.f172) aR D0 af (by kernel_rfl) (aM (by kernel_rfl:_= [rO]) (aV (q:=b8 rO) rfl HJ fun _ _ _=>by kernel_rfl)) (by kernel_rfl) (fun x=>pC x.1)
  (fun x=>Eq.trans (by kernel_rfl:_=ur x.1 (fun y=>ret (aH [.b] y) fun v g=>some (v,g))) (ND x.1 _)) fun _ _ h=>h
abbrev ut:List (Nat×bA):= []
theorem qN:az Tryz.prog (aP ut):=aj _
noncomputable abbrev jn:Code:=cu (cm Tryz.f159) 0
abbrev cN:ev:=⟨[(0, .cl (.ro (.i .i64))),(1, .cl (.ro (.i .i64))),(5, .cl (.int .i64))],[],[],0,26⟩
abbrev eY:List (X×ev):= [(.ret,⟨[(4, .cl (.bl))],[],[],0,26⟩),(.ext 0,⟨[(4, .cl (.dead))],[],[],0,26⟩)]
def fF {ρ:Type} (v1:List Int) (v2:List Int) (v3:Int) (fn: (((List Int)×(List Int)×Int×Unit)×(Unit)×(Unit))→Option ρ) (fe: ((Bool×Unit)×(Unit)×(Unit))⊕((Unit×Unit)×(Unit)×(Unit))→Option ρ):Option ρ:=
 br (decide (v3 < (v1.length:Int))) (aq (0≤v3) ((v1[v3.toNat]?).bind fun x4=>aq (0≤v3) ((v2[v3.toNat]?).bind fun x5=>br (!(x4==x5)) (fe (.inl ((false,()),(()),(())))) (fn ((v1,v2,(IntKind.wrap .i64 (v3+1)),()),(()),(())))) none) none) (fe (.inr (((),()),(()),(()))))
def c9 (s:cN.D):Option (cN.D⊕bq.D eY):=fF s.1.1 s.1.2.1 s.1.2.2.1 (fun s=>some (.inl s)) (fun e=>some (.inr e))
def jo:cN.D→Option (bq.D eY):=jF c9
theorem wO {ρ:Type} (s:cN.D) (fn:cN.D→Option ρ) (fe:bq.D eY→Option ρ):fF s.1.1 s.1.2.1 s.1.2.2.1 fn fe=(c9 s).bind (Sum.elim fn fe):=by
 simp only [c9,fF,al,ap,Option.bind_none,Option.bind_assoc,Option.bind_some,Sum.elim_inl,Sum.elim_inr]
abbrev rQ:dg:=dB [] [0,1,5] cN eY jo
theorem vq (s:cN.D):eP Θ (aP ut) (aO []) jn (cN.mk' s) (dp [0,1,5] [4] fun x S=>some (x,S))=(c9 s).bind (Sum.elim (fun s'=>some (.nor,cN.mk' s')) fun e=>some (bq.e eY e)):=
 Eq.trans (by kernel_rfl:_=fF s.1.1 s.1.2.1 s.1.2.2.1 (fun s'=>some (.nor,cN.mk' s')) (fun e=>some (bq.e eY e))) (wO s _ _)
theorem vr:ck Tryz.prog jn rQ:=bi aR qN af (by kernel_rfl) (dF (by kernel_rfl:_= []) ah) [] [0,1,5] [4] cN eY (by kernel_rfl) c9 vq jo (hU c9) (aW c9)
def jX {ρ:Type} (a0:List Int) (a1:List Int) (k:Bool×Unit→Option ρ):Option ρ:=
 br (!((a0.length:Int)==(a1.length:Int))) (k (false,())) ((jo ((a0,a1,0,()),(()),(()))).bind fun e6=>Sum.elim (fun e6_=>k (e6_.1.1,())) (fun e6_=>k (true,())) e6)
def fy (a0:List Int) (a1:List Int):Option (Bool×Unit):=jX a0 a1 some
theorem zZ {ρ:Type} (a0:List Int) (a1:List Int) (k:Bool×Unit→Option ρ):jX a0 a1 k=(fy a0 a1).bind k:=by
 simp only [fy,jX,al,cv,Option.bind_assoc,Option.bind_some]
abbrev uu:bA:=bO [.ty (.ls (.i .i64)), .ty (.ls (.i .i64))] [.b] fun x=>fy x.1 x.2.1
theorem D3:aF Tryz.prog 159 uu:=
 ak (Λ:=aO [(b8 jn,rQ)]) (fn:=Tryz.f159) aR qN af (by kernel_rfl) (aM (by kernel_rfl:_= [jn]) (aV (q:=b8 jn) rfl vr fun _ _ _=>by kernel_rfl)) (by kernel_rfl) (fun x=>fy x.1 x.2.1)
  (fun x=>Eq.trans (by kernel_rfl:_=jX x.1 x.2.1 (fun y=>ret (aH [.b] y) fun v g=>some (v,g))) (zZ x.1 x.2.1 _)) fun _ _ h=>h
abbrev D4:List (Nat×bA):= [(159,uu)]
theorem ye:az Tryz.prog (aP D4):=ae D3 <| aj _
def jY {ρ:Type} (a0:ai) (a1:ai) (k:Bool×Unit→Option ρ):Option ρ:=
 br (a0.epoch==a1.epoch) (br (a0.primary==a1.primary) ((fy a0.replicas a1.replicas).bind fun y1=>br y1.1 ((fy a0.witnesses a1.witnesses).bind fun y2=>k (y2.1,())) (k (false,()))) (k (false,()))) (k (false,()))
def fA (a0:ai) (a1:ai):Option (Bool×Unit):=jY a0 a1 some
theorem z0 {ρ:Type} (a0:ai) (a1:ai) (k:Bool×Unit→Option ρ):jY a0 a1 k=(fA a0 a1).bind k:=by
 simp only [fA,jY,al,Option.bind_assoc,Option.bind_some]
abbrev p6:bA:=bO [.ty (.st .config), .ty (.st .config)] [.b] fun x=>fA x.1 x.2.1
theorem uv:aF Tryz.prog 90 p6:=
 ak (Λ:=aO []) (fn:=Tryz.f90) aR ye af (by kernel_rfl) (aM (by kernel_rfl:_= []) ah) (by kernel_rfl) (fun x=>fA x.1 x.2.1)
  (fun x=>Eq.trans (by kernel_rfl:_=jY x.1 x.2.1 (fun y=>ret (aH [.b] y) fun v g=>some (v,g))) (z0 x.1 x.2.1 _)) fun _ _ h=>h
abbrev NE:List (Nat×bA):= [(90,p6)]
theorem HK:az Tryz.prog (aP NE):=ae uv <| aj _
def p7 {ρ:Type} (a0:ai) (k:Bool×Unit→Option ρ):Option ρ:=
 (fA a0 (⟨0,0,([]:List Int),([]:List Int)⟩:ai)).bind fun y1=>k (y1.1,())
def nh (a0:ai):Option (Bool×Unit):=p7 a0 some
theorem JY {ρ:Type} (a0:ai) (k:Bool×Unit→Option ρ):p7 a0 k=(nh a0).bind k:=by
 simp only [nh,p7,Option.bind_assoc,Option.bind_some]
abbrev z6:bA:=bO [.ty (.st .config)] [.b] fun x=>nh x.1
theorem Gt:aF Tryz.prog 89 z6:=
 ak (Λ:=aO []) (fn:=Tryz.f89) aR HK af (by kernel_rfl) (aM (by kernel_rfl:_= []) ah) (by kernel_rfl) (fun x=>nh x.1)
  (fun x=>Eq.trans (by kernel_rfl:_=p7 x.1 (fun y=>ret (aH [.b] y) fun v g=>some (v,g))) (JY x.1 _)) fun _ _ h=>h
abbrev NF:List (Nat×bA):= []
theorem HL:az Tryz.prog (aP NF):=aj _
def p8 {ρ:Type} (a0:List aA) (k:Int×Unit→Option ρ):Option ρ:=
 br ((a0.length:Int)==0) (k (0,())) (aq (0≤(IntKind.wrap .i64 ((a0.length:Int) - 1))) ((a0[(IntKind.wrap .i64 ((a0.length:Int) - 1)).toNat]?).bind fun x1=>k (x1.epoch,())) none)
def ni (a0:List aA):Option (Int×Unit):=p8 a0 some
theorem JZ {ρ:Type} (a0:List aA) (k:Int×Unit→Option ρ):p8 a0 k=(ni a0).bind k:=by
 simp only [ni,p8,al,ap,Option.bind_none,Option.bind_assoc,Option.bind_some]
abbrev z8:bA:=bO [.ty (.ls (.st .entry))] [.i .i64] fun x=>ni x.1
theorem Gu:aF Tryz.prog 126 z8:=
 ak (Λ:=aO []) (fn:=Tryz.f126) aR HL af (by kernel_rfl) (aM (by kernel_rfl:_= []) ah) (by kernel_rfl) (fun x=>ni x.1)
  (fun x=>Eq.trans (by kernel_rfl:_=p8 x.1 (fun y=>ret (aH [.i .i64] y) fun v g=>some (v,g))) (JZ x.1 _)) fun _ _ h=>h
abbrev PA:List (Nat×bA):= [(169,o8),(51,qL)]
theorem J0:az Tryz.prog (aP PA):=ae tb <| ae uk <| aj _
def rR {ρ:Type} (a0:ai) (a1:Int) (k:Int×Unit→Option ρ):Option ρ:=
 (b9 a0).bind fun y1=>br (!y1.1) (k (0,())) (br (a1==a0.primary) (k (1,())) ((gf a0.replicas a1).bind fun y2=>br y2.1 (k (2,())) ((gf a0.witnesses a1).bind fun y3=>br y3.1 (k (3,())) (k (0,())))))
def p9 (a0:ai) (a1:Int):Option (Int×Unit):=rR a0 a1 some
theorem LB {ρ:Type} (a0:ai) (a1:Int) (k:Int×Unit→Option ρ):rR a0 a1 k=(p9 a0 a1).bind k:=by
 simp only [p9,rR,al,Option.bind_assoc,Option.bind_some]
abbrev J1:bA:=bO [.ty (.st .config), .ty (.i .i64)] [.i .i64] fun x=>p9 x.1 x.2.1
theorem PB:aF Tryz.prog 171 J1:=
 ak (Λ:=aO []) (fn:=Tryz.f171) aR J0 af (by kernel_rfl) (aM (by kernel_rfl:_= []) ah) (by kernel_rfl) (fun x=>p9 x.1 x.2.1)
  (fun x=>Eq.trans (by kernel_rfl:_=rR x.1 x.2.1 (fun y=>ret (aH [.i .i64] y) fun v g=>some (v,g))) (LB x.1 x.2.1 _)) fun _ _ h=>h
abbrev BT:List (Nat×bA):= [(120,o7),(172,MI),(89,z6),(126,z8),(171,J1)]
theorem wP:az Tryz.prog (aP BT):=ae pX <| ae Q8 <| ae Gt <| ae Gu <| ae PB <| aj _
def jq {ρ:Type} (a0:ay) (a1:Int) (k:Bool×Unit→Option ρ):Option ρ:=
 (ea a0.version 1 2).bind fun y1=>br (!y1.1) (k (false,())) ((ea a0.epoch 0 20).bind fun y2=>br (!y2.1) (k (false,())) ((pC a0.log).bind fun y3=>br (!y3.1) (k (false,())) ((pC a0.learned).bind fun y4=>br (!y4.1) (k (false,())) ((ea a0.first 0 16).bind fun y5=>br (!y5.1) (k (false,())) ((ea (IntKind.wrap .i64 (a0.first+(a0.log.length:Int))) 0 16).bind fun y6=>br (!y6.1) (k (false,())) ((ea a0.commit 0 (IntKind.wrap .i64 (a0.first+(a0.log.length:Int)))).bind fun y7=>br (!y7.1) (k (false,())) ((nh a0.config).bind fun y8=>br y8.1 (br (a0.first==0) (br ((a0.log.length:Int)==0) (k ((a0.commit==0),())) (k (false,()))) (k (false,()))) (br (!a0.intact) (k (false,())) (br (decide (a0.epoch < a0.config.epoch)) (k (false,())) ((ni a0.log).bind fun y9=>br (decide (y9.1 > a0.config.epoch)) (k (false,())) ((p9 a0.config a1).bind fun y10=>br (y10.1==0) (k (false,())) (br (y10.1==3) (br (decide ((a0.log.length:Int)≤3)) (br ((a0.log.length:Int)==3) (k (true,())) (k ((a0.first==0),()))) (k (false,()))) (k ((a0.first==0),()))))))))))))))
def dX (a0:ay) (a1:Int):Option (Bool×Unit):=jq a0 a1 some
theorem yf {ρ:Type} (a0:ay) (a1:Int) (k:Bool×Unit→Option ρ):jq a0 a1 k=(dX a0 a1).bind k:=by
 simp only [dX,jq,al,Option.bind_assoc,Option.bind_some]
abbrev te:bA:=bO [.ty (.st .server), .ty (.i .i64)] [.b] fun x=>dX x.1 x.2.1
theorem BU:aF Tryz.prog 125 te:=
 ak (Λ:=aO []) (fn:=Tryz.f125) aR wP af (by kernel_rfl) (aM (by kernel_rfl:_= []) ah) (by kernel_rfl) (fun x=>dX x.1 x.2.1)
  (fun x=>Eq.trans (by kernel_rfl:_=jq x.1 x.2.1 (fun y=>ret (aH [.b] y) fun v g=>some (v,g))) (yf x.1 x.2.1 _)) fun _ _ h=>h
abbrev rS:List (Nat×bA):= [(120,o7),(121,DY),(122,rl),(123,Gr),(124,Bb),(125,te),(126,z8),(127,wM),(89,z6),(90,p6)]
theorem pi:az Tryz.prog (aP rS):=ae pX <| ae LA <| ae vS <| ae NC <| ae JU <| ae BU <| ae Gu <| ae DV <| ae Gt <| ae uv <| aj _
noncomputable abbrev gJ:Code:=cu (cm Tryz.f46) 0
abbrev cb:ev:=⟨[(1, .cl (.ptr 0 0)),(3, .cl (.int .i64))],[[.int .i64, .ro (.st .server), .ro (.i .i64), .ro (.st .config), .int .i64, .int .i64, .int .i64, .int .i64, .int .i64, .ro (.st .place)]],[],0,123⟩
abbrev eb:List (X×ev):= [(.ret,⟨[(2, .cl (.bl))],[],[],0,123⟩),(.ext 0,⟨[(2, .cl (.dead))],[],[],0,123⟩)]
def cL {ρ:Type} (v7:Int) (v8:Int) (v9:List ay) (v10:List Int) (v11:List ai) (v12:Int) (v13:Int) (v14:Int) (v15:Int) (v16:Int) (v17:List bh) (fn: ((Unit×Int×Unit)×((Int×(List ay)×(List Int)×(List ai)×Int×Int×Int×Int×Int×(List bh)×Unit)×Unit)×(Unit))→Option ρ) (fe: ((Bool×Unit)×(Unit)×(Unit))⊕((Unit×Unit)×(Unit)×(Unit))→Option ρ):Option ρ:=
 br (decide (v7 < (v9.length:Int))) (aq (0≤v7) ((v9[v7.toNat]?).bind fun x18=>(dX x18 v7).bind fun y19=>br (!y19.1) (fe (.inl ((false,()),(()),(())))) (br (decide (x18.epoch > (v11.length:Int))) (fe (.inl ((false,()),(()),(())))) ((ni x18.learned).bind fun y20=>br (decide (y20.1 > v12)) (fe (.inl ((false,()),(()),(())))) ((iV (⟨v11,v12⟩:aw) x18.config.epoch).bind fun y21=>(nh x18.config).bind fun y22=>br (!y22.1) (br (!y21.2.1) (fe (.inl ((false,()),(()),(())))) ((fA y21.1 x18.config).bind fun y23=>br (!y23.1) (fe (.inl ((false,()),(()),(())))) (br (decide (x18.config.epoch > v12)) (fe (.inl ((false,()),(()),(())))) (fn (((),(IntKind.wrap .i64 (v7+1)),()),((v8,v9,v10,v11,v12,v13,v14,v15,v16,v17,()),()),(())))))) (fn (((),(IntKind.wrap .i64 (v7+1)),()),((v8,v9,v10,v11,v12,v13,v14,v15,v16,v17,()),()),(()))))))) none) (fe (.inr (((),()),(()),(()))))
def ba (s:cb.D):Option (cb.D⊕bq.D eb):=cL s.1.2.1 s.2.1.1.1 s.2.1.1.2.1 s.2.1.1.2.2.1 s.2.1.1.2.2.2.1 s.2.1.1.2.2.2.2.1 s.2.1.1.2.2.2.2.2.1 s.2.1.1.2.2.2.2.2.2.1 s.2.1.1.2.2.2.2.2.2.2.1 s.2.1.1.2.2.2.2.2.2.2.2.1 s.2.1.1.2.2.2.2.2.2.2.2.2.1 (fun s=>some (.inl s)) (fun e=>some (.inr e))
def eZ:cb.D→Option (bq.D eb):=jF ba
theorem uw {ρ:Type} (s:cb.D) (fn:cb.D→Option ρ) (fe:bq.D eb→Option ρ):cL s.1.2.1 s.2.1.1.1 s.2.1.1.2.1 s.2.1.1.2.2.1 s.2.1.1.2.2.2.1 s.2.1.1.2.2.2.2.1 s.2.1.1.2.2.2.2.2.1 s.2.1.1.2.2.2.2.2.2.1 s.2.1.1.2.2.2.2.2.2.2.1 s.2.1.1.2.2.2.2.2.2.2.2.1 s.2.1.1.2.2.2.2.2.2.2.2.2.1 fn fe=(ba s).bind (Sum.elim fn fe):=by
 simp only [ba,cL,al,ap,Option.bind_none,Option.bind_assoc,Option.bind_some,Sum.elim_inl,Sum.elim_inr]
abbrev qa:dg:=dB [] [1,3] cb eb eZ
theorem tG (s:cb.D):eP Θ (aP rS) (aO []) gJ (cb.mk' s) (dp [1,3] [2] fun x S=>some (x,S))=(ba s).bind (Sum.elim (fun s'=>some (.nor,cb.mk' s')) fun e=>some (bq.e eb e)):=
 Eq.trans (by kernel_rfl:_=cL s.1.2.1 s.2.1.1.1 s.2.1.1.2.1 s.2.1.1.2.2.1 s.2.1.1.2.2.2.1 s.2.1.1.2.2.2.2.1 s.2.1.1.2.2.2.2.2.1 s.2.1.1.2.2.2.2.2.2.1 s.2.1.1.2.2.2.2.2.2.2.1 s.2.1.1.2.2.2.2.2.2.2.2.1 s.2.1.1.2.2.2.2.2.2.2.2.2.1 (fun s'=>some (.nor,cb.mk' s')) (fun e=>some (bq.e eb e))) (uw s _ _)
theorem tH:ck Tryz.prog gJ qa:=bi aR pi af (by kernel_rfl) (dF (by kernel_rfl:_= []) ah) [] [1,3] [2] cb eb (by kernel_rfl) ba tG eZ (hU ba) (aW ba)
def fG {ρ:Type} (a0:aQ) (k:Bool×Unit→Option ρ):Option ρ:=
 (ea a0.now 0 999).bind fun y1=>br (!y1.1) (k (false,())) (br (!((a0.servers.length:Int)==5)) (k (false,())) ((kY a0.sides).bind fun y2=>br (!y2.1) (k (false,())) ((dy a0.master).bind fun y3=>br (!y3.1) (k (false,())) ((ea a0.masterUp 0 3).bind fun y4=>br (!y4.1) (k (false,())) ((nf a0.lease).bind fun y5=>br (!y5.1) (k (false,())) ((jG a0.places).bind fun y6=>br (!y6.1) (k (false,())) (br (decide (a0.lease.epoch > a0.master.activated)) (k (false,())) ((eZ (((),0,()),((a0.now,a0.servers,a0.sides,a0.master.configs,a0.master.activated,a0.masterUp,a0.lease.epoch,a0.lease.holder,a0.lease.ends,a0.places,()),()),(()))).bind fun e24=>Sum.elim (fun e24_=>k (e24_.1.1,())) (fun e24_=>k (true,())) e24))))))))
def da (a0:aQ):Option (Bool×Unit):=fG a0 some
theorem wQ {ρ:Type} (a0:aQ) (k:Bool×Unit→Option ρ):fG a0 k=(da a0).bind k:=by
 simp only [da,fG,al,cv,Option.bind_assoc,Option.bind_some]
abbrev rT:bA:=bO [.ty (.st .cluster)] [.b] fun x=>da x.1
theorem Aa:aF Tryz.prog 46 rT:=
 ak (Λ:=aO [(b8 gJ,qa)]) (fn:=Tryz.f46) aR pi af (by kernel_rfl) (aM (by kernel_rfl:_= [gJ]) (aV (q:=b8 gJ) rfl tH fun _ _ _=>by kernel_rfl)) (by kernel_rfl) (fun x=>da x.1)
  (fun x=>Eq.trans (by kernel_rfl:_=fG x.1 (fun y=>ret (aH [.b] y) fun v g=>some (v,g))) (wQ x.1 _)) fun _ _ h=>h
abbrev PC:List (Nat×bA):= []
theorem J2:az Tryz.prog (aP PC):=aj _
def rU {ρ:Type} (a0:List aA) (k: (List aA)×Unit→Option ρ):Option ρ:=
 aq ((([]:List aA)++a0).length*56≤2 ^ 40) (k ((([]:List aA)++a0),())) none
def qb (a0:List aA):Option ((List aA)×Unit):=rU a0 some
theorem LC {ρ:Type} (a0:List aA) (k: (List aA)×Unit→Option ρ):rU a0 k=(qb a0).bind k:=by
 simp only [qb,rU,ap,Option.bind_none,Option.bind_some]
abbrev J3:bA:=bO [.ty (.ls (.st .entry))] [.ls (.st .entry)] fun x=>qb x.1
theorem PD:aF Tryz.prog 79 J3:=
 ak (Λ:=aO []) (fn:=Tryz.f79) aR J2 af (by kernel_rfl) (aM (by kernel_rfl:_= []) ah) (by kernel_rfl) (fun x=>qb x.1)
  (fun x=>Eq.trans (by kernel_rfl:_=rU x.1 (fun y=>ret (aH [.ls (.st .entry)] y) fun v g=>some (v,g))) (LC x.1 _)) fun _ _ h=>h
abbrev D5:List (Nat×bA):= [(50,td),(46,rT),(79,J3)]
theorem vV:az Tryz.prog (aP D5):=ae BP <| ae Aa <| ae PD <| aj _
noncomputable abbrev nM:Code:=cu (cm Tryz.f23) 0
abbrev eA:ev:=⟨[(1, .cl (.ptr 0 0)),(4, .cl (.ptr 1 0)),(5, .cl (.bl)),(6, .cl (.int .i64)),(7, .cl (.int .i64))],[[.int .i64, .ro (.st .server), .ro (.i .i64), .ro (.st .config), .int .i64, .int .i64, .int .i64, .int .i64, .int .i64, .ro (.st .place)],[.int .i64, .int .i64, .own 0 (.i .i64), .own 1 (.i .i64)]],[.i .i64, .i .i64],0,78⟩
abbrev jP:List (X×ev):= [(.ext 0,⟨[(1, .cl (.ptr 0 0)),(5, .cl (.bl)),(6, .cl (.int .i64))],[[.int .i64, .ro (.st .server), .ro (.i .i64), .ro (.st .config), .int .i64, .int .i64, .int .i64, .int .i64, .int .i64, .ro (.st .place)]],[],0,78⟩)]
def iX {ρ:Type} (v3:List Int) (v4:List Int) (v5:Bool) (v6:Int) (v7:Int) (v8:Int) (v9:List ay) (v10:List Int) (v11:List ai) (v12:Int) (v13:Int) (v14:Int) (v15:Int) (v16:Int) (v17:List bh) (v18:Int) (v19:Int) (fn: ((Unit×Unit×Bool×Int×Int×Unit)×((Int×(List ay)×(List Int)×(List ai)×Int×Int×Int×Int×Int×(List bh)×Unit)×(Int×Int×Unit×Unit×Unit)×Unit)×((List Int)×(List Int)×Unit))→Option ρ) (fe: ((Unit×Bool×Int×Unit)×((Int×(List ay)×(List Int)×(List ai)×Int×Int×Int×Int×Int×(List bh)×Unit)×Unit)×(Unit))→Option ρ):Option ρ:=
 br (decide (v7 < (v3.length:Int))) (br v5 (aq (0≤v7∧v7 < (v3.length:Int)) ((v3[v7.toNat]?).bind fun x20=>aq (0≤x20) ((v9[x20.toNat]?).bind fun x21=>br (x21.config.epoch==v18) (br (decide (v6 < 0)) (fn (((),(),v5,x20,(IntKind.wrap .i64 (v7+1)),()),((v8,v9,v10,v11,v12,v13,v14,v15,v16,v17,()),(v18,v19,(),(),()),()),(v3,v4,()))) (aq (0≤x20) ((v9[x20.toNat]?).bind fun x22=>aq (0≤v6) ((v9[v6.toNat]?).bind fun x23=>br (decide ((x22.log.length:Int) > (x23.log.length:Int))) (fn (((),(),v5,x20,(IntKind.wrap .i64 (v7+1)),()),((v8,v9,v10,v11,v12,v13,v14,v15,v16,v17,()),(v18,v19,(),(),()),()),(v3,v4,()))) (fn (((),(),v5,v6,(IntKind.wrap .i64 (v7+1)),()),((v8,v9,v10,v11,v12,v13,v14,v15,v16,v17,()),(v18,v19,(),(),()),()),(v3,v4,())))) none) none)) (fn (((),(),v5,v6,(IntKind.wrap .i64 (v7+1)),()),((v8,v9,v10,v11,v12,v13,v14,v15,v16,v17,()),(v18,v19,(),(),()),()),(v3,v4,())))) none) none) (fe (((),v5,v6,()),((v8,v9,v10,v11,v12,v13,v14,v15,v16,v17,()),()),(())))) (fe (((),v5,v6,()),((v8,v9,v10,v11,v12,v13,v14,v15,v16,v17,()),()),(())))
def eB (s:eA.D):Option (eA.D⊕bq.D jP):=iX s.2.2.1 s.2.2.2.1 s.1.2.2.1 s.1.2.2.2.1 s.1.2.2.2.2.1 s.2.1.1.1 s.2.1.1.2.1 s.2.1.1.2.2.1 s.2.1.1.2.2.2.1 s.2.1.1.2.2.2.2.1 s.2.1.1.2.2.2.2.2.1 s.2.1.1.2.2.2.2.2.2.1 s.2.1.1.2.2.2.2.2.2.2.1 s.2.1.1.2.2.2.2.2.2.2.2.1 s.2.1.1.2.2.2.2.2.2.2.2.2.1 s.2.1.2.1.1 s.2.1.2.1.2.1 (fun s=>some (.inl s)) (fun e=>some (.inr e))
def nN:eA.D→Option (bq.D jP):=jF eB
theorem D6 {ρ:Type} (s:eA.D) (fn:eA.D→Option ρ) (fe:bq.D jP→Option ρ):iX s.2.2.1 s.2.2.2.1 s.1.2.2.1 s.1.2.2.2.1 s.1.2.2.2.2.1 s.2.1.1.1 s.2.1.1.2.1 s.2.1.1.2.2.1 s.2.1.1.2.2.2.1 s.2.1.1.2.2.2.2.1 s.2.1.1.2.2.2.2.2.1 s.2.1.1.2.2.2.2.2.2.1 s.2.1.1.2.2.2.2.2.2.2.1 s.2.1.1.2.2.2.2.2.2.2.2.1 s.2.1.1.2.2.2.2.2.2.2.2.2.1 s.2.1.2.1.1 s.2.1.2.1.2.1 fn fe=(eB s).bind (Sum.elim fn fe):=by
 simp only [eB,iX,al,ap,Option.bind_none,Option.bind_assoc,Option.bind_some,Sum.elim_inl,Sum.elim_inr]
abbrev yg:dg:=dB [] [1,4,5,6,7] eA jP nN
theorem BV (s:eA.D):eP Θ (aP D5) (aO []) nM (eA.mk' s) (dp [1,4,5,6,7] [1,5,6] fun x S=>some (x,S))=(eB s).bind (Sum.elim (fun s'=>some (.nor,eA.mk' s')) fun e=>some (bq.e jP e)):=
 Eq.trans (by kernel_rfl:_=iX s.2.2.1 s.2.2.2.1 s.1.2.2.1 s.1.2.2.2.1 s.1.2.2.2.2.1 s.2.1.1.1 s.2.1.1.2.1 s.2.1.1.2.2.1 s.2.1.1.2.2.2.1 s.2.1.1.2.2.2.2.1 s.2.1.1.2.2.2.2.2.1 s.2.1.1.2.2.2.2.2.2.1 s.2.1.1.2.2.2.2.2.2.2.1 s.2.1.1.2.2.2.2.2.2.2.2.1 s.2.1.1.2.2.2.2.2.2.2.2.2.1 s.2.1.2.1.1 s.2.1.2.1.2.1 (fun s'=>some (.nor,eA.mk' s')) (fun e=>some (bq.e jP e))) (D6 s _ _)
theorem BW:ck Tryz.prog nM yg:=bi aR vV af (by kernel_rfl) (dF (by kernel_rfl:_= []) ah) [] [1,4,5,6,7] [1,5,6] eA jP (by kernel_rfl) eB BV nN (hU eB) (aW eB)
def oW {ρ:Type} (a0:aQ) (k: (List aA)×Bool×Unit→Option ρ):Option ρ:=
 (dW a0.master).bind fun y1=>(da a0).bind fun y2=>br (!y2.1) (k (([]:List aA),false,())) ((nN (((),(),y1.2.1,(-1),0,()),((a0.now,a0.servers,a0.sides,a0.master.configs,a0.master.activated,a0.masterUp,a0.lease.epoch,a0.lease.holder,a0.lease.ends,a0.places,()),(y1.1.epoch,y1.1.primary,(),(),()),()),(y1.1.replicas,y1.1.witnesses,()))).bind fun e24=>br (decide (e24.1.2.2.1 < 0)) (k (([]:List aA),(!e24.1.2.1),())) (aq (0≤e24.1.2.2.1) ((e24.2.1.1.2.1[e24.1.2.2.1.toNat]?).bind fun x25=>(qb x25.log).bind fun y26=>k (y26.1,true,())) none))
def mJ (a0:aQ):Option ((List aA)×Bool×Unit):=oW a0 some
theorem HM {ρ:Type} (a0:aQ) (k: (List aA)×Bool×Unit→Option ρ):oW a0 k=(mJ a0).bind k:=by
 simp only [mJ,oW,al,ap,Option.bind_none,Option.bind_assoc,Option.bind_some]
abbrev D7:bA:=bO [.ty (.st .cluster)] [.ls (.st .entry), .b] fun x=>mJ x.1
theorem LD:aF Tryz.prog 23 D7:=
 ak (Λ:=aO [(b8 nM,yg)]) (fn:=Tryz.f23) aR vV af (by kernel_rfl) (aM (by kernel_rfl:_= [nM]) (aV (q:=b8 nM) rfl BW fun _ _ _=>by kernel_rfl)) (by kernel_rfl) (fun x=>mJ x.1)
  (fun x=>Eq.trans (by kernel_rfl:_=oW x.1 (fun y=>ret (aH [.ls (.st .entry), .b] y) fun v g=>some (v,g))) (HM x.1 _)) fun _ _ h=>h
abbrev PE:List (Nat×bA):= []
theorem J4:az Tryz.prog (aP PE):=aj _
def rV {ρ:Type} (a0:Int) (a1:Int) (a2:Int) (k:Bool×Unit→Option ρ):Option ρ:=
 br (decide (a1≤a0)) (k ((decide (a0≤a2)),())) (k (false,()))
def cc (a0:Int) (a1:Int) (a2:Int):Option (Bool×Unit):=rV a0 a1 a2 some
theorem LF {ρ:Type} (a0:Int) (a1:Int) (a2:Int) (k:Bool×Unit→Option ρ):rV a0 a1 a2 k=(cc a0 a1 a2).bind k:=by
 simp only [cc,rV,al,Option.bind_some]
abbrev jr:bA:=bO [.ty (.i .i64), .ty (.i .i64), .ty (.i .i64)] [.b] fun x=>cc x.1 x.2.1 x.2.2.1
theorem jZ:aF Tryz.prog 135 jr:=
 ak (Λ:=aO []) (fn:=Tryz.f135) aR J4 af (by kernel_rfl) (aM (by kernel_rfl:_= []) ah) (by kernel_rfl) (fun x=>cc x.1 x.2.1 x.2.2.1)
  (fun x=>Eq.trans (by kernel_rfl:_=rV x.1 x.2.1 x.2.2.1 (fun y=>ret (aH [.b] y) fun v g=>some (v,g))) (LF x.1 x.2.1 x.2.2.1 _)) fun _ _ h=>h
abbrev Fz:List (Nat×bA):= [(135,jr)]
theorem Ab:az Tryz.prog (aP Fz):=ae jZ <| aj _
def k9 {ρ:Type} (a0:Int) (k:Bool×Unit→Option ρ):Option ρ:=
 (cc a0 0 3).bind fun y1=>k ((!y1.1),())
def kj (a0:Int):Option (Bool×Unit):=k9 a0 some
theorem BX {ρ:Type} (a0:Int) (k:Bool×Unit→Option ρ):k9 a0 k=(kj a0).bind k:=by
 simp only [kj,k9,Option.bind_assoc,Option.bind_some]
abbrev vW:bA:=bO [.ty (.i .i64)] [.b] fun x=>kj x.1
theorem FA:aF Tryz.prog 210 vW:=
 ak (Λ:=aO []) (fn:=Tryz.f210) aR Ab af (by kernel_rfl) (aM (by kernel_rfl:_= []) ah) (by kernel_rfl) (fun x=>kj x.1)
  (fun x=>Eq.trans (by kernel_rfl:_=k9 x.1 (fun y=>ret (aH [.b] y) fun v g=>some (v,g))) (BX x.1 _)) fun _ _ h=>h
abbrev jH:List (Nat×bA):= [(210,vW)]
theorem iv:az Tryz.prog (aP jH):=ae FA <| aj _
noncomputable abbrev cH:Code:=cu (cm Tryz.f143) 0
abbrev aL:ev:=⟨[(0, .cl (.ro (.i .i64))),(1, .cl (.fc 210)),(7, .cl (.int .i64)),(8, .cl (.int .i64))],[],[],0,19⟩
abbrev bC:List (X×ev):= [(.ret,⟨[(4, .cl (.int .i64))],[],[],0,19⟩),(.ext 0,⟨[(4, .cl (.dead))],[],[],0,19⟩)]
def bS {ρ:Type} (v1:List Int) (v2:Int) (v3:Int) (fn: (((List Int)×Unit×Int×Int×Unit)×(Unit)×(Unit))→Option ρ) (fe: ((Int×Unit)×(Unit)×(Unit))⊕((Unit×Unit)×(Unit)×(Unit))→Option ρ):Option ρ:=
 br (decide (v3 < v2)) (aq (0≤v3) ((v1[v3.toNat]?).bind fun x4=>(kj x4).bind fun y5=>br y5.1 (fe (.inl ((v3,()),(()),(())))) (fn ((v1,(),v2,(IntKind.wrap .i64 (v3+1)),()),(()),(())))) none) (fe (.inr (((),()),(()),(()))))
def aU (s:aL.D):Option (aL.D⊕bq.D bC):=bS s.1.1 s.1.2.2.1 s.1.2.2.2.1 (fun s=>some (.inl s)) (fun e=>some (.inr e))
def cI:aL.D→Option (bq.D bC):=jF aU
theorem nm {ρ:Type} (s:aL.D) (fn:aL.D→Option ρ) (fe:bq.D bC→Option ρ):bS s.1.1 s.1.2.2.1 s.1.2.2.2.1 fn fe=(aU s).bind (Sum.elim fn fe):=by
 simp only [aU,bS,al,ap,Option.bind_none,Option.bind_assoc,Option.bind_some,Sum.elim_inl,Sum.elim_inr]
abbrev i8:dg:=dB [] [0,1,7,8] aL bC cI
theorem mL (s:aL.D):eP Θ (aP jH) (aO []) cH (aL.mk' s) (dp [0,1,7,8] [4] fun x S=>some (x,S))=(aU s).bind (Sum.elim (fun s'=>some (.nor,aL.mk' s')) fun e=>some (bq.e bC e)):=
 Eq.trans (by kernel_rfl:_=bS s.1.1 s.1.2.2.1 s.1.2.2.2.1 (fun s'=>some (.nor,aL.mk' s')) (fun e=>some (bq.e bC e))) (nm s _ _)
theorem mM:ck Tryz.prog cH i8:=bi aR iv af (by kernel_rfl) (dF (by kernel_rfl:_= []) ah) [] [0,1,7,8] [4] aL bC (by kernel_rfl) aU mL cI (hU aU) (aW aU)
def cO {ρ:Type} (a0:List Int) (k:Int×Unit→Option ρ):Option ρ:=
 (cI ((a0,(),(a0.length:Int),0,()),(()),(()))).bind fun e6=>Sum.elim (fun e6_=>k (e6_.1.1,())) (fun e6_=>k ((-1),())) e6
def cj (a0:List Int):Option (Int×Unit):=cO a0 some
theorem og {ρ:Type} (a0:List Int) (k:Int×Unit→Option ρ):cO a0 k=(cj a0).bind k:=by
 simp only [cj,cO,cv,Option.bind_assoc,Option.bind_some]
abbrev jI:bA:=bO [.ty (.ls (.i .i64)), .fc 210] [.i .i64] fun x=>cj x.1
theorem oX:aF Tryz.prog 143 jI:=
 ak (Λ:=aO [(b8 cH,i8)]) (fn:=Tryz.f143) aR iv af (by kernel_rfl) (aM (by kernel_rfl:_= [cH]) (aV (q:=b8 cH) rfl mM fun _ _ _=>by kernel_rfl)) (by kernel_rfl) (fun x=>cj x.1)
  (fun x=>Eq.trans (by kernel_rfl:_=cO x.1 (fun y=>ret (aH [.i .i64] y) fun v g=>some (v,g))) (og x.1 _)) fun _ _ h=>h
abbrev nP:List (Nat×bA):= [(143,jI)]
theorem ma:az Tryz.prog (aP nP):=ae oX <| aj _
def cq {ρ:Type} (a0:List Int) (k:Bool×Unit→Option ρ):Option ρ:=
 (cj a0).bind fun y1=>k ((decide (y1.1≥0)),())
def bT (a0:List Int):Option (Bool×Unit):=cq a0 some
theorem mN {ρ:Type} (a0:List Int) (k:Bool×Unit→Option ρ):cq a0 k=(bT a0).bind k:=by
 simp only [bT,cq,Option.bind_assoc,Option.bind_some]
abbrev iw:bA:=bO [.ty (.ls (.i .i64)), .fc 210] [.b] fun x=>bT x.1
theorem nQ:aF Tryz.prog 61 iw:=
 ak (Λ:=aO []) (fn:=Tryz.f61) aR ma af (by kernel_rfl) (aM (by kernel_rfl:_= []) ah) (by kernel_rfl) (fun x=>bT x.1)
  (fun x=>Eq.trans (by kernel_rfl:_=cq x.1 (fun y=>ret (aH [.b] y) fun v g=>some (v,g))) (mN x.1 _)) fun _ _ h=>h
abbrev LG:List (Nat×bA):= [(61,iw)]
theorem FB:az Tryz.prog (aP LG):=ae nQ <| aj _
def oY {ρ:Type} (a0:List Int) (k:Bool×Unit→Option ρ):Option ρ:=
 br ((a0.length:Int)==5) ((bT a0).bind fun y1=>k ((!y1.1),())) (k (false,()))
def mO (a0:List Int):Option (Bool×Unit):=oY a0 some
theorem HN {ρ:Type} (a0:List Int) (k:Bool×Unit→Option ρ):oY a0 k=(mO a0).bind k:=by
 simp only [mO,oY,al,Option.bind_assoc,Option.bind_some]
abbrev D8:bA:=bO [.ty (.ls (.i .i64))] [.b] fun x=>mO x.1
theorem LH:aF Tryz.prog 136 D8:=
 ak (Λ:=aO []) (fn:=Tryz.f136) aR FB af (by kernel_rfl) (aM (by kernel_rfl:_= []) ah) (by kernel_rfl) (fun x=>mO x.1)
  (fun x=>Eq.trans (by kernel_rfl:_=oY x.1 (fun y=>ret (aH [.b] y) fun v g=>some (v,g))) (HN x.1 _)) fun _ _ h=>h
abbrev yh:List (Nat×bA):= [(135,jr)]
theorem tf:az Tryz.prog (aP yh):=ae jZ <| aj _
noncomputable abbrev la:Code:=cu (cm Tryz.f227) 0
abbrev dt:ev:=⟨[(0, .cl (.ro (.i .i64))),(5, .cl (.ro (.i .i64))),(6, .cl (.int .i64)),(7, .cl (.int .i64))],[],[],0,29⟩
abbrev gK:List (X×ev):= [(.ret,⟨[(2, .cl (.bl))],[],[],0,29⟩),(.ext 0,⟨[(2, .cl (.dead))],[],[],0,29⟩)]
def ij {ρ:Type} (v1:List Int) (v2:List Int) (v3:Int) (v4:Int) (fn: (((List Int)×(List Int)×Int×Int×Unit)×(Unit)×(Unit))→Option ρ) (fe: ((Bool×Unit)×(Unit)×(Unit))⊕((Unit×Unit)×(Unit)×(Unit))→Option ρ):Option ρ:=
 br (decide (v4 < v3)) (aq (0≤v4) ((v2[v4.toNat]?).bind fun x5=>(cc x5 0 4).bind fun y6=>br (!y6.1) (fe (.inl ((false,()),(()),(())))) (br (decide (v4 > 0)) (aq (0≤(IntKind.wrap .i64 (v4 - 1))) ((v1[(IntKind.wrap .i64 (v4 - 1)).toNat]?).bind fun x7=>br (decide (x5≤x7)) (fe (.inl ((false,()),(()),(())))) (fn ((v1,v2,v3,(IntKind.wrap .i64 (v4+1)),()),(()),(())))) none) (fn ((v1,v2,v3,(IntKind.wrap .i64 (v4+1)),()),(()),(()))))) none) (fe (.inr (((),()),(()),(()))))
def dP (s:dt.D):Option (dt.D⊕bq.D gK):=ij s.1.1 s.1.2.1 s.1.2.2.1 s.1.2.2.2.1 (fun s=>some (.inl s)) (fun e=>some (.inr e))
def lb:dt.D→Option (bq.D gK):=jF dP
theorem Ad {ρ:Type} (s:dt.D) (fn:dt.D→Option ρ) (fe:bq.D gK→Option ρ):ij s.1.1 s.1.2.1 s.1.2.2.1 s.1.2.2.2.1 fn fe=(dP s).bind (Sum.elim fn fe):=by
 simp only [dP,ij,al,ap,Option.bind_none,Option.bind_assoc,Option.bind_some,Sum.elim_inl,Sum.elim_inr]
abbrev ux:dg:=dB [] [0,5,6,7] dt gK lb
theorem yi (s:dt.D):eP Θ (aP yh) (aO []) la (dt.mk' s) (dp [0,5,6,7] [2] fun x S=>some (x,S))=(dP s).bind (Sum.elim (fun s'=>some (.nor,dt.mk' s')) fun e=>some (bq.e gK e)):=
 Eq.trans (by kernel_rfl:_=ij s.1.1 s.1.2.1 s.1.2.2.1 s.1.2.2.2.1 (fun s'=>some (.nor,dt.mk' s')) (fun e=>some (bq.e gK e))) (Ad s _ _)
theorem yj:ck Tryz.prog la ux:=bi aR tf af (by kernel_rfl) (dF (by kernel_rfl:_= []) ah) [] [0,5,6,7] [2] dt gK (by kernel_rfl) dP yi lb (hU dP) (aW dP)
def mb {ρ:Type} (a0:List Int) (k:Bool×Unit→Option ρ):Option ρ:=
 (lb ((a0,a0,(a0.length:Int),0,()),(()),(()))).bind fun e8=>Sum.elim (fun e8_=>k (e8_.1.1,())) (fun e8_=>k (true,())) e8
def fY (a0:List Int):Option (Bool×Unit):=mb a0 some
theorem D9 {ρ:Type} (a0:List Int) (k:Bool×Unit→Option ρ):mb a0 k=(fY a0).bind k:=by
 simp only [fY,mb,cv,Option.bind_assoc,Option.bind_some]
abbrev yk:bA:=bO [.ty (.ls (.i .i64))] [.b] fun x=>fY x.1
theorem HO:aF Tryz.prog 227 yk:=
 ak (Λ:=aO [(b8 la,ux)]) (fn:=Tryz.f227) aR tf af (by kernel_rfl) (aM (by kernel_rfl:_= [la]) (aV (q:=b8 la) rfl yj fun _ _ _=>by kernel_rfl)) (by kernel_rfl) (fun x=>fY x.1)
  (fun x=>Eq.trans (by kernel_rfl:_=mb x.1 (fun y=>ret (aH [.b] y) fun v g=>some (v,g))) (D9 x.1 _)) fun _ _ h=>h
abbrev yl:List (Nat×bA):= []
theorem tg:az Tryz.prog (aP yl):=aj _
noncomputable abbrev lc:Code:=cu (cm Tryz.f214) 0
abbrev du:ev:=⟨[(0, .cl (.ro (.i .i64))),(1, .cl (.int .i64)),(7, .cl (.int .i64)),(8, .cl (.int .i64))],[],[],0,19⟩
abbrev gM:List (X×ev):= [(.ret,⟨[(4, .cl (.int .i64))],[],[],0,19⟩),(.ext 0,⟨[(4, .cl (.dead))],[],[],0,19⟩)]
def ik {ρ:Type} (v1:List Int) (v2:Int) (v3:Int) (v4:Int) (fn: (((List Int)×Int×Int×Int×Unit)×(Unit)×(Unit))→Option ρ) (fe: ((Int×Unit)×(Unit)×(Unit))⊕((Unit×Unit)×(Unit)×(Unit))→Option ρ):Option ρ:=
 br (decide (v4 < v3)) (aq (0≤v4) ((v1[v4.toNat]?).bind fun x5=>br (v2==x5) (fe (.inl ((v4,()),(()),(())))) (fn ((v1,v2,v3,(IntKind.wrap .i64 (v4+1)),()),(()),(())))) none) (fe (.inr (((),()),(()),(()))))
def dQ (s:du.D):Option (du.D⊕bq.D gM):=ik s.1.1 s.1.2.1 s.1.2.2.1 s.1.2.2.2.1 (fun s=>some (.inl s)) (fun e=>some (.inr e))
def ld:du.D→Option (bq.D gM):=jF dQ
theorem Ae {ρ:Type} (s:du.D) (fn:du.D→Option ρ) (fe:bq.D gM→Option ρ):ik s.1.1 s.1.2.1 s.1.2.2.1 s.1.2.2.2.1 fn fe=(dQ s).bind (Sum.elim fn fe):=by
 simp only [dQ,ik,al,ap,Option.bind_none,Option.bind_assoc,Option.bind_some,Sum.elim_inl,Sum.elim_inr]
abbrev uy:dg:=dB [] [0,1,7,8] du gM ld
theorem ym (s:du.D):eP Θ (aP yl) (aO []) lc (du.mk' s) (dp [0,1,7,8] [4] fun x S=>some (x,S))=(dQ s).bind (Sum.elim (fun s'=>some (.nor,du.mk' s')) fun e=>some (bq.e gM e)):=
 Eq.trans (by kernel_rfl:_=ik s.1.1 s.1.2.1 s.1.2.2.1 s.1.2.2.2.1 (fun s'=>some (.nor,du.mk' s')) (fun e=>some (bq.e gM e))) (Ae s _ _)
theorem yn:ck Tryz.prog lc uy:=bi aR tg af (by kernel_rfl) (dF (by kernel_rfl:_= []) ah) [] [0,1,7,8] [4] du gM (by kernel_rfl) dQ ym ld (hU dQ) (aW dQ)
def mc {ρ:Type} (a0:List Int) (a1:Int) (k:Int×Unit→Option ρ):Option ρ:=
 (ld ((a0,a1,(a0.length:Int),0,()),(()),(()))).bind fun e6=>Sum.elim (fun e6_=>k (e6_.1.1,())) (fun e6_=>k ((-1),())) e6
def lE (a0:List Int) (a1:Int):Option (Int×Unit):=mc a0 a1 some
theorem Ea {ρ:Type} (a0:List Int) (a1:Int) (k:Int×Unit→Option ρ):mc a0 a1 k=(lE a0 a1).bind k:=by
 simp only [lE,mc,cv,Option.bind_assoc,Option.bind_some]
abbrev yp:bA:=bO [.ty (.ls (.i .i64)), .ty (.i .i64)] [.i .i64] fun x=>lE x.1 x.2.1
theorem HP:aF Tryz.prog 214 yp:=
 ak (Λ:=aO [(b8 lc,uy)]) (fn:=Tryz.f214) aR tg af (by kernel_rfl) (aM (by kernel_rfl:_= [lc]) (aV (q:=b8 lc) rfl yn fun _ _ _=>by kernel_rfl)) (by kernel_rfl) (fun x=>lE x.1 x.2.1)
  (fun x=>Eq.trans (by kernel_rfl:_=mc x.1 x.2.1 (fun y=>ret (aH [.i .i64] y) fun v g=>some (v,g))) (Ea x.1 x.2.1 _)) fun _ _ h=>h
abbrev BZ:List (Nat×bA):= [(214,yp)]
theorem wR:az Tryz.prog (aP BZ):=ae HP <| aj _
def js {ρ:Type} (a0:List Int) (a1:Int) (k:Bool×Unit→Option ρ):Option ρ:=
 (lE a0 a1).bind fun y1=>k ((decide (y1.1≥0)),())
def il (a0:List Int) (a1:Int):Option (Bool×Unit):=js a0 a1 some
theorem yq {ρ:Type} (a0:List Int) (a1:Int) (k:Bool×Unit→Option ρ):js a0 a1 k=(il a0 a1).bind k:=by
 simp only [il,js,Option.bind_assoc,Option.bind_some]
abbrev th:bA:=bO [.ty (.ls (.i .i64)), .ty (.i .i64)] [.b] fun x=>il x.1 x.2.1
theorem B0:aF Tryz.prog 144 th:=
 ak (Λ:=aO []) (fn:=Tryz.f144) aR wR af (by kernel_rfl) (aM (by kernel_rfl:_= []) ah) (by kernel_rfl) (fun x=>il x.1 x.2.1)
  (fun x=>Eq.trans (by kernel_rfl:_=js x.1 x.2.1 (fun y=>ret (aH [.b] y) fun v g=>some (v,g))) (yq x.1 x.2.1 _)) fun _ _ h=>h
abbrev J5:List (Nat×bA):= [(144,th)]
theorem Eb:az Tryz.prog (aP J5):=ae B0 <| aj _
def nR {ρ:Type} (a0:List Int) (a1:Int) (k:Bool×Unit→Option ρ):Option ρ:=
 (il a0 a1).bind fun y1=>k (y1.1,())
def gg (a0:List Int) (a1:Int):Option (Bool×Unit):=nR a0 a1 some
theorem FC {ρ:Type} (a0:List Int) (a1:Int) (k:Bool×Unit→Option ρ):nR a0 a1 k=(gg a0 a1).bind k:=by
 simp only [gg,nR,Option.bind_assoc,Option.bind_some]
abbrev qO:bA:=bO [.ty (.ls (.i .i64)), .ty (.i .i64)] [.b] fun x=>gg x.1 x.2.1
theorem uz:aF Tryz.prog 66 qO:=
 ak (Λ:=aO []) (fn:=Tryz.f66) aR Eb af (by kernel_rfl) (aM (by kernel_rfl:_= []) ah) (by kernel_rfl) (fun x=>gg x.1 x.2.1)
  (fun x=>Eq.trans (by kernel_rfl:_=nR x.1 x.2.1 (fun y=>ret (aH [.b] y) fun v g=>some (v,g))) (FC x.1 x.2.1 _)) fun _ _ h=>h
abbrev HQ:List (Nat×bA):= []
theorem B3:az Tryz.prog (aP HQ):=aj _
def vX {ρ:Type} (a0:List Int) (k: (List Int)×Unit→Option ρ):Option ρ:=
 aq (a0.length*8≤2 ^ 40) (k (a0,())) none
def pD (a0:List Int):Option ((List Int)×Unit):=vX a0 some
abbrev yr:bA:=bO [.ty (.ls (.i .i64))] [.ls (.i .i64)] fun x=>pD x.1
abbrev pE (y: (List Int)×Unit):Option (V×List bG):=ret (aH [.ls (.i .i64)] y) fun v g=>some (v,g)
theorem HS:aF Tryz.prog 164 yr:=
 ak (Λ:=aO []) (fn:=Tryz.f164) aR B3 af (by kernel_rfl) (aM (by kernel_rfl:_= []) ah) (by kernel_rfl) (fun x=>pD x.1)
  (fun x=>Eq.trans (by kernel_rfl:_=Qq x.1 (P4 (pE ([],())) (aq ((([]:List Int)++x.1).length*8≤2 ^ 40) (pE (([]:List Int)++x.1,())) none) none) (aq ((([]:List Int)++x.1).length*8≤2 ^ 40) (pE (([]:List Int)++x.1,())) none)) (MD x.1 8 pE)) fun _ _ h=>h
abbrev LI:List (Nat×bA):= []
theorem FD:az Tryz.prog (aP LI):=aj _
def qP {ρ:Type} (a0:Int) (k:Int×Unit→Option ρ):Option ρ:=
 br (decide (a0≥4294967296)) (none) (br (decide (a0≥65536)) (none) (br (decide (a0≥256)) (none) (aq (0≤(IntKind.wrap .u8 a0)) ((T3[(IntKind.wrap .u8 a0).toNat]?).bind fun x1=>k ((IntKind.wrap .i64 (0+(IntKind.wrap .i64 (x1.toNat:Int)))),())) none)))
def qc (a0:Int):Option (Int×Unit):=qP a0 some
theorem HT {ρ:Type} (a0:Int) (k:Int×Unit→Option ρ):qP a0 k=(qc a0).bind k:=by
 simp only [qc,qP,al,ap,Option.bind_none,Option.bind_assoc,Option.bind_some]
abbrev Ec:bA:=bO [.ty (.i .u64)] [.i .i64] fun x=>qc x.1
theorem LJ:aF Tryz.prog 298 Ec:=
 ak (Λ:=aO []) (fn:=Tryz.f298) aR FD af (by kernel_rfl) (aM (by kernel_rfl:_= []) ah) (by kernel_rfl) (fun x=>qc x.1)
  (fun x=>Eq.trans (by kernel_rfl:_=qP x.1 (fun y=>ret (aH [.i .i64] y) fun v g=>some (v,g))) (HT x.1 _)) fun _ _ h=>h
abbrev PF:List (Nat×bA):= [(298,Ec)]
theorem J6:az Tryz.prog (aP PF):=ae LJ <| aj _
def vl {ρ:Type} (a0:Int) (k:Int×Unit→Option ρ):Option ρ:=
 (qc a0).bind fun y1=>k (y1.1,())
def rX (a0:Int):Option (Int×Unit):=vl a0 some
theorem LK {ρ:Type} (a0:Int) (k:Int×Unit→Option ρ):vl a0 k=(rX a0).bind k:=by
 simp only [rX,vl,Option.bind_assoc,Option.bind_some]
abbrev J7:bA:=bO [.ty (.i .u64)] [.i .i64] fun x=>rX x.1
theorem PG:aF Tryz.prog 268 J7:=
 ak (Λ:=aO []) (fn:=Tryz.f268) aR J6 af (by kernel_rfl) (aM (by kernel_rfl:_= []) ah) (by kernel_rfl) (fun x=>rX x.1)
  (fun x=>Eq.trans (by kernel_rfl:_=vl x.1 (fun y=>ret (aH [.i .i64] y) fun v g=>some (v,g))) (LK x.1 _)) fun _ _ h=>h
abbrev FE:List (Nat×bA):= []
theorem Af:az Tryz.prog (aP FE):=aj _
def lf {ρ:Type} (a0:Int) (k:Bool×Unit→Option ρ):Option ρ:=
 k ((!(a0==a0)),())
def iY (a0:Int):Option (Bool×Unit):=lf a0 some
theorem B4 {ρ:Type} (a0:Int) (k:Bool×Unit→Option ρ):lf a0 k=(iY a0).bind k:=by
 simp only [iY,lf,Option.bind_some]
abbrev vY:bA:=bO [.ty (.i .i64)] [.b] fun x=>iY x.1
theorem FF:aF Tryz.prog 314 vY:=
 ak (Λ:=aO []) (fn:=Tryz.f314) aR Af af (by kernel_rfl) (aM (by kernel_rfl:_= []) ah) (by kernel_rfl) (fun x=>iY x.1)
  (fun x=>Eq.trans (by kernel_rfl:_=lf x.1 (fun y=>ret (aH [.b] y) fun v g=>some (v,g))) (B4 x.1 _)) fun _ _ h=>h
abbrev HU:List (Nat×bA):= [(314,vY)]
theorem B5:az Tryz.prog (aP HU):=ae FF <| aj _
def md {ρ:Type} (a0:Int) (a1:Int) (k:Bool×Unit→Option ρ):Option ρ:=
 (iY a0).bind fun y1=>br y1.1 ((iY a1).bind fun y2=>br (!y2.1) (k (true,())) (k ((decide (a0 < a1)),()))) (k ((decide (a0 < a1)),()))
def jQ (a0:Int) (a1:Int):Option (Bool×Unit):=md a0 a1 some
theorem Ed {ρ:Type} (a0:Int) (a1:Int) (k:Bool×Unit→Option ρ):md a0 a1 k=(jQ a0 a1).bind k:=by
 simp only [jQ,md,al,Option.bind_assoc,Option.bind_some]
abbrev yt:bA:=bO [.ty (.i .i64), .ty (.i .i64)] [.b] fun x=>jQ x.1 x.2.1
theorem HV:aF Tryz.prog 294 yt:=
 ak (Λ:=aO []) (fn:=Tryz.f294) aR B5 af (by kernel_rfl) (aM (by kernel_rfl:_= []) ah) (by kernel_rfl) (fun x=>jQ x.1 x.2.1)
  (fun x=>Eq.trans (by kernel_rfl:_=md x.1 x.2.1 (fun y=>ret (aH [.b] y) fun v g=>some (v,g))) (Ed x.1 x.2.1 _)) fun _ _ h=>h
abbrev fa:List (Nat×bA):= [(294,yt)]
theorem en:az Tryz.prog (aP fa):=ae HV <| aj _
noncomputable abbrev bU:Code:=cu (cm Tryz.f288) 0
noncomputable abbrev cx:Code:=cu bU 0
abbrev aI:ev:=⟨[(0, .cl (.own 0 (.i .i64))),(1, .cl (.int .i64)),(2, .cl (.int .i64)),(6, .cl (.int .i64)),(7, .cl (.int .i64))],[],[.i .i64],1,49⟩
abbrev bw:List (X×ev):= [(.ext 2,⟨[(0, .cl (.own 0 (.i .i64))),(1, .cl (.int .i64)),(2, .cl (.int .i64)),(6, .cl (.int .i64))],[],[.i .i64],1,49⟩)]
def cr {ρ:Type} (v5:List Int) (v6:Int) (v7:Int) (v8:Int) (v9:Int) (fn: ((Unit×Int×Int×Int×Int×Unit)×(Unit)×((List Int)×Unit))→Option ρ) (fe: ((Unit×Int×Int×Int×Unit)×(Unit)×((List Int)×Unit))→Option ρ):Option ρ:=
 br (decide (v9 > v6)) (aq (0≤v9∧v9 < (v5.length:Int)) ((v5[v9.toNat]?).bind fun x10=>aq (0≤(IntKind.wrap .i64 (v9 - 1))∧(IntKind.wrap .i64 (v9 - 1)) < (v5.length:Int)) ((v5[(IntKind.wrap .i64 (v9 - 1)).toNat]?).bind fun x11=>(jQ x10 x11).bind fun y12=>br y12.1 (aq (0≤(IntKind.wrap .i64 (v9 - 1))∧(IntKind.wrap .i64 (v9 - 1)) < (v5.length:Int)) ((v5[(IntKind.wrap .i64 (v9 - 1)).toNat]?).bind fun x13=>aq (0≤v9∧v9 < (v5.length:Int)) ((v5[v9.toNat]?).bind fun x14=>aq (0≤v9∧v9 < (v5.length:Int)) (aq (0≤(IntKind.wrap .i64 (v9 - 1))∧(IntKind.wrap .i64 (v9 - 1)) < (v5.length:Int)) ((v5[v9.toNat]?).bind fun _=>let z16:=v5.set v9.toNat x13; (z16[(IntKind.wrap .i64 (v9 - 1)).toNat]?).bind fun _=>fn (((),v6,v7,v8,(IntKind.wrap .i64 (v9 - 1)),()),(()),((z16.set ((IntKind.wrap .i64 (v9 - 1)).toNat) x14),()))) none) none) none) none) (fe (((),v6,v7,v8,()),(()),(v5,())))) none) none) (fe (((),v6,v7,v8,()),(()),(v5,())))
def bk (s:aI.D):Option (aI.D⊕bq.D bw):=cr s.2.2.1 s.1.2.1 s.1.2.2.1 s.1.2.2.2.1 s.1.2.2.2.2.1 (fun s=>some (.inl s)) (fun e=>some (.inr e))
def dj:aI.D→Option (bq.D bw):=jF bk
theorem mQ {ρ:Type} (s:aI.D) (fn:aI.D→Option ρ) (fe:bq.D bw→Option ρ):cr s.2.2.1 s.1.2.1 s.1.2.2.1 s.1.2.2.2.1 s.1.2.2.2.2.1 fn fe=(bk s).bind (Sum.elim fn fe):=by
 simp only [bk,cr,al,ap,Option.bind_none,Option.bind_assoc,Option.bind_some,Sum.elim_inl,Sum.elim_inr]
abbrev iy:dg:=dB [] [0,1,2,6,7] aI bw dj
theorem me (s:aI.D):eP Θ (aP fa) (aO []) cx (aI.mk' s) (dp [0,1,2,6,7] [0,1,2,6] fun x S=>some (x,S))=(bk s).bind (Sum.elim (fun s'=>some (.nor,aI.mk' s')) fun e=>some (bq.e bw e)):=
 Eq.trans (by kernel_rfl:_=cr s.2.2.1 s.1.2.1 s.1.2.2.1 s.1.2.2.2.1 s.1.2.2.2.2.1 (fun s'=>some (.nor,aI.mk' s')) (fun e=>some (bq.e bw e))) (mQ s _ _)
theorem mf:ck Tryz.prog cx iy:=bi aR en af (by kernel_rfl) (dF (by kernel_rfl:_= []) ah) [] [0,1,2,6,7] [0,1,2,6] aI bw (by kernel_rfl) bk me dj (hU bk) (aW bk)
abbrev aJ:ev:=⟨[(0, .cl (.own 0 (.i .i64))),(1, .cl (.int .i64)),(2, .cl (.int .i64)),(6, .cl (.int .i64))],[],[.i .i64],1,49⟩
abbrev bz:List (X×ev):= [(.ext 0,⟨[],[],[.i .i64],1,49⟩)]
def bM {ρ:Type} (v1:List Int) (v2:Int) (v3:Int) (v4:Int) (fn: ((Unit×Int×Int×Int×Unit)×(Unit)×((List Int)×Unit))→Option ρ) (fe: ((Unit)×(Unit)×((List Int)×Unit))→Option ρ):Option ρ:=
 br (decide (v4 < v3)) ((dj (((),v2,v3,v4,v4,()),(()),(v1,()))).bind fun e19=>fn (((),e19.1.2.1,e19.1.2.2.1,(IntKind.wrap .i64 (e19.1.2.2.2.1+1)),()),(()),(e19.2.2.1,()))) (fe ((()),(()),(v1,())))
def aN (s:aJ.D):Option (aJ.D⊕bq.D bz):=bM s.2.2.1 s.1.2.1 s.1.2.2.1 s.1.2.2.2.1 (fun s=>some (.inl s)) (fun e=>some (.inr e))
def dk:aJ.D→Option (bq.D bz):=jF aN
theorem mR {ρ:Type} (s:aJ.D) (fn:aJ.D→Option ρ) (fe:bq.D bz→Option ρ):bM s.2.2.1 s.1.2.1 s.1.2.2.1 s.1.2.2.2.1 fn fe=(aN s).bind (Sum.elim fn fe):=by
 simp only [aN,bM,al,Option.bind_assoc,Option.bind_some,Sum.elim_inl,Sum.elim_inr]
abbrev iz:dg:=dB [] [0,1,2,6] aJ bz dk
theorem mg (s:aJ.D):eP Θ (aP fa) (aO [(b8 cx,iy)]) bU (aJ.mk' s) (dp [0,1,2,6] [] fun x S=>some (x,S))=(aN s).bind (Sum.elim (fun s'=>some (.nor,aJ.mk' s')) fun e=>some (bq.e bz e)):=
 Eq.trans (by kernel_rfl:_=bM s.2.2.1 s.1.2.1 s.1.2.2.1 s.1.2.2.2.1 (fun s'=>some (.nor,aJ.mk' s')) (fun e=>some (bq.e bz e))) (mR s _ _)
theorem mh:ck Tryz.prog bU iz:=bi aR en af (by kernel_rfl) (dF (by kernel_rfl:_= [cx]) (aV (q:=b8 cx) rfl mf fun _ _ _=>by kernel_rfl)) [] [0,1,2,6] [] aJ bz (by kernel_rfl) aN mg dk (hU aN) (aW aN)
def cJ {ρ:Type} (a0:List Int) (a1:Int) (a2:Int) (k: (List Int)×Unit→Option ρ):Option ρ:=
 (dk (((),a1,a2,(IntKind.wrap .i64 (a1+1)),()),(()),(a0,()))).bind fun e20=>k (e20.2.2.1,())
def bI (a0:List Int) (a1:Int) (a2:Int):Option ((List Int)×Unit):=cJ a0 a1 a2 some
theorem nS {ρ:Type} (a0:List Int) (a1:Int) (a2:Int) (k: (List Int)×Unit→Option ρ):cJ a0 a1 a2 k=(bI a0 a1 a2).bind k:=by
 simp only [bI,cJ,Option.bind_assoc,Option.bind_some]
abbrev jt:bA:=Fc (.i .i64) [.ty (.i .i64), .ty (.i .i64)] [] fun l x=>bI l x.1 x.2.1
theorem oy:aF Tryz.prog (lC 288) jt:=
 qF (Λ:=aO [(b8 bU,iz)]) (fn:=Tryz.f288) aR en af (by kernel_rfl) (aM (by kernel_rfl:_= [bU]) (aV (q:=b8 bU) rfl mh fun _ _ _=>by kernel_rfl)) (by kernel_rfl) (fun l x=>bI l x.1 x.2.1)
  (fun l x=>Eq.trans (by kernel_rfl:_=cJ l x.1 x.2.1 (fun y=>Fb (.i .i64) [] y fun v g=>some (v,g))) (nS l x.1 x.2.1 _)) fun _ _ _ h=>h
abbrev mi:List (Nat×bA):= [(lC 288,jt)]
theorem kv:az Tryz.prog (aP mi):=ae oy <| aj _
noncomputable abbrev dv:Code:=cu (cm Tryz.f267) 0
abbrev bc:ev:=⟨[(0, .cl (.own 0 (.i .i64))),(1, .cl (.int .i64)),(2, .cl (.int .i64)),(3, .cl (.int .i64)),(8, .cl (.bl)),(9, .cl (.bl))],[],[.i .i64],1,134⟩
abbrev cd:List (X×ev):= [(.ret,⟨[],[],[.i .i64],1,134⟩)]
def dl {ρ:Type} (v1:List Int) (v2:Int) (v3:Int) (v4:Int) (v5:Bool) (_v6:Bool) (fn: ((Unit×Int×Int×Int×Bool×Bool×Unit)×(Unit)×((List Int)×Unit))→Option ρ) (fe: ((Unit)×(Unit)×((List Int)×Unit))→Option ρ):Option ρ:=
 br (decide ((IntKind.wrap .i64 (v3 - v2))≤12)) ((bI v1 v2 v3).bind fun y7=>aq (y7.1.length=v1.length) (fe ((()),(()),(y7.1,()))) none) (br (v4==0) (none) (br (!v5) (none) (none)))
def bN (s:bc.D):Option (bc.D⊕bq.D cd):=dl s.2.2.1 s.1.2.1 s.1.2.2.1 s.1.2.2.2.1 s.1.2.2.2.2.1 s.1.2.2.2.2.2.1 (fun s=>some (.inl s)) (fun e=>some (.inr e))
def eC:bc.D→Option (bq.D cd):=jF bN
theorem o9 {ρ:Type} (s:bc.D) (fn:bc.D→Option ρ) (fe:bq.D cd→Option ρ):dl s.2.2.1 s.1.2.1 s.1.2.2.1 s.1.2.2.2.1 s.1.2.2.2.2.1 s.1.2.2.2.2.2.1 fn fe=(bN s).bind (Sum.elim fn fe):=by
 simp only [bN,dl,al,ap,Option.bind_none,Option.bind_assoc,Option.bind_some,Sum.elim_inr]
abbrev lg:dg:=dB [] [0,1,2,3,8,9] bc cd eC
theorem oZ (s:bc.D):eP Θ (aP mi) (aO []) dv (bc.mk' s) (dp [0,1,2,3,8,9] [] fun x S=>some (x,S))=(bN s).bind (Sum.elim (fun s'=>some (.nor,bc.mk' s')) fun e=>some (bq.e cd e)):=
 Eq.trans (by kernel_rfl:_=dl s.2.2.1 s.1.2.1 s.1.2.2.1 s.1.2.2.2.1 s.1.2.2.2.2.1 s.1.2.2.2.2.2.1 (fun s'=>some (.nor,bc.mk' s')) (fun e=>some (bq.e cd e))) (o9 s _ _)
theorem o0:ck Tryz.prog dv lg:=bi aR kv af (by kernel_rfl) (dF (by kernel_rfl:_= []) ah) [] [0,1,2,3,8,9] [] bc cd (by kernel_rfl) bN oZ eC (hU bN) (aW bN)
def dD {ρ:Type} (a0:List Int) (a1:Int) (a2:Int) (a3:Int) (k: (List Int)×Unit→Option ρ):Option ρ:=
 (eC (((),a1,a2,a3,true,true,()),(()),(a0,()))).bind fun e8=>k (e8.2.2.1,())
def cA (a0:List Int) (a1:Int) (a2:Int) (a3:Int):Option ((List Int)×Unit):=dD a0 a1 a2 a3 some
theorem qd {ρ:Type} (a0:List Int) (a1:Int) (a2:Int) (a3:Int) (k: (List Int)×Unit→Option ρ):dD a0 a1 a2 a3 k=(cA a0 a1 a2 a3).bind k:=by
 simp only [cA,dD,Option.bind_assoc,Option.bind_some]
abbrev mm:bA:=Fc (.i .i64) [.ty (.i .i64), .ty (.i .i64), .ty (.i .i64)] [] fun l x=>cA l x.1 x.2.1 x.2.2.1
theorem rm:aF Tryz.prog (lC 267) mm:=
 qF (Λ:=aO [(b8 dv,lg)]) (fn:=Tryz.f267) aR kv af (by kernel_rfl) (aM (by kernel_rfl:_= [dv]) (aV (q:=b8 dv) rfl o0 fun _ _ _=>by kernel_rfl)) (by kernel_rfl) (fun l x=>cA l x.1 x.2.1 x.2.2.1)
  (fun l x=>Eq.trans (by kernel_rfl:_=dD l x.1 x.2.1 x.2.2.1 (fun y=>Fb (.i .i64) [] y fun v g=>some (v,g))) (qd l x.1 x.2.1 x.2.2.1 _)) fun _ _ _ h=>h
abbrev Ee:List (Nat×bA):= [(268,J7),(lC 267,mm)]
theorem yu:az Tryz.prog (aP Ee):=ae PG <| ae rm <| aj _
def j4 {ρ:Type} (a0:List Int) (k: (List Int)×Unit→Option ρ):Option ρ:=
 (rX (IntKind.wrap .u64 (a0.length:Int))).bind fun y1=>(cA a0 0 (a0.length:Int) y1.1).bind fun y2=>aq (y2.1.length=a0.length) (k (y2.1,())) none
def gO (a0:List Int):Option ((List Int)×Unit):=j4 a0 some
theorem Ag {ρ:Type} (a0:List Int) (k: (List Int)×Unit→Option ρ):j4 a0 k=(gO a0).bind k:=by
 simp only [gO,j4,ap,Option.bind_none,Option.bind_assoc,Option.bind_some]
abbrev uA:bA:=Fc (.i .i64) [] [] fun l _=>gO l
theorem Ef:aF Tryz.prog (lC 216) uA:=
 qF (Λ:=aO []) (fn:=Tryz.f216) aR yu af (by kernel_rfl) (aM (by kernel_rfl:_= []) ah) (by kernel_rfl) (fun l _=>gO l)
  (fun l _=>Eq.trans (by kernel_rfl:_=j4 l (fun y=>Fb (.i .i64) [] y fun v g=>some (v,g))) (Ag l _)) fun _ _ _ h=>h
abbrev qQ:List (Nat×bA):= []
theorem o1:az Tryz.prog (aP qQ):=aj _
noncomputable abbrev eL:Code:=cu (cm Tryz.f217) 0
noncomputable abbrev pj:Code:=cu eL 0
abbrev bZ:ev:=⟨[(0, .cl (.own 0 (.i .i64))),(3, .cl (.int .i64))],[],[.i .i64],0,61⟩
abbrev dE:List (X×ev):= [(.ext 0,⟨[(0, .cl (.own 0 (.i .i64))),(2, .cl (.dead))],[],[.i .i64],0,61⟩)]
def ei {ρ:Type} (v1:List Int) (v2:Int) (fn: ((Unit×Int×Unit)×(Unit)×((List Int)×Unit))→Option ρ) (fe: ((Unit×Unit×Unit)×(Unit)×((List Int)×Unit))→Option ρ):Option ρ:=
 br (decide (v2 < (v1.length:Int))) (aq (0≤v2∧v2 < (v1.length:Int)) ((v1[v2.toNat]?).bind fun x3=>aq (0≤(IntKind.wrap .i64 (v2 - 1))∧(IntKind.wrap .i64 (v2 - 1)) < (v1.length:Int)) ((v1[(IntKind.wrap .i64 (v2 - 1)).toNat]?).bind fun x4=>br (x3==x4) (aq (0≤v2∧v2≤(v1.length:Int)∧(v1.length:Int)≤((v1.length:Nat):Int)) (none) none) (fn (((),(IntKind.wrap .i64 (v2+1)),()),(()),(v1,())))) none) none) (fe (((),(),()),(()),(v1,())))
def cn (s:bZ.D):Option (bZ.D⊕bq.D dE):=ei s.2.2.1 s.1.2.1 (fun s=>some (.inl s)) (fun e=>some (.inr e))
def jb:bZ.D→Option (bq.D dE):=jF cn
theorem tI {ρ:Type} (s:bZ.D) (fn:bZ.D→Option ρ) (fe:bq.D dE→Option ρ):ei s.2.2.1 s.1.2.1 fn fe=(cn s).bind (Sum.elim fn fe):=by
 simp only [cn,ei,al,ap,Option.bind_none,Option.bind_assoc,Option.bind_some,Sum.elim_inl,Sum.elim_inr]
abbrev pk:dg:=dB [] [0,3] bZ dE jb
theorem sQ (s:bZ.D):eP Θ (aP qQ) (aO []) eL (bZ.mk' s) (dp [0,3] [0,2] fun x S=>some (x,S))=(cn s).bind (Sum.elim (fun s'=>some (.nor,bZ.mk' s')) fun e=>some (bq.e dE e)):=
 Eq.trans (by kernel_rfl:_=ei s.2.2.1 s.1.2.1 (fun s'=>some (.nor,bZ.mk' s')) (fun e=>some (bq.e dE e))) (tI s _ _)
theorem sR:ck Tryz.prog eL pk:=bi aR o1 af (by kernel_rfl) (dF (by kernel_rfl:_= [pj]) (Po (q:=b8 pj) rfl fun _ _ _=>by kernel_rfl)) [] [0,3] [0,2] bZ dE (by kernel_rfl) cn sQ jb (hU cn) (aW cn)
def gP {ρ:Type} (a0:List Int) (k: (List Int)×Unit→Option ρ):Option ρ:=
 br (decide ((a0.length:Int) < 2)) (k (a0,())) ((jb (((),1,()),(()),(a0,()))).bind fun e5=>k (e5.2.2.1,()))
def eD (a0:List Int):Option ((List Int)×Unit):=gP a0 some
theorem vt {ρ:Type} (a0:List Int) (k: (List Int)×Unit→Option ρ):gP a0 k=(eD a0).bind k:=by
 simp only [eD,gP,al,Option.bind_assoc,Option.bind_some]
abbrev qR:bA:=Q2 (.i .i64) [] [.ls (.i .i64)] fun l _=>eD l
theorem yw:aF Tryz.prog (Dd 217) qR:=
 Mz (Λ:=aO [(b8 eL,pk)]) (fn:=Tryz.f217) aR o1 af (by kernel_rfl) (aM (by kernel_rfl:_= [eL]) (aV (q:=b8 eL) rfl sR fun _ _ _=>by kernel_rfl)) (fun l _=>eD l)
  (fun l _=>Eq.trans (by kernel_rfl:_=gP l (fun y=>ret (aH [.ls (.i .i64)] y) fun v g=>some (v,g))) (vt l _)) fun _ _ _ h=>h
abbrev J8:List (Nat×bA):= [(164,yr),(lC 216,uA),(Dd 217,qR)]
theorem Eg:az Tryz.prog (aP J8):=ae HS <| ae Ef <| ae yw <| aj _
def nT {ρ:Type} (a0:List Int) (k: (List Int)×Unit→Option ρ):Option ρ:=
 (pD a0).bind fun y1=>(gO y1.1).bind fun y2=>aq (y2.1.length=y1.1.length) ((eD y2.1).bind fun y3=>k (y3.1,())) none
def lh (a0:List Int):Option ((List Int)×Unit):=nT a0 some
theorem FG {ρ:Type} (a0:List Int) (k: (List Int)×Unit→Option ρ):nT a0 k=(lh a0).bind k:=by
 simp only [lh,nT,ap,Option.bind_none,Option.bind_assoc,Option.bind_some]
abbrev Bd:bA:=bO [.ty (.ls (.i .i64))] [.ls (.i .i64)] fun x=>lh x.1
theorem J9:aF Tryz.prog 150 Bd:=
 ak (Λ:=aO []) (fn:=Tryz.f150) aR Eg af (by kernel_rfl) (aM (by kernel_rfl:_= []) ah) (by kernel_rfl) (fun x=>lh x.1)
  (fun x=>Eq.trans (by kernel_rfl:_=nT x.1 (fun y=>ret (aH [.ls (.i .i64)] y) fun v g=>some (v,g))) (FG x.1 _)) fun _ _ h=>h
abbrev vu:List (Nat×bA):= [(66,qO)]
theorem sS:az Tryz.prog (aP vu):=ae uz <| aj _
def fB {ρ:Type} (a0:Int) (a1:List Int) (k:Bool×Unit→Option ρ):Option ρ:=
 (gg a1 a0).bind fun y1=>k (y1.1,())
def db (a0:Int) (a1:List Int):Option (Bool×Unit):=fB a0 a1 some
theorem tJ {ρ:Type} (a0:Int) (a1:List Int) (k:Bool×Unit→Option ρ):fB a0 a1 k=(db a0 a1).bind k:=by
 simp only [db,fB,Option.bind_assoc,Option.bind_some]
abbrev lS:bA:=bO [.ty (.i .i64), .pr (.ls (.i .i64))] [.b] fun x=>db x.1 x.2.1
theorem pm:aF Tryz.prog 151 lS:=
 ak (Λ:=aO []) (fn:=Tryz.f151) aR sS af (by kernel_rfl) (aM (by kernel_rfl:_= []) ah) (by kernel_rfl) (fun x=>db x.1 x.2.1)
  (fun x=>Eq.trans (by kernel_rfl:_=fB x.1 x.2.1 (fun y=>ret (aH [.b] y) fun v g=>some (v,g))) (tJ x.1 x.2.1 _)) fun _ _ h=>h
abbrev gi:List (Nat×bA):= [(151,lS)]
theorem fC:az Tryz.prog (aP gi):=ae pm <| aj _
noncomputable abbrev bV:Code:=cu (cm Tryz.f143) 0
abbrev ax:ev:=⟨[(0, .cl (.ro (.i .i64))),(1, .fn 151 [.pro (.ls (.i .i64))]),(7, .cl (.int .i64)),(8, .cl (.int .i64))],[],[],0,19⟩
abbrev bf:List (X×ev):= [(.ret,⟨[(4, .cl (.int .i64))],[],[],0,19⟩),(.ext 0,⟨[(4, .cl (.dead))],[],[],0,19⟩)]
def bo {ρ:Type} (v1:List Int) (v2:List Int) (v3:Int) (v4:Int) (fn: (((List Int)×((List Int)×Unit)×Int×Int×Unit)×(Unit)×(Unit))→Option ρ) (fe: ((Int×Unit)×(Unit)×(Unit))⊕((Unit×Unit)×(Unit)×(Unit))→Option ρ):Option ρ:=
 br (decide (v4 < v3)) (aq (0≤v4) ((v1[v4.toNat]?).bind fun x5=>(db x5 v2).bind fun y6=>br y6.1 (fe (.inl ((v4,()),(()),(())))) (fn ((v1,(v2,()),v3,(IntKind.wrap .i64 (v4+1)),()),(()),(())))) none) (fe (.inr (((),()),(()),(()))))
def aB (s:ax.D):Option (ax.D⊕bq.D bf):=bo s.1.1 s.1.2.1.1 s.1.2.2.1 s.1.2.2.2.1 (fun s=>some (.inl s)) (fun e=>some (.inr e))
def bW:ax.D→Option (bq.D bf):=jF aB
theorem kz {ρ:Type} (s:ax.D) (fn:ax.D→Option ρ) (fe:bq.D bf→Option ρ):bo s.1.1 s.1.2.1.1 s.1.2.2.1 s.1.2.2.2.1 fn fe=(aB s).bind (Sum.elim fn fe):=by
 simp only [aB,bo,al,ap,Option.bind_none,Option.bind_assoc,Option.bind_some,Sum.elim_inl,Sum.elim_inr]
abbrev fH:dg:=dB [] [0,1,7,8] ax bf bW
theorem ko (s:ax.D):eP Θ (aP gi) (aO []) bV (ax.mk' s) (dp [0,1,7,8] [4] fun x S=>some (x,S))=(aB s).bind (Sum.elim (fun s'=>some (.nor,ax.mk' s')) fun e=>some (bq.e bf e)):=
 Eq.trans (by kernel_rfl:_=bo s.1.1 s.1.2.1.1 s.1.2.2.1 s.1.2.2.2.1 (fun s'=>some (.nor,ax.mk' s')) (fun e=>some (bq.e bf e))) (kz s _ _)
theorem kp:ck Tryz.prog bV fH:=bi aR fC af (by kernel_rfl) (dF (by kernel_rfl:_= []) ah) [] [0,1,7,8] [4] ax bf (by kernel_rfl) aB ko bW (hU aB) (aW aB)
def b0 {ρ:Type} (a0:List Int) (a1_0:List Int) (k:Int×Unit→Option ρ):Option ρ:=
 (bW ((a0,(a1_0,()),(a0.length:Int),0,()),(()),(()))).bind fun e7=>Sum.elim (fun e7_=>k (e7_.1.1,())) (fun e7_=>k ((-1),())) e7
def bD (a0:List Int) (a1_0:List Int):Option (Int×Unit):=b0 a0 a1_0 some
theorem lF {ρ:Type} (a0:List Int) (a1_0:List Int) (k:Int×Unit→Option ρ):b0 a0 a1_0 k=(bD a0 a1_0).bind k:=by
 simp only [bD,b0,cv,Option.bind_assoc,Option.bind_some]
abbrev gk:bA:=bO [.ty (.ls (.i .i64)), .fn 151 [.ls (.i .i64)]] [.i .i64] fun x=>bD x.1 x.2.1.1
theorem mn:aF Tryz.prog 143 gk:=
 ak (Λ:=aO [(b8 bV,fH)]) (fn:=Tryz.f143) aR fC af (by kernel_rfl) (aM (by kernel_rfl:_= [bV]) (aV (q:=b8 bV) rfl kp fun _ _ _=>by kernel_rfl)) (by kernel_rfl) (fun x=>bD x.1 x.2.1.1)
  (fun x=>Eq.trans (by kernel_rfl:_=b0 x.1 x.2.1.1 (fun y=>ret (aH [.i .i64] y) fun v g=>some (v,g))) (lF x.1 x.2.1.1 _)) fun _ _ h=>h
abbrev fo:List (Nat×bA):= [(143,gk),(151,lS)]
theorem eE:az Tryz.prog (aP fo):=ae mn <| ae pm <| aj _
noncomputable abbrev bB:Code:=cu (cm Tryz.f74) 0
abbrev ao:ev:=⟨[(0, .cl (.own 0 (.i .i64))),(1, .fn 151 [.pro (.ls (.i .i64))]),(5, .cl (.int .i64)),(6, .cl (.int .i64))],[],[.i .i64],0,42⟩
abbrev aX:List (X×ev):= [(.ext 0,⟨[(0, .cl (.own 0 (.i .i64))),(5, .cl (.int .i64))],[],[.i .i64],0,42⟩)]
def bg {ρ:Type} (v2:List Int) (v3:List Int) (v4:Int) (v5:Int) (fn: ((Unit×((List Int)×Unit)×Int×Int×Unit)×(Unit)×((List Int)×Unit))→Option ρ) (fe: ((Unit×Int×Unit)×(Unit)×((List Int)×Unit))→Option ρ):Option ρ:=
 br (decide (v5 < (v2.length:Int))) (aq (0≤v5∧v5 < (v2.length:Int)) ((v2[v5.toNat]?).bind fun x6=>(db x6 v3).bind fun y7=>br (!y7.1) (aq (0≤v4∧v4 < (v2.length:Int)) ((v2[v4.toNat]?).bind fun _=>fn (((),(v3,()),(IntKind.wrap .i64 (v4+1)),(IntKind.wrap .i64 (v5+1)),()),(()),((v2.set v4.toNat x6),()))) none) (fn (((),(v3,()),v4,(IntKind.wrap .i64 (v5+1)),()),(()),(v2,())))) none) (fe (((),v4,()),(()),(v2,())))
def au (s:ao.D):Option (ao.D⊕bq.D aX):=bg s.2.2.1 s.1.2.1.1 s.1.2.2.1 s.1.2.2.2.1 (fun s=>some (.inl s)) (fun e=>some (.inr e))
def ca:ao.D→Option (bq.D aX):=jF au
theorem jE {ρ:Type} (s:ao.D) (fn:ao.D→Option ρ) (fe:bq.D aX→Option ρ):bg s.2.2.1 s.1.2.1.1 s.1.2.2.1 s.1.2.2.2.1 fn fe=(au s).bind (Sum.elim fn fe):=by
 simp only [au,bg,al,ap,Option.bind_none,Option.bind_assoc,Option.bind_some,Sum.elim_inl,Sum.elim_inr]
abbrev eR:dg:=dB [] [0,1,5,6] ao aX ca
theorem ju (s:ao.D):eP Θ (aP fo) (aO []) bB (ao.mk' s) (dp [0,1,5,6] [0,5] fun x S=>some (x,S))=(au s).bind (Sum.elim (fun s'=>some (.nor,ao.mk' s')) fun e=>some (bq.e aX e)):=
 Eq.trans (by kernel_rfl:_=bg s.2.2.1 s.1.2.1.1 s.1.2.2.1 s.1.2.2.2.1 (fun s'=>some (.nor,ao.mk' s')) (fun e=>some (bq.e aX e))) (jE s _ _)
theorem jv:ck Tryz.prog bB eR:=bi aR eE af (by kernel_rfl) (dF (by kernel_rfl:_= []) ah) [] [0,1,5,6] [0,5] ao aX (by kernel_rfl) au ju ca (hU au) (aW au)
def bH {ρ:Type} (a0:List Int) (a1_0:List Int) (k: (List Int)×Unit→Option ρ):Option ρ:=
 (bD a0 a1_0).bind fun y1=>br (y1.1==(-1)) (k (a0,())) ((ca (((),(a1_0,()),y1.1,(IntKind.wrap .i64 (y1.1+1)),()),(()),(a0,()))).bind fun e10=>aq (0≤e10.1.2.1∧e10.1.2.1≤(e10.2.2.1.length:Int)∧(e10.2.2.1.length:Int)≤((e10.2.2.1.length:Nat):Int)) (aq ((0+e10.1.2.1.toNat)+((e10.2.2.1.length:Int).toNat - e10.1.2.1.toNat)≤e10.2.2.1.length) (aq (0≤(0:Int)∧(0:Int)≤e10.1.2.1∧e10.1.2.1≤((e10.2.2.1.length:Nat):Int)) (aq ((0+(0:Int).toNat)=0∧(e10.1.2.1.toNat - (0:Int).toNat)≤(e10.2.2.1.take (0+e10.1.2.1.toNat)++List.replicate ((e10.2.2.1.length:Int).toNat - e10.1.2.1.toNat) (0:Int)++e10.2.2.1.drop ((0+e10.1.2.1.toNat)+((e10.2.2.1.length:Int).toNat - e10.1.2.1.toNat))).length) (k (((e10.2.2.1.take (0+e10.1.2.1.toNat)++List.replicate ((e10.2.2.1.length:Int).toNat - e10.1.2.1.toNat) (0:Int)++e10.2.2.1.drop ((0+e10.1.2.1.toNat)+((e10.2.2.1.length:Int).toNat - e10.1.2.1.toNat))).take (e10.1.2.1.toNat - (0:Int).toNat)),())) none) none) none) none)
def aY (a0:List Int) (a1_0:List Int):Option ((List Int)×Unit):=bH a0 a1_0 some
theorem j5 {ρ:Type} (a0:List Int) (a1_0:List Int) (k: (List Int)×Unit→Option ρ):bH a0 a1_0 k=(aY a0 a1_0).bind k:=by
 simp only [aY,bH,al,ap,Option.bind_none,Option.bind_assoc,Option.bind_some]
abbrev fp:bA:=Q2 (.i .i64) [.fn 151 [.ls (.i .i64)]] [.ls (.i .i64)] fun l x=>aY l x.1.1
theorem kA:aF Tryz.prog (Dd 74) fp:=
 Mz (Λ:=aO [(b8 bB,eR)]) (fn:=Tryz.f74) aR eE af (by kernel_rfl) (aM (by kernel_rfl:_= [bB]) (aV (q:=b8 bB) rfl jv fun _ _ _=>by kernel_rfl)) (fun l x=>aY l x.1.1)
  (fun l x=>Eq.trans (by kernel_rfl:_=bH l x.1.1 (fun y=>ret (aH [.ls (.i .i64)] y) fun v g=>some (v,g))) (j5 l x.1.1 _)) fun _ _ _ h=>h
abbrev Ah:List (Nat×bA):= [(150,Bd),(Dd 74,fp)]
theorem vv:az Tryz.prog (aP Ah):=ae J9 <| ae kA <| aj _
def iA {ρ:Type} (a0:List Int) (a1:List Int) (k: (List Int)×Unit→Option ρ):Option ρ:=
 (lh a0).bind fun y1=>(aY y1.1 a1).bind fun y2=>k (y2.1,())
def ej (a0:List Int) (a1:List Int):Option ((List Int)×Unit):=iA a0 a1 some
theorem wT {ρ:Type} (a0:List Int) (a1:List Int) (k: (List Int)×Unit→Option ρ):iA a0 a1 k=(ej a0 a1).bind k:=by
 simp only [ej,iA,Option.bind_assoc,Option.bind_some]
abbrev rY:bA:=bO [.ty (.ls (.i .i64)), .ty (.ls (.i .i64))] [.ls (.i .i64)] fun x=>ej x.1 x.2.1
theorem Ai:aF Tryz.prog 73 rY:=
 ak (Λ:=aO []) (fn:=Tryz.f73) aR vv af (by kernel_rfl) (aM (by kernel_rfl:_= []) ah) (by kernel_rfl) (fun x=>ej x.1 x.2.1)
  (fun x=>Eq.trans (by kernel_rfl:_=iA x.1 x.2.1 (fun y=>ret (aH [.ls (.i .i64)] y) fun v g=>some (v,g))) (wT x.1 x.2.1 _)) fun _ _ h=>h
abbrev B6:List (Nat×bA):= [(73,rY)]
theorem wU:az Tryz.prog (aP B6):=ae Ai <| aj _
def jw {ρ:Type} (a0:List Int) (a1:List Int) (k: (List Int)×Unit→Option ρ):Option ρ:=
 (ej a0 a1).bind fun y1=>(ej a0 y1.1).bind fun y2=>k (y2.1,())
def fP (a0:List Int) (a1:List Int):Option ((List Int)×Unit):=jw a0 a1 some
theorem yx {ρ:Type} (a0:List Int) (a1:List Int) (k: (List Int)×Unit→Option ρ):jw a0 a1 k=(fP a0 a1).bind k:=by
 simp only [fP,jw,Option.bind_assoc,Option.bind_some]
abbrev tj:bA:=bO [.ty (.ls (.i .i64)), .ty (.ls (.i .i64))] [.ls (.i .i64)] fun x=>fP x.1 x.2.1
theorem B7:aF Tryz.prog 228 tj:=
 ak (Λ:=aO []) (fn:=Tryz.f228) aR wU af (by kernel_rfl) (aM (by kernel_rfl:_= []) ah) (by kernel_rfl) (fun x=>fP x.1 x.2.1)
  (fun x=>Eq.trans (by kernel_rfl:_=jw x.1 x.2.1 (fun y=>ret (aH [.ls (.i .i64)] y) fun v g=>some (v,g))) (yx x.1 x.2.1 _)) fun _ _ h=>h
abbrev B8:List (Nat×bA):= [(135,jr),(227,yk),(66,qO),(228,tj)]
theorem wV:az Tryz.prog (aP B8):=ae jZ <| ae HO <| ae uz <| ae B7 <| aj _
def jx {ρ:Type} (a0:ai) (k:Bool×Unit→Option ρ):Option ρ:=
 (cc a0.epoch 1 20).bind fun y1=>br y1.1 ((fY a0.replicas).bind fun y2=>br y2.1 ((fY a0.witnesses).bind fun y3=>br y3.1 ((gg a0.replicas a0.primary).bind fun y4=>br y4.1 ((fP a0.replicas a0.witnesses).bind fun y5=>k (((y5.1.length:Int)==0),())) (k (false,()))) (k (false,()))) (k (false,()))) (k (false,()))
def eS (a0:ai):Option (Bool×Unit):=jx a0 some
theorem yy {ρ:Type} (a0:ai) (k:Bool×Unit→Option ρ):jx a0 k=(eS a0).bind k:=by
 simp only [eS,jx,al,Option.bind_assoc,Option.bind_some]
abbrev pa:bA:=bO [.ty (.st .config)] [.b] fun x=>eS x.1
theorem tm:aF Tryz.prog 176 pa:=
 ak (Λ:=aO []) (fn:=Tryz.f176) aR wV af (by kernel_rfl) (aM (by kernel_rfl:_= []) ah) (by kernel_rfl) (fun x=>eS x.1)
  (fun x=>Eq.trans (by kernel_rfl:_=jx x.1 (fun y=>ret (aH [.b] y) fun v g=>some (v,g))) (yy x.1 _)) fun _ _ h=>h
abbrev vZ:List (Nat×bA):= [(176,pa),(135,jr)]
theorem rZ:az Tryz.prog (aP vZ):=ae tm <| ae jZ <| aj _
noncomputable abbrev j6:Code:=cu (cm Tryz.f137) 0
abbrev cZ:ev:=⟨[(1, .cl (.ptr 0 0)),(6, .cl (.ro (.st .config))),(7, .cl (.int .i64)),(8, .cl (.int .i64))],[[.ro (.st .config), .int .i64]],[],0,30⟩
abbrev fQ:List (X×ev):= [(.ret,⟨[(1, .cl (.ptr 0 0)),(2, .cl (.bl))],[[.ro (.st .config), .int .i64]],[],0,30⟩),(.ext 0,⟨[(1, .cl (.ptr 0 0)),(2, .cl (.dead))],[[.ro (.st .config), .int .i64]],[],0,30⟩)]
def gx {ρ:Type} (v1:List ai) (v2:Int) (v3:Int) (v4:List ai) (v5:Int) (fn: ((Unit×(List ai)×Int×Int×Unit)×(((List ai)×Int×Unit)×Unit)×(Unit))→Option ρ) (fe: ((Unit×Bool×Unit)×(((List ai)×Int×Unit)×Unit)×(Unit))⊕((Unit×Unit×Unit)×(((List ai)×Int×Unit)×Unit)×(Unit))→Option ρ):Option ρ:=
 br (decide (v3 < v2)) (aq (0≤v3) ((v1[v3.toNat]?).bind fun x6=>(eS x6).bind fun y7=>br (!y7.1) (fe (.inl (((),false,()),((v4,v5,()),()),(())))) (br (!(x6.epoch==(IntKind.wrap .i64 (v3+1)))) (fe (.inl (((),false,()),((v4,v5,()),()),(())))) (fn (((),v1,v2,(IntKind.wrap .i64 (v3+1)),()),((v4,v5,()),()),(()))))) none) (fe (.inr (((),(),()),((v4,v5,()),()),(()))))
def dz (s:cZ.D):Option (cZ.D⊕bq.D fQ):=gx s.1.2.1 s.1.2.2.1 s.1.2.2.2.1 s.2.1.1.1 s.2.1.1.2.1 (fun s=>some (.inl s)) (fun e=>some (.inr e))
def j7:cZ.D→Option (bq.D fQ):=jF dz
theorem yz {ρ:Type} (s:cZ.D) (fn:cZ.D→Option ρ) (fe:bq.D fQ→Option ρ):gx s.1.2.1 s.1.2.2.1 s.1.2.2.2.1 s.2.1.1.1 s.2.1.1.2.1 fn fe=(dz s).bind (Sum.elim fn fe):=by
 simp only [dz,gx,al,ap,Option.bind_none,Option.bind_assoc,Option.bind_some,Sum.elim_inl,Sum.elim_inr]
abbrev tn:dg:=dB [] [1,6,7,8] cZ fQ j7
theorem wW (s:cZ.D):eP Θ (aP vZ) (aO []) j6 (cZ.mk' s) (dp [1,6,7,8] [1,2] fun x S=>some (x,S))=(dz s).bind (Sum.elim (fun s'=>some (.nor,cZ.mk' s')) fun e=>some (bq.e fQ e)):=
 Eq.trans (by kernel_rfl:_=gx s.1.2.1 s.1.2.2.1 s.1.2.2.2.1 s.2.1.1.1 s.2.1.1.2.1 (fun s'=>some (.nor,cZ.mk' s')) (fun e=>some (bq.e fQ e))) (yz s _ _)
theorem wX:ck Tryz.prog j6 tn:=bi aR rZ af (by kernel_rfl) (dF (by kernel_rfl:_= []) ah) [] [1,6,7,8] [1,2] cZ fQ (by kernel_rfl) dz wW j7 (hU dz) (aW dz)
def li {ρ:Type} (a0:aw) (k:Bool×Unit→Option ρ):Option ρ:=
 (j7 (((),a0.configs,(a0.configs.length:Int),0,()),((a0.configs,a0.activated,()),()),(()))).bind fun e8=>Sum.elim (fun e8_=>k (e8_.1.2.1,())) (fun e8_=>(cc e8_.2.1.1.2.1 0 (e8_.2.1.1.1.length:Int)).bind fun y9=>k (y9.1,())) e8
def gl (a0:aw):Option (Bool×Unit):=li a0 some
theorem B9 {ρ:Type} (a0:aw) (k:Bool×Unit→Option ρ):li a0 k=(gl a0).bind k:=by
 simp only [gl,li,cv,Option.bind_assoc,Option.bind_some]
abbrev rn:bA:=bO [.ty (.st .masterLog)] [.b] fun x=>gl x.1
theorem wb:aF Tryz.prog 137 rn:=
 ak (Λ:=aO [(b8 j6,tn)]) (fn:=Tryz.f137) aR rZ af (by kernel_rfl) (aM (by kernel_rfl:_= [j6]) (aV (q:=b8 j6) rfl wX fun _ _ _=>by kernel_rfl)) (by kernel_rfl) (fun x=>gl x.1)
  (fun x=>Eq.trans (by kernel_rfl:_=li x.1 (fun y=>ret (aH [.b] y) fun v g=>some (v,g))) (B9 x.1 _)) fun _ _ h=>h
abbrev NG:List (Nat×bA):= [(135,jr)]
theorem HW:az Tryz.prog (aP NG):=ae jZ <| aj _
def qe {ρ:Type} (a0:jV) (k:Bool×Unit→Option ρ):Option ρ:=
 br ((a0.epoch==0)&&((a0.holder==0)&&((a0.ends==0)&&true))) (k (true,())) ((cc a0.epoch 1 20).bind fun y1=>br y1.1 ((cc a0.holder 0 4).bind fun y2=>br y2.1 ((cc a0.ends 1 1049).bind fun y3=>k (y3.1,())) (k (false,()))) (k (false,())))
def oz (a0:jV):Option (Bool×Unit):=qe a0 some
theorem Ka {ρ:Type} (a0:jV) (k:Bool×Unit→Option ρ):qe a0 k=(oz a0).bind k:=by
 simp only [oz,qe,al,Option.bind_assoc,Option.bind_some]
abbrev Gv:bA:=bO [.ty (.st .lease)] [.b] fun x=>oz x.1
theorem NH:aF Tryz.prog 138 Gv:=
 ak (Λ:=aO []) (fn:=Tryz.f138) aR HW af (by kernel_rfl) (aM (by kernel_rfl:_= []) ah) (by kernel_rfl) (fun x=>oz x.1)
  (fun x=>Eq.trans (by kernel_rfl:_=qe x.1 (fun y=>ret (aH [.b] y) fun v g=>some (v,g))) (Ka x.1 _)) fun _ _ h=>h
abbrev Eh:List (Nat×bA):= [(135,jr)]
theorem yA:az Tryz.prog (aP Eh):=ae jZ <| aj _
def j8 {ρ:Type} (a0:bh) (k:Bool×Unit→Option ρ):Option ρ:=
 (cc a0.rack 0 9).bind fun y1=>br (!y1.1) (k (true,())) ((cc a0.capacity 0 9).bind fun y2=>br (!y2.1) (k (true,())) ((cc a0.load 0 99).bind fun y3=>k ((!y3.1),())))
def jy (a0:bh):Option (Bool×Unit):=j8 a0 some
theorem Aj {ρ:Type} (a0:bh) (k:Bool×Unit→Option ρ):j8 a0 k=(jy a0).bind k:=by
 simp only [jy,j8,al,Option.bind_assoc,Option.bind_some]
abbrev uB:bA:=bO [.ty (.st .place)] [.b] fun x=>jy x.1
theorem Ei:aF Tryz.prog 212 uB:=
 ak (Λ:=aO []) (fn:=Tryz.f212) aR yA af (by kernel_rfl) (aM (by kernel_rfl:_= []) ah) (by kernel_rfl) (fun x=>jy x.1)
  (fun x=>Eq.trans (by kernel_rfl:_=j8 x.1 (fun y=>ret (aH [.b] y) fun v g=>some (v,g))) (Aj x.1 _)) fun _ _ h=>h
abbrev iB:List (Nat×bA):= [(212,uB)]
theorem gm:az Tryz.prog (aP iB):=ae Ei <| aj _
noncomputable abbrev ce:Code:=cu (cm Tryz.f266) 0
abbrev aD:ev:=⟨[(0, .cl (.ro (.st .place))),(1, .cl (.fc 212)),(7, .cl (.int .i64)),(8, .cl (.int .i64))],[],[],0,19⟩
abbrev bn:List (X×ev):= [(.ret,⟨[(4, .cl (.int .i64))],[],[],0,19⟩),(.ext 0,⟨[(4, .cl (.dead))],[],[],0,19⟩)]
def bE {ρ:Type} (v1:List bh) (v2:Int) (v3:Int) (fn: (((List bh)×Unit×Int×Int×Unit)×(Unit)×(Unit))→Option ρ) (fe: ((Int×Unit)×(Unit)×(Unit))⊕((Unit×Unit)×(Unit)×(Unit))→Option ρ):Option ρ:=
 br (decide (v3 < v2)) (aq (0≤v3) ((v1[v3.toNat]?).bind fun x4=>(jy x4).bind fun y5=>br y5.1 (fe (.inl ((v3,()),(()),(())))) (fn ((v1,(),v2,(IntKind.wrap .i64 (v3+1)),()),(()),(())))) none) (fe (.inr (((),()),(()),(()))))
def aK (s:aD.D):Option (aD.D⊕bq.D bn):=bE s.1.1 s.1.2.2.1 s.1.2.2.2.1 (fun s=>some (.inl s)) (fun e=>some (.inr e))
def cf:aD.D→Option (bq.D bn):=jF aK
theorem lT {ρ:Type} (s:aD.D) (fn:aD.D→Option ρ) (fe:bq.D bn→Option ρ):bE s.1.1 s.1.2.2.1 s.1.2.2.2.1 fn fe=(aK s).bind (Sum.elim fn fe):=by
 simp only [aK,bE,al,ap,Option.bind_none,Option.bind_assoc,Option.bind_some,Sum.elim_inl,Sum.elim_inr]
abbrev gQ:dg:=dB [] [0,1,7,8] aD bn cf
theorem lG (s:aD.D):eP Θ (aP iB) (aO []) ce (aD.mk' s) (dp [0,1,7,8] [4] fun x S=>some (x,S))=(aK s).bind (Sum.elim (fun s'=>some (.nor,aD.mk' s')) fun e=>some (bq.e bn e)):=
 Eq.trans (by kernel_rfl:_=bE s.1.1 s.1.2.2.1 s.1.2.2.2.1 (fun s'=>some (.nor,aD.mk' s')) (fun e=>some (bq.e bn e))) (lT s _ _)
theorem lH:ck Tryz.prog ce gQ:=bi aR gm af (by kernel_rfl) (dF (by kernel_rfl:_= []) ah) [] [0,1,7,8] [4] aD bn (by kernel_rfl) aK lG cf (hU aK) (aW aK)
def ct {ρ:Type} (a0:List bh) (k:Int×Unit→Option ρ):Option ρ:=
 (cf ((a0,(),(a0.length:Int),0,()),(()),(()))).bind fun e6=>Sum.elim (fun e6_=>k (e6_.1.1,())) (fun e6_=>k ((-1),())) e6
def bX (a0:List bh):Option (Int×Unit):=ct a0 some
theorem mT {ρ:Type} (a0:List bh) (k:Int×Unit→Option ρ):ct a0 k=(bX a0).bind k:=by
 simp only [bX,ct,cv,Option.bind_assoc,Option.bind_some]
abbrev iC:bA:=bO [.ty (.ls (.st .place)), .fc 212] [.i .i64] fun x=>bX x.1
theorem nU:aF Tryz.prog 266 iC:=
 ak (Λ:=aO [(b8 ce,gQ)]) (fn:=Tryz.f266) aR gm af (by kernel_rfl) (aM (by kernel_rfl:_= [ce]) (aV (q:=b8 ce) rfl lH fun _ _ _=>by kernel_rfl)) (by kernel_rfl) (fun x=>bX x.1)
  (fun x=>Eq.trans (by kernel_rfl:_=ct x.1 (fun y=>ret (aH [.i .i64] y) fun v g=>some (v,g))) (mT x.1 _)) fun _ _ h=>h
abbrev mo:List (Nat×bA):= [(266,iC)]
theorem lj:az Tryz.prog (aP mo):=ae nU <| aj _
def b6 {ρ:Type} (a0:List bh) (k:Bool×Unit→Option ρ):Option ρ:=
 (bX a0).bind fun y1=>k ((decide (y1.1≥0)),())
def bF (a0:List bh):Option (Bool×Unit):=b6 a0 some
theorem lI {ρ:Type} (a0:List bh) (k:Bool×Unit→Option ρ):b6 a0 k=(bF a0).bind k:=by
 simp only [bF,b6,Option.bind_assoc,Option.bind_some]
abbrev gn:bA:=bO [.ty (.ls (.st .place)), .fc 212] [.b] fun x=>bF x.1
theorem mp:aF Tryz.prog 211 gn:=
 ak (Λ:=aO []) (fn:=Tryz.f211) aR lj af (by kernel_rfl) (aM (by kernel_rfl:_= []) ah) (by kernel_rfl) (fun x=>bF x.1)
  (fun x=>Eq.trans (by kernel_rfl:_=b6 x.1 (fun y=>ret (aH [.b] y) fun v g=>some (v,g))) (lI x.1 _)) fun _ _ h=>h
abbrev Kb:List (Nat×bA):= [(211,gn)]
theorem Ej:az Tryz.prog (aP Kb):=ae mp <| aj _
def nV {ρ:Type} (a0:List bh) (k:Bool×Unit→Option ρ):Option ρ:=
 br ((a0.length:Int)==5) ((bF a0).bind fun y1=>k ((!y1.1),())) (k (false,()))
def ll (a0:List bh):Option (Bool×Unit):=nV a0 some
theorem FH {ρ:Type} (a0:List bh) (k:Bool×Unit→Option ρ):nV a0 k=(ll a0).bind k:=by
 simp only [ll,nV,al,Option.bind_assoc,Option.bind_some]
abbrev Be:bA:=bO [.ty (.ls (.st .place))] [.b] fun x=>ll x.1
theorem Kd:aF Tryz.prog 139 Be:=
 ak (Λ:=aO []) (fn:=Tryz.f139) aR Ej af (by kernel_rfl) (aM (by kernel_rfl:_= []) ah) (by kernel_rfl) (fun x=>ll x.1)
  (fun x=>Eq.trans (by kernel_rfl:_=nV x.1 (fun y=>ret (aH [.b] y) fun v g=>some (v,g))) (FH x.1 _)) fun _ _ h=>h
abbrev Ke:List (Nat×bA):= [(135,jr)]
theorem Ek:az Tryz.prog (aP Ke):=ae jZ <| aj _
def nW {ρ:Type} (a0:Op) (k:Bool×Unit→Option ρ):Option ρ:=
 (cc a0.client 0 2).bind fun y1=>br (!y1.1) (k (false,())) ((cc a0.seq 1 99).bind fun y2=>br (!y2.1) (k (false,())) ((cc a0.object 0 2).bind fun y3=>br (!y3.1) (k (false,())) ((cc a0.value 0 9).bind fun y4=>br (!y4.1) (k (false,())) (br (a0.kind==1) (br (a0.old==0) (k (true,())) (br (a0.kind==2) ((cc a0.old 0 9).bind fun y5=>k (y5.1,())) (k (false,())))) (br (a0.kind==2) ((cc a0.old 0 9).bind fun y6=>k (y6.1,())) (k (false,())))))))
def jJ (a0:Op):Option (Bool×Unit):=nW a0 some
theorem FI {ρ:Type} (a0:Op) (k:Bool×Unit→Option ρ):nW a0 k=(jJ a0).bind k:=by
 simp only [jJ,nW,al,Option.bind_assoc,Option.bind_some]
abbrev Bf:bA:=bO [.ty (.st .op)] [.b] fun x=>jJ x.1
theorem Kf:aF Tryz.prog 229 Bf:=
 ak (Λ:=aO []) (fn:=Tryz.f229) aR Ek af (by kernel_rfl) (aM (by kernel_rfl:_= []) ah) (by kernel_rfl) (fun x=>jJ x.1)
  (fun x=>Eq.trans (by kernel_rfl:_=nW x.1 (fun y=>ret (aH [.b] y) fun v g=>some (v,g))) (FI x.1 _)) fun _ _ h=>h
abbrev MJ:List (Nat×bA):= [(135,jr),(229,Bf)]
theorem El:az Tryz.prog (aP MJ):=ae jZ <| ae Kf <| aj _
noncomputable abbrev sa:Code:=cu (cm Tryz.f179) 0
abbrev jz:ev:=⟨[(0, .cl (.ro (.st .entry))),(5, .cl (.ro (.st .entry))),(6, .cl (.int .i64)),(7, .cl (.int .i64))],[],[],0,41⟩
abbrev oA:List (X×ev):= [(.ret,⟨[(0, .cl (.ro (.st .entry))),(2, .cl (.bl))],[],[],0,41⟩),(.ext 0,⟨[(0, .cl (.ro (.st .entry))),(2, .cl (.dead))],[],[],0,41⟩)]
def oB {ρ:Type} (v1:List aA) (v2:List aA) (v3:Int) (v4:Int) (fn: (((List aA)×(List aA)×Int×Int×Unit)×(Unit)×(Unit))→Option ρ) (fe: (((List aA)×Bool×Unit)×(Unit)×(Unit))⊕(((List aA)×Unit×Unit)×(Unit)×(Unit))→Option ρ):Option ρ:=
 br (decide (v4 < v3)) (aq (0≤v4) ((v2[v4.toNat]?).bind fun x5=>(cc x5.epoch 1 20).bind fun y6=>br (!y6.1) (fe (.inl ((v1,false,()),(()),(())))) (br (decide (v4 > 0)) (aq (0≤(IntKind.wrap .i64 (v4 - 1))) ((v1[(IntKind.wrap .i64 (v4 - 1)).toNat]?).bind fun x7=>br (decide (x5.epoch < x7.epoch)) (fe (.inl ((v1,false,()),(()),(())))) ((jJ x5.op).bind fun y8=>br (!y8.1) (fe (.inl ((v1,false,()),(()),(())))) (fn ((v1,v2,v3,(IntKind.wrap .i64 (v4+1)),()),(()),(()))))) none) ((jJ x5.op).bind fun y9=>br (!y9.1) (fe (.inl ((v1,false,()),(()),(())))) (fn ((v1,v2,v3,(IntKind.wrap .i64 (v4+1)),()),(()),(())))))) none) (fe (.inr ((v1,(),()),(()),(()))))
def kk (s:jz.D):Option (jz.D⊕bq.D oA):=oB s.1.1 s.1.2.1 s.1.2.2.1 s.1.2.2.2.1 (fun s=>some (.inl s)) (fun e=>some (.inr e))
def sb:jz.D→Option (bq.D oA):=jF kk
theorem Kg {ρ:Type} (s:jz.D) (fn:jz.D→Option ρ) (fe:bq.D oA→Option ρ):oB s.1.1 s.1.2.1 s.1.2.2.1 s.1.2.2.2.1 fn fe=(kk s).bind (Sum.elim fn fe):=by
 simp only [kk,oB,al,ap,Option.bind_none,Option.bind_assoc,Option.bind_some,Sum.elim_inl,Sum.elim_inr]
abbrev Gw:dg:=dB [] [0,5,6,7] jz oA sb
theorem HX (s:jz.D):eP Θ (aP MJ) (aO []) sa (jz.mk' s) (dp [0,5,6,7] [0,2] fun x S=>some (x,S))=(kk s).bind (Sum.elim (fun s'=>some (.nor,jz.mk' s')) fun e=>some (bq.e oA e)):=
 Eq.trans (by kernel_rfl:_=oB s.1.1 s.1.2.1 s.1.2.2.1 s.1.2.2.2.1 (fun s'=>some (.nor,jz.mk' s')) (fun e=>some (bq.e oA e))) (Kg s _ _)
theorem HY:ck Tryz.prog sa Gw:=bi aR El af (by kernel_rfl) (dF (by kernel_rfl:_= []) ah) [] [0,5,6,7] [0,2] jz oA (by kernel_rfl) kk HX sb (hU kk) (aW kk)
def uC {ρ:Type} (a0:List aA) (k:Bool×Unit→Option ρ):Option ρ:=
 (sb ((a0,a0,(a0.length:Int),0,()),(()),(()))).bind fun e10=>Sum.elim (fun e10_=>k (e10_.1.2.1,())) (fun e10_=>k ((decide ((e10_.1.1.length:Int)≤16)),())) e10
def oJ (a0:List aA):Option (Bool×Unit):=uC a0 some
theorem NI {ρ:Type} (a0:List aA) (k:Bool×Unit→Option ρ):uC a0 k=(oJ a0).bind k:=by
 simp only [oJ,uC,cv,Option.bind_assoc,Option.bind_some]
abbrev HZ:bA:=bO [.ty (.ls (.st .entry))] [.b] fun x=>oJ x.1
theorem ML:aF Tryz.prog 179 HZ:=
 ak (Λ:=aO [(b8 sa,Gw)]) (fn:=Tryz.f179) aR El af (by kernel_rfl) (aM (by kernel_rfl:_= [sa]) (aV (q:=b8 sa) rfl HY fun _ _ _=>by kernel_rfl)) (by kernel_rfl) (fun x=>oJ x.1)
  (fun x=>Eq.trans (by kernel_rfl:_=uC x.1 (fun y=>ret (aH [.b] y) fun v g=>some (v,g))) (NI x.1 _)) fun _ _ h=>h
abbrev yB:List (Nat×bA):= []
theorem to:az Tryz.prog (aP yB):=aj _
noncomputable abbrev lm:Code:=cu (cm Tryz.f219) 0
abbrev dw:ev:=⟨[(0, .cl (.ro (.i .i64))),(1, .cl (.ro (.i .i64))),(12, .cl (.int .i64)),(13, .cl (.int .i64))],[],[],0,26⟩
abbrev gR:List (X×ev):= [(.ret,⟨[(4, .cl (.bl))],[],[],0,26⟩),(.ext 0,⟨[(4, .cl (.dead))],[],[],0,26⟩)]
def im {ρ:Type} (v1:List Int) (v2:List Int) (v3:Int) (v4:Int) (fn: (((List Int)×(List Int)×Int×Int×Unit)×(Unit)×(Unit))→Option ρ) (fe: ((Bool×Unit)×(Unit)×(Unit))⊕((Unit×Unit)×(Unit)×(Unit))→Option ρ):Option ρ:=
 br (decide (v4 < v3)) (aq (0≤v4) ((v1[v4.toNat]?).bind fun x5=>aq (0≤v4) ((v2[v4.toNat]?).bind fun x6=>br (!(x5==x6)) (fe (.inl ((false,()),(()),(())))) (fn ((v1,v2,v3,(IntKind.wrap .i64 (v4+1)),()),(()),(())))) none) none) (fe (.inr (((),()),(()),(()))))
def dR (s:dw.D):Option (dw.D⊕bq.D gR):=im s.1.1 s.1.2.1 s.1.2.2.1 s.1.2.2.2.1 (fun s=>some (.inl s)) (fun e=>some (.inr e))
def ln:dw.D→Option (bq.D gR):=jF dR
theorem Ak {ρ:Type} (s:dw.D) (fn:dw.D→Option ρ) (fe:bq.D gR→Option ρ):im s.1.1 s.1.2.1 s.1.2.2.1 s.1.2.2.2.1 fn fe=(dR s).bind (Sum.elim fn fe):=by
 simp only [dR,im,al,ap,Option.bind_none,Option.bind_assoc,Option.bind_some,Sum.elim_inl,Sum.elim_inr]
abbrev uD:dg:=dB [] [0,1,12,13] dw gR ln
theorem yC (s:dw.D):eP Θ (aP yB) (aO []) lm (dw.mk' s) (dp [0,1,12,13] [4] fun x S=>some (x,S))=(dR s).bind (Sum.elim (fun s'=>some (.nor,dw.mk' s')) fun e=>some (bq.e gR e)):=
 Eq.trans (by kernel_rfl:_=im s.1.1 s.1.2.1 s.1.2.2.1 s.1.2.2.2.1 (fun s'=>some (.nor,dw.mk' s')) (fun e=>some (bq.e gR e))) (Ak s _ _)
theorem yD:ck Tryz.prog lm uD:=bi aR to af (by kernel_rfl) (dF (by kernel_rfl:_= []) ah) [] [0,1,12,13] [4] dw gR (by kernel_rfl) dR yC ln (hU dR) (aW dR)
def mq {ρ:Type} (a0:List Int) (a1:List Int) (k:Bool×Unit→Option ρ):Option ρ:=
 br (!((a0.length:Int)==(a1.length:Int))) (k (false,())) ((ln ((a0,a1,(a0.length:Int),0,()),(()),(()))).bind fun e7=>Sum.elim (fun e7_=>k (e7_.1.1,())) (fun e7_=>k (true,())) e7)
def lJ (a0:List Int) (a1:List Int):Option (Bool×Unit):=mq a0 a1 some
theorem Em {ρ:Type} (a0:List Int) (a1:List Int) (k:Bool×Unit→Option ρ):mq a0 a1 k=(lJ a0 a1).bind k:=by
 simp only [lJ,mq,al,cv,Option.bind_assoc,Option.bind_some]
abbrev yE:bA:=bO [.ty (.ls (.i .i64)), .ty (.ls (.i .i64))] [.b] fun x=>lJ x.1 x.2.1
theorem H0:aF Tryz.prog 219 yE:=
 ak (Λ:=aO [(b8 lm,uD)]) (fn:=Tryz.f219) aR to af (by kernel_rfl) (aM (by kernel_rfl:_= [lm]) (aV (q:=b8 lm) rfl yD fun _ _ _=>by kernel_rfl)) (by kernel_rfl) (fun x=>lJ x.1 x.2.1)
  (fun x=>Eq.trans (by kernel_rfl:_=mq x.1 x.2.1 (fun y=>ret (aH [.b] y) fun v g=>some (v,g))) (Em x.1 x.2.1 _)) fun _ _ h=>h
abbrev Eo:List (Nat×bA):= [(219,yE)]
theorem yF:az Tryz.prog (aP Eo):=ae H0 <| aj _
def j9 {ρ:Type} (a0:List Int) (a1:List Int) (k:Bool×Unit→Option ρ):Option ρ:=
 (lJ a0 a1).bind fun y1=>k (y1.1,())
def fD (a0:List Int) (a1:List Int):Option (Bool×Unit):=j9 a0 a1 some
theorem Al {ρ:Type} (a0:List Int) (a1:List Int) (k:Bool×Unit→Option ρ):j9 a0 a1 k=(fD a0 a1).bind k:=by
 simp only [fD,j9,Option.bind_assoc,Option.bind_some]
abbrev uE:bA:=bO [.ty (.ls (.i .i64)), .ty (.ls (.i .i64))] [.b] fun x=>fD x.1 x.2.1
theorem Ep:aF Tryz.prog 160 uE:=
 ak (Λ:=aO []) (fn:=Tryz.f160) aR yF af (by kernel_rfl) (aM (by kernel_rfl:_= []) ah) (by kernel_rfl) (fun x=>fD x.1 x.2.1)
  (fun x=>Eq.trans (by kernel_rfl:_=j9 x.1 x.2.1 (fun y=>ret (aH [.b] y) fun v g=>some (v,g))) (Al x.1 x.2.1 _)) fun _ _ h=>h
abbrev Er:List (Nat×bA):= [(160,uE)]
theorem yG:az Tryz.prog (aP Er):=ae Ep <| aj _
def ka {ρ:Type} (a0:ai) (a1:ai) (k:Bool×Unit→Option ρ):Option ρ:=
 br (a0.epoch==a1.epoch) (br (a0.primary==a1.primary) ((fD a0.replicas a1.replicas).bind fun y1=>br y1.1 ((fD a0.witnesses a1.witnesses).bind fun y2=>k (y2.1,())) (k (false,()))) (k (false,()))) (k (false,()))
def eF (a0:ai) (a1:ai):Option (Bool×Unit):=ka a0 a1 some
theorem Am {ρ:Type} (a0:ai) (a1:ai) (k:Bool×Unit→Option ρ):ka a0 a1 k=(eF a0 a1).bind k:=by
 simp only [eF,ka,al,Option.bind_assoc,Option.bind_some]
abbrev qf:bA:=bO [.ty (.st .config), .ty (.st .config)] [.b] fun x=>eF x.1 x.2.1
theorem uF:aF Tryz.prog 91 qf:=
 ak (Λ:=aO []) (fn:=Tryz.f91) aR yG af (by kernel_rfl) (aM (by kernel_rfl:_= []) ah) (by kernel_rfl) (fun x=>eF x.1 x.2.1)
  (fun x=>Eq.trans (by kernel_rfl:_=ka x.1 x.2.1 (fun y=>ret (aH [.b] y) fun v g=>some (v,g))) (Am x.1 x.2.1 _)) fun _ _ h=>h
abbrev Kh:List (Nat×bA):= []
theorem Es:az Tryz.prog (aP Kh):=aj _
def nX {ρ:Type} (a0:List aA) (k:Int×Unit→Option ρ):Option ρ:=
 br ((a0.length:Int)==0) (k (0,())) (aq (0≤(IntKind.wrap .i64 ((a0.length:Int) - 1))) ((a0[(IntKind.wrap .i64 ((a0.length:Int) - 1)).toNat]?).bind fun x1=>k (x1.epoch,())) none)
def jK (a0:List aA):Option (Int×Unit):=nX a0 some
theorem FJ {ρ:Type} (a0:List aA) (k:Int×Unit→Option ρ):nX a0 k=(jK a0).bind k:=by
 simp only [jK,nX,al,ap,Option.bind_none,Option.bind_assoc,Option.bind_some]
abbrev uG:bA:=bO [.ty (.ls (.st .entry))] [.i .i64] fun x=>jK x.1
theorem Bg:aF Tryz.prog 141 uG:=
 ak (Λ:=aO []) (fn:=Tryz.f141) aR Es af (by kernel_rfl) (aM (by kernel_rfl:_= []) ah) (by kernel_rfl) (fun x=>jK x.1)
  (fun x=>Eq.trans (by kernel_rfl:_=nX x.1 (fun y=>ret (aH [.i .i64] y) fun v g=>some (v,g))) (FJ x.1 _)) fun _ _ h=>h
abbrev PH:List (Nat×bA):= [(176,pa),(66,qO)]
theorem Ki:az Tryz.prog (aP PH):=ae tm <| ae uz <| aj _
def sd {ρ:Type} (a0:ai) (a1:Int) (k:Int×Unit→Option ρ):Option ρ:=
 (eS a0).bind fun y1=>br (!y1.1) (k (0,())) (br (a1==a0.primary) (k (1,())) ((gg a0.replicas a1).bind fun y2=>br y2.1 (k (2,())) ((gg a0.witnesses a1).bind fun y3=>br y3.1 (k (3,())) (k (0,())))))
def qg (a0:ai) (a1:Int):Option (Int×Unit):=sd a0 a1 some
theorem LL {ρ:Type} (a0:ai) (a1:Int) (k:Int×Unit→Option ρ):sd a0 a1 k=(qg a0 a1).bind k:=by
 simp only [qg,sd,al,Option.bind_assoc,Option.bind_some]
abbrev Kj:bA:=bO [.ty (.st .config), .ty (.i .i64)] [.i .i64] fun x=>qg x.1 x.2.1
theorem PI:aF Tryz.prog 178 Kj:=
 ak (Λ:=aO []) (fn:=Tryz.f178) aR Ki af (by kernel_rfl) (aM (by kernel_rfl:_= []) ah) (by kernel_rfl) (fun x=>qg x.1 x.2.1)
  (fun x=>Eq.trans (by kernel_rfl:_=sd x.1 x.2.1 (fun y=>ret (aH [.i .i64] y) fun v g=>some (v,g))) (LL x.1 x.2.1 _)) fun _ _ h=>h
abbrev PJ:List (Nat×bA):= [(179,HZ),(135,jr)]
theorem Kk:az Tryz.prog (aP PJ):=ae ML <| ae jZ <| aj _
def se {ρ:Type} (a0:Int) (a1:List aA) (k:Bool×Unit→Option ρ):Option ρ:=
 (oJ a1).bind fun y1=>br y1.1 (br (decide ((a1.length:Int)≤3)) ((cc a0 0 (IntKind.wrap .i64 (16 - (a1.length:Int)))).bind fun y2=>br y2.1 (br (a0==0) (k (true,())) (k (((a1.length:Int)==3),()))) (k (false,()))) (k (false,()))) (k (false,()))
def qh (a0:Int) (a1:List aA):Option (Bool×Unit):=se a0 a1 some
theorem LM {ρ:Type} (a0:Int) (a1:List aA) (k:Bool×Unit→Option ρ):se a0 a1 k=(qh a0 a1).bind k:=by
 simp only [qh,se,al,Option.bind_assoc,Option.bind_some]
abbrev Kl:bA:=bO [.ty (.i .i64), .ty (.ls (.st .entry))] [.b] fun x=>qh x.1 x.2.1
theorem PK:aF Tryz.prog 213 Kl:=
 ak (Λ:=aO []) (fn:=Tryz.f213) aR Kk af (by kernel_rfl) (aM (by kernel_rfl:_= []) ah) (by kernel_rfl) (fun x=>qh x.1 x.2.1)
  (fun x=>Eq.trans (by kernel_rfl:_=se x.1 x.2.1 (fun y=>ret (aH [.b] y) fun v g=>some (v,g))) (LM x.1 x.2.1 _)) fun _ _ h=>h
abbrev Ca:List (Nat×bA):= [(135,jr),(179,HZ),(91,qf),(141,uG),(178,Kj),(213,Kl)]
theorem wY:az Tryz.prog (aP Ca):=ae jZ <| ae ML <| ae uF <| ae Bg <| ae PI <| ae PK <| aj _
def jA {ρ:Type} (a0:ay) (a1:Int) (k:Bool×Unit→Option ρ):Option ρ:=
 (cc a0.version 1 2).bind fun y1=>br (!y1.1) (k (false,())) ((cc a0.epoch 0 20).bind fun y2=>br (!y2.1) (k (false,())) ((oJ a0.log).bind fun y3=>br (!y3.1) (k (false,())) ((oJ a0.learned).bind fun y4=>br (!y4.1) (k (false,())) ((cc a0.first 0 16).bind fun y5=>br (!y5.1) (k (false,())) (br (decide ((IntKind.wrap .i64 (a0.first+(a0.log.length:Int))) > 16)) (k (false,())) ((cc a0.commit 0 (IntKind.wrap .i64 (a0.first+(a0.log.length:Int)))).bind fun y6=>br (!y6.1) (k (false,())) ((eF a0.config (⟨0,0,([]:List Int),([]:List Int)⟩:ai)).bind fun y7=>br y7.1 (br (a0.first==0) (br (a0.commit==0) (k (((a0.log.length:Int)==0),())) (k (false,()))) (k (false,()))) (br (!a0.intact) (k (false,())) (br (decide (a0.epoch < a0.config.epoch)) (k (false,())) ((jK a0.log).bind fun y8=>br (decide (y8.1 > a0.config.epoch)) (k (false,())) ((qg a0.config a1).bind fun y9=>br (y9.1==1) (k ((a0.first==0),())) (br (y9.1==2) (k ((a0.first==0),())) (br (y9.1==3) ((qh a0.first a0.log).bind fun y10=>k (y10.1,())) (k (false,())))))))))))))))
def fR (a0:ay) (a1:Int):Option (Bool×Unit):=jA a0 a1 some
theorem yH {ρ:Type} (a0:ay) (a1:Int) (k:Bool×Unit→Option ρ):jA a0 a1 k=(fR a0 a1).bind k:=by
 simp only [fR,jA,al,Option.bind_assoc,Option.bind_some]
abbrev tp:bA:=bO [.ty (.st .server), .ty (.i .i64)] [.b] fun x=>fR x.1 x.2.1
theorem Cb:aF Tryz.prog 140 tp:=
 ak (Λ:=aO []) (fn:=Tryz.f140) aR wY af (by kernel_rfl) (aM (by kernel_rfl:_= []) ah) (by kernel_rfl) (fun x=>fR x.1 x.2.1)
  (fun x=>Eq.trans (by kernel_rfl:_=jA x.1 x.2.1 (fun y=>ret (aH [.b] y) fun v g=>some (v,g))) (yH x.1 x.2.1 _)) fun _ _ h=>h
abbrev H1:List (Nat×bA):= []
theorem Cc:az Tryz.prog (aP H1):=aj _
def km {ρ:Type} (a0:ai) (k:ai×Unit→Option ρ):Option ρ:=
 aq ((([]:List Int)++a0.replicas).length*8≤2 ^ 40) (aq ((([]:List Int)++a0.witnesses).length*8≤2 ^ 40) (k ((⟨a0.epoch,a0.primary,(([]:List Int)++a0.replicas),(([]:List Int)++a0.witnesses)⟩:ai),())) none) none
def fZ (a0:ai):Option (ai×Unit):=km a0 some
theorem Et {ρ:Type} (a0:ai) (k:ai×Unit→Option ρ):km a0 k=(fZ a0).bind k:=by
 simp only [fZ,km,ap,Option.bind_none,Option.bind_some]
abbrev yI:bA:=bO [.ty (.st .config)] [.st .config] fun x=>fZ x.1
theorem H2:aF Tryz.prog 177 yI:=
 ak (Λ:=aO []) (fn:=Tryz.f177) aR Cc af (by kernel_rfl) (aM (by kernel_rfl:_= []) ah) (by kernel_rfl) (fun x=>fZ x.1)
  (fun x=>Eq.trans (by kernel_rfl:_=km x.1 (fun y=>ret (aH [.st .config] y) fun v g=>some (v,g))) (Et x.1 _)) fun _ _ h=>h
abbrev LN:List (Nat×bA):= [(137,rn),(135,jr),(177,yI)]
theorem FK:az Tryz.prog (aP LN):=ae wb <| ae jZ <| ae H2 <| aj _
def nj {ρ:Type} (a0:aw) (a1:Int) (k:ai×Bool×Unit→Option ρ):Option ρ:=
 (gl a0).bind fun y1=>br (!y1.1) (k ((⟨0,0,([]:List Int),([]:List Int)⟩:ai),false,())) ((cc a1 1 (a0.configs.length:Int)).bind fun y2=>br (!y2.1) (k ((⟨0,0,([]:List Int),([]:List Int)⟩:ai),false,())) (aq (0≤(IntKind.wrap .i64 (a1 - 1))) ((a0.configs[(IntKind.wrap .i64 (a1 - 1)).toNat]?).bind fun x3=>(fZ x3).bind fun y4=>k (y4.1,true,())) none))
def iZ (a0:aw) (a1:Int):Option (ai×Bool×Unit):=nj a0 a1 some
theorem H3 {ρ:Type} (a0:aw) (a1:Int) (k:ai×Bool×Unit→Option ρ):nj a0 a1 k=(iZ a0 a1).bind k:=by
 simp only [iZ,nj,al,ap,Option.bind_none,Option.bind_assoc,Option.bind_some]
abbrev wZ:bA:=bO [.ty (.st .masterLog), .ty (.i .i64)] [.st .config, .b] fun x=>iZ x.1 x.2.1
theorem Eu:aF Tryz.prog 142 wZ:=
 ak (Λ:=aO []) (fn:=Tryz.f142) aR FK af (by kernel_rfl) (aM (by kernel_rfl:_= []) ah) (by kernel_rfl) (fun x=>iZ x.1 x.2.1)
  (fun x=>Eq.trans (by kernel_rfl:_=nj x.1 x.2.1 (fun y=>ret (aH [.st .config, .b] y) fun v g=>some (v,g))) (H3 x.1 x.2.1 _)) fun _ _ h=>h
abbrev sf:List (Nat×bA):= [(135,jr),(136,D8),(137,rn),(138,Gv),(139,Be),(140,tp),(141,uG),(91,qf),(142,wZ)]
theorem pn:az Tryz.prog (aP sf):=ae jZ <| ae LH <| ae wb <| ae NH <| ae Kd <| ae Cb <| ae Bg <| ae uF <| ae Eu <| aj _
noncomputable abbrev gT:Code:=cu (cm Tryz.f57) 0
abbrev cg:ev:=⟨[(1, .cl (.ptr 0 0)),(57, .cl (.ro (.st .server))),(58, .cl (.int .i64)),(59, .cl (.int .i64))],[[.int .i64, .ro (.st .server), .ro (.i .i64), .ro (.st .config), .int .i64, .int .i64, .int .i64, .int .i64, .int .i64, .ro (.st .place)]],[],0,118⟩
abbrev ec:List (X×ev):= [(.ret,⟨[(2, .cl (.bl))],[],[],0,118⟩),(.ext 0,⟨[(2, .cl (.dead))],[],[],0,118⟩)]
def eM {ρ:Type} (v7:List ay) (v8:Int) (v9:Int) (v10:Int) (v11:List ay) (v12:List Int) (v13:List ai) (v14:Int) (v15:Int) (v16:Int) (v17:Int) (v18:Int) (v19:List bh) (fn: ((Unit×(List ay)×Int×Int×Unit)×((Int×(List ay)×(List Int)×(List ai)×Int×Int×Int×Int×Int×(List bh)×Unit)×Unit)×(Unit))→Option ρ) (fe: ((Bool×Unit)×(Unit)×(Unit))⊕((Unit×Unit)×(Unit)×(Unit))→Option ρ):Option ρ:=
 br (decide (v9 < v8)) (aq (0≤v9) ((v7[v9.toNat]?).bind fun x20=>(fR x20 v9).bind fun y21=>br (!y21.1) (fe (.inl ((false,()),(()),(())))) (br (decide (x20.epoch > (v13.length:Int))) (fe (.inl ((false,()),(()),(())))) ((jK x20.learned).bind fun y22=>br (decide (y22.1 > v14)) (fe (.inl ((false,()),(()),(())))) ((eF x20.config (⟨0,0,([]:List Int),([]:List Int)⟩:ai)).bind fun y23=>br y23.1 (fn (((),v7,v8,(IntKind.wrap .i64 (v9+1)),()),((v10,v11,v12,v13,v14,v15,v16,v17,v18,v19,()),()),(()))) ((iZ (⟨v13,v14⟩:aw) x20.config.epoch).bind fun y24=>br (!y24.2.1) (fe (.inl ((false,()),(()),(())))) ((eF y24.1 x20.config).bind fun y25=>br (!y25.1) (fe (.inl ((false,()),(()),(())))) (br (decide (x20.config.epoch > v14)) (fe (.inl ((false,()),(()),(())))) (fn (((),v7,v8,(IntKind.wrap .i64 (v9+1)),()),((v10,v11,v12,v13,v14,v15,v16,v17,v18,v19,()),()),(())))))))))) none) (fe (.inr (((),()),(()),(()))))
def cB (s:cg.D):Option (cg.D⊕bq.D ec):=eM s.1.2.1 s.1.2.2.1 s.1.2.2.2.1 s.2.1.1.1 s.2.1.1.2.1 s.2.1.1.2.2.1 s.2.1.1.2.2.2.1 s.2.1.1.2.2.2.2.1 s.2.1.1.2.2.2.2.2.1 s.2.1.1.2.2.2.2.2.2.1 s.2.1.1.2.2.2.2.2.2.2.1 s.2.1.1.2.2.2.2.2.2.2.2.1 s.2.1.1.2.2.2.2.2.2.2.2.2.1 (fun s=>some (.inl s)) (fun e=>some (.inr e))
def gU:cg.D→Option (bq.D ec):=jF cB
theorem uH {ρ:Type} (s:cg.D) (fn:cg.D→Option ρ) (fe:bq.D ec→Option ρ):eM s.1.2.1 s.1.2.2.1 s.1.2.2.2.1 s.2.1.1.1 s.2.1.1.2.1 s.2.1.1.2.2.1 s.2.1.1.2.2.2.1 s.2.1.1.2.2.2.2.1 s.2.1.1.2.2.2.2.2.1 s.2.1.1.2.2.2.2.2.2.1 s.2.1.1.2.2.2.2.2.2.2.1 s.2.1.1.2.2.2.2.2.2.2.2.1 s.2.1.1.2.2.2.2.2.2.2.2.2.1 fn fe=(cB s).bind (Sum.elim fn fe):=by
 simp only [cB,eM,al,ap,Option.bind_none,Option.bind_assoc,Option.bind_some,Sum.elim_inl,Sum.elim_inr]
abbrev qi:dg:=dB [] [1,57,58,59] cg ec gU
theorem tK (s:cg.D):eP Θ (aP sf) (aO []) gT (cg.mk' s) (dp [1,57,58,59] [2] fun x S=>some (x,S))=(cB s).bind (Sum.elim (fun s'=>some (.nor,cg.mk' s')) fun e=>some (bq.e ec e)):=
 Eq.trans (by kernel_rfl:_=eM s.1.2.1 s.1.2.2.1 s.1.2.2.2.1 s.2.1.1.1 s.2.1.1.2.1 s.2.1.1.2.2.1 s.2.1.1.2.2.2.1 s.2.1.1.2.2.2.2.1 s.2.1.1.2.2.2.2.2.1 s.2.1.1.2.2.2.2.2.2.1 s.2.1.1.2.2.2.2.2.2.2.1 s.2.1.1.2.2.2.2.2.2.2.2.1 s.2.1.1.2.2.2.2.2.2.2.2.2.1 (fun s'=>some (.nor,cg.mk' s')) (fun e=>some (bq.e ec e))) (uH s _ _)
theorem tL:ck Tryz.prog gT qi:=bi aR pn af (by kernel_rfl) (dF (by kernel_rfl:_= []) ah) [] [1,57,58,59] [2] cg ec (by kernel_rfl) cB tK gU (hU cB) (aW cB)
def iE {ρ:Type} (a0:aQ) (k:Bool×Unit→Option ρ):Option ρ:=
 (cc a0.now 0 999).bind fun y1=>br (!y1.1) (k (false,())) (br (!((a0.servers.length:Int)==5)) (k (false,())) ((mO a0.sides).bind fun y2=>br (!y2.1) (k (false,())) ((gl a0.master).bind fun y3=>br (!y3.1) (k (false,())) ((oz a0.lease).bind fun y4=>br (!y4.1) (k (false,())) ((ll a0.places).bind fun y5=>br (!y5.1) (k (false,())) ((cc a0.masterUp 0 3).bind fun y6=>br (!y6.1) (k (false,())) (br (decide (a0.lease.epoch > a0.master.activated)) (k (false,())) ((gU (((),a0.servers,(a0.servers.length:Int),0,()),((a0.now,a0.servers,a0.sides,a0.master.configs,a0.master.activated,a0.masterUp,a0.lease.epoch,a0.lease.holder,a0.lease.ends,a0.places,()),()),(()))).bind fun e26=>Sum.elim (fun e26_=>k (e26_.1.1,())) (fun e26_=>k (true,())) e26))))))))
def fb (a0:aQ):Option (Bool×Unit):=iE a0 some
theorem w3 {ρ:Type} (a0:aQ) (k:Bool×Unit→Option ρ):iE a0 k=(fb a0).bind k:=by
 simp only [fb,iE,al,cv,Option.bind_assoc,Option.bind_some]
abbrev sg:bA:=bO [.ty (.st .cluster)] [.b] fun x=>fb x.1
theorem An:aF Tryz.prog 57 sg:=
 ak (Λ:=aO [(b8 gT,qi)]) (fn:=Tryz.f57) aR pn af (by kernel_rfl) (aM (by kernel_rfl:_= [gT]) (aV (q:=b8 gT) rfl tL fun _ _ _=>by kernel_rfl)) (by kernel_rfl) (fun x=>fb x.1)
  (fun x=>Eq.trans (by kernel_rfl:_=iE x.1 (fun y=>ret (aH [.b] y) fun v g=>some (v,g))) (w3 x.1 _)) fun _ _ h=>h
abbrev Cd:List (Nat×bA):= [(142,wZ)]
theorem w4:az Tryz.prog (aP Cd):=ae Eu <| aj _
def jB {ρ:Type} (a0:aw) (k:ai×Bool×Unit→Option ρ):Option ρ:=
 (iZ a0 a0.activated).bind fun y1=>k (y1.1,y1.2.1,())
def fS (a0:aw):Option (ai×Bool×Unit):=jB a0 some
theorem yJ {ρ:Type} (a0:aw) (k:ai×Bool×Unit→Option ρ):jB a0 k=(fS a0).bind k:=by
 simp only [fS,jB,Option.bind_assoc,Option.bind_some]
abbrev tu:bA:=bO [.ty (.st .masterLog)] [.st .config, .b] fun x=>fS x.1
theorem Ce:aF Tryz.prog 60 tu:=
 ak (Λ:=aO []) (fn:=Tryz.f60) aR w4 af (by kernel_rfl) (aM (by kernel_rfl:_= []) ah) (by kernel_rfl) (fun x=>fS x.1)
  (fun x=>Eq.trans (by kernel_rfl:_=jB x.1 (fun y=>ret (aH [.st .config, .b] y) fun v g=>some (v,g))) (yJ x.1 _)) fun _ _ h=>h
abbrev Ev:List (Nat×bA):= []
theorem yK:az Tryz.prog (aP Ev):=aj _
def tw {ρ:Type} (a0:List aA) (k: (List aA)×Unit→Option ρ):Option ρ:=
 aq (a0.length*56≤2 ^ 40) (k (a0,())) none
def lp (a0:List aA):Option ((List aA)×Unit):=tw a0 some
abbrev uI:bA:=bO [.ty (.ls (.st .entry))] [.ls (.st .entry)] fun x=>lp x.1
abbrev nY (y: (List aA)×Unit):Option (V×List bG):=ret (aH [.ls (.st .entry)] y) fun v g=>some (v,g)
theorem Ew:aF Tryz.prog 80 uI:=
 ak (Λ:=aO []) (fn:=Tryz.f80) aR yK af (by kernel_rfl) (aM (by kernel_rfl:_= []) ah) (by kernel_rfl) (fun x=>lp x.1)
  (fun x=>Eq.trans (by kernel_rfl:_=Qq x.1 (P4 (nY ([],())) (aq ((([]:List aA)++x.1).length*56≤2 ^ 40) (nY (([]:List aA)++x.1,())) none) none) (aq ((([]:List aA)++x.1).length*56≤2 ^ 40) (nY (([]:List aA)++x.1,())) none)) (MD x.1 56 nY)) fun _ _ h=>h
abbrev Ey:List (Nat×bA):= [(57,sg),(60,tu),(80,uI)]
theorem wc:az Tryz.prog (aP Ey):=ae An <| ae Ce <| ae Ew <| aj _
noncomputable abbrev nZ:Code:=cu (cm Tryz.f24) 0
abbrev eG:ev:=⟨[(1, .cl (.ptr 0 0)),(4, .cl (.ptr 1 0)),(6, .cl (.int .i64)),(23, .cl (.own 0 (.i .i64))),(24, .cl (.int .i64)),(25, .cl (.int .i64))],[[.int .i64, .ro (.st .server), .ro (.i .i64), .ro (.st .config), .int .i64, .int .i64, .int .i64, .int .i64, .int .i64, .ro (.st .place)],[.int .i64, .int .i64, .own 0 (.i .i64), .own 1 (.i .i64)]],[.i .i64, .i .i64],0,68⟩
abbrev jR:List (X×ev):= [(.ext 0,⟨[(1, .cl (.ptr 0 0)),(6, .cl (.int .i64))],[[.int .i64, .ro (.st .server), .ro (.i .i64), .ro (.st .config), .int .i64, .int .i64, .int .i64, .int .i64, .int .i64, .ro (.st .place)]],[],0,68⟩)]
def kn {ρ:Type} (v3:List Int) (v4:List Int) (v5:Int) (v6:Int) (v7:Int) (v8:Int) (v9:List ay) (v10:List Int) (v11:List ai) (v12:Int) (v13:Int) (v14:Int) (v15:Int) (v16:Int) (v17:List bh) (v18:Int) (v19:Int) (fn: ((Unit×Unit×Int×Unit×Int×Int×Unit)×((Int×(List ay)×(List Int)×(List ai)×Int×Int×Int×Int×Int×(List bh)×Unit)×(Int×Int×Unit×Unit×Unit)×Unit)×((List Int)×(List Int)×Unit))→Option ρ) (fe: ((Unit×Int×Unit)×((Int×(List ay)×(List Int)×(List ai)×Int×Int×Int×Int×Int×(List bh)×Unit)×Unit)×(Unit))→Option ρ):Option ρ:=
 br (decide (v7 < v6)) (aq (0≤v7∧v7 < (v3.length:Int)) ((v3[v7.toNat]?).bind fun x20=>aq (0≤x20) ((v9[x20.toNat]?).bind fun x21=>br (x21.config.epoch==v18) (br (decide (v5 < 0)) (fn (((),(),x20,(),v6,(IntKind.wrap .i64 (v7+1)),()),((v8,v9,v10,v11,v12,v13,v14,v15,v16,v17,()),(v18,v19,(),(),()),()),(v3,v4,()))) (aq (0≤v5) ((v9[v5.toNat]?).bind fun x22=>br (decide ((x21.log.length:Int) > (x22.log.length:Int))) (fn (((),(),x20,(),v6,(IntKind.wrap .i64 (v7+1)),()),((v8,v9,v10,v11,v12,v13,v14,v15,v16,v17,()),(v18,v19,(),(),()),()),(v3,v4,()))) (fn (((),(),v5,(),v6,(IntKind.wrap .i64 (v7+1)),()),((v8,v9,v10,v11,v12,v13,v14,v15,v16,v17,()),(v18,v19,(),(),()),()),(v3,v4,())))) none)) (fn (((),(),v5,(),v6,(IntKind.wrap .i64 (v7+1)),()),((v8,v9,v10,v11,v12,v13,v14,v15,v16,v17,()),(v18,v19,(),(),()),()),(v3,v4,())))) none) none) (fe (((),v5,()),((v8,v9,v10,v11,v12,v13,v14,v15,v16,v17,()),()),(())))
def fx (s:eG.D):Option (eG.D⊕bq.D jR):=kn s.2.2.1 s.2.2.2.1 s.1.2.2.1 s.1.2.2.2.2.1 s.1.2.2.2.2.2.1 s.2.1.1.1 s.2.1.1.2.1 s.2.1.1.2.2.1 s.2.1.1.2.2.2.1 s.2.1.1.2.2.2.2.1 s.2.1.1.2.2.2.2.2.1 s.2.1.1.2.2.2.2.2.2.1 s.2.1.1.2.2.2.2.2.2.2.1 s.2.1.1.2.2.2.2.2.2.2.2.1 s.2.1.1.2.2.2.2.2.2.2.2.2.1 s.2.1.2.1.1 s.2.1.2.1.2.1 (fun s=>some (.inl s)) (fun e=>some (.inr e))
def pF:eG.D→Option (bq.D jR):=jF fx
theorem Ez {ρ:Type} (s:eG.D) (fn:eG.D→Option ρ) (fe:bq.D jR→Option ρ):kn s.2.2.1 s.2.2.2.1 s.1.2.2.1 s.1.2.2.2.2.1 s.1.2.2.2.2.2.1 s.2.1.1.1 s.2.1.1.2.1 s.2.1.1.2.2.1 s.2.1.1.2.2.2.1 s.2.1.1.2.2.2.2.1 s.2.1.1.2.2.2.2.2.1 s.2.1.1.2.2.2.2.2.2.1 s.2.1.1.2.2.2.2.2.2.2.1 s.2.1.1.2.2.2.2.2.2.2.2.1 s.2.1.1.2.2.2.2.2.2.2.2.2.1 s.2.1.2.1.1 s.2.1.2.1.2.1 fn fe=(fx s).bind (Sum.elim fn fe):=by
 simp only [fx,kn,al,ap,Option.bind_none,Option.bind_assoc,Option.bind_some,Sum.elim_inl,Sum.elim_inr]
abbrev yL:dg:=dB [] [1,4,6,23,24,25] eG jR pF
theorem Cf (s:eG.D):eP Θ (aP Ey) (aO []) nZ (eG.mk' s) (dp [1,4,6,23,24,25] [1,6] fun x S=>some (x,S))=(fx s).bind (Sum.elim (fun s'=>some (.nor,eG.mk' s')) fun e=>some (bq.e jR e)):=
 Eq.trans (by kernel_rfl:_=kn s.2.2.1 s.2.2.2.1 s.1.2.2.1 s.1.2.2.2.2.1 s.1.2.2.2.2.2.1 s.2.1.1.1 s.2.1.1.2.1 s.2.1.1.2.2.1 s.2.1.1.2.2.2.1 s.2.1.1.2.2.2.2.1 s.2.1.1.2.2.2.2.2.1 s.2.1.1.2.2.2.2.2.2.1 s.2.1.1.2.2.2.2.2.2.2.1 s.2.1.1.2.2.2.2.2.2.2.2.1 s.2.1.1.2.2.2.2.2.2.2.2.2.1 s.2.1.2.1.1 s.2.1.2.1.2.1 (fun s'=>some (.nor,eG.mk' s')) (fun e=>some (bq.e jR e))) (Ez s _ _)
theorem Cg:ck Tryz.prog nZ yL:=bi aR wc af (by kernel_rfl) (dF (by kernel_rfl:_= []) ah) [] [1,4,6,23,24,25] [1,6] eG jR (by kernel_rfl) fx Cf pF (hU fx) (aW fx)
def o2 {ρ:Type} (a0:aQ) (k: (List aA)×Bool×Unit→Option ρ):Option ρ:=
 (fb a0).bind fun y1=>br (!y1.1) (k (([]:List aA),false,())) ((fS a0.master).bind fun y2=>br (!y2.2.1) (k (([]:List aA),true,())) ((pF (((),(),(-1),(),(y2.1.replicas.length:Int),0,()),((a0.now,a0.servers,a0.sides,a0.master.configs,a0.master.activated,a0.masterUp,a0.lease.epoch,a0.lease.holder,a0.lease.ends,a0.places,()),(y2.1.epoch,y2.1.primary,(),(),()),()),(y2.1.replicas,y2.1.witnesses,()))).bind fun e23=>br (decide (e23.1.2.1 < 0)) (k (([]:List aA),false,())) (aq (0≤e23.1.2.1) ((e23.2.1.1.2.1[e23.1.2.1.toNat]?).bind fun x24=>(lp x24.log).bind fun y25=>k (y25.1,true,())) none)))
def lq (a0:aQ):Option ((List aA)×Bool×Unit):=o2 a0 some
theorem H4 {ρ:Type} (a0:aQ) (k: (List aA)×Bool×Unit→Option ρ):o2 a0 k=(lq a0).bind k:=by
 simp only [lq,o2,al,ap,Option.bind_none,Option.bind_assoc,Option.bind_some]
abbrev EA:bA:=bO [.ty (.st .cluster)] [.ls (.st .entry), .b] fun x=>lq x.1
theorem LO:aF Tryz.prog 24 EA:=
 ak (Λ:=aO [(b8 nZ,yL)]) (fn:=Tryz.f24) aR wc af (by kernel_rfl) (aM (by kernel_rfl:_= [nZ]) (aV (q:=b8 nZ) rfl Cg fun _ _ _=>by kernel_rfl)) (by kernel_rfl) (fun x=>lq x.1)
  (fun x=>Eq.trans (by kernel_rfl:_=o2 x.1 (fun y=>ret (aH [.ls (.st .entry), .b] y) fun v g=>some (v,g))) (H4 x.1 _)) fun _ _ h=>h
abbrev Sr:List (Nat×bA):= []
theorem NJ:az Tryz.prog (aP Sr):=aj _
def yM {ρ:Type} (a0:Op) (a1:Op) (k:Bool×Unit→Option ρ):Option ρ:=
 br (!(a0.client==a1.client)) (k (false,())) (br (!(a0.seq==a1.seq)) (k (false,())) (br (!(a0.kind==a1.kind)) (k (false,())) (br (!(a0.object==a1.object)) (k (false,())) (br (!(a0.old==a1.old)) (k (false,())) (br (!(a0.value==a1.value)) (k (false,())) (k (true,())))))))
def w5 (a0:Op) (a1:Op):Option (Bool×Unit):=yM a0 a1 some
theorem PL {ρ:Type} (a0:Op) (a1:Op) (k:Bool×Unit→Option ρ):yM a0 a1 k=(w5 a0 a1).bind k:=by
 simp only [w5,yM,al,Option.bind_some]
abbrev PM:bA:=bO [.ty (.st .op), .ty (.st .op)] [.b] fun x=>w5 x.1 x.2.1
theorem Ss:aF Tryz.prog 153 PM:=
 ak (Λ:=aO []) (fn:=Tryz.f153) aR NJ af (by kernel_rfl) (aM (by kernel_rfl:_= []) ah) (by kernel_rfl) (fun x=>w5 x.1 x.2.1)
  (fun x=>Eq.trans (by kernel_rfl:_=yM x.1 x.2.1 (fun y=>ret (aH [.b] y) fun v g=>some (v,g))) (PL x.1 x.2.1 _)) fun _ _ h=>h
abbrev NK:List (Nat×bA):= [(153,PM)]
theorem H5:az Tryz.prog (aP NK):=ae Ss <| aj _
def qj {ρ:Type} (a0:aA) (a1:aA) (k:Bool×Unit→Option ρ):Option ρ:=
 br (!(a0.epoch==a1.epoch)) (k (false,())) ((w5 a0.op a1.op).bind fun y1=>br (!y1.1) (k (false,())) (k (true,())))
def nk (a0:aA) (a1:aA):Option (Bool×Unit):=qj a0 a1 some
theorem Km {ρ:Type} (a0:aA) (a1:aA) (k:Bool×Unit→Option ρ):qj a0 a1 k=(nk a0 a1).bind k:=by
 simp only [nk,qj,al,Option.bind_assoc,Option.bind_some]
abbrev Gx:bA:=bO [.ty (.st .entry), .ty (.st .entry)] [.b] fun x=>nk x.1 x.2.1
theorem NL:aF Tryz.prog 81 Gx:=
 ak (Λ:=aO []) (fn:=Tryz.f81) aR H5 af (by kernel_rfl) (aM (by kernel_rfl:_= []) ah) (by kernel_rfl) (fun x=>nk x.1 x.2.1)
  (fun x=>Eq.trans (by kernel_rfl:_=qj x.1 x.2.1 (fun y=>ret (aH [.b] y) fun v g=>some (v,g))) (Km x.1 x.2.1 _)) fun _ _ h=>h
abbrev EB:List (Nat×bA):= [(81,Gx)]
theorem wd:az Tryz.prog (aP EB):=ae NL <| aj _
noncomputable abbrev n0:Code:=cu (cm Tryz.f25) 0
abbrev eH:ev:=⟨[(0, .cl (.ro (.st .entry))),(1, .cl (.ro (.st .entry))),(5, .cl (.int .i64))],[],[],0,27⟩
abbrev jS:List (X×ev):= [(.ret,⟨[(4, .cl (.bl))],[],[],0,27⟩),(.ext 0,⟨[(4, .cl (.dead))],[],[],0,27⟩)]
def oK {ρ:Type} (v1:List aA) (v2:List aA) (v3:Int) (fn: (((List aA)×(List aA)×Int×Unit)×(Unit)×(Unit))→Option ρ) (fe: ((Bool×Unit)×(Unit)×(Unit))⊕((Unit×Unit)×(Unit)×(Unit))→Option ρ):Option ρ:=
 br (decide (v3 < (v1.length:Int))) (aq (0≤v3) ((v1[v3.toNat]?).bind fun x4=>aq (0≤v3) ((v2[v3.toNat]?).bind fun x5=>(nk x4 x5).bind fun y6=>br (!y6.1) (fe (.inl ((false,()),(()),(())))) (fn ((v1,v2,(IntKind.wrap .i64 (v3+1)),()),(()),(())))) none) none) (fe (.inr (((),()),(()),(()))))
def iG (s:eH.D):Option (eH.D⊕bq.D jS):=oK s.1.1 s.1.2.1 s.1.2.2.1 (fun s=>some (.inl s)) (fun e=>some (.inr e))
def sT:eH.D→Option (bq.D jS):=jF iG
theorem EC {ρ:Type} (s:eH.D) (fn:eH.D→Option ρ) (fe:bq.D jS→Option ρ):oK s.1.1 s.1.2.1 s.1.2.2.1 fn fe=(iG s).bind (Sum.elim fn fe):=by
 simp only [iG,oK,al,ap,Option.bind_none,Option.bind_assoc,Option.bind_some,Sum.elim_inl,Sum.elim_inr]
abbrev yN:dg:=dB [] [0,1,5] eH jS sT
theorem Ch (s:eH.D):eP Θ (aP EB) (aO []) n0 (eH.mk' s) (dp [0,1,5] [4] fun x S=>some (x,S))=(iG s).bind (Sum.elim (fun s'=>some (.nor,eH.mk' s')) fun e=>some (bq.e jS e)):=
 Eq.trans (by kernel_rfl:_=oK s.1.1 s.1.2.1 s.1.2.2.1 (fun s'=>some (.nor,eH.mk' s')) (fun e=>some (bq.e jS e))) (EC s _ _)
theorem Ci:ck Tryz.prog n0 yN:=bi aR wd af (by kernel_rfl) (dF (by kernel_rfl:_= []) ah) [] [0,1,5] [4] eH jS (by kernel_rfl) iG Ch sT (hU iG) (aW iG)
def qS {ρ:Type} (a0:List aA) (a1:List aA) (k:Bool×Unit→Option ρ):Option ρ:=
 br (!((a0.length:Int)==(a1.length:Int))) (k (false,())) ((sT ((a0,a1,0,()),(()),(()))).bind fun e7=>Sum.elim (fun e7_=>k (e7_.1.1,())) (fun e7_=>k (true,())) e7)
def gV (a0:List aA) (a1:List aA):Option (Bool×Unit):=qS a0 a1 some
theorem H6 {ρ:Type} (a0:List aA) (a1:List aA) (k:Bool×Unit→Option ρ):qS a0 a1 k=(gV a0 a1).bind k:=by
 simp only [gV,qS,al,cv,Option.bind_assoc,Option.bind_some]
abbrev w6:bA:=bO [.ty (.ls (.st .entry)), .ty (.ls (.st .entry))] [.b] fun x=>gV x.1 x.2.1
theorem ED:aF Tryz.prog 25 w6:=
 ak (Λ:=aO [(b8 n0,yN)]) (fn:=Tryz.f25) aR wd af (by kernel_rfl) (aM (by kernel_rfl:_= [n0]) (aV (q:=b8 n0) rfl Ci fun _ _ _=>by kernel_rfl)) (by kernel_rfl) (fun x=>gV x.1 x.2.1)
  (fun x=>Eq.trans (by kernel_rfl:_=qS x.1 x.2.1 (fun y=>ret (aH [.b] y) fun v g=>some (v,g))) (H6 x.1 x.2.1 _)) fun _ _ h=>h
abbrev Kn:List (Nat×bA):= []
theorem Bh:az Tryz.prog (aP Kn):=aj _
noncomputable abbrev qk:Code:=cu (cm Tryz.f19) 0
abbrev gW:ev:=⟨[(0, .cl (.ro (.i .i64))),(1, .cl (.ro (.i .i64))),(5, .cl (.int .i64))],[],[],0,26⟩
abbrev mU:List (X×ev):= [(.ret,⟨[(4, .cl (.bl))],[],[],0,26⟩),(.ext 0,⟨[(4, .cl (.dead))],[],[],0,26⟩)]
def qT {ρ:Type} (v1:List Int) (v2:List Int) (v3:Int) (fn: (((List Int)×(List Int)×Int×Unit)×(Unit)×(Unit))→Option ρ) (fe: ((Bool×Unit)×(Unit)×(Unit))⊕((Unit×Unit)×(Unit)×(Unit))→Option ρ):Option ρ:=
 br (decide (v3 < (v1.length:Int))) (aq (0≤v3) ((v1[v3.toNat]?).bind fun x4=>aq (0≤v3) ((v2[v3.toNat]?).bind fun x5=>br (!(x4==x5)) (fe (.inl ((false,()),(()),(())))) (fn ((v1,v2,(IntKind.wrap .i64 (v3+1)),()),(()),(())))) none) none) (fe (.inr (((),()),(()),(()))))
def lr (s:gW.D):Option (gW.D⊕bq.D mU):=qT s.1.1 s.1.2.1 s.1.2.2.1 (fun s=>some (.inl s)) (fun e=>some (.inr e))
def w7:gW.D→Option (bq.D mU):=jF lr
theorem H7 {ρ:Type} (s:gW.D) (fn:gW.D→Option ρ) (fe:bq.D mU→Option ρ):qT s.1.1 s.1.2.1 s.1.2.2.1 fn fe=(lr s).bind (Sum.elim fn fe):=by
 simp only [lr,qT,al,ap,Option.bind_none,Option.bind_assoc,Option.bind_some,Sum.elim_inl,Sum.elim_inr]
abbrev EE:dg:=dB [] [0,1,5] gW mU w7
theorem FL (s:gW.D):eP Θ (aP Kn) (aO []) qk (gW.mk' s) (dp [0,1,5] [4] fun x S=>some (x,S))=(lr s).bind (Sum.elim (fun s'=>some (.nor,gW.mk' s')) fun e=>some (bq.e mU e)):=
 Eq.trans (by kernel_rfl:_=qT s.1.1 s.1.2.1 s.1.2.2.1 (fun s'=>some (.nor,gW.mk' s')) (fun e=>some (bq.e mU e))) (H7 s _ _)
theorem FM:ck Tryz.prog qk EE:=bi aR Bh af (by kernel_rfl) (dF (by kernel_rfl:_= []) ah) [] [0,1,5] [4] gW mU (by kernel_rfl) lr FL w7 (hU lr) (aW lr)
def vm {ρ:Type} (a0:List Int) (a1:List Int) (k:Bool×Unit→Option ρ):Option ρ:=
 br (!((a0.length:Int)==(a1.length:Int))) (k (false,())) ((w7 ((a0,a1,0,()),(()),(()))).bind fun e6=>Sum.elim (fun e6_=>k (e6_.1.1,())) (fun e6_=>k (true,())) e6)
def n5 (a0:List Int) (a1:List Int):Option (Bool×Unit):=vm a0 a1 some
theorem LP {ρ:Type} (a0:List Int) (a1:List Int) (k:Bool×Unit→Option ρ):vm a0 a1 k=(n5 a0 a1).bind k:=by
 simp only [n5,vm,al,cv,Option.bind_assoc,Option.bind_some]
abbrev EF:bA:=bO [.ty (.ls (.i .i64)), .ty (.ls (.i .i64))] [.b] fun x=>n5 x.1 x.2.1
theorem Ko:aF Tryz.prog 19 EF:=
 ak (Λ:=aO [(b8 qk,EE)]) (fn:=Tryz.f19) aR Bh af (by kernel_rfl) (aM (by kernel_rfl:_= [qk]) (aV (q:=b8 qk) rfl FM fun _ _ _=>by kernel_rfl)) (by kernel_rfl) (fun x=>n5 x.1 x.2.1)
  (fun x=>Eq.trans (by kernel_rfl:_=vm x.1 x.2.1 (fun y=>ret (aH [.b] y) fun v g=>some (v,g))) (LP x.1 x.2.1 _)) fun _ _ h=>h
abbrev LQ:List (Nat×bA):= [(19,EF)]
theorem FN:az Tryz.prog (aP LQ):=ae Ko <| aj _
def o3 {ρ:Type} (a0:ai) (a1:ai) (k:Bool×Unit→Option ρ):Option ρ:=
 br (!(a0.epoch==a1.epoch)) (k (false,())) (br (!(a0.primary==a1.primary)) (k (false,())) ((n5 a0.replicas a1.replicas).bind fun y1=>br (!y1.1) (k (false,())) ((n5 a0.witnesses a1.witnesses).bind fun y2=>br (!y2.1) (k (false,())) (k (true,())))))
def jT (a0:ai) (a1:ai):Option (Bool×Unit):=o3 a0 a1 some
theorem H8 {ρ:Type} (a0:ai) (a1:ai) (k:Bool×Unit→Option ρ):o3 a0 a1 k=(jT a0 a1).bind k:=by
 simp only [jT,o3,al,Option.bind_assoc,Option.bind_some]
abbrev w8:bA:=bO [.ty (.st .config), .ty (.st .config)] [.b] fun x=>jT x.1 x.2.1
theorem EG:aF Tryz.prog 215 w8:=
 ak (Λ:=aO []) (fn:=Tryz.f215) aR FN af (by kernel_rfl) (aM (by kernel_rfl:_= []) ah) (by kernel_rfl) (fun x=>jT x.1 x.2.1)
  (fun x=>Eq.trans (by kernel_rfl:_=o3 x.1 x.2.1 (fun y=>ret (aH [.b] y) fun v g=>some (v,g))) (H8 x.1 x.2.1 _)) fun _ _ h=>h
abbrev LR:List (Nat×bA):= [(215,w8),(25,w6)]
theorem FO:az Tryz.prog (aP LR):=ae EG <| ae ED <| aj _
def o4 {ρ:Type} (a0:ay) (a1:ay) (k:Bool×Unit→Option ρ):Option ρ:=
 br (!(a0.up==a1.up)) (k (false,())) (br (!(a0.intact==a1.intact)) (k (false,())) (br (!(a0.version==a1.version)) (k (false,())) (br (!(a0.epoch==a1.epoch)) (k (false,())) ((jT a0.config a1.config).bind fun y1=>br (!y1.1) (k (false,())) (br (!(a0.first==a1.first)) (k (false,())) ((gV a0.log a1.log).bind fun y2=>br (!y2.1) (k (false,())) (br (!(a0.commit==a1.commit)) (k (false,())) ((gV a0.learned a1.learned).bind fun y3=>br (!y3.1) (k (false,())) (k (true,()))))))))))
def lu (a0:ay) (a1:ay):Option (Bool×Unit):=o4 a0 a1 some
theorem H9 {ρ:Type} (a0:ay) (a1:ay) (k:Bool×Unit→Option ρ):o4 a0 a1 k=(lu a0 a1).bind k:=by
 simp only [lu,o4,al,Option.bind_assoc,Option.bind_some]
abbrev EH:bA:=bO [.ty (.st .server), .ty (.st .server)] [.b] fun x=>lu x.1 x.2.1
theorem LS:aF Tryz.prog 145 EH:=
 ak (Λ:=aO []) (fn:=Tryz.f145) aR FO af (by kernel_rfl) (aM (by kernel_rfl:_= []) ah) (by kernel_rfl) (fun x=>lu x.1 x.2.1)
  (fun x=>Eq.trans (by kernel_rfl:_=o4 x.1 x.2.1 (fun y=>ret (aH [.b] y) fun v g=>some (v,g))) (H9 x.1 x.2.1 _)) fun _ _ h=>h
abbrev Bi:List (Nat×bA):= [(145,EH)]
theorem uJ:az Tryz.prog (aP Bi):=ae LS <| aj _
noncomputable abbrev mr:Code:=cu (cm Tryz.f67) 0
abbrev dS:ev:=⟨[(0, .cl (.ro (.st .server))),(1, .cl (.ro (.st .server))),(5, .cl (.int .i64))],[],[],0,27⟩
abbrev i4:List (X×ev):= [(.ret,⟨[(4, .cl (.bl))],[],[],0,27⟩),(.ext 0,⟨[(4, .cl (.dead))],[],[],0,27⟩)]
def n6 {ρ:Type} (v1:List ay) (v2:List ay) (v3:Int) (fn: (((List ay)×(List ay)×Int×Unit)×(Unit)×(Unit))→Option ρ) (fe: ((Bool×Unit)×(Unit)×(Unit))⊕((Unit×Unit)×(Unit)×(Unit))→Option ρ):Option ρ:=
 br (decide (v3 < (v1.length:Int))) (aq (0≤v3) ((v1[v3.toNat]?).bind fun x4=>aq (0≤v3) ((v2[v3.toNat]?).bind fun x5=>(lu x4 x5).bind fun y6=>br (!y6.1) (fe (.inl ((false,()),(()),(())))) (fn ((v1,v2,(IntKind.wrap .i64 (v3+1)),()),(()),(())))) none) none) (fe (.inr (((),()),(()),(()))))
def gp (s:dS.D):Option (dS.D⊕bq.D i4):=n6 s.1.1 s.1.2.1 s.1.2.2.1 (fun s=>some (.inl s)) (fun e=>some (.inr e))
def rp:dS.D→Option (bq.D i4):=jF gp
theorem Cj {ρ:Type} (s:dS.D) (fn:dS.D→Option ρ) (fe:bq.D i4→Option ρ):n6 s.1.1 s.1.2.1 s.1.2.2.1 fn fe=(gp s).bind (Sum.elim fn fe):=by
 simp only [gp,n6,al,ap,Option.bind_none,Option.bind_assoc,Option.bind_some,Sum.elim_inl,Sum.elim_inr]
abbrev we:dg:=dB [] [0,1,5] dS i4 rp
theorem Ao (s:dS.D):eP Θ (aP Bi) (aO []) mr (dS.mk' s) (dp [0,1,5] [4] fun x S=>some (x,S))=(gp s).bind (Sum.elim (fun s'=>some (.nor,dS.mk' s')) fun e=>some (bq.e i4 e)):=
 Eq.trans (by kernel_rfl:_=n6 s.1.1 s.1.2.1 s.1.2.2.1 (fun s'=>some (.nor,dS.mk' s')) (fun e=>some (bq.e i4 e))) (Cj s _ _)
theorem Ap:ck Tryz.prog mr we:=bi aR uJ af (by kernel_rfl) (dF (by kernel_rfl:_= []) ah) [] [0,1,5] [4] dS i4 (by kernel_rfl) gp Ao rp (hU gp) (aW gp)
def pG {ρ:Type} (a0:List ay) (a1:List ay) (k:Bool×Unit→Option ρ):Option ρ:=
 br (!((a0.length:Int)==(a1.length:Int))) (k (false,())) ((rp ((a0,a1,0,()),(()),(()))).bind fun e7=>Sum.elim (fun e7_=>k (e7_.1.1,())) (fun e7_=>k (true,())) e7)
def lw (a0:List ay) (a1:List ay):Option (Bool×Unit):=pG a0 a1 some
theorem FP {ρ:Type} (a0:List ay) (a1:List ay) (k:Bool×Unit→Option ρ):pG a0 a1 k=(lw a0 a1).bind k:=by
 simp only [lw,pG,al,cv,Option.bind_assoc,Option.bind_some]
abbrev Bk:bA:=bO [.ty (.ls (.st .server)), .ty (.ls (.st .server))] [.b] fun x=>lw x.1 x.2.1
theorem Kp:aF Tryz.prog 67 Bk:=
 ak (Λ:=aO [(b8 mr,we)]) (fn:=Tryz.f67) aR uJ af (by kernel_rfl) (aM (by kernel_rfl:_= [mr]) (aV (q:=b8 mr) rfl Ap fun _ _ _=>by kernel_rfl)) (by kernel_rfl) (fun x=>lw x.1 x.2.1)
  (fun x=>Eq.trans (by kernel_rfl:_=pG x.1 x.2.1 (fun y=>ret (aH [.b] y) fun v g=>some (v,g))) (FP x.1 x.2.1 _)) fun _ _ h=>h
abbrev Bl:List (Nat×bA):= [(215,w8)]
theorem uK:az Tryz.prog (aP Bl):=ae EG <| aj _
noncomputable abbrev mt:Code:=cu (cm Tryz.f146) 0
abbrev dT:ev:=⟨[(0, .cl (.ro (.st .config))),(1, .cl (.ro (.st .config))),(5, .cl (.int .i64))],[],[],0,27⟩
abbrev i5:List (X×ev):= [(.ret,⟨[(4, .cl (.bl))],[],[],0,27⟩),(.ext 0,⟨[(4, .cl (.dead))],[],[],0,27⟩)]
def n7 {ρ:Type} (v1:List ai) (v2:List ai) (v3:Int) (fn: (((List ai)×(List ai)×Int×Unit)×(Unit)×(Unit))→Option ρ) (fe: ((Bool×Unit)×(Unit)×(Unit))⊕((Unit×Unit)×(Unit)×(Unit))→Option ρ):Option ρ:=
 br (decide (v3 < (v1.length:Int))) (aq (0≤v3) ((v1[v3.toNat]?).bind fun x4=>aq (0≤v3) ((v2[v3.toNat]?).bind fun x5=>(jT x4 x5).bind fun y6=>br (!y6.1) (fe (.inl ((false,()),(()),(())))) (fn ((v1,v2,(IntKind.wrap .i64 (v3+1)),()),(()),(())))) none) none) (fe (.inr (((),()),(()),(()))))
def gq (s:dT.D):Option (dT.D⊕bq.D i5):=n7 s.1.1 s.1.2.1 s.1.2.2.1 (fun s=>some (.inl s)) (fun e=>some (.inr e))
def rq:dT.D→Option (bq.D i5):=jF gq
theorem Ck {ρ:Type} (s:dT.D) (fn:dT.D→Option ρ) (fe:bq.D i5→Option ρ):n7 s.1.1 s.1.2.1 s.1.2.2.1 fn fe=(gq s).bind (Sum.elim fn fe):=by
 simp only [gq,n7,al,ap,Option.bind_none,Option.bind_assoc,Option.bind_some,Sum.elim_inl,Sum.elim_inr]
abbrev wg:dg:=dB [] [0,1,5] dT i5 rq
theorem Aq (s:dT.D):eP Θ (aP Bl) (aO []) mt (dT.mk' s) (dp [0,1,5] [4] fun x S=>some (x,S))=(gq s).bind (Sum.elim (fun s'=>some (.nor,dT.mk' s')) fun e=>some (bq.e i5 e)):=
 Eq.trans (by kernel_rfl:_=n7 s.1.1 s.1.2.1 s.1.2.2.1 (fun s'=>some (.nor,dT.mk' s')) (fun e=>some (bq.e i5 e))) (Ck s _ _)
theorem Ar:ck Tryz.prog mt wg:=bi aR uK af (by kernel_rfl) (dF (by kernel_rfl:_= []) ah) [] [0,1,5] [4] dT i5 (by kernel_rfl) gq Aq rq (hU gq) (aW gq)
def pH {ρ:Type} (a0:List ai) (a1:List ai) (k:Bool×Unit→Option ρ):Option ρ:=
 br (!((a0.length:Int)==(a1.length:Int))) (k (false,())) ((rq ((a0,a1,0,()),(()),(()))).bind fun e7=>Sum.elim (fun e7_=>k (e7_.1.1,())) (fun e7_=>k (true,())) e7)
def lx (a0:List ai) (a1:List ai):Option (Bool×Unit):=pH a0 a1 some
theorem FQ {ρ:Type} (a0:List ai) (a1:List ai) (k:Bool×Unit→Option ρ):pH a0 a1 k=(lx a0 a1).bind k:=by
 simp only [lx,pH,al,cv,Option.bind_assoc,Option.bind_some]
abbrev Bm:bA:=bO [.ty (.ls (.st .config)), .ty (.ls (.st .config))] [.b] fun x=>lx x.1 x.2.1
theorem Kq:aF Tryz.prog 146 Bm:=
 ak (Λ:=aO [(b8 mt,wg)]) (fn:=Tryz.f146) aR uK af (by kernel_rfl) (aM (by kernel_rfl:_= [mt]) (aV (q:=b8 mt) rfl Ar fun _ _ _=>by kernel_rfl)) (by kernel_rfl) (fun x=>lx x.1 x.2.1)
  (fun x=>Eq.trans (by kernel_rfl:_=pH x.1 x.2.1 (fun y=>ret (aH [.b] y) fun v g=>some (v,g))) (FQ x.1 x.2.1 _)) fun _ _ h=>h
abbrev FR:List (Nat×bA):= [(146,Bm)]
theorem Au:az Tryz.prog (aP FR):=ae Kq <| aj _
def ly {ρ:Type} (a0:aw) (a1:aw) (k:Bool×Unit→Option ρ):Option ρ:=
 (lx a0.configs a1.configs).bind fun y1=>br (!y1.1) (k (false,())) (br (!(a0.activated==a1.activated)) (k (false,())) (k (true,())))
def i6 (a0:aw) (a1:aw):Option (Bool×Unit):=ly a0 a1 some
theorem Cm {ρ:Type} (a0:aw) (a1:aw) (k:Bool×Unit→Option ρ):ly a0 a1 k=(i6 a0 a1).bind k:=by
 simp only [i6,ly,al,Option.bind_assoc,Option.bind_some]
abbrev wi:bA:=bO [.ty (.st .masterLog), .ty (.st .masterLog)] [.b] fun x=>i6 x.1 x.2.1
theorem FS:aF Tryz.prog 68 wi:=
 ak (Λ:=aO []) (fn:=Tryz.f68) aR Au af (by kernel_rfl) (aM (by kernel_rfl:_= []) ah) (by kernel_rfl) (fun x=>i6 x.1 x.2.1)
  (fun x=>Eq.trans (by kernel_rfl:_=ly x.1 x.2.1 (fun y=>ret (aH [.b] y) fun v g=>some (v,g))) (Cm x.1 x.2.1 _)) fun _ _ h=>h
abbrev NM:List (Nat×bA):= []
theorem Ia:az Tryz.prog (aP NM):=aj _
def qm {ρ:Type} (a0:jV) (a1:jV) (k:Bool×Unit→Option ρ):Option ρ:=
 br (!(a0.epoch==a1.epoch)) (k (false,())) (br (!(a0.holder==a1.holder)) (k (false,())) (br (!(a0.ends==a1.ends)) (k (false,())) (k (true,()))))
def oC (a0:jV) (a1:jV):Option (Bool×Unit):=qm a0 a1 some
theorem Kr {ρ:Type} (a0:jV) (a1:jV) (k:Bool×Unit→Option ρ):qm a0 a1 k=(oC a0 a1).bind k:=by
 simp only [oC,qm,al,Option.bind_some]
abbrev Gy:bA:=bO [.ty (.st .lease), .ty (.st .lease)] [.b] fun x=>oC x.1 x.2.1
theorem NN:aF Tryz.prog 69 Gy:=
 ak (Λ:=aO []) (fn:=Tryz.f69) aR Ia af (by kernel_rfl) (aM (by kernel_rfl:_= []) ah) (by kernel_rfl) (fun x=>oC x.1 x.2.1)
  (fun x=>Eq.trans (by kernel_rfl:_=qm x.1 x.2.1 (fun y=>ret (aH [.b] y) fun v g=>some (v,g))) (Kr x.1 x.2.1 _)) fun _ _ h=>h
abbrev NP:List (Nat×bA):= []
theorem Ib:az Tryz.prog (aP NP):=aj _
def qn {ρ:Type} (a0:bh) (a1:bh) (k:Bool×Unit→Option ρ):Option ρ:=
 br (!(a0.rack==a1.rack)) (k (false,())) (br (!(a0.capacity==a1.capacity)) (k (false,())) (br (!(a0.load==a1.load)) (k (false,())) (k (true,()))))
def nl (a0:bh) (a1:bh):Option (Bool×Unit):=qn a0 a1 some
theorem Ks {ρ:Type} (a0:bh) (a1:bh) (k:Bool×Unit→Option ρ):qn a0 a1 k=(nl a0 a1).bind k:=by
 simp only [nl,qn,al,Option.bind_some]
abbrev Gz:bA:=bO [.ty (.st .place), .ty (.st .place)] [.b] fun x=>nl x.1 x.2.1
theorem NQ:aF Tryz.prog 147 Gz:=
 ak (Λ:=aO []) (fn:=Tryz.f147) aR Ib af (by kernel_rfl) (aM (by kernel_rfl:_= []) ah) (by kernel_rfl) (fun x=>nl x.1 x.2.1)
  (fun x=>Eq.trans (by kernel_rfl:_=qn x.1 x.2.1 (fun y=>ret (aH [.b] y) fun v g=>some (v,g))) (Ks x.1 x.2.1 _)) fun _ _ h=>h
abbrev EI:List (Nat×bA):= [(147,Gz)]
theorem wj:az Tryz.prog (aP EI):=ae NQ <| aj _
noncomputable abbrev n8:Code:=cu (cm Tryz.f70) 0
abbrev eI:ev:=⟨[(0, .cl (.ro (.st .place))),(1, .cl (.ro (.st .place))),(5, .cl (.int .i64))],[],[],0,27⟩
abbrev jU:List (X×ev):= [(.ret,⟨[(4, .cl (.bl))],[],[],0,27⟩),(.ext 0,⟨[(4, .cl (.dead))],[],[],0,27⟩)]
def oL {ρ:Type} (v1:List bh) (v2:List bh) (v3:Int) (fn: (((List bh)×(List bh)×Int×Unit)×(Unit)×(Unit))→Option ρ) (fe: ((Bool×Unit)×(Unit)×(Unit))⊕((Unit×Unit)×(Unit)×(Unit))→Option ρ):Option ρ:=
 br (decide (v3 < (v1.length:Int))) (aq (0≤v3) ((v1[v3.toNat]?).bind fun x4=>aq (0≤v3) ((v2[v3.toNat]?).bind fun x5=>(nl x4 x5).bind fun y6=>br (!y6.1) (fe (.inl ((false,()),(()),(())))) (fn ((v1,v2,(IntKind.wrap .i64 (v3+1)),()),(()),(())))) none) none) (fe (.inr (((),()),(()),(()))))
def iH (s:eI.D):Option (eI.D⊕bq.D jU):=oL s.1.1 s.1.2.1 s.1.2.2.1 (fun s=>some (.inl s)) (fun e=>some (.inr e))
def sU:eI.D→Option (bq.D jU):=jF iH
theorem EJ {ρ:Type} (s:eI.D) (fn:eI.D→Option ρ) (fe:bq.D jU→Option ρ):oL s.1.1 s.1.2.1 s.1.2.2.1 fn fe=(iH s).bind (Sum.elim fn fe):=by
 simp only [iH,oL,al,ap,Option.bind_none,Option.bind_assoc,Option.bind_some,Sum.elim_inl,Sum.elim_inr]
abbrev yO:dg:=dB [] [0,1,5] eI jU sU
theorem Cn (s:eI.D):eP Θ (aP EI) (aO []) n8 (eI.mk' s) (dp [0,1,5] [4] fun x S=>some (x,S))=(iH s).bind (Sum.elim (fun s'=>some (.nor,eI.mk' s')) fun e=>some (bq.e jU e)):=
 Eq.trans (by kernel_rfl:_=oL s.1.1 s.1.2.1 s.1.2.2.1 (fun s'=>some (.nor,eI.mk' s')) (fun e=>some (bq.e jU e))) (EJ s _ _)
theorem Co:ck Tryz.prog n8 yO:=bi aR wj af (by kernel_rfl) (dF (by kernel_rfl:_= []) ah) [] [0,1,5] [4] eI jU (by kernel_rfl) iH Cn sU (hU iH) (aW iH)
def qU {ρ:Type} (a0:List bh) (a1:List bh) (k:Bool×Unit→Option ρ):Option ρ:=
 br (!((a0.length:Int)==(a1.length:Int))) (k (false,())) ((sU ((a0,a1,0,()),(()),(()))).bind fun e7=>Sum.elim (fun e7_=>k (e7_.1.1,())) (fun e7_=>k (true,())) e7)
def mW (a0:List bh) (a1:List bh):Option (Bool×Unit):=qU a0 a1 some
theorem Ic {ρ:Type} (a0:List bh) (a1:List bh) (k:Bool×Unit→Option ρ):qU a0 a1 k=(mW a0 a1).bind k:=by
 simp only [mW,qU,al,cv,Option.bind_assoc,Option.bind_some]
abbrev EK:bA:=bO [.ty (.ls (.st .place)), .ty (.ls (.st .place))] [.b] fun x=>mW x.1 x.2.1
theorem LU:aF Tryz.prog 70 EK:=
 ak (Λ:=aO [(b8 n8,yO)]) (fn:=Tryz.f70) aR wj af (by kernel_rfl) (aM (by kernel_rfl:_= [n8]) (aV (q:=b8 n8) rfl Co fun _ _ _=>by kernel_rfl)) (by kernel_rfl) (fun x=>mW x.1 x.2.1)
  (fun x=>Eq.trans (by kernel_rfl:_=qU x.1 x.2.1 (fun y=>ret (aH [.b] y) fun v g=>some (v,g))) (Ic x.1 x.2.1 _)) fun _ _ h=>h
abbrev Kt:List (Nat×bA):= [(67,Bk),(19,EF),(68,wi),(69,Gy),(70,EK)]
theorem EL:az Tryz.prog (aP Kt):=ae Kp <| ae Ko <| ae FS <| ae NN <| ae LU <| aj _
def n9 {ρ:Type} (a0:aQ) (a1:aQ) (k:Bool×Unit→Option ρ):Option ρ:=
 br (!(a0.now==a1.now)) (k (false,())) ((lw a0.servers a1.servers).bind fun y1=>br (!y1.1) (k (false,())) ((n5 a0.sides a1.sides).bind fun y2=>br (!y2.1) (k (false,())) ((i6 a0.master a1.master).bind fun y3=>br (!y3.1) (k (false,())) (br (!(a0.masterUp==a1.masterUp)) (k (false,())) ((oC a0.lease a1.lease).bind fun y4=>br (!y4.1) (k (false,())) ((mW a0.places a1.places).bind fun y5=>br (!y5.1) (k (false,())) (k (true,()))))))))
def lz (a0:aQ) (a1:aQ):Option (Bool×Unit):=n9 a0 a1 some
theorem FT {ρ:Type} (a0:aQ) (a1:aQ) (k:Bool×Unit→Option ρ):n9 a0 a1 k=(lz a0 a1).bind k:=by
 simp only [lz,n9,al,Option.bind_assoc,Option.bind_some]
abbrev Bn:bA:=bO [.ty (.st .cluster), .ty (.st .cluster)] [.b] fun x=>lz x.1 x.2.1
theorem Ku:aF Tryz.prog 16 Bn:=
 ak (Λ:=aO []) (fn:=Tryz.f16) aR EL af (by kernel_rfl) (aM (by kernel_rfl:_= []) ah) (by kernel_rfl) (fun x=>lz x.1 x.2.1)
  (fun x=>Eq.trans (by kernel_rfl:_=n9 x.1 x.2.1 (fun y=>ret (aH [.b] y) fun v g=>some (v,g))) (FT x.1 x.2.1 _)) fun _ _ h=>h
abbrev wk:List (Nat×bA):= []
theorem sj:az Tryz.prog (aP wk):=aj _
noncomputable abbrev kb:Code:=cu (cm Tryz.f21) 0
abbrev c7:ev:=⟨[(0, .cl (.own 0 (.i .i64))),(1, .cl (.int .i64)),(5, .cl (.int .i64))],[],[.i .i64],1,19⟩
abbrev fT:List (X×ev):= [(.ext 0,⟨[(1, .cl (.int .i64))],[],[.i .i64],1,19⟩)]
def gy {ρ:Type} (v1:List Int) (v2:Int) (v3:Int) (fn: ((Unit×Int×Int×Unit)×(Unit)×((List Int)×Unit))→Option ρ) (fe: ((Int×Unit)×(Unit)×((List Int)×Unit))→Option ρ):Option ρ:=
 br (decide (v3 < (v1.length:Int))) (aq (0≤v3∧v3 < (v1.length:Int)) ((v1[v3.toNat]?).bind fun _=>fn (((),(IntKind.wrap .i64 (v2+1)),(IntKind.wrap .i64 (v3+1)),()),(()),((v1.set v3.toNat v2),()))) none) (fe ((v2,()),(()),(v1,())))
def dA (s:c7.D):Option (c7.D⊕bq.D fT):=gy s.2.2.1 s.1.2.1 s.1.2.2.1 (fun s=>some (.inl s)) (fun e=>some (.inr e))
def pb:c7.D→Option (bq.D fT):=jF dA
theorem yP {ρ:Type} (s:c7.D) (fn:c7.D→Option ρ) (fe:bq.D fT→Option ρ):gy s.2.2.1 s.1.2.1 s.1.2.2.1 fn fe=(dA s).bind (Sum.elim fn fe):=by
 simp only [dA,gy,al,ap,Option.bind_none,Option.bind_assoc,Option.bind_some,Sum.elim_inl,Sum.elim_inr]
abbrev tz:dg:=dB [] [0,1,5] c7 fT pb
theorem w9 (s:c7.D):eP Θ (aP wk) (aO []) kb (c7.mk' s) (dp [0,1,5] [1] fun x S=>some (x,S))=(dA s).bind (Sum.elim (fun s'=>some (.nor,c7.mk' s')) fun e=>some (bq.e fT e)):=
 Eq.trans (by kernel_rfl:_=gy s.2.2.1 s.1.2.1 s.1.2.2.1 (fun s'=>some (.nor,c7.mk' s')) (fun e=>some (bq.e fT e))) (yP s _ _)
theorem xb:ck Tryz.prog kb tz:=bi aR sj af (by kernel_rfl) (dF (by kernel_rfl:_= []) ah) [] [0,1,5] [1] c7 fT (by kernel_rfl) dA w9 pb (hU dA) (aW dA)
def oa {ρ:Type} (a0:List Int) (a1:Int) (k: (List Int)×Int×Unit→Option ρ):Option ρ:=
 (pb (((),a1,0,()),(()),(a0,()))).bind fun e6=>k (e6.2.2.1,e6.1.1,())
def dU (a0:List Int) (a1:Int):Option ((List Int)×Int×Unit):=oa a0 a1 some
theorem Cp {ρ:Type} (a0:List Int) (a1:Int) (k: (List Int)×Int×Unit→Option ρ):oa a0 a1 k=(dU a0 a1).bind k:=by
 simp only [dU,oa,Option.bind_assoc,Option.bind_some]
abbrev oM:bA:=Fc (.i .i64) [.ty (.i .i64)] [.i .i64] fun l x=>dU l x.1
theorem rr:aF Tryz.prog (lC 21) oM:=
 qF (Λ:=aO [(b8 kb,tz)]) (fn:=Tryz.f21) aR sj af (by kernel_rfl) (aM (by kernel_rfl:_= [kb]) (aV (q:=b8 kb) rfl xb fun _ _ _=>by kernel_rfl)) (by kernel_rfl) (fun l x=>dU l x.1)
  (fun l x=>Eq.trans (by kernel_rfl:_=oa l x.1 (fun y=>Fb (.i .i64) [.i .i64] y fun v g=>some (v,g))) (Cp l x.1 _)) fun _ _ _ h=>h
abbrev tA:List (Nat×bA):= []
theorem qo:az Tryz.prog (aP tA):=aj _
noncomputable abbrev iI:Code:=cu (cm Tryz.f26) 0
abbrev cy:ev:=⟨[(0, .cl (.own 0 (.st .entry))),(1, .cl (.int .i64)),(5, .cl (.int .i64))],[],[.st .entry],1,68⟩
abbrev eJ:List (X×ev):= [(.ext 0,⟨[(1, .cl (.int .i64))],[],[.st .entry],1,68⟩)]
def ff {ρ:Type} (v1:List aA) (v2:Int) (v3:Int) (fn: ((Unit×Int×Int×Unit)×(Unit)×((List aA)×Unit))→Option ρ) (fe: ((Int×Unit)×(Unit)×((List aA)×Unit))→Option ρ):Option ρ:=
 br (decide (v3 < (v1.length:Int))) (aq (0≤v3∧v3 < (v1.length:Int)) ((v1[v3.toNat]?).bind fun x4=>let z5:=v1.set v3.toNat (⟨v2,x4.op⟩:aA); aq (0≤v3∧v3 < (z5.length:Int)) ((z5[v3.toNat]?).bind fun x6=>let z7:=z5.set v3.toNat (⟨x6.epoch,(⟨(IntKind.wrap .i64 (v2+1)),x6.op.seq,x6.op.kind,x6.op.object,x6.op.old,x6.op.value⟩:Op)⟩:aA); aq (0≤v3∧v3 < (z7.length:Int)) ((z7[v3.toNat]?).bind fun x8=>let z9:=z7.set v3.toNat (⟨x8.epoch,(⟨x8.op.client,(IntKind.wrap .i64 ((IntKind.wrap .i64 (v2+1))+1)),x8.op.kind,x8.op.object,x8.op.old,x8.op.value⟩:Op)⟩:aA); aq (0≤v3∧v3 < (z9.length:Int)) ((z9[v3.toNat]?).bind fun x10=>let z11:=z9.set v3.toNat (⟨x10.epoch,(⟨x10.op.client,x10.op.seq,(IntKind.wrap .i64 ((IntKind.wrap .i64 ((IntKind.wrap .i64 (v2+1))+1))+1)),x10.op.object,x10.op.old,x10.op.value⟩:Op)⟩:aA); aq (0≤v3∧v3 < (z11.length:Int)) ((z11[v3.toNat]?).bind fun x12=>let z13:=z11.set v3.toNat (⟨x12.epoch,(⟨x12.op.client,x12.op.seq,x12.op.kind,(IntKind.wrap .i64 ((IntKind.wrap .i64 ((IntKind.wrap .i64 ((IntKind.wrap .i64 (v2+1))+1))+1))+1)),x12.op.old,x12.op.value⟩:Op)⟩:aA); aq (0≤v3∧v3 < (z13.length:Int)) ((z13[v3.toNat]?).bind fun x14=>let z15:=z13.set v3.toNat (⟨x14.epoch,(⟨x14.op.client,x14.op.seq,x14.op.kind,x14.op.object,(IntKind.wrap .i64 ((IntKind.wrap .i64 ((IntKind.wrap .i64 ((IntKind.wrap .i64 ((IntKind.wrap .i64 (v2+1))+1))+1))+1))+1)),x14.op.value⟩:Op)⟩:aA); aq (0≤v3∧v3 < (z15.length:Int)) ((z15[v3.toNat]?).bind fun x16=>fn (((),(IntKind.wrap .i64 ((IntKind.wrap .i64 ((IntKind.wrap .i64 ((IntKind.wrap .i64 ((IntKind.wrap .i64 ((IntKind.wrap .i64 ((IntKind.wrap .i64 (v2+1))+1))+1))+1))+1))+1))+1)),(IntKind.wrap .i64 (v3+1)),()),(()),((z15.set v3.toNat (⟨x16.epoch,(⟨x16.op.client,x16.op.seq,x16.op.kind,x16.op.object,x16.op.old,(IntKind.wrap .i64 ((IntKind.wrap .i64 ((IntKind.wrap .i64 ((IntKind.wrap .i64 ((IntKind.wrap .i64 ((IntKind.wrap .i64 (v2+1))+1))+1))+1))+1))+1))⟩:Op)⟩:aA)),()))) none) none) none) none) none) none) none) (fe ((v2,()),(()),(v1,())))
def cQ (s:cy.D):Option (cy.D⊕bq.D eJ):=ff s.2.2.1 s.1.2.1 s.1.2.2.1 (fun s=>some (.inl s)) (fun e=>some (.inr e))
def ob:cy.D→Option (bq.D eJ):=jF cQ
theorem vw {ρ:Type} (s:cy.D) (fn:cy.D→Option ρ) (fe:bq.D eJ→Option ρ):ff s.2.2.1 s.1.2.1 s.1.2.2.1 fn fe=(cQ s).bind (Sum.elim fn fe):=by
 simp only [cQ,ff,al,ap,Option.bind_none,Option.bind_assoc,Option.bind_some,Sum.elim_inl,Sum.elim_inr]
abbrev qV:dg:=dB [] [0,1,5] cy eJ ob
theorem uL (s:cy.D):eP Θ (aP tA) (aO []) iI (cy.mk' s) (dp [0,1,5] [1] fun x S=>some (x,S))=(cQ s).bind (Sum.elim (fun s'=>some (.nor,cy.mk' s')) fun e=>some (bq.e eJ e)):=
 Eq.trans (by kernel_rfl:_=ff s.2.2.1 s.1.2.1 s.1.2.2.1 (fun s'=>some (.nor,cy.mk' s')) (fun e=>some (bq.e eJ e))) (vw s _ _)
theorem uM:ck Tryz.prog iI qV:=bi aR qo af (by kernel_rfl) (dF (by kernel_rfl:_= []) ah) [] [0,1,5] [1] cy eJ (by kernel_rfl) cQ uL ob (hU cQ) (aW cQ)
def lK {ρ:Type} (a0:List aA) (a1:Int) (k: (List aA)×Int×Unit→Option ρ):Option ρ:=
 (ob (((),a1,0,()),(()),(a0,()))).bind fun e18=>k (e18.2.2.1,e18.1.1,())
def dY (a0:List aA) (a1:Int):Option ((List aA)×Int×Unit):=lK a0 a1 some
theorem yQ {ρ:Type} (a0:List aA) (a1:Int) (k: (List aA)×Int×Unit→Option ρ):lK a0 a1 k=(dY a0 a1).bind k:=by
 simp only [dY,lK,Option.bind_assoc,Option.bind_some]
abbrev pc:bA:=Fc (.st .entry) [.ty (.i .i64)] [.i .i64] fun l x=>dY l x.1
theorem tB:aF Tryz.prog (lC 26) pc:=
 qF (Λ:=aO [(b8 iI,qV)]) (fn:=Tryz.f26) aR qo af (by kernel_rfl) (aM (by kernel_rfl:_= [iI]) (aV (q:=b8 iI) rfl uM fun _ _ _=>by kernel_rfl)) (by kernel_rfl) (fun l x=>dY l x.1)
  (fun l x=>Eq.trans (by kernel_rfl:_=lK l x.1 (fun y=>Fb (.st .entry) [.i .i64] y fun v g=>some (v,g))) (yQ l x.1 _)) fun _ _ _ h=>h
abbrev sk:List (Nat×bA):= [(lC 21,oM),(lC 26,pc)]
theorem po:az Tryz.prog (aP sk):=ae rr <| ae tB <| aj _
noncomputable abbrev gX:Code:=cu (cm Tryz.f76) 0
abbrev ch:ev:=⟨[(0, .cl (.own 0 (.st .server))),(1, .cl (.int .i64)),(5, .cl (.int .i64))],[],[.st .server],1,105⟩
abbrev ed:List (X×ev):= [(.ext 0,⟨[(1, .cl (.int .i64))],[],[.st .server],1,105⟩)]
def eN {ρ:Type} (v1:List ay) (v2:Int) (v3:Int) (fn: ((Unit×Int×Int×Unit)×(Unit)×((List ay)×Unit))→Option ρ) (fe: ((Int×Unit)×(Unit)×((List ay)×Unit))→Option ρ):Option ρ:=
 br (decide (v3 < (v1.length:Int))) (aq (0≤v3∧v3 < (v1.length:Int)) ((v1[v3.toNat]?).bind fun x4=>let z5:=v1.set v3.toNat (⟨((Int.tmod v2 3)==0),x4.intact,x4.version,x4.epoch,x4.config,x4.first,x4.log,x4.commit,x4.learned⟩:ay); aq (0≤v3∧v3 < (z5.length:Int)) ((z5[v3.toNat]?).bind fun x6=>let z7:=z5.set v3.toNat (⟨x6.up,((Int.tmod (IntKind.wrap .i64 (v2+1)) 3)==0),x6.version,x6.epoch,x6.config,x6.first,x6.log,x6.commit,x6.learned⟩:ay); aq (0≤v3∧v3 < (z7.length:Int)) ((z7[v3.toNat]?).bind fun x8=>let z9:=z7.set v3.toNat (⟨x8.up,x8.intact,(IntKind.wrap .i64 ((IntKind.wrap .i64 (v2+1))+1)),x8.epoch,x8.config,x8.first,x8.log,x8.commit,x8.learned⟩:ay); aq (0≤v3∧v3 < (z9.length:Int)) ((z9[v3.toNat]?).bind fun x10=>let z11:=z9.set v3.toNat (⟨x10.up,x10.intact,x10.version,(IntKind.wrap .i64 ((IntKind.wrap .i64 ((IntKind.wrap .i64 (v2+1))+1))+1)),x10.config,x10.first,x10.log,x10.commit,x10.learned⟩:ay); aq (0≤v3∧v3 < (z11.length:Int)) ((z11[v3.toNat]?).bind fun x12=>let z13:=z11.set v3.toNat (⟨x12.up,x12.intact,x12.version,x12.epoch,(⟨(IntKind.wrap .i64 ((IntKind.wrap .i64 ((IntKind.wrap .i64 ((IntKind.wrap .i64 (v2+1))+1))+1))+1)),x12.config.primary,x12.config.replicas,x12.config.witnesses⟩:ai),x12.first,x12.log,x12.commit,x12.learned⟩:ay); aq (0≤v3∧v3 < (z13.length:Int)) ((z13[v3.toNat]?).bind fun x14=>let z15:=z13.set v3.toNat (⟨x14.up,x14.intact,x14.version,x14.epoch,(⟨x14.config.epoch,(IntKind.wrap .i64 ((IntKind.wrap .i64 ((IntKind.wrap .i64 ((IntKind.wrap .i64 ((IntKind.wrap .i64 (v2+1))+1))+1))+1))+1)),x14.config.replicas,x14.config.witnesses⟩:ai),x14.first,x14.log,x14.commit,x14.learned⟩:ay); aq (0≤v3∧v3 < (z15.length:Int)) ((z15[v3.toNat]?).bind fun x16=>(z15[v3.toNat]?).bind fun x17=>aq ((0:Nat)=0∧x16.config.replicas.length=x17.config.replicas.length) ((dU x17.config.replicas (IntKind.wrap .i64 ((IntKind.wrap .i64 ((IntKind.wrap .i64 ((IntKind.wrap .i64 ((IntKind.wrap .i64 ((IntKind.wrap .i64 (v2+1))+1))+1))+1))+1))+1))).bind fun y18=>aq (y18.1.length=x17.config.replicas.length) (let z19:=z15.set v3.toNat (⟨x17.up,x17.intact,x17.version,x17.epoch,(⟨x17.config.epoch,x17.config.primary,y18.1,x17.config.witnesses⟩:ai),x17.first,x17.log,x17.commit,x17.learned⟩:ay); aq (0≤v3∧v3 < (z19.length:Int)) ((z19[v3.toNat]?).bind fun x20=>(z19[v3.toNat]?).bind fun x21=>aq ((0:Nat)=0∧x20.config.witnesses.length=x21.config.witnesses.length) ((dU x21.config.witnesses y18.2.1).bind fun y22=>aq (y22.1.length=x21.config.witnesses.length) (let z23:=z19.set v3.toNat (⟨x21.up,x21.intact,x21.version,x21.epoch,(⟨x21.config.epoch,x21.config.primary,x21.config.replicas,y22.1⟩:ai),x21.first,x21.log,x21.commit,x21.learned⟩:ay); aq (0≤v3∧v3 < (z23.length:Int)) ((z23[v3.toNat]?).bind fun x24=>let z25:=z23.set v3.toNat (⟨x24.up,x24.intact,x24.version,x24.epoch,x24.config,y22.2.1,x24.log,x24.commit,x24.learned⟩:ay); aq (0≤v3∧v3 < (z25.length:Int)) ((z25[v3.toNat]?).bind fun x26=>(z25[v3.toNat]?).bind fun x27=>aq ((0:Nat)=0∧x26.log.length=x27.log.length) ((dY x27.log (IntKind.wrap .i64 (y22.2.1+1))).bind fun y28=>aq (y28.1.length=x27.log.length) (let z29:=z25.set v3.toNat (⟨x27.up,x27.intact,x27.version,x27.epoch,x27.config,x27.first,y28.1,x27.commit,x27.learned⟩:ay); aq (0≤v3∧v3 < (z29.length:Int)) ((z29[v3.toNat]?).bind fun x30=>let z31:=z29.set v3.toNat (⟨x30.up,x30.intact,x30.version,x30.epoch,x30.config,x30.first,x30.log,y28.2.1,x30.learned⟩:ay); aq (0≤v3∧v3 < (z31.length:Int)) ((z31[v3.toNat]?).bind fun x32=>(z31[v3.toNat]?).bind fun x33=>aq ((0:Nat)=0∧x32.learned.length=x33.learned.length) ((dY x33.learned (IntKind.wrap .i64 (y28.2.1+1))).bind fun y34=>aq (y34.1.length=x33.learned.length) (fn (((),y34.2.1,(IntKind.wrap .i64 (v3+1)),()),(()),((z31.set v3.toNat (⟨x33.up,x33.intact,x33.version,x33.epoch,x33.config,x33.first,x33.log,x33.commit,y34.1⟩:ay)),()))) none) none) none) none) none) none) none) none) none) none) none) none) none) none) none) none) none) none) none) none) (fe ((v2,()),(()),(v1,())))
def cD (s:ch.D):Option (ch.D⊕bq.D ed):=eN s.2.2.1 s.1.2.1 s.1.2.2.1 (fun s=>some (.inl s)) (fun e=>some (.inr e))
def mX:ch.D→Option (bq.D ed):=jF cD
theorem uN {ρ:Type} (s:ch.D) (fn:ch.D→Option ρ) (fe:bq.D ed→Option ρ):eN s.2.2.1 s.1.2.1 s.1.2.2.1 fn fe=(cD s).bind (Sum.elim fn fe):=by
 simp only [cD,eN,al,ap,Option.bind_none,Option.bind_assoc,Option.bind_some,Sum.elim_inl,Sum.elim_inr]
abbrev qp:dg:=dB [] [0,1,5] ch ed mX
theorem tM (s:ch.D):eP Θ (aP sk) (aO []) gX (ch.mk' s) (dp [0,1,5] [1] fun x S=>some (x,S))=(cD s).bind (Sum.elim (fun s'=>some (.nor,ch.mk' s')) fun e=>some (bq.e ed e)):=
 Eq.trans (by kernel_rfl:_=eN s.2.2.1 s.1.2.1 s.1.2.2.1 (fun s'=>some (.nor,ch.mk' s')) (fun e=>some (bq.e ed e))) (uN s _ _)
theorem tN:ck Tryz.prog gX qp:=bi aR po af (by kernel_rfl) (dF (by kernel_rfl:_= []) ah) [] [0,1,5] [1] ch ed (by kernel_rfl) cD tM mX (hU cD) (aW cD)
def kw {ρ:Type} (a0:List ay) (a1:Int) (k: (List ay)×Int×Unit→Option ρ):Option ρ:=
 (mX (((),a1,0,()),(()),(a0,()))).bind fun e36=>k (e36.2.2.1,e36.1.1,())
def fg (a0:List ay) (a1:Int):Option ((List ay)×Int×Unit):=kw a0 a1 some
theorem xd {ρ:Type} (a0:List ay) (a1:Int) (k: (List ay)×Int×Unit→Option ρ):kw a0 a1 k=(fg a0 a1).bind k:=by
 simp only [fg,kw,Option.bind_assoc,Option.bind_some]
abbrev sn:bA:=Fc (.st .server) [.ty (.i .i64)] [.i .i64] fun l x=>fg l x.1
theorem Av:aF Tryz.prog (lC 76) sn:=
 qF (Λ:=aO [(b8 gX,qp)]) (fn:=Tryz.f76) aR po af (by kernel_rfl) (aM (by kernel_rfl:_= [gX]) (aV (q:=b8 gX) rfl tN fun _ _ _=>by kernel_rfl)) (by kernel_rfl) (fun l x=>fg l x.1)
  (fun l x=>Eq.trans (by kernel_rfl:_=kw l x.1 (fun y=>Fb (.st .server) [.i .i64] y fun v g=>some (v,g))) (xd l x.1 _)) fun _ _ _ h=>h
abbrev so:List (Nat×bA):= [(lC 21,oM)]
theorem pp:az Tryz.prog (aP so):=ae rr <| aj _
noncomputable abbrev gY:Code:=cu (cm Tryz.f152) 0
abbrev ci:ev:=⟨[(0, .cl (.own 0 (.st .config))),(1, .cl (.int .i64)),(5, .cl (.int .i64))],[],[.st .config],1,41⟩
abbrev ef:List (X×ev):= [(.ext 0,⟨[(1, .cl (.int .i64))],[],[.st .config],1,41⟩)]
def eO {ρ:Type} (v1:List ai) (v2:Int) (v3:Int) (fn: ((Unit×Int×Int×Unit)×(Unit)×((List ai)×Unit))→Option ρ) (fe: ((Int×Unit)×(Unit)×((List ai)×Unit))→Option ρ):Option ρ:=
 br (decide (v3 < (v1.length:Int))) (aq (0≤v3∧v3 < (v1.length:Int)) ((v1[v3.toNat]?).bind fun x4=>let z5:=v1.set v3.toNat (⟨v2,x4.primary,x4.replicas,x4.witnesses⟩:ai); aq (0≤v3∧v3 < (z5.length:Int)) ((z5[v3.toNat]?).bind fun x6=>let z7:=z5.set v3.toNat (⟨x6.epoch,(IntKind.wrap .i64 (v2+1)),x6.replicas,x6.witnesses⟩:ai); aq (0≤v3∧v3 < (z7.length:Int)) ((z7[v3.toNat]?).bind fun x8=>(z7[v3.toNat]?).bind fun x9=>aq ((0:Nat)=0∧x8.replicas.length=x9.replicas.length) ((dU x9.replicas (IntKind.wrap .i64 ((IntKind.wrap .i64 (v2+1))+1))).bind fun y10=>aq (y10.1.length=x9.replicas.length) (let z11:=z7.set v3.toNat (⟨x9.epoch,x9.primary,y10.1,x9.witnesses⟩:ai); aq (0≤v3∧v3 < (z11.length:Int)) ((z11[v3.toNat]?).bind fun x12=>(z11[v3.toNat]?).bind fun x13=>aq ((0:Nat)=0∧x12.witnesses.length=x13.witnesses.length) ((dU x13.witnesses y10.2.1).bind fun y14=>aq (y14.1.length=x13.witnesses.length) (fn (((),y14.2.1,(IntKind.wrap .i64 (v3+1)),()),(()),((z11.set v3.toNat (⟨x13.epoch,x13.primary,x13.replicas,y14.1⟩:ai)),()))) none) none) none) none) none) none) none) none) (fe ((v2,()),(()),(v1,())))
def cE (s:ci.D):Option (ci.D⊕bq.D ef):=eO s.2.2.1 s.1.2.1 s.1.2.2.1 (fun s=>some (.inl s)) (fun e=>some (.inr e))
def mY:ci.D→Option (bq.D ef):=jF cE
theorem uO {ρ:Type} (s:ci.D) (fn:ci.D→Option ρ) (fe:bq.D ef→Option ρ):eO s.2.2.1 s.1.2.1 s.1.2.2.1 fn fe=(cE s).bind (Sum.elim fn fe):=by
 simp only [cE,eO,al,ap,Option.bind_none,Option.bind_assoc,Option.bind_some,Sum.elim_inl,Sum.elim_inr]
abbrev qq:dg:=dB [] [0,1,5] ci ef mY
theorem tO (s:ci.D):eP Θ (aP so) (aO []) gY (ci.mk' s) (dp [0,1,5] [1] fun x S=>some (x,S))=(cE s).bind (Sum.elim (fun s'=>some (.nor,ci.mk' s')) fun e=>some (bq.e ef e)):=
 Eq.trans (by kernel_rfl:_=eO s.2.2.1 s.1.2.1 s.1.2.2.1 (fun s'=>some (.nor,ci.mk' s')) (fun e=>some (bq.e ef e))) (uO s _ _)
theorem tP:ck Tryz.prog gY qq:=bi aR pp af (by kernel_rfl) (dF (by kernel_rfl:_= []) ah) [] [0,1,5] [1] ci ef (by kernel_rfl) cE tO mY (hU cE) (aW cE)
def kx {ρ:Type} (a0:List ai) (a1:Int) (k: (List ai)×Int×Unit→Option ρ):Option ρ:=
 (mY (((),a1,0,()),(()),(a0,()))).bind fun e16=>k (e16.2.2.1,e16.1.1,())
def fh (a0:List ai) (a1:Int):Option ((List ai)×Int×Unit):=kx a0 a1 some
theorem xe {ρ:Type} (a0:List ai) (a1:Int) (k: (List ai)×Int×Unit→Option ρ):kx a0 a1 k=(fh a0 a1).bind k:=by
 simp only [fh,kx,Option.bind_assoc,Option.bind_some]
abbrev sq:bA:=Fc (.st .config) [.ty (.i .i64)] [.i .i64] fun l x=>fh l x.1
theorem Aw:aF Tryz.prog (lC 152) sq:=
 qF (Λ:=aO [(b8 gY,qq)]) (fn:=Tryz.f152) aR pp af (by kernel_rfl) (aM (by kernel_rfl:_= [gY]) (aV (q:=b8 gY) rfl tP fun _ _ _=>by kernel_rfl)) (by kernel_rfl) (fun l x=>fh l x.1)
  (fun l x=>Eq.trans (by kernel_rfl:_=kx l x.1 (fun y=>Fb (.st .config) [.i .i64] y fun v g=>some (v,g))) (xe l x.1 _)) fun _ _ _ h=>h
abbrev xf:List (Nat×bA):= [(lC 152,sq)]
theorem tQ:az Tryz.prog (aP xf):=ae Aw <| aj _
def fV {ρ:Type} (a0:aw) (a1:Int) (k:aw×Int×Unit→Option ρ):Option ρ:=
 (fh a0.configs a1).bind fun y1=>aq (y1.1.length=a0.configs.length) (k ((⟨y1.1,a0.activated⟩:aw),y1.2.1,())) none
def fi (a0:aw) (a1:Int):Option (aw×Int×Unit):=fV a0 a1 some
theorem uP {ρ:Type} (a0:aw) (a1:Int) (k:aw×Int×Unit→Option ρ):fV a0 a1 k=(fi a0 a1).bind k:=by
 simp only [fi,fV,ap,Option.bind_none,Option.bind_assoc,Option.bind_some]
abbrev qs:bA:=Q5 (.st .masterLog) [.ty (.i .i64)] [.i .i64] fun l x=>fi l x.1
theorem xg:aF Tryz.prog (lC 77) qs:=
 MA (Λ:=aO []) (fn:=Tryz.f77) aR tQ af (by kernel_rfl) (aM (by kernel_rfl:_= []) ah) (by kernel_rfl) (fun l x=>fi l x.1)
  (fun l x=>Eq.trans (by kernel_rfl:_=fV l x.1 (fun y=>Q4 (.st .masterLog) [.i .i64] y fun v g=>some (v,g))) (uP l x.1 _)) fun _ _ _ h=>h
abbrev tC:List (Nat×bA):= []
theorem qt:az Tryz.prog (aP tC):=aj _
noncomputable abbrev iJ:Code:=cu (cm Tryz.f78) 0
abbrev cz:ev:=⟨[(0, .cl (.own 0 (.st .place))),(1, .cl (.int .i64)),(5, .cl (.int .i64))],[],[.st .place],1,34⟩
abbrev eK:List (X×ev):= [(.ext 0,⟨[(1, .cl (.int .i64))],[],[.st .place],1,34⟩)]
def fj {ρ:Type} (v1:List bh) (v2:Int) (v3:Int) (fn: ((Unit×Int×Int×Unit)×(Unit)×((List bh)×Unit))→Option ρ) (fe: ((Int×Unit)×(Unit)×((List bh)×Unit))→Option ρ):Option ρ:=
 br (decide (v3 < (v1.length:Int))) (aq (0≤v3∧v3 < (v1.length:Int)) ((v1[v3.toNat]?).bind fun x4=>let z5:=v1.set v3.toNat (⟨v2,x4.capacity,x4.load⟩:bh); aq (0≤v3∧v3 < (z5.length:Int)) ((z5[v3.toNat]?).bind fun x6=>let z7:=z5.set v3.toNat (⟨x6.rack,(IntKind.wrap .i64 (v2+1)),x6.load⟩:bh); aq (0≤v3∧v3 < (z7.length:Int)) ((z7[v3.toNat]?).bind fun x8=>fn (((),(IntKind.wrap .i64 ((IntKind.wrap .i64 ((IntKind.wrap .i64 (v2+1))+1))+1)),(IntKind.wrap .i64 (v3+1)),()),(()),((z7.set v3.toNat (⟨x8.rack,x8.capacity,(IntKind.wrap .i64 ((IntKind.wrap .i64 (v2+1))+1))⟩:bh)),()))) none) none) none) (fe ((v2,()),(()),(v1,())))
def cR (s:cz.D):Option (cz.D⊕bq.D eK):=fj s.2.2.1 s.1.2.1 s.1.2.2.1 (fun s=>some (.inl s)) (fun e=>some (.inr e))
def oc:cz.D→Option (bq.D eK):=jF cR
theorem vx {ρ:Type} (s:cz.D) (fn:cz.D→Option ρ) (fe:bq.D eK→Option ρ):fj s.2.2.1 s.1.2.1 s.1.2.2.1 fn fe=(cR s).bind (Sum.elim fn fe):=by
 simp only [cR,fj,al,ap,Option.bind_none,Option.bind_assoc,Option.bind_some,Sum.elim_inl,Sum.elim_inr]
abbrev qW:dg:=dB [] [0,1,5] cz eK oc
theorem uQ (s:cz.D):eP Θ (aP tC) (aO []) iJ (cz.mk' s) (dp [0,1,5] [1] fun x S=>some (x,S))=(cR s).bind (Sum.elim (fun s'=>some (.nor,cz.mk' s')) fun e=>some (bq.e eK e)):=
 Eq.trans (by kernel_rfl:_=fj s.2.2.1 s.1.2.1 s.1.2.2.1 (fun s'=>some (.nor,cz.mk' s')) (fun e=>some (bq.e eK e))) (vx s _ _)
theorem uR:ck Tryz.prog iJ qW:=bi aR qt af (by kernel_rfl) (dF (by kernel_rfl:_= []) ah) [] [0,1,5] [1] cz eK (by kernel_rfl) cR uQ oc (hU cR) (aW cR)
def lL {ρ:Type} (a0:List bh) (a1:Int) (k: (List bh)×Int×Unit→Option ρ):Option ρ:=
 (oc (((),a1,0,()),(()),(a0,()))).bind fun e10=>k (e10.2.2.1,e10.1.1,())
def fU (a0:List bh) (a1:Int):Option ((List bh)×Int×Unit):=lL a0 a1 some
theorem yR {ρ:Type} (a0:List bh) (a1:Int) (k: (List bh)×Int×Unit→Option ρ):lL a0 a1 k=(fU a0 a1).bind k:=by
 simp only [fU,lL,Option.bind_assoc,Option.bind_some]
abbrev tD:bA:=Fc (.st .place) [.ty (.i .i64)] [.i .i64] fun l x=>fU l x.1
theorem Cq:aF Tryz.prog (lC 78) tD:=
 qF (Λ:=aO [(b8 iJ,qW)]) (fn:=Tryz.f78) aR qt af (by kernel_rfl) (aM (by kernel_rfl:_= [iJ]) (aV (q:=b8 iJ) rfl uR fun _ _ _=>by kernel_rfl)) (by kernel_rfl) (fun l x=>fU l x.1)
  (fun l x=>Eq.trans (by kernel_rfl:_=lL l x.1 (fun y=>Fb (.st .place) [.i .i64] y fun v g=>some (v,g))) (yR l x.1 _)) fun _ _ _ h=>h
abbrev Ax:List (Nat×bA):= [(lC 76,sn),(lC 21,oM),(lC 77,qs),(lC 78,tD)]
theorem vy:az Tryz.prog (aP Ax):=ae Av <| ae rr <| ae xg <| ae Cq <| aj _
def iK {ρ:Type} (a0:aQ) (a1:Int) (k:aQ×Int×Unit→Option ρ):Option ρ:=
 (fg a0.servers a1).bind fun y1=>aq (y1.1.length=a0.servers.length) ((dU a0.sides y1.2.1).bind fun y2=>aq (y2.1.length=a0.sides.length) ((fi a0.master y2.2.1).bind fun y3=>aq (y3.1.configs.length=a0.master.configs.length) ((fU a0.places y3.2.1).bind fun y4=>aq (y4.1.length=a0.places.length) (k ((⟨a0.now,y1.1,y2.1,(⟨y3.1.configs,a0.master.activated⟩:aw),a0.masterUp,a0.lease,y4.1⟩:aQ),y4.2.1,())) none) none) none) none
def fk (a0:aQ) (a1:Int):Option (aQ×Int×Unit):=iK a0 a1 some
theorem xh {ρ:Type} (a0:aQ) (a1:Int) (k:aQ×Int×Unit→Option ρ):iK a0 a1 k=(fk a0 a1).bind k:=by
 simp only [fk,iK,ap,Option.bind_none,Option.bind_assoc,Option.bind_some]
abbrev sr:bA:=Q5 (.st .cluster) [.ty (.i .i64)] [.i .i64] fun l x=>fk l x.1
theorem Ay:aF Tryz.prog (lC 20) sr:=
 MA (Λ:=aO []) (fn:=Tryz.f20) aR vy af (by kernel_rfl) (aM (by kernel_rfl:_= []) ah) (by kernel_rfl) (fun l x=>fk l x.1)
  (fun l x=>Eq.trans (by kernel_rfl:_=iK l x.1 (fun y=>Q4 (.st .cluster) [.i .i64] y fun v g=>some (v,g))) (xh l x.1 _)) fun _ _ _ h=>h
abbrev yS:List (Nat×bA):= []
theorem tE:az Tryz.prog (aP yS):=aj _
noncomputable abbrev lA:Code:=cu (cm Tryz.f27) 0
abbrev dx:ev:=⟨[(0, .cl (.ro (.st .entry))),(1, .cl (.int .i64)),(5, .cl (.int .i64))],[],[],0,82⟩
abbrev gZ:List (X×ev):= [(.ret,⟨[(1, .cl (.int .i64)),(4, .cl (.int .i64))],[],[],0,82⟩),(.ext 0,⟨[(1, .cl (.int .i64)),(4, .cl (.dead))],[],[],0,82⟩)]
def ip {ρ:Type} (v1:List aA) (v2:Int) (v3:Int) (fn: (((List aA)×Int×Int×Unit)×(Unit)×(Unit))→Option ρ) (fe: ((Int×Int×Unit)×(Unit)×(Unit))⊕((Int×Unit×Unit)×(Unit)×(Unit))→Option ρ):Option ρ:=
 br (decide (v3 < (v1.length:Int))) (aq (0≤v3) ((v1[v3.toNat]?).bind fun x4=>br (!(x4.epoch==v2)) (fe (.inl ((v2,(-1),()),(()),(())))) (aq (0≤v3) ((v1[v3.toNat]?).bind fun x5=>br (!(x5.op.client==(IntKind.wrap .i64 (v2+1)))) (fe (.inl (((IntKind.wrap .i64 (v2+1)),(-1),()),(()),(())))) (aq (0≤v3) ((v1[v3.toNat]?).bind fun x6=>br (!(x6.op.seq==(IntKind.wrap .i64 ((IntKind.wrap .i64 (v2+1))+1)))) (fe (.inl (((IntKind.wrap .i64 ((IntKind.wrap .i64 (v2+1))+1)),(-1),()),(()),(())))) (aq (0≤v3) ((v1[v3.toNat]?).bind fun x7=>br (!(x7.op.kind==(IntKind.wrap .i64 ((IntKind.wrap .i64 ((IntKind.wrap .i64 (v2+1))+1))+1)))) (fe (.inl (((IntKind.wrap .i64 ((IntKind.wrap .i64 ((IntKind.wrap .i64 (v2+1))+1))+1)),(-1),()),(()),(())))) (aq (0≤v3) ((v1[v3.toNat]?).bind fun x8=>br (!(x8.op.object==(IntKind.wrap .i64 ((IntKind.wrap .i64 ((IntKind.wrap .i64 ((IntKind.wrap .i64 (v2+1))+1))+1))+1)))) (fe (.inl (((IntKind.wrap .i64 ((IntKind.wrap .i64 ((IntKind.wrap .i64 ((IntKind.wrap .i64 (v2+1))+1))+1))+1)),(-1),()),(()),(())))) (aq (0≤v3) ((v1[v3.toNat]?).bind fun x9=>br (!(x9.op.old==(IntKind.wrap .i64 ((IntKind.wrap .i64 ((IntKind.wrap .i64 ((IntKind.wrap .i64 ((IntKind.wrap .i64 (v2+1))+1))+1))+1))+1)))) (fe (.inl (((IntKind.wrap .i64 ((IntKind.wrap .i64 ((IntKind.wrap .i64 ((IntKind.wrap .i64 ((IntKind.wrap .i64 (v2+1))+1))+1))+1))+1)),(-1),()),(()),(())))) (aq (0≤v3) ((v1[v3.toNat]?).bind fun x10=>br (!(x10.op.value==(IntKind.wrap .i64 ((IntKind.wrap .i64 ((IntKind.wrap .i64 ((IntKind.wrap .i64 ((IntKind.wrap .i64 ((IntKind.wrap .i64 (v2+1))+1))+1))+1))+1))+1)))) (fe (.inl (((IntKind.wrap .i64 ((IntKind.wrap .i64 ((IntKind.wrap .i64 ((IntKind.wrap .i64 ((IntKind.wrap .i64 ((IntKind.wrap .i64 (v2+1))+1))+1))+1))+1))+1)),(-1),()),(()),(())))) (fn ((v1,(IntKind.wrap .i64 ((IntKind.wrap .i64 ((IntKind.wrap .i64 ((IntKind.wrap .i64 ((IntKind.wrap .i64 ((IntKind.wrap .i64 ((IntKind.wrap .i64 (v2+1))+1))+1))+1))+1))+1))+1)),(IntKind.wrap .i64 (v3+1)),()),(()),(())))) none)) none)) none)) none)) none)) none)) none) (fe (.inr ((v2,(),()),(()),(()))))
def dV (s:dx.D):Option (dx.D⊕bq.D gZ):=ip s.1.1 s.1.2.1 s.1.2.2.1 (fun s=>some (.inl s)) (fun e=>some (.inr e))
def qu:dx.D→Option (bq.D gZ):=jF dV
theorem Az {ρ:Type} (s:dx.D) (fn:dx.D→Option ρ) (fe:bq.D gZ→Option ρ):ip s.1.1 s.1.2.1 s.1.2.2.1 fn fe=(dV s).bind (Sum.elim fn fe):=by
 simp only [dV,ip,al,ap,Option.bind_none,Option.bind_assoc,Option.bind_some,Sum.elim_inl,Sum.elim_inr]
abbrev uS:dg:=dB [] [0,1,5] dx gZ qu
theorem yT (s:dx.D):eP Θ (aP yS) (aO []) lA (dx.mk' s) (dp [0,1,5] [1,4] fun x S=>some (x,S))=(dV s).bind (Sum.elim (fun s'=>some (.nor,dx.mk' s')) fun e=>some (bq.e gZ e)):=
 Eq.trans (by kernel_rfl:_=ip s.1.1 s.1.2.1 s.1.2.2.1 (fun s'=>some (.nor,dx.mk' s')) (fun e=>some (bq.e gZ e))) (Az s _ _)
theorem yU:ck Tryz.prog lA uS:=bi aR tE af (by kernel_rfl) (dF (by kernel_rfl:_= []) ah) [] [0,1,5] [1,4] dx gZ (by kernel_rfl) dV yT qu (hU dV) (aW dV)
def oO {ρ:Type} (a0:List aA) (a1:Int) (k:Int×Unit→Option ρ):Option ρ:=
 (qu ((a0,a1,0,()),(()),(()))).bind fun e11=>Sum.elim (fun e11_=>k (e11_.1.2.1,())) (fun e11_=>k (e11_.1.1,())) e11
def iL (a0:List aA) (a1:Int):Option (Int×Unit):=oO a0 a1 some
theorem EM {ρ:Type} (a0:List aA) (a1:Int) (k:Int×Unit→Option ρ):oO a0 a1 k=(iL a0 a1).bind k:=by
 simp only [iL,oO,cv,Option.bind_assoc,Option.bind_some]
abbrev yV:bA:=bO [.ty (.ls (.st .entry)), .ty (.i .i64)] [.i .i64] fun x=>iL x.1 x.2.1
theorem Ie:aF Tryz.prog 27 yV:=
 ak (Λ:=aO [(b8 lA,uS)]) (fn:=Tryz.f27) aR tE af (by kernel_rfl) (aM (by kernel_rfl:_= [lA]) (aV (q:=b8 lA) rfl yU fun _ _ _=>by kernel_rfl)) (by kernel_rfl) (fun x=>iL x.1 x.2.1)
  (fun x=>Eq.trans (by kernel_rfl:_=oO x.1 x.2.1 (fun y=>ret (aH [.i .i64] y) fun v g=>some (v,g))) (EM x.1 x.2.1 _)) fun _ _ h=>h
abbrev yW:List (Nat×bA):= [(12,A2),(14,A8),(23,D7),(24,EA),(25,w6),(16,Bn),(lC 20,sr),(lC 26,pc),(27,yV)]
theorem uT:az Tryz.prog (aP yW):=ae JG <| ae JP <| ae LD <| ae LO <| ae ED <| ae Ku <| ae Ay <| ae tB <| ae Ie <| aj _
def hO {ρ:Type} (a0:aQ) (k:Bool×Unit→Option ρ):Option ρ:=
 (f8 a0 1048576).bind fun y1=>br (decide (y1.1 < 0)) (k (true,())) ((gb a0).bind fun y2=>(mJ y2.1).bind fun y3=>(gb a0).bind fun y4=>(lq y4.1).bind fun y5=>(gV y5.1 y3.1).bind fun y6=>br (!y6.1) (k (false,())) (br (!(y5.2.1==y3.2.1)) (k (false,())) ((gb a0).bind fun y7=>(lz y4.1 y7.1).bind fun y8=>br (!y8.1) (k (false,())) ((fk y4.1 1).bind fun y9=>aq (y9.1.servers.length=y4.1.servers.length) (aq (y9.1.sides.length=y4.1.sides.length) (aq (y9.1.master.configs.length=y4.1.master.configs.length) (aq (y9.1.places.length=y4.1.places.length) (br (decide (y9.2.1 < 0)) (k (false,())) ((gV y5.1 y3.1).bind fun y10=>br (!y10.1) (k (false,())) (br (!(y5.2.1==y3.2.1)) (k (false,())) ((dY y5.1 1).bind fun y11=>aq (y11.1.length=y5.1.length) ((iL y11.1 1).bind fun y12=>br (decide (y12.1 < 0)) (k (false,())) (br (!(y12.1==y11.2.1)) (k (false,())) ((gb a0).bind fun y13=>(lq y13.1).bind fun y14=>(gV y14.1 y3.1).bind fun y15=>br (!y15.1) (k (false,())) (br (!(y14.2.1==y3.2.1)) (k (false,())) ((iL y11.1 1).bind fun y16=>br (decide (y16.1 < 0)) (k (false,())) (br (!(y16.1==y11.2.1)) (k (false,())) (k (true,())))))))) none)))) none) none) none) none))))
def fI (a0:aQ):Option (Bool×Unit):=hO a0 some
theorem vz {ρ:Type} (a0:aQ) (k:Bool×Unit→Option ρ):hO a0 k=(fI a0).bind k:=by
 simp only [fI,hO,al,ap,Option.bind_none,Option.bind_assoc,Option.bind_some]
abbrev yX:bA:=bO [.ty (.st .cluster)] [.b] fun x=>fI x.1
theorem yY:aF Tryz.prog 5 yX:=
 ak (Λ:=aO []) (fn:=Tryz.f5) aR uT af (by kernel_rfl) (aM (by kernel_rfl:_= []) ah) (by kernel_rfl) (fun x=>fI x.1)
  (fun x=>Eq.trans (by kernel_rfl:_=hO x.1 (fun y=>ret (aH [.b] y) fun v g=>some (v,g))) (vz x.1 _)) fun _ _ h=>h
end
end Go.Proofs.YtkcgfceffffmoaaGreat.En
