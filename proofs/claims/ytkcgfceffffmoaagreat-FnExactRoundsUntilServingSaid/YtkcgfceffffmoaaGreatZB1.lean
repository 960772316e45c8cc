/- Printed by a program: the walk. -/
import Derived.Test.YtkcgfceffffmoaaGreatZTh
namespace Go.Proofs.YtkcgfceffffmoaaGreat.En
open Go
noncomputable section
def sb0:ByteArray:=⟨⟨[0,1,2,2,3,3,3,3,4,4,4,4,4,4,4,4,5,5,5,5,5,5,5,5,5,5,5,5,5,5,5,5,6,6,6,6,6,6,6,6,6,6,6,6,6,6,6,6,6,6,6,6,6,6,6,6,6,6,6,6,6,6,6,6,7,7,7,7,7,7,7,7,7,7,7,7,7,7,7,7,7,7,7,7,7,7,7,7,7,7,7,7,7,7,7,7,7,7,7,7,7,7,7,7,7,7,7,7,7,7,7,7,7,7,7,7,7,7,7,7,7,7,7,7,7,7,7,7,8,8,8,8,8,8,8,8,8,8,8,8,8,8,8,8,8,8,8,8,8,8,8,8,8,8,8,8,8,8,8,8,8,8,8,8,8,8,8,8,8,8,8,8,8,8,8,8,8,8,8,8,8,8,8,8,8,8,8,8,8,8,8,8,8,8,8,8,8,8,8,8,8,8,8,8,8,8,8,8,8,8,8,8,8,8,8,8,8,8,8,8,8,8,8,8,8,8,8,8,8,8,8,8,8,8,8,8,8,8,8,8,8,8,8,8,8,8,8,8,8,8,8,8,8,8,8,8]⟩⟩
theorem dT:Tryz.prog.follows .mixedOrders=true:=by kernel_rfl
abbrev aoy:List (Nat×eG):= []
theorem ahG:ef Tryz.prog (ek aoy):=dX _
def TD {ρ:Type} (a0:List Int) (a1:Int) (k:Int×Unit->Option ρ):Option ρ:=
 br (decide ((IntKind.wrap .i64 (a1 - (a0.length:Int))) < 0)) (k ((-1),())) (k ((IntKind.wrap .i64 (a1 - (a0.length:Int))),()))
def BH (a0:List Int) (a1:Int):=TD a0 a1 some
theorem ajI {ρ:Type} (a0 a1:_) (k:_->Option ρ):TD a0 a1 k=(BH a0 a1).bind k:=by
 simp only [BH,TD,dZ,ae]
abbrev Y2:eG:=eJ [.ty (.ls (.i .i64)), .ty (.i .i64)] [.i .i64] fun x=>BH x.1 x.2.1
theorem ahH:eh Tryz.prog 43 Y2:=
 dY (Λ:=en []) (fn:=Tryz.f43) eo ahG dT (by kernel_rfl) (ej (by kernel_rfl:_= []) dU) (by kernel_rfl) (fun x=>BH x.1 x.2.1)
  (fun x=>ak (by kernel_rfl) (ajI x.1 x.2.1 _)) fun _ _ h=>h
abbrev ajJ:List (Nat×eG):= [(43,Y2)]
theorem abw:ef Tryz.prog (ek ajJ):=dS ahH <| dX _
def D6 {ρ:Type} (a0:dW) (a1:Int) (k:Int×Unit->Option ρ):Option ρ:=
 (BH a0.replicas a1).bind fun y1=>br (decide (y1.1 < 0)) (k ((-1),())) ((BH a0.witnesses y1.1).bind fun y2=>br (decide (y2.1 < 0)) (k ((-1),())) (k (y2.1,())))
def oV (a0:dW) (a1:Int):=D6 a0 a1 some
theorem aeM {ρ:Type} (a0 a1:_) (k:_->Option ρ):D6 a0 a1 k=(oV a0 a1).bind k:=by
 simp only [oV,D6,dZ,ah,ae]
abbrev Pd:eG:=eJ [.ty (.st .config), .ty (.i .i64)] [.i .i64] fun x=>oV x.1 x.2.1
theorem Y3:eh Tryz.prog 206 Pd:=
 dY (Λ:=en []) (fn:=Tryz.f206) eo abw dT (by kernel_rfl) (ej (by kernel_rfl:_= []) dU) (by kernel_rfl) (fun x=>oV x.1 x.2.1)
  (fun x=>ak (by kernel_rfl) (aeM x.1 x.2.1 _)) fun _ _ h=>h
abbrev ajK:List (Nat×eG):= []
theorem abx:ef Tryz.prog (ek ajK):=dX _
def Lf {ρ:Type} (a0:List ed) (a1:Int) (k:Int×Unit->Option ρ):Option ρ:=
 br (decide ((IntKind.wrap .i64 (a1 - (a0.length:Int))) < 0)) (k ((-1),())) (k ((IntKind.wrap .i64 (a1 - (a0.length:Int))),()))
def wM (a0:List ed) (a1:Int):=Lf a0 a1 some
theorem aeN {ρ:Type} (a0 a1:_) (k:_->Option ρ):Lf a0 a1 k=(wM a0 a1).bind k:=by
 simp only [wM,Lf,dZ,ae]
abbrev Y4:eG:=eJ [.ty (.ls (.st .entry)), .ty (.i .i64)] [.i .i64] fun x=>wM x.1 x.2.1
theorem ajL:eh Tryz.prog 207 Y4:=
 dY (Λ:=en []) (fn:=Tryz.f207) eo abx dT (by kernel_rfl) (ej (by kernel_rfl:_= []) dU) (by kernel_rfl) (fun x=>wM x.1 x.2.1)
  (fun x=>ak (by kernel_rfl) (aeN x.1 x.2.1 _)) fun _ _ h=>h
abbrev ajM:List (Nat×eG):= [(206,Pd),(207,Y4)]
theorem aby:ef Tryz.prog (ek ajM):=dS Y3 <| dS ajL <| dX _
def D7 {ρ:Type} (a0:eb) (a1:Int) (k:Int×Unit->Option ρ):Option ρ:=
 (oV a0.config a1).bind fun y1=>br (decide (y1.1 < 0)) (k ((-1),())) ((wM a0.log y1.1).bind fun y2=>br (decide (y2.1 < 0)) (k ((-1),())) ((wM a0.learned y2.1).bind fun y3=>br (decide (y3.1 < 0)) (k ((-1),())) (k (y3.1,()))))
def qa (a0:eb) (a1:Int):=D7 a0 a1 some
theorem aeO {ρ:Type} (a0 a1:_) (k:_->Option ρ):D7 a0 a1 k=(qa a0 a1).bind k:=by
 simp only [qa,D7,dZ,ah,ae]
abbrev Y5:eG:=eJ [.ty (.st .server), .ty (.i .i64)] [.i .i64] fun x=>qa x.1 x.2.1
theorem ajN:eh Tryz.prog 118 Y5:=
 dY (Λ:=en []) (fn:=Tryz.f118) eo aby dT (by kernel_rfl) (ej (by kernel_rfl:_= []) dU) (by kernel_rfl) (fun x=>qa x.1 x.2.1)
  (fun x=>ak (by kernel_rfl) (aeO x.1 x.2.1 _)) fun _ _ h=>h
abbrev Vz:List (Nat×eG):= [(118,Y5)]
theorem Lg:ef Tryz.prog (ek Vz):=dS ajN <| dX _
abbrev zh:Code:=fm (fo Tryz.f42) 0
abbrev lP:it:=⟨[(0, .cl (.ro (.st .server))),(1, .cl (.int .i64)),(5, .cl (.int .i64))],[],[],0,27⟩
abbrev vn:List (X×it):= [(.ret,⟨[(1, .cl (.int .i64)),(4, .cl (.int .i64))],[],[],0,27⟩),(.ext 0,⟨[(1, .cl (.int .i64)),(4, .cl (.dead))],[],[],0,27⟩)]
def Lh {ρ:Type} (v1:List eb) (v2:Int) (v3:Int) (fn: (((List eb)×Int×Int×Unit)×(Unit)×(Unit))->Option ρ) (fe: ((Int×Int×Unit)×(Unit)×(Unit))⊕((Int×Unit×Unit)×(Unit)×(Unit))->Option ρ):Option ρ:=
 br (decide (v3 < (v1.length:Int))) (eg (0<=v3) ((v1[v3.toNat]?).bind fun x4=>(qa x4 v2).bind fun y5=>br (decide (y5.1 < 0)) (fe (.inl ((y5.1,(-1),()),(()),(())))) (fn ((v1,y5.1,(IntKind.wrap .i64 (v3+1)),()),(()),(())))) none) (fe (.inr ((v2,(),()),(()),(()))))
abbrev F1 {ρ:Type} (s:lP.D) (fn:lP.D->Option ρ) (fe:eX.D vn->Option ρ):Option ρ:=Lh s.1.1 s.1.2.1 s.1.2.2.1 fn fe
def n0 (s:lP.D):Option (lP.D⊕eX.D vn):=F1 s (fun s=>some (.inl s)) (fun e=>some (.inr e))
def Hy:lP.D->Option (eX.D vn):=mw n0
theorem Wp {ρ:Type} (s:lP.D) (fn:_->Option ρ) (fe:_):F1 s fn fe=(n0 s).bind (Sum.elim fn fe):=by
 simp only [n0,F1,Lh,dZ,ea,an,ah,ae,aA,aB]
abbrev NU:fO:=fR [] [0,1,5] lP vn Hy
theorem TE (s:lP.D):iz Θ (ek Vz) (en []) zh (lP.mk' s) (fM [0,1,5] [1,4] fun x S=>some (x,S))=(n0 s).bind (Sum.elim (fun s'=>some (.nor,lP.mk' s')) fun e=>some (eX.e vn e)):=
 ak (by kernel_rfl) (Wp s _ _)
theorem TF:fk Tryz.prog zh NU:=eA eo Lg dT (by kernel_rfl) (fV (by kernel_rfl:_= []) dU) [] [0,1,5] [1,4] lP vn (by kernel_rfl) n0 TE Hy (ju n0) (ev n0)
def I2 {ρ:Type} (a0:List eb) (a1:Int) (k:Int×Unit->Option ρ):Option ρ:=
 br (decide ((IntKind.wrap .i64 (a1 - (a0.length:Int))) < 0)) (k ((-1),())) ((Hy ((a0,(IntKind.wrap .i64 (a1 - (a0.length:Int))),0,()),(()),(()))).bind fun e6=>Sum.elim (fun e6_=>k (e6_.1.2.1,())) (fun e6_=>k (e6_.1.1,())) e6)
def wN (a0:List eb) (a1:Int):=I2 a0 a1 some
theorem abz {ρ:Type} (a0 a1:_) (k:_->Option ρ):I2 a0 a1 k=(wN a0 a1).bind k:=by
 simp only [wN,I2,dZ,fU,ah,ae]
abbrev VA:eG:=eJ [.ty (.ls (.st .server)), .ty (.i .i64)] [.i .i64] fun x=>wN x.1 x.2.1
theorem ahI:eh Tryz.prog 42 VA:=
 dY (Λ:=en [(fC zh,NU)]) (fn:=Tryz.f42) eo Lg dT (by kernel_rfl) (ej (by kernel_rfl:_= [zh]) (eu (q:=fC zh) rfl TF fun _ _ _=>by kernel_rfl)) (by kernel_rfl) (fun x=>wN x.1 x.2.1)
  (fun x=>ak (by kernel_rfl) (abz x.1 x.2.1 _)) fun _ _ h=>h
abbrev VB:List (Nat×eG):= [(206,Pd)]
theorem Li:ef Tryz.prog (ek VB):=dS Y3 <| dX _
abbrev zi:Code:=fm (fo Tryz.f119) 0
abbrev lQ:it:=⟨[(0, .cl (.ro (.st .config))),(1, .cl (.int .i64)),(5, .cl (.int .i64))],[],[],0,27⟩
abbrev vo:List (X×it):= [(.ret,⟨[(1, .cl (.int .i64)),(4, .cl (.int .i64))],[],[],0,27⟩),(.ext 0,⟨[(1, .cl (.int .i64)),(4, .cl (.dead))],[],[],0,27⟩)]
def Lj {ρ:Type} (v1:List dW) (v2:Int) (v3:Int) (fn: (((List dW)×Int×Int×Unit)×(Unit)×(Unit))->Option ρ) (fe: ((Int×Int×Unit)×(Unit)×(Unit))⊕((Int×Unit×Unit)×(Unit)×(Unit))->Option ρ):Option ρ:=
 br (decide (v3 < (v1.length:Int))) (eg (0<=v3) ((v1[v3.toNat]?).bind fun x4=>(oV x4 v2).bind fun y5=>br (decide (y5.1 < 0)) (fe (.inl ((y5.1,(-1),()),(()),(())))) (fn ((v1,y5.1,(IntKind.wrap .i64 (v3+1)),()),(()),(())))) none) (fe (.inr ((v2,(),()),(()),(()))))
abbrev F2 {ρ:Type} (s:lQ.D) (fn:lQ.D->Option ρ) (fe:eX.D vo->Option ρ):Option ρ:=Lj s.1.1 s.1.2.1 s.1.2.2.1 fn fe
def n6 (s:lQ.D):Option (lQ.D⊕eX.D vo):=F2 s (fun s=>some (.inl s)) (fun e=>some (.inr e))
def Hz:lQ.D->Option (eX.D vo):=mw n6
theorem Wq {ρ:Type} (s:lQ.D) (fn:_->Option ρ) (fe:_):F2 s fn fe=(n6 s).bind (Sum.elim fn fe):=by
 simp only [n6,F2,Lj,dZ,ea,an,ah,ae,aA,aB]
abbrev NV:fO:=fR [] [0,1,5] lQ vo Hz
theorem TG (s:lQ.D):iz Θ (ek VB) (en []) zi (lQ.mk' s) (fM [0,1,5] [1,4] fun x S=>some (x,S))=(n6 s).bind (Sum.elim (fun s'=>some (.nor,lQ.mk' s')) fun e=>some (eX.e vo e)):=
 ak (by kernel_rfl) (Wq s _ _)
theorem TH:fk Tryz.prog zi NV:=eA eo Li dT (by kernel_rfl) (fV (by kernel_rfl:_= []) dU) [] [0,1,5] [1,4] lQ vo (by kernel_rfl) n6 TG Hz (ju n6) (ev n6)
def I3 {ρ:Type} (a0:List dW) (a1:Int) (k:Int×Unit->Option ρ):Option ρ:=
 br (decide ((IntKind.wrap .i64 (a1 - (a0.length:Int))) < 0)) (k ((-1),())) ((Hz ((a0,(IntKind.wrap .i64 (a1 - (a0.length:Int))),0,()),(()),(()))).bind fun e6=>Sum.elim (fun e6_=>k (e6_.1.2.1,())) (fun e6_=>k (e6_.1.1,())) e6)
def wO (a0:List dW) (a1:Int):=I3 a0 a1 some
theorem abA {ρ:Type} (a0 a1:_) (k:_->Option ρ):I3 a0 a1 k=(wO a0 a1).bind k:=by
 simp only [wO,I3,dZ,fU,ah,ae]
abbrev VD:eG:=eJ [.ty (.ls (.st .config)), .ty (.i .i64)] [.i .i64] fun x=>wO x.1 x.2.1
theorem ahJ:eh Tryz.prog 119 VD:=
 dY (Λ:=en [(fC zi,NV)]) (fn:=Tryz.f119) eo Li dT (by kernel_rfl) (ej (by kernel_rfl:_= [zi]) (eu (q:=fC zi) rfl TH fun _ _ _=>by kernel_rfl)) (by kernel_rfl) (fun x=>wO x.1 x.2.1)
  (fun x=>ak (by kernel_rfl) (abA x.1 x.2.1 _)) fun _ _ h=>h
abbrev abB:List (Nat×eG):= [(119,VD)]
theorem TJ:ef Tryz.prog (ek abB):=dS ahJ <| dX _
def wP {ρ:Type} (a0:ei) (a1:Int) (k:Int×Unit->Option ρ):Option ρ:=
 (wO a0.configs a1).bind fun y1=>br (decide (y1.1 < 0)) (k ((-1),())) (k (y1.1,()))
def n7 (a0:ei) (a1:Int):=wP a0 a1 some
theorem Wr {ρ:Type} (a0 a1:_) (k:_->Option ρ):wP a0 a1 k=(n7 a0 a1).bind k:=by
 simp only [n7,wP,dZ,ah,ae]
abbrev NW:eG:=eJ [.ty (.st .masterLog), .ty (.i .i64)] [.i .i64] fun x=>n7 x.1 x.2.1
theorem abC:eh Tryz.prog 44 NW:=
 dY (Λ:=en []) (fn:=Tryz.f44) eo TJ dT (by kernel_rfl) (ej (by kernel_rfl:_= []) dU) (by kernel_rfl) (fun x=>n7 x.1 x.2.1)
  (fun x=>ak (by kernel_rfl) (Wr x.1 x.2.1 _)) fun _ _ h=>h
abbrev ajO:List (Nat×eG):= []
theorem abD:ef Tryz.prog (ek ajO):=dX _
def Lk {ρ:Type} (a0:List ey) (a1:Int) (k:Int×Unit->Option ρ):Option ρ:=
 br (decide ((IntKind.wrap .i64 (a1 - (a0.length:Int))) < 0)) (k ((-1),())) (k ((IntKind.wrap .i64 (a1 - (a0.length:Int))),()))
def AL (a0:List ey) (a1:Int):=Lk a0 a1 some
theorem aeP {ρ:Type} (a0 a1:_) (k:_->Option ρ):Lk a0 a1 k=(AL a0 a1).bind k:=by
 simp only [AL,Lk,dZ,ae]
abbrev Y6:eG:=eJ [.ty (.ls (.st .place)), .ty (.i .i64)] [.i .i64] fun x=>AL x.1 x.2.1
theorem ajP:eh Tryz.prog 45 Y6:=
 dY (Λ:=en []) (fn:=Tryz.f45) eo abD dT (by kernel_rfl) (ej (by kernel_rfl:_= []) dU) (by kernel_rfl) (fun x=>AL x.1 x.2.1)
  (fun x=>ak (by kernel_rfl) (aeP x.1 x.2.1 _)) fun _ _ h=>h
abbrev ahK:List (Nat×eG):= [(42,VA),(43,Y2),(44,NW),(45,Y6)]
theorem Y7:ef Tryz.prog (ek ahK):=dS ahI <| dS ahH <| dS abC <| dS ajP <| dX _
def BI {ρ:Type} (a0:dV) (a1:Int) (k:Int×Unit->Option ρ):Option ρ:=
 (wN a0.servers a1).bind fun y1=>br (decide (y1.1 < 0)) (k ((-1),())) ((BH a0.sides y1.1).bind fun y2=>br (decide (y2.1 < 0)) (k ((-1),())) ((n7 a0.master y2.1).bind fun y3=>br (decide (y3.1 < 0)) (k ((-1),())) ((AL a0.places y3.1).bind fun y4=>br (decide (y4.1 < 0)) (k ((-1),())) (k (y4.1,())))))
def pn (a0:dV) (a1:Int):=BI a0 a1 some
theorem abE {ρ:Type} (a0 a1:_) (k:_->Option ρ):BI a0 a1 k=(pn a0 a1).bind k:=by
 simp only [pn,BI,dZ,ah,ae]
abbrev VE:eG:=eJ [.ty (.st .cluster), .ty (.i .i64)] [.i .i64] fun x=>pn x.1 x.2.1
theorem ahL:eh Tryz.prog 12 VE:=
 dY (Λ:=en []) (fn:=Tryz.f12) eo Y7 dT (by kernel_rfl) (ej (by kernel_rfl:_= []) dU) (by kernel_rfl) (fun x=>pn x.1 x.2.1)
  (fun x=>ak (by kernel_rfl) (abE x.1 x.2.1 _)) fun _ _ h=>h
abbrev ahM:List (Nat×eG):= []
theorem VF:ef Tryz.prog (ek ahM):=dX _
abbrev F3:Code:=fm (fo Tryz.f53) 0
abbrev qb:it:=⟨[(0, .cl (.ro (.i .i64))),(3, .cl (.own 0 (.i .i64))),(4, .cl (.int .i64))],[],[.i .i64],0,22⟩
abbrev Db:List (X×it):= [(.ext 0,⟨[(3, .cl (.own 0 (.i .i64)))],[],[.i .i64],0,22⟩)]
def VG {ρ:Type} (v1:List Int) (v2:List Int) (v3:Int) (fn: (((List Int)×Unit×Int×Unit)×(Unit)×((List Int)×Unit))->Option ρ) (fe: ((Unit×Unit)×(Unit)×((List Int)×Unit))->Option ρ):Option ρ:=
 br (decide (v3 < (v2.length:Int))) (eg (0<=v3) ((v2[v3.toNat]?).bind fun x4=>eg (0<=v3/\v3 < (v1.length:Int)) ((v1[v3.toNat]?).bind fun _=>fn ((v2,(),(IntKind.wrap .i64 (v3+1)),()),(()),((v1.set v3.toNat x4),()))) none) none) (fe (((),()),(()),(v1,())))
abbrev Ll {ρ:Type} (s:qb.D) (fn:qb.D->Option ρ) (fe:eX.D Db->Option ρ):Option ρ:=VG s.2.2.1 s.1.1 s.1.2.2.1 fn fe
def wQ (s:qb.D):Option (qb.D⊕eX.D Db):=Ll s (fun s=>some (.inl s)) (fun e=>some (.inr e))
def Pe:qb.D->Option (eX.D Db):=mw wQ
theorem aeQ {ρ:Type} (s:qb.D) (fn:_->Option ρ) (fe:_):Ll s fn fe=(wQ s).bind (Sum.elim fn fe):=by
 simp only [wQ,Ll,VG,dZ,ea,an,ah,ae,aA,aB]
abbrev Y8:fO:=fR [] [0,3,4] qb Db Pe
theorem abF (s:qb.D):iz Θ (ek ahM) (en []) F3 (qb.mk' s) (fM [0,3,4] [3] fun x S=>some (x,S))=(wQ s).bind (Sum.elim (fun s'=>some (.nor,qb.mk' s')) fun e=>some (eX.e Db e)):=
 ak (by kernel_rfl) (aeQ s _ _)
theorem abG:fk Tryz.prog F3 Y8:=eA eo VF dT (by kernel_rfl) (fV (by kernel_rfl:_= []) dU) [] [0,3,4] [3] qb Db (by kernel_rfl) wQ abF Pe (ju wQ) (ev wQ)
def TK {ρ:Type} (a0:List Int) (k: (List Int)×Unit->Option ρ):Option ρ:=
 eg (0<=(a0.length:Int)/\(a0.length:Int)=(a0.length:Int)/\(a0.length:Int)*((8:Nat):Int)<=2 ^ 40) ((Pe ((a0,(),0,()),(()),((List.replicate (a0.length:Int).toNat (0:Int)),()))).bind fun e7=>k (e7.2.2.1,())) none
def BJ (a0:List Int):=TK a0 some
theorem ajQ {ρ:Type} (a0:_) (k:_->Option ρ):TK a0 k=(BJ a0).bind k:=by
 simp only [BJ,TK,ea,an,ah,ae]
abbrev Y9:eG:=eJ [.ty (.ls (.i .i64))] [.ls (.i .i64)] fun x=>BJ x.1
theorem ahN:eh Tryz.prog 53 Y9:=
 dY (Λ:=en [(fC F3,Y8)]) (fn:=Tryz.f53) eo VF dT (by kernel_rfl) (ej (by kernel_rfl:_= [F3]) (eu (q:=fC F3) rfl abG fun _ _ _=>by kernel_rfl)) (by kernel_rfl) (fun x=>BJ x.1)
  (fun x=>ak (by kernel_rfl) (ajQ x.1 _)) fun _ _ h=>h
abbrev ajR:List (Nat×eG):= [(53,Y9)]
theorem abH:ef Tryz.prog (ek ajR):=dS ahN <| dX _
def GJ {ρ:Type} (a0:dW) (k:dW×Unit->Option ρ):Option ρ:=
 (BJ a0.replicas).bind fun y1=>(BJ a0.witnesses).bind fun y2=>k ((⟨a0.epoch,a0.primary,y1.1,y2.1⟩:dW),())
def uh (a0:dW):=GJ a0 some
theorem aeR {ρ:Type} (a0:_) (k:_->Option ρ):GJ a0 k=(uh a0).bind k:=by
 simp only [uh,GJ,ah,ae]
abbrev Pf:eG:=eJ [.ty (.st .config)] [.st .config] fun x=>uh x.1
theorem Za:eh Tryz.prog 208 Pf:=
 dY (Λ:=en []) (fn:=Tryz.f208) eo abH dT (by kernel_rfl) (ej (by kernel_rfl:_= []) dU) (by kernel_rfl) (fun x=>uh x.1)
  (fun x=>ak (by kernel_rfl) (aeR x.1 _)) fun _ _ h=>h
abbrev arD:List (Nat×eG):= []
theorem ame:ef Tryz.prog (ek arD):=dX _
def aeS {ρ:Type} (a0:Op) (k:Op×Unit->Option ρ):Option ρ:=
 k (a0,())
def Zb (a0:Op):=aeS a0 some
theorem aoz {ρ:Type} (a0:_) (k:_->Option ρ):aeS a0 k=(Zb a0).bind k:=by
 simp only [Zb,aeS,ae]
abbrev aoA:eG:=eJ [.ty (.st .op)] [.st .op] fun x=>Zb x.1
theorem arE:eh Tryz.prog 40 aoA:=
 dY (Λ:=en []) (fn:=Tryz.f40) eo ame dT (by kernel_rfl) (ej (by kernel_rfl:_= []) dU) (by kernel_rfl) (fun x=>Zb x.1)
  (fun x=>ak (by kernel_rfl) (aoz x.1 _)) fun _ _ h=>h
abbrev amf:List (Nat×eG):= [(40,aoA)]
theorem aeT:ef Tryz.prog (ek amf):=dS arE <| dX _
def Pg {ρ:Type} (a0:ed) (k:ed×Unit->Option ρ):Option ρ:=
 (Zb a0.op).bind fun y1=>k ((⟨a0.epoch,y1.1⟩:ed),())
def FF (a0:ed):=Pg a0 some
theorem ahO {ρ:Type} (a0:_) (k:_->Option ρ):Pg a0 k=(FF a0).bind k:=by
 simp only [FF,Pg,ah,ae]
abbrev adD:eG:=eJ [.ty (.st .entry)] [.st .entry] fun x=>FF x.1
theorem amg:eh Tryz.prog 265 adD:=
 dY (Λ:=en []) (fn:=Tryz.f265) eo aeT dT (by kernel_rfl) (ej (by kernel_rfl:_= []) dU) (by kernel_rfl) (fun x=>FF x.1)
  (fun x=>ak (by kernel_rfl) (ahO x.1 _)) fun _ _ h=>h
abbrev Zc:List (Nat×eG):= [(265,adD)]
theorem NX:ef Tryz.prog (ek Zc):=dS amg <| dX _
abbrev BK:Code:=fm (fo Tryz.f209) 0
abbrev mW:it:=⟨[(0, .cl (.ro (.st .entry))),(3, .cl (.own 0 (.st .entry))),(4, .cl (.int .i64))],[],[.st .entry],0,23⟩
abbrev xZ:List (X×it):= [(.ext 0,⟨[(3, .cl (.own 0 (.st .entry)))],[],[.st .entry],0,23⟩)]
def NY {ρ:Type} (v1:List ed) (v2:List ed) (v3:Int) (fn: (((List ed)×Unit×Int×Unit)×(Unit)×((List ed)×Unit))->Option ρ) (fe: ((Unit×Unit)×(Unit)×((List ed)×Unit))->Option ρ):Option ρ:=
 br (decide (v3 < (v2.length:Int))) (eg (0<=v3) ((v2[v3.toNat]?).bind fun x4=>(FF x4).bind fun y5=>eg (0<=v3/\v3 < (v1.length:Int)) ((v1[v3.toNat]?).bind fun _=>fn ((v2,(),(IntKind.wrap .i64 (v3+1)),()),(()),((v1.set v3.toNat y5.1),()))) none) none) (fe (((),()),(()),(v1,())))
abbrev HA {ρ:Type} (s:mW.D) (fn:mW.D->Option ρ) (fe:eX.D xZ->Option ρ):Option ρ:=NY s.2.2.1 s.1.1 s.1.2.2.1 fn fe
def rf (s:mW.D):Option (mW.D⊕eX.D xZ):=HA s (fun s=>some (.inl s)) (fun e=>some (.inr e))
def I4:mW.D->Option (eX.D xZ):=mw rf
theorem Zd {ρ:Type} (s:mW.D) (fn:_->Option ρ) (fe:_):HA s fn fe=(rf s).bind (Sum.elim fn fe):=by
 simp only [rf,HA,NY,dZ,ea,an,ah,ae,aA,aB]
abbrev QL:fO:=fR [] [0,3,4] mW xZ I4
theorem Ws (s:mW.D):iz Θ (ek Zc) (en []) BK (mW.mk' s) (fM [0,3,4] [3] fun x S=>some (x,S))=(rf s).bind (Sum.elim (fun s'=>some (.nor,mW.mk' s')) fun e=>some (eX.e xZ e)):=
 ak (by kernel_rfl) (Zd s _ _)
theorem Wt:fk Tryz.prog BK QL:=eA eo NX dT (by kernel_rfl) (fV (by kernel_rfl:_= []) dU) [] [0,3,4] [3] mW xZ (by kernel_rfl) rf Ws I4 (ju rf) (ev rf)
def Lm {ρ:Type} (a0:List ed) (k: (List ed)×Unit->Option ρ):Option ρ:=
 eg (0<=(a0.length:Int)/\(a0.length:Int)=(a0.length:Int)/\(a0.length:Int)*((56:Nat):Int)<=2 ^ 40) ((I4 ((a0,(),0,()),(()),((List.replicate (a0.length:Int).toNat (⟨0,(⟨0,0,0,0,0,0⟩:Op)⟩:ed)),()))).bind fun e8=>k (e8.2.2.1,())) none
def wR (a0:List ed):=Lm a0 some
theorem aeU {ρ:Type} (a0:_) (k:_->Option ρ):Lm a0 k=(wR a0).bind k:=by
 simp only [wR,Lm,ea,an,ah,ae]
abbrev Ze:eG:=eJ [.ty (.ls (.st .entry))] [.ls (.st .entry)] fun x=>wR x.1
theorem ajS:eh Tryz.prog 209 Ze:=
 dY (Λ:=en [(fC BK,QL)]) (fn:=Tryz.f209) eo NX dT (by kernel_rfl) (ej (by kernel_rfl:_= [BK]) (eu (q:=fC BK) rfl Wt fun _ _ _=>by kernel_rfl)) (by kernel_rfl) (fun x=>wR x.1)
  (fun x=>ak (by kernel_rfl) (aeU x.1 _)) fun _ _ h=>h
abbrev ajT:List (Nat×eG):= [(208,Pf),(209,Ze)]
theorem abI:ef Tryz.prog (ek ajT):=dS Za <| dS ajS <| dX _
def GK {ρ:Type} (a0:eb) (k:eb×Unit->Option ρ):Option ρ:=
 (uh a0.config).bind fun y1=>(wR a0.log).bind fun y2=>(wR a0.learned).bind fun y3=>k ((⟨a0.up,a0.intact,a0.version,a0.epoch,y1.1,a0.first,y2.1,a0.commit,y3.1⟩:eb),())
def wS (a0:eb):=GK a0 some
theorem aeV {ρ:Type} (a0:_) (k:_->Option ρ):GK a0 k=(wS a0).bind k:=by
 simp only [wS,GK,ah,ae]
abbrev Zf:eG:=eJ [.ty (.st .server)] [.st .server] fun x=>wS x.1
theorem ajU:eh Tryz.prog 132 Zf:=
 dY (Λ:=en []) (fn:=Tryz.f132) eo abI dT (by kernel_rfl) (ej (by kernel_rfl:_= []) dU) (by kernel_rfl) (fun x=>wS x.1)
  (fun x=>ak (by kernel_rfl) (aeV x.1 _)) fun _ _ h=>h
abbrev VH:List (Nat×eG):= [(132,Zf)]
theorem Ln:ef Tryz.prog (ek VH):=dS ajU <| dX _
abbrev zj:Code:=fm (fo Tryz.f52) 0
abbrev lR:it:=⟨[(0, .cl (.ro (.st .server))),(3, .cl (.own 0 (.st .server))),(4, .cl (.int .i64))],[],[.st .server],0,23⟩
abbrev vp:List (X×it):= [(.ext 0,⟨[(3, .cl (.own 0 (.st .server)))],[],[.st .server],0,23⟩)]
def Lo {ρ:Type} (v1:List eb) (v2:List eb) (v3:Int) (fn: (((List eb)×Unit×Int×Unit)×(Unit)×((List eb)×Unit))->Option ρ) (fe: ((Unit×Unit)×(Unit)×((List eb)×Unit))->Option ρ):Option ρ:=
 br (decide (v3 < (v2.length:Int))) (eg (0<=v3) ((v2[v3.toNat]?).bind fun x4=>(wS x4).bind fun y5=>eg (0<=v3/\v3 < (v1.length:Int)) ((v1[v3.toNat]?).bind fun _=>fn ((v2,(),(IntKind.wrap .i64 (v3+1)),()),(()),((v1.set v3.toNat y5.1),()))) none) none) (fe (((),()),(()),(v1,())))
abbrev F4 {ρ:Type} (s:lR.D) (fn:lR.D->Option ρ) (fe:eX.D vp->Option ρ):Option ρ:=Lo s.2.2.1 s.1.1 s.1.2.2.1 fn fe
def po (s:lR.D):Option (lR.D⊕eX.D vp):=F4 s (fun s=>some (.inl s)) (fun e=>some (.inr e))
def HB:lR.D->Option (eX.D vp):=mw po
theorem Wu {ρ:Type} (s:lR.D) (fn:_->Option ρ) (fe:_):F4 s fn fe=(po s).bind (Sum.elim fn fe):=by
 simp only [po,F4,Lo,dZ,ea,an,ah,ae,aA,aB]
abbrev NZ:fO:=fR [] [0,3,4] lR vp HB
theorem TL (s:lR.D):iz Θ (ek VH) (en []) zj (lR.mk' s) (fM [0,3,4] [3] fun x S=>some (x,S))=(po s).bind (Sum.elim (fun s'=>some (.nor,lR.mk' s')) fun e=>some (eX.e vp e)):=
 ak (by kernel_rfl) (Wu s _ _)
theorem TM:fk Tryz.prog zj NZ:=eA eo Ln dT (by kernel_rfl) (fV (by kernel_rfl:_= []) dU) [] [0,3,4] [3] lR vp (by kernel_rfl) po TL HB (ju po) (ev po)
def I5 {ρ:Type} (a0:List eb) (k: (List eb)×Unit->Option ρ):Option ρ:=
 eg (0<=(a0.length:Int)/\(a0.length:Int)=(a0.length:Int)/\(a0.length:Int)*((152:Nat):Int)<=2 ^ 40) ((HB ((a0,(),0,()),(()),((List.replicate (a0.length:Int).toNat (⟨false,false,0,0,(⟨0,0,([]:List Int),([]:List Int)⟩:dW),0,([]:List ed),0,([]:List ed)⟩:eb)),()))).bind fun e8=>k (e8.2.2.1,())) none
def wT (a0:List eb):=I5 a0 some
theorem abJ {ρ:Type} (a0:_) (k:_->Option ρ):I5 a0 k=(wT a0).bind k:=by
 simp only [wT,I5,ea,an,ah,ae]
abbrev VI:eG:=eJ [.ty (.ls (.st .server))] [.ls (.st .server)] fun x=>wT x.1
theorem ahP:eh Tryz.prog 52 VI:=
 dY (Λ:=en [(fC zj,NZ)]) (fn:=Tryz.f52) eo Ln dT (by kernel_rfl) (ej (by kernel_rfl:_= [zj]) (eu (q:=fC zj) rfl TM fun _ _ _=>by kernel_rfl)) (by kernel_rfl) (fun x=>wT x.1)
  (fun x=>ak (by kernel_rfl) (abJ x.1 _)) fun _ _ h=>h
abbrev VJ:List (Nat×eG):= [(208,Pf)]
theorem Lp:ef Tryz.prog (ek VJ):=dS Za <| dX _
abbrev zk:Code:=fm (fo Tryz.f133) 0
abbrev lS:it:=⟨[(0, .cl (.ro (.st .config))),(3, .cl (.own 0 (.st .config))),(4, .cl (.int .i64))],[],[.st .config],0,23⟩
abbrev vq:List (X×it):= [(.ext 0,⟨[(3, .cl (.own 0 (.st .config)))],[],[.st .config],0,23⟩)]
def Lq {ρ:Type} (v1:List dW) (v2:List dW) (v3:Int) (fn: (((List dW)×Unit×Int×Unit)×(Unit)×((List dW)×Unit))->Option ρ) (fe: ((Unit×Unit)×(Unit)×((List dW)×Unit))->Option ρ):Option ρ:=
 br (decide (v3 < (v2.length:Int))) (eg (0<=v3) ((v2[v3.toNat]?).bind fun x4=>(uh x4).bind fun y5=>eg (0<=v3/\v3 < (v1.length:Int)) ((v1[v3.toNat]?).bind fun _=>fn ((v2,(),(IntKind.wrap .i64 (v3+1)),()),(()),((v1.set v3.toNat y5.1),()))) none) none) (fe (((),()),(()),(v1,())))
abbrev F5 {ρ:Type} (s:lS.D) (fn:lS.D->Option ρ) (fe:eX.D vq->Option ρ):Option ρ:=Lq s.2.2.1 s.1.1 s.1.2.2.1 fn fe
def pp (s:lS.D):Option (lS.D⊕eX.D vq):=F5 s (fun s=>some (.inl s)) (fun e=>some (.inr e))
def HC:lS.D->Option (eX.D vq):=mw pp
theorem Wv {ρ:Type} (s:lS.D) (fn:_->Option ρ) (fe:_):F5 s fn fe=(pp s).bind (Sum.elim fn fe):=by
 simp only [pp,F5,Lq,dZ,ea,an,ah,ae,aA,aB]
abbrev N0:fO:=fR [] [0,3,4] lS vq HC
theorem TN (s:lS.D):iz Θ (ek VJ) (en []) zk (lS.mk' s) (fM [0,3,4] [3] fun x S=>some (x,S))=(pp s).bind (Sum.elim (fun s'=>some (.nor,lS.mk' s')) fun e=>some (eX.e vq e)):=
 ak (by kernel_rfl) (Wv s _ _)
theorem TO:fk Tryz.prog zk N0:=eA eo Lp dT (by kernel_rfl) (fV (by kernel_rfl:_= []) dU) [] [0,3,4] [3] lS vq (by kernel_rfl) pp TN HC (ju pp) (ev pp)
def I6 {ρ:Type} (a0:List dW) (k: (List dW)×Unit->Option ρ):Option ρ:=
 eg (0<=(a0.length:Int)/\(a0.length:Int)=(a0.length:Int)/\(a0.length:Int)*((64:Nat):Int)<=2 ^ 40) ((HC ((a0,(),0,()),(()),((List.replicate (a0.length:Int).toNat (⟨0,0,([]:List Int),([]:List Int)⟩:dW)),()))).bind fun e8=>k (e8.2.2.1,())) none
def wU (a0:List dW):=I6 a0 some
theorem abK {ρ:Type} (a0:_) (k:_->Option ρ):I6 a0 k=(wU a0).bind k:=by
 simp only [wU,I6,ea,an,ah,ae]
abbrev VK:eG:=eJ [.ty (.ls (.st .config))] [.ls (.st .config)] fun x=>wU x.1
theorem ahQ:eh Tryz.prog 133 VK:=
 dY (Λ:=en [(fC zk,N0)]) (fn:=Tryz.f133) eo Lp dT (by kernel_rfl) (ej (by kernel_rfl:_= [zk]) (eu (q:=fC zk) rfl TO fun _ _ _=>by kernel_rfl)) (by kernel_rfl) (fun x=>wU x.1)
  (fun x=>ak (by kernel_rfl) (abK x.1 _)) fun _ _ h=>h
abbrev abL:List (Nat×eG):= [(133,VK)]
theorem TP:ef Tryz.prog (ek abL):=dS ahQ <| dX _
def BL {ρ:Type} (a0:ei) (k:ei×Unit->Option ρ):Option ρ:=
 (wU a0.configs).bind fun y1=>k ((⟨y1.1,a0.activated⟩:ei),())
def rV (a0:ei):=BL a0 some
theorem Ww {ρ:Type} (a0:_) (k:_->Option ρ):BL a0 k=(rV a0).bind k:=by
 simp only [rV,BL,ah,ae]
abbrev N1:eG:=eJ [.ty (.st .masterLog)] [.st .masterLog] fun x=>rV x.1
theorem abM:eh Tryz.prog 54 N1:=
 dY (Λ:=en []) (fn:=Tryz.f54) eo TP dT (by kernel_rfl) (ej (by kernel_rfl:_= []) dU) (by kernel_rfl) (fun x=>rV x.1)
  (fun x=>ak (by kernel_rfl) (Ww x.1 _)) fun _ _ h=>h
abbrev amh:List (Nat×eG):= []
theorem aeW:ef Tryz.prog (ek amh):=dX _
def Ph {ρ:Type} (a0:ir) (k:ir×Unit->Option ρ):Option ρ:=
 k (a0,())
def FG (a0:ir):=Ph a0 some
theorem ahR {ρ:Type} (a0:_) (k:_->Option ρ):Ph a0 k=(FG a0).bind k:=by
 simp only [FG,Ph,ae]
abbrev adE:eG:=eJ [.ty (.st .lease)] [.st .lease] fun x=>FG x.1
theorem ami:eh Tryz.prog 55 adE:=
 dY (Λ:=en []) (fn:=Tryz.f55) eo aeW dT (by kernel_rfl) (ej (by kernel_rfl:_= []) dU) (by kernel_rfl) (fun x=>FG x.1)
  (fun x=>ak (by kernel_rfl) (ahR x.1 _)) fun _ _ h=>h
abbrev amj:List (Nat×eG):= []
theorem aeX:ef Tryz.prog (ek amj):=dX _
def Pi {ρ:Type} (a0:ey) (k:ey×Unit->Option ρ):Option ρ:=
 k (a0,())
def FH (a0:ey):=Pi a0 some
theorem ahS {ρ:Type} (a0:_) (k:_->Option ρ):Pi a0 k=(FH a0).bind k:=by
 simp only [FH,Pi,ae]
abbrev adF:eG:=eJ [.ty (.st .place)] [.st .place] fun x=>FH x.1
theorem amk:eh Tryz.prog 134 adF:=
 dY (Λ:=en []) (fn:=Tryz.f134) eo aeX dT (by kernel_rfl) (ej (by kernel_rfl:_= []) dU) (by kernel_rfl) (fun x=>FH x.1)
  (fun x=>ak (by kernel_rfl) (ahS x.1 _)) fun _ _ h=>h
abbrev Zg:List (Nat×eG):= [(134,adF)]
theorem N2:ef Tryz.prog (ek Zg):=dS amk <| dX _
abbrev BM:Code:=fm (fo Tryz.f56) 0
abbrev mX:it:=⟨[(0, .cl (.ro (.st .place))),(3, .cl (.own 0 (.st .place))),(4, .cl (.int .i64))],[],[.st .place],0,23⟩
abbrev x0:List (X×it):= [(.ext 0,⟨[(3, .cl (.own 0 (.st .place)))],[],[.st .place],0,23⟩)]
def N3 {ρ:Type} (v1:List ey) (v2:List ey) (v3:Int) (fn: (((List ey)×Unit×Int×Unit)×(Unit)×((List ey)×Unit))->Option ρ) (fe: ((Unit×Unit)×(Unit)×((List ey)×Unit))->Option ρ):Option ρ:=
 br (decide (v3 < (v2.length:Int))) (eg (0<=v3) ((v2[v3.toNat]?).bind fun x4=>(FH x4).bind fun y5=>eg (0<=v3/\v3 < (v1.length:Int)) ((v1[v3.toNat]?).bind fun _=>fn ((v2,(),(IntKind.wrap .i64 (v3+1)),()),(()),((v1.set v3.toNat y5.1),()))) none) none) (fe (((),()),(()),(v1,())))
abbrev HD {ρ:Type} (s:mX.D) (fn:mX.D->Option ρ) (fe:eX.D x0->Option ρ):Option ρ:=N3 s.2.2.1 s.1.1 s.1.2.2.1 fn fe
def rg (s:mX.D):Option (mX.D⊕eX.D x0):=HD s (fun s=>some (.inl s)) (fun e=>some (.inr e))
def I7:mX.D->Option (eX.D x0):=mw rg
theorem Zh {ρ:Type} (s:mX.D) (fn:_->Option ρ) (fe:_):HD s fn fe=(rg s).bind (Sum.elim fn fe):=by
 simp only [rg,HD,N3,dZ,ea,an,ah,ae,aA,aB]
abbrev QM:fO:=fR [] [0,3,4] mX x0 I7
theorem Wx (s:mX.D):iz Θ (ek Zg) (en []) BM (mX.mk' s) (fM [0,3,4] [3] fun x S=>some (x,S))=(rg s).bind (Sum.elim (fun s'=>some (.nor,mX.mk' s')) fun e=>some (eX.e x0 e)):=
 ak (by kernel_rfl) (Zh s _ _)
theorem Wy:fk Tryz.prog BM QM:=eA eo N2 dT (by kernel_rfl) (fV (by kernel_rfl:_= []) dU) [] [0,3,4] [3] mX x0 (by kernel_rfl) rg Wx I7 (ju rg) (ev rg)
def Lr {ρ:Type} (a0:List ey) (k: (List ey)×Unit->Option ρ):Option ρ:=
 eg (0<=(a0.length:Int)/\(a0.length:Int)=(a0.length:Int)/\(a0.length:Int)*((24:Nat):Int)<=2 ^ 40) ((I7 ((a0,(),0,()),(()),((List.replicate (a0.length:Int).toNat (⟨0,0,0⟩:ey)),()))).bind fun e8=>k (e8.2.2.1,())) none
def AM (a0:List ey):=Lr a0 some
theorem aeY {ρ:Type} (a0:_) (k:_->Option ρ):Lr a0 k=(AM a0).bind k:=by
 simp only [AM,Lr,ea,an,ah,ae]
abbrev Zi:eG:=eJ [.ty (.ls (.st .place))] [.ls (.st .place)] fun x=>AM x.1
theorem ajV:eh Tryz.prog 56 Zi:=
 dY (Λ:=en [(fC BM,QM)]) (fn:=Tryz.f56) eo N2 dT (by kernel_rfl) (ej (by kernel_rfl:_= [BM]) (eu (q:=fC BM) rfl Wy fun _ _ _=>by kernel_rfl)) (by kernel_rfl) (fun x=>AM x.1)
  (fun x=>ak (by kernel_rfl) (aeY x.1 _)) fun _ _ h=>h
abbrev ahT:List (Nat×eG):= [(52,VI),(53,Y9),(54,N1),(55,adE),(56,Zi)]
theorem Zj:ef Tryz.prog (ek ahT):=dS ahP <| dS ahN <| dS abM <| dS ami <| dS ajV <| dX _
def E5 {ρ:Type} (a0:dV) (k:dV×Unit->Option ρ):Option ρ:=
 (wT a0.servers).bind fun y1=>(BJ a0.sides).bind fun y2=>(rV a0.master).bind fun y3=>(FG a0.lease).bind fun y4=>(AM a0.places).bind fun y5=>k ((⟨a0.now,y1.1,y2.1,y3.1,a0.masterUp,y4.1,y5.1⟩:dV),())
def rh (a0:dV):=E5 a0 some
theorem abN {ρ:Type} (a0:_) (k:_->Option ρ):E5 a0 k=(rh a0).bind k:=by
 simp only [rh,E5,ah,ae]
abbrev VL:eG:=eJ [.ty (.st .cluster)] [.st .cluster] fun x=>rh x.1
theorem ahU:eh Tryz.prog 14 VL:=
 dY (Λ:=en []) (fn:=Tryz.f14) eo Zj dT (by kernel_rfl) (ej (by kernel_rfl:_= []) dU) (by kernel_rfl) (fun x=>rh x.1)
  (fun x=>ak (by kernel_rfl) (abN x.1 _)) fun _ _ h=>h
abbrev aoB:List (Nat×eG):= []
theorem ahV:ef Tryz.prog (ek aoB):=dX _
def FI {ρ:Type} (a0:dW) (k:dW×Unit->Option ρ):Option ρ:=
 eg ((([]:List Int)++a0.replicas).length*8<=2 ^ 40) (eg ((([]:List Int)++a0.witnesses).length*8<=2 ^ 40) (k ((⟨a0.epoch,a0.primary,(([]:List Int)++a0.replicas),(([]:List Int)++a0.witnesses)⟩:dW),())) none) none
def o9 (a0:dW):=FI a0 some
theorem ajW {ρ:Type} (a0:_) (k:_->Option ρ):FI a0 k=(o9 a0).bind k:=by
 simp only [o9,FI,ea,an,ae]
abbrev H5:eG:=eJ [.ty (.st .config)] [.st .config] fun x=>o9 x.1
theorem Ls:eh Tryz.prog 170 H5:=
 dY (Λ:=en []) (fn:=Tryz.f170) eo ahV dT (by kernel_rfl) (ej (by kernel_rfl:_= []) dU) (by kernel_rfl) (fun x=>o9 x.1)
  (fun x=>ak (by kernel_rfl) (ajW x.1 _)) fun _ _ h=>h
abbrev aoC:List (Nat×eG):= []
theorem ahW:ef Tryz.prog (ek aoC):=dX _
def FJ {ρ:Type} (a0:List ed) (k: (List ed)×Unit->Option ρ):Option ρ:=
 eg ((([]:List ed)++a0).length*56<=2 ^ 40) (k ((([]:List ed)++a0),())) none
def mY (a0:List ed):=FJ a0 some
theorem ajX {ρ:Type} (a0:_) (k:_->Option ρ):FJ a0 k=(mY a0).bind k:=by
 simp only [mY,FJ,ea,an,ae]
abbrev F6:eG:=eJ [.ty (.ls (.st .entry))] [.ls (.st .entry)] fun x=>mY x.1
theorem H6:eh Tryz.prog 79 F6:=
 dY (Λ:=en []) (fn:=Tryz.f79) eo ahW dT (by kernel_rfl) (ej (by kernel_rfl:_= []) dU) (by kernel_rfl) (fun x=>mY x.1)
  (fun x=>ak (by kernel_rfl) (ajX x.1 _)) fun _ _ h=>h
abbrev aml:List (Nat×eG):= [(170,H5),(79,F6)]
theorem aeZ:ef Tryz.prog (ek aml):=dS Ls <| dS H6 <| dX _
def I8 {ρ:Type} (a0:eb) (k:eb×Unit->Option ρ):Option ρ:=
 (o9 a0.config).bind fun y1=>(mY a0.log).bind fun y2=>(mY a0.learned).bind fun y3=>k ((⟨a0.up,a0.intact,a0.version,a0.epoch,y1.1,a0.first,y2.1,a0.commit,y3.1⟩:eb),())
def oJ (a0:eb):=I8 a0 some
theorem ahX {ρ:Type} (a0:_) (k:_->Option ρ):I8 a0 k=(oJ a0).bind k:=by
 simp only [oJ,I8,ah,ae]
abbrev M6:eG:=eJ [.ty (.st .server)] [.st .server] fun x=>oJ x.1
theorem TQ:eh Tryz.prog 154 M6:=
 dY (Λ:=en []) (fn:=Tryz.f154) eo aeZ dT (by kernel_rfl) (ej (by kernel_rfl:_= []) dU) (by kernel_rfl) (fun x=>oJ x.1)
  (fun x=>ak (by kernel_rfl) (ahX x.1 _)) fun _ _ h=>h
abbrev adG:List (Nat×eG):= [(170,H5)]
theorem QN:ef Tryz.prog (ek adG):=dS Ls <| dX _
abbrev D8:Code:=fm (fo Tryz.f155) 0
abbrev oe:it:=⟨[(1, .cl (.ptr 0 0)),(2, .cl (.ptr 1 0)),(3, .cl (.ptr 2 0)),(4, .cl (.int .i64))],[[.ro (.st .config), .int .i64],[.em, .int .i64],[.own 0 (.st .config), .int .i64]],[.st .config],0,29⟩
abbrev Bi:List (X×it):= [(.ext 0,⟨[(2, .cl (.ptr 0 0)),(3, .cl (.ptr 1 0))],[[.em, .int .i64],[.own 0 (.st .config), .int .i64]],[.st .config],0,29⟩)]
def E6 {ρ:Type} (v8:List dW) (v9:Int) (v10:List dW) (v11:Int) (v12:Int) (v13:Int) (fn: ((Unit×Unit×Unit×Int×Unit)×(((List dW)×Int×Unit)×(Unit×Int×Unit)×(Unit×Int×Unit)×Unit)×((List dW)×Unit))->Option ρ) (fe: ((Unit×Unit×Unit)×((Unit×Int×Unit)×(Unit×Int×Unit)×Unit)×((List dW)×Unit))->Option ρ):Option ρ:=
 br (decide (v9 < (v10.length:Int))) (eg (0<=v9) ((v10[v9.toNat]?).bind fun x14=>(o9 x14).bind fun y15=>eg ((v8++([y15.1]:List dW)).length*64<=2 ^ 40) (fn (((),(),(),(IntKind.wrap .i64 (v9+1)),()),((v10,v11,()),((),v12,()),((),v13,()),()),((v8++([y15.1]:List dW)),()))) none) none) (fe (((),(),()),(((),v12,()),((),v13,()),()),(v8,())))
abbrev BN {ρ:Type} (s:oe.D) (fn:oe.D->Option ρ) (fe:eX.D Bi->Option ρ):Option ρ:=E6 s.2.2.1 s.1.2.2.2.1 s.2.1.1.1 s.2.1.1.2.1 s.2.1.2.1.2.1 s.2.1.2.2.1.2.1 fn fe
def pq (s:oe.D):Option (oe.D⊕eX.D Bi):=BN s (fun s=>some (.inl s)) (fun e=>some (.inr e))
def GL:oe.D->Option (eX.D Bi):=mw pq
theorem abO {ρ:Type} (s:oe.D) (fn:_->Option ρ) (fe:_):BN s fn fe=(pq s).bind (Sum.elim fn fe):=by
 simp only [pq,BN,E6,dZ,ea,an,ah,ae,aA,aB]
abbrev VM:fO:=fR [.b 2 0 (.st .config)] [1,2,3,4] oe Bi GL
theorem Zk (s:oe.D):iz Θ (ek adG) (en []) D8 (oe.mk' s) (fM [1,2,3,4] [2,3] fun x S=>some (x,S))=(pq s).bind (Sum.elim (fun s'=>some (.nor,oe.mk' s')) fun e=>some (eX.e Bi e)):=
 ak (by kernel_rfl) (abO s _ _)
theorem Zl:fk Tryz.prog D8 VM:=eA eo QN dT (by kernel_rfl) (fV (by kernel_rfl:_= []) dU) [.b 2 0 (.st .config)] [1,2,3,4] [2,3] oe Bi (by kernel_rfl) pq Zk GL (ju pq) (ev pq)
def I9 {ρ:Type} (a0:ei) (k:ei×Unit->Option ρ):Option ρ:=
 (GL (((),(),(),0,()),((a0.configs,a0.activated,()),((),0,()),((),a0.activated,()),()),(([]:List dW),()))).bind fun e16=>k ((⟨e16.2.2.1,e16.2.1.2.1.2.1⟩:ei),())
def ya (a0:ei):=I9 a0 some
theorem ahY {ρ:Type} (a0:_) (k:_->Option ρ):I9 a0 k=(ya a0).bind k:=by
 simp only [ya,I9,ah,ae]
abbrev M7:eG:=eJ [.ty (.st .masterLog)] [.st .masterLog] fun x=>ya x.1
theorem TR:eh Tryz.prog 155 M7:=
 dY (Λ:=en [(fC D8,VM)]) (fn:=Tryz.f155) eo QN dT (by kernel_rfl) (ej (by kernel_rfl:_= [D8]) (eu (q:=fC D8) rfl Zl fun _ _ _=>by kernel_rfl)) (by kernel_rfl) (fun x=>ya x.1)
  (fun x=>ak (by kernel_rfl) (ahY x.1 _)) fun _ _ h=>h
abbrev adH:List (Nat×eG):= [(154,M6),(155,M7)]
theorem QO:ef Tryz.prog (ek adH):=dS TQ <| dS TR <| dX _
abbrev D9:Code:=fm (fo Tryz.f82) 0
abbrev of:it:=⟨[(1, .cl (.ptr 0 0)),(2, .cl (.ptr 1 0)),(3, .cl (.ptr 2 0)),(4, .cl (.int .i64))],[[.int .i64, .ro (.st .server), .ro (.i .i64), .ro (.st .config), .int .i64, .int .i64, .int .i64, .int .i64, .int .i64, .ro (.st .place)],[.int .i64, .em, .em, .em, .int .i64, .int .i64, .int .i64, .int .i64, .int .i64, .em],[.int .i64, .own 0 (.st .server), .ro (.i .i64), .ro (.st .config), .int .i64, .int .i64, .int .i64, .int .i64, .int .i64, .ro (.st .place)]],[.st .server],0,42⟩
abbrev Bk:List (X×it):= [(.ext 0,⟨[(1, .cl (.ptr 0 0)),(2, .cl (.ptr 1 0)),(3, .cl (.ptr 2 0))],[[.int .i64, .ro (.st .server), .ro (.i .i64), .ro (.st .config), .int .i64, .int .i64, .int .i64, .int .i64, .int .i64, .ro (.st .place)],[.int .i64, .em, .em, .em, .int .i64, .int .i64, .int .i64, .int .i64, .int .i64, .em],[.int .i64, .own 0 (.st .server), .ro (.i .i64), .ro (.st .config), .int .i64, .int .i64, .int .i64, .int .i64, .int .i64, .ro (.st .place)]],[.st .server],0,42⟩)]
def E7 {ρ:Type} (v29:List eb) (v30:Int) (v31:Int) (v32:List eb) (v33:List Int) (v34:List dW) (v35:Int) (v36:Int) (v37:Int) (v38:Int) (v39:Int) (v40:List ey) (v41:Int) (v42:Int) (v43:Int) (v44:Int) (v45:Int) (v46:Int) (v47:Int) (v48:List Int) (v49:List dW) (v50:Int) (v51:Int) (v52:Int) (v53:Int) (v54:Int) (v55:List ey) (fn: ((Unit×Unit×Unit×Int×Unit)×((Int×(List eb)×(List Int)×(List dW)×Int×Int×Int×Int×Int×(List ey)×Unit)×(Int×Unit×Unit×Unit×Int×Int×Int×Int×Int×Unit×Unit)×(Int×Unit×(List Int)×(List dW)×Int×Int×Int×Int×Int×(List ey)×Unit)×Unit)×((List eb)×Unit))->Option ρ) (fe: ((Unit×Unit×Unit×Unit)×((Int×(List eb)×(List Int)×(List dW)×Int×Int×Int×Int×Int×(List ey)×Unit)×(Int×Unit×Unit×Unit×Int×Int×Int×Int×Int×Unit×Unit)×(Int×Unit×(List Int)×(List dW)×Int×Int×Int×Int×Int×(List ey)×Unit)×Unit)×((List eb)×Unit))->Option ρ):Option ρ:=
 br (decide (v30 < (v32.length:Int))) (eg (0<=v30) ((v32[v30.toNat]?).bind fun x56=>(oJ x56).bind fun y57=>eg ((v29++([y57.1]:List eb)).length*152<=2 ^ 40) (fn (((),(),(),(IntKind.wrap .i64 (v30+1)),()),((v31,v32,v33,v34,v35,v36,v37,v38,v39,v40,()),(v41,(),(),(),v42,v43,v44,v45,v46,(),()),(v47,(),v48,v49,v50,v51,v52,v53,v54,v55,()),()),((v29++([y57.1]:List eb)),()))) none) none) (fe (((),(),(),()),((v31,v32,v33,v34,v35,v36,v37,v38,v39,v40,()),(v41,(),(),(),v42,v43,v44,v45,v46,(),()),(v47,(),v48,v49,v50,v51,v52,v53,v54,v55,()),()),(v29,())))
abbrev BO {ρ:Type} (s:of.D) (fn:of.D->Option ρ) (fe:eX.D Bk->Option ρ):Option ρ:=E7 s.2.2.1 s.1.2.2.2.1 s.2.1.1.1 s.2.1.1.2.1 s.2.1.1.2.2.1 s.2.1.1.2.2.2.1 s.2.1.1.2.2.2.2.1 s.2.1.1.2.2.2.2.2.1 s.2.1.1.2.2.2.2.2.2.1 s.2.1.1.2.2.2.2.2.2.2.1 s.2.1.1.2.2.2.2.2.2.2.2.1 s.2.1.1.2.2.2.2.2.2.2.2.2.1 s.2.1.2.1.1 s.2.1.2.1.2.2.2.2.1 s.2.1.2.1.2.2.2.2.2.1 s.2.1.2.1.2.2.2.2.2.2.1 s.2.1.2.1.2.2.2.2.2.2.2.1 s.2.1.2.1.2.2.2.2.2.2.2.2.1 s.2.1.2.2.1.1 s.2.1.2.2.1.2.2.1 s.2.1.2.2.1.2.2.2.1 s.2.1.2.2.1.2.2.2.2.1 s.2.1.2.2.1.2.2.2.2.2.1 s.2.1.2.2.1.2.2.2.2.2.2.1 s.2.1.2.2.1.2.2.2.2.2.2.2.1 s.2.1.2.2.1.2.2.2.2.2.2.2.2.1 s.2.1.2.2.1.2.2.2.2.2.2.2.2.2.1 fn fe
def pt (s:of.D):Option (of.D⊕eX.D Bk):=BO s (fun s=>some (.inl s)) (fun e=>some (.inr e))
def GM:of.D->Option (eX.D Bk):=mw pt
theorem abP {ρ:Type} (s:of.D) (fn:_->Option ρ) (fe:_):BO s fn fe=(pt s).bind (Sum.elim fn fe):=by
 simp only [pt,BO,E7,dZ,ea,an,ah,ae,aA,aB]
abbrev VN:fO:=fR [.b 2 1 (.st .server)] [1,2,3,4] of Bk GM
theorem Zm (s:of.D):iz Θ (ek adH) (en []) D9 (of.mk' s) (fM [1,2,3,4] [1,2,3] fun x S=>some (x,S))=(pt s).bind (Sum.elim (fun s'=>some (.nor,of.mk' s')) fun e=>some (eX.e Bk e)):=
 ak (by kernel_rfl) (abP s _ _)
theorem Zn:fk Tryz.prog D9 VN:=eA eo QO dT (by kernel_rfl) (fV (by kernel_rfl:_= []) dU) [.b 2 1 (.st .server)] [1,2,3,4] [1,2,3] of Bk (by kernel_rfl) pt Zm GM (ju pt) (ev pt)
def Ja {ρ:Type} (a0:dV) (k:dV×Unit->Option ρ):Option ρ:=
 (GM (((),(),(),0,()),((a0.now,a0.servers,a0.sides,a0.master.configs,a0.master.activated,a0.masterUp,a0.lease.epoch,a0.lease.holder,a0.lease.ends,a0.places,()),(0,(),(),(),0,0,0,0,0,(),()),(a0.now,(),a0.sides,a0.master.configs,a0.master.activated,a0.masterUp,a0.lease.epoch,a0.lease.holder,a0.lease.ends,a0.places,()),()),(([]:List eb),()))).bind fun e58=>eg ((([]:List Int)++e58.2.1.1.2.2.1).length*8<=2 ^ 40) ((ya (⟨e58.2.1.1.2.2.2.1,e58.2.1.1.2.2.2.2.1⟩:ei)).bind fun y59=>eg ((([]:List ey)++e58.2.1.1.2.2.2.2.2.2.2.2.2.1).length*24<=2 ^ 40) (k ((⟨e58.2.1.2.2.1.1,e58.2.2.1,(([]:List Int)++e58.2.1.1.2.2.1),y59.1,e58.2.1.2.2.1.2.2.2.2.2.1,(⟨e58.2.1.2.2.1.2.2.2.2.2.2.1,e58.2.1.2.2.1.2.2.2.2.2.2.2.1,e58.2.1.2.2.1.2.2.2.2.2.2.2.2.1⟩:ir),(([]:List ey)++e58.2.1.1.2.2.2.2.2.2.2.2.2.1)⟩:dV),())) none) none
def qG (a0:dV):=Ja a0 some
theorem ahZ {ρ:Type} (a0:_) (k:_->Option ρ):Ja a0 k=(qG a0).bind k:=by
 simp only [qG,Ja,ea,an,ah,ae]
abbrev Dc:eG:=eJ [.ty (.st .cluster)] [.st .cluster] fun x=>qG x.1
theorem FK:eh Tryz.prog 82 Dc:=
 dY (Λ:=en [(fC D9,VN)]) (fn:=Tryz.f82) eo QO dT (by kernel_rfl) (ej (by kernel_rfl:_= [D9]) (eu (q:=fC D9) rfl Zn fun _ _ _=>by kernel_rfl)) (by kernel_rfl) (fun x=>qG x.1)
  (fun x=>ak (by kernel_rfl) (ahZ x.1 _)) fun _ _ h=>h
abbrev arF:List (Nat×eG):= []
theorem amm:ef Tryz.prog (ek arF):=dX _
def X5 {ρ:Type} (a0:Int) (a1:Int) (a2:Int) (k:Bool×Unit->Option ρ):Option ρ:=
 br (decide (a0≥a1)) (k ((decide (a0<=a2)),())) (k (false,()))
def gk (a0:Int) (a1:Int) (a2:Int):=X5 a0 a1 a2 some
theorem aoD {ρ:Type} (a0 a1 a2:_) (k:_->Option ρ):X5 a0 a1 a2 k=(gk a0 a1 a2).bind k:=by
 simp only [gk,X5,dZ,ae]
abbrev mZ:eG:=eJ [.ty (.i .i64), .ty (.i .i64), .ty (.i .i64)] [.b] fun x=>gk x.1 x.2.1 x.2.2.1
theorem nC:eh Tryz.prog 120 mZ:=
 dY (Λ:=en []) (fn:=Tryz.f120) eo amm dT (by kernel_rfl) (ej (by kernel_rfl:_= []) dU) (by kernel_rfl) (fun x=>gk x.1 x.2.1 x.2.2.1)
  (fun x=>ak (by kernel_rfl) (aoD x.1 x.2.1 x.2.2.1 _)) fun _ _ h=>h
abbrev Zo:List (Nat×eG):= [(120,mZ)]
theorem N4:ef Tryz.prog (ek Zo):=dS nC <| dX _
abbrev BP:Code:=fm (fo Tryz.f121) 0
abbrev m0:it:=⟨[(0, .cl (.ro (.i .i64))),(3, .cl (.int .i64))],[],[],0,19⟩
abbrev yb:List (X×it):= [(.ret,⟨[(0, .cl (.ro (.i .i64))),(2, .cl (.bl))],[],[],0,19⟩),(.ext 0,⟨[(0, .cl (.ro (.i .i64))),(2, .cl (.dead))],[],[],0,19⟩)]
def Dw {ρ:Type} (v1:List Int) (v2:Int) (fn: (((List Int)×Int×Unit)×(Unit)×(Unit))->Option ρ) (fe: (((List Int)×Bool×Unit)×(Unit)×(Unit))⊕(((List Int)×Unit×Unit)×(Unit)×(Unit))->Option ρ):Option ρ:=
 br (decide (v2 < (v1.length:Int))) (eg (0<=v2) ((v1[v2.toNat]?).bind fun x3=>(gk x3 0 3).bind fun y4=>br (!y4.1) (fe (.inl ((v1,false,()),(()),(())))) (fn ((v1,(IntKind.wrap .i64 (v2+1)),()),(()),(())))) none) (fe (.inr ((v1,(),()),(()),(()))))
abbrev zl {ρ:Type} (s:m0.D) (fn:m0.D->Option ρ) (fe:eX.D yb->Option ρ):Option ρ:=Dw s.1.1 s.1.2.1 fn fe
def n8 (s:m0.D):Option (m0.D⊕eX.D yb):=zl s (fun s=>some (.inl s)) (fun e=>some (.inr e))
def BQ:m0.D->Option (eX.D yb):=mw n8
theorem Zp {ρ:Type} (s:m0.D) (fn:_->Option ρ) (fe:_):zl s fn fe=(n8 s).bind (Sum.elim fn fe):=by
 simp only [n8,zl,Dw,dZ,ea,an,ah,ae,aA,aB]
abbrev QP:fO:=fR [] [0,3] m0 yb BQ
theorem Wz (s:m0.D):iz Θ (ek Zo) (en []) BP (m0.mk' s) (fM [0,3] [0,2] fun x S=>some (x,S))=(n8 s).bind (Sum.elim (fun s'=>some (.nor,m0.mk' s')) fun e=>some (eX.e yb e)):=
 ak (by kernel_rfl) (Zp s _ _)
theorem WA:fk Tryz.prog BP QP:=eA eo N4 dT (by kernel_rfl) (fV (by kernel_rfl:_= []) dU) [] [0,3] [0,2] m0 yb (by kernel_rfl) n8 Wz BQ (ju n8) (ev n8)
def GN {ρ:Type} (a0:List Int) (k:Bool×Unit->Option ρ):Option ρ:=
 (BQ ((a0,0,()),(()),(()))).bind fun e5=>Sum.elim (fun e5_=>k (e5_.1.2.1,())) (fun e5_=>k (((e5_.1.1.length:Int)==5),())) e5
def oW (a0:List Int):=GN a0 some
theorem ae0 {ρ:Type} (a0:_) (k:_->Option ρ):GN a0 k=(oW a0).bind k:=by
 simp only [oW,GN,fU,ah,ae]
abbrev Jb:eG:=eJ [.ty (.ls (.i .i64))] [.b] fun x=>oW x.1
theorem Pj:eh Tryz.prog 121 Jb:=
 dY (Λ:=en [(fC BP,QP)]) (fn:=Tryz.f121) eo N4 dT (by kernel_rfl) (ej (by kernel_rfl:_= [BP]) (eu (q:=fC BP) rfl WA fun _ _ _=>by kernel_rfl)) (by kernel_rfl) (fun x=>oW x.1)
  (fun x=>ak (by kernel_rfl) (ae0 x.1 _)) fun _ _ h=>h
abbrev QQ:List (Nat×eG):= [(120,mZ)]
theorem J2:ef Tryz.prog (ek QQ):=dS nC <| dX _
abbrev wV:Code:=fm (fo Tryz.f224) 0
abbrev kT:it:=⟨[(0, .cl (.ro (.i .i64))),(3, .cl (.int .i64))],[],[],0,32⟩
abbrev sU:List (X×it):= [(.ret,⟨[(2, .cl (.bl))],[],[],0,32⟩),(.ext 0,⟨[(2, .cl (.dead))],[],[],0,32⟩)]
def qH {ρ:Type} (v1:List Int) (v2:Int) (fn: (((List Int)×Int×Unit)×(Unit)×(Unit))->Option ρ) (fe: ((Bool×Unit)×(Unit)×(Unit))⊕((Unit×Unit)×(Unit)×(Unit))->Option ρ):Option ρ:=
 br (decide (v2 < (v1.length:Int))) (eg (0<=v2) ((v1[v2.toNat]?).bind fun x3=>(gk x3 0 4).bind fun y4=>br (!y4.1) (fe (.inl ((false,()),(()),(())))) (br (decide (v2 > 0)) (eg (0<=(IntKind.wrap .i64 (v2 - 1))) ((v1[(IntKind.wrap .i64 (v2 - 1)).toNat]?).bind fun x5=>eg (0<=v2) ((v1[v2.toNat]?).bind fun x6=>br (decide (x5≥x6)) (fe (.inl ((false,()),(()),(())))) (fn ((v1,(IntKind.wrap .i64 (v2+1)),()),(()),(())))) none) none) (fn ((v1,(IntKind.wrap .i64 (v2+1)),()),(()),(()))))) none) (fe (.inr (((),()),(()),(()))))
abbrev oX {ρ:Type} (s:kT.D) (fn:kT.D->Option ρ) (fe:eX.D sU->Option ρ):Option ρ:=qH s.1.1 s.1.2.1 fn fe
def jE (s:kT.D):Option (kT.D⊕eX.D sU):=oX s (fun s=>some (.inl s)) (fun e=>some (.inr e))
def sV:kT.D->Option (eX.D sU):=mw jE
theorem TT {ρ:Type} (s:kT.D) (fn:_->Option ρ) (fe:_):oX s fn fe=(jE s).bind (Sum.elim fn fe):=by
 simp only [jE,oX,qH,dZ,ea,an,ah,ae,aA,aB]
abbrev Lt:fO:=fR [] [0,3] kT sU sV
theorem QR (s:kT.D):iz Θ (ek QQ) (en []) wV (kT.mk' s) (fM [0,3] [2] fun x S=>some (x,S))=(jE s).bind (Sum.elim (fun s'=>some (.nor,kT.mk' s')) fun e=>some (eX.e sU e)):=
 ak (by kernel_rfl) (TT s _ _)
theorem QS:fk Tryz.prog wV Lt:=eA eo J2 dT (by kernel_rfl) (fV (by kernel_rfl:_= []) dU) [] [0,3] [2] kT sU (by kernel_rfl) jE QR sV (ju jE) (ev jE)
def zm {ρ:Type} (a0:List Int) (k:Bool×Unit->Option ρ):Option ρ:=
 (sV ((a0,0,()),(()),(()))).bind fun e7=>Sum.elim (fun e7_=>k (e7_.1.1,())) (fun _=>k (true,())) e7
def jw (a0:List Int):=zm a0 some
theorem Zq {ρ:Type} (a0:_) (k:_->Option ρ):zm a0 k=(jw a0).bind k:=by
 simp only [jw,zm,fU,ah,ae]
abbrev BR:eG:=eJ [.ty (.ls (.i .i64))] [.b] fun x=>jw x.1
theorem E8:eh Tryz.prog 224 BR:=
 dY (Λ:=en [(fC wV,Lt)]) (fn:=Tryz.f224) eo J2 dT (by kernel_rfl) (ej (by kernel_rfl:_= [wV]) (eu (q:=fC wV) rfl QS fun _ _ _=>by kernel_rfl)) (by kernel_rfl) (fun x=>jw x.1)
  (fun x=>ak (by kernel_rfl) (Zq x.1 _)) fun _ _ h=>h
abbrev VO:List (Nat×eG):= []
theorem Lu:ef Tryz.prog (ek VO):=dX _
abbrev zn:Code:=fm (fo Tryz.f51) 0
abbrev lT:it:=⟨[(0, .cl (.ro (.i .i64))),(1, .cl (.int .i64)),(5, .cl (.int .i64))],[],[],0,18⟩
abbrev vr:List (X×it):= [(.ret,⟨[(4, .cl (.bl))],[],[],0,18⟩),(.ext 0,⟨[(4, .cl (.dead))],[],[],0,18⟩)]
def BS {ρ:Type} (v1:List Int) (v2:Int) (v3:Int) (fn: (((List Int)×Int×Int×Unit)×(Unit)×(Unit))->Option ρ) (fe: ((Bool×Unit)×(Unit)×(Unit))⊕((Unit×Unit)×(Unit)×(Unit))->Option ρ):Option ρ:=
 br (decide (v3 < (v1.length:Int))) (eg (0<=v3) ((v1[v3.toNat]?).bind fun x4=>br (x4==v2) (fe (.inl ((true,()),(()),(())))) (fn ((v1,v2,(IntKind.wrap .i64 (v3+1)),()),(()),(())))) none) (fe (.inr (((),()),(()),(()))))
abbrev wW {ρ:Type} (s:lT.D) (fn:lT.D->Option ρ) (fe:eX.D vr->Option ρ):Option ρ:=BS s.1.1 s.1.2.1 s.1.2.2.1 fn fe
def mH (s:lT.D):Option (lT.D⊕eX.D vr):=wW s (fun s=>some (.inl s)) (fun e=>some (.inr e))
def zo:lT.D->Option (eX.D vr):=mw mH
theorem WB {ρ:Type} (s:lT.D) (fn:_->Option ρ) (fe:_):wW s fn fe=(mH s).bind (Sum.elim fn fe):=by
 simp only [mH,wW,BS,dZ,ea,an,ah,ae,aA,aB]
abbrev N5:fO:=fR [] [0,1,5] lT vr zo
theorem TU (s:lT.D):iz Θ (ek VO) (en []) zn (lT.mk' s) (fM [0,1,5] [4] fun x S=>some (x,S))=(mH s).bind (Sum.elim (fun s'=>some (.nor,lT.mk' s')) fun e=>some (eX.e vr e)):=
 ak (by kernel_rfl) (WB s _ _)
theorem TV:fk Tryz.prog zn N5:=eA eo Lu dT (by kernel_rfl) (fV (by kernel_rfl:_= []) dU) [] [0,1,5] [4] lT vr (by kernel_rfl) mH TU zo (ju mH) (ev mH)
def E9 {ρ:Type} (a0:List Int) (a1:Int) (k:Bool×Unit->Option ρ):Option ρ:=
 (zo ((a0,a1,0,()),(()),(()))).bind fun e5=>Sum.elim (fun e5_=>k (e5_.1.1,())) (fun _=>k (false,())) e5
def jv (a0:List Int) (a1:Int):=E9 a0 a1 some
theorem abQ {ρ:Type} (a0 a1:_) (k:_->Option ρ):E9 a0 a1 k=(jv a0 a1).bind k:=by
 simp only [jv,E9,fU,ah,ae]
abbrev t5:eG:=eJ [.ty (.ls (.i .i64)), .ty (.i .i64)] [.b] fun x=>jv x.1 x.2.1
theorem wX:eh Tryz.prog 51 t5:=
 dY (Λ:=en [(fC zn,N5)]) (fn:=Tryz.f51) eo Lu dT (by kernel_rfl) (ej (by kernel_rfl:_= [zn]) (eu (q:=fC zn) rfl TV fun _ _ _=>by kernel_rfl)) (by kernel_rfl) (fun x=>jv x.1 x.2.1)
  (fun x=>ak (by kernel_rfl) (abQ x.1 x.2.1 _)) fun _ _ h=>h
abbrev alw:List (Nat×eG):= []
theorem Zr:ef Tryz.prog (ek alw):=dX _
abbrev H7:Code:=fm (fo Tryz.f148) 0
abbrev sW:it:=⟨[(0, .cl (.ro (.i .i64))),(1, .cl (.int .i64)),(5, .cl (.int .i64))],[],[],0,47⟩
abbrev FL:List (X×it):= [(.ext 0,⟨[(0, .cl (.ro (.i .i64))),(1, .cl (.int .i64)),(5, .cl (.int .i64))],[],[],0,47⟩)]
def Dd {ρ:Type} (v1:List Int) (v2:Int) (v3:Int) (fn: (((List Int)×Int×Int×Unit)×(Unit)×(Unit))->Option ρ) (fe: (((List Int)×Int×Int×Unit)×(Unit)×(Unit))->Option ρ):Option ρ:=
 br (decide (v3 < (v1.length:Int))) (eg (0<=v3) ((v1[v3.toNat]?).bind fun x4=>br (decide (x4 < v2)) (fn ((v1,v2,(IntKind.wrap .i64 (v3+1)),()),(()),(()))) (fe ((v1,v2,v3,()),(()),(())))) none) (fe ((v1,v2,v3,()),(()),(())))
abbrev AN {ρ:Type} (s:sW.D) (fn:sW.D->Option ρ) (fe:eX.D FL->Option ρ):Option ρ:=Dd s.1.1 s.1.2.1 s.1.2.2.1 fn fe
def pP (s:sW.D):Option (sW.D⊕eX.D FL):=AN s (fun s=>some (.inl s)) (fun e=>some (.inr e))
def H8:sW.D->Option (eX.D FL):=mw pP
theorem ah0 {ρ:Type} (s:sW.D) (fn:_->Option ρ) (fe:_):AN s fn fe=(pP s).bind (Sum.elim fn fe):=by
 simp only [pP,AN,Dd,dZ,ea,an,ah,ae,aA,aB]
abbrev adI:fO:=fR [] [0,1,5] sW FL H8
theorem ae1 (s:sW.D):iz Θ (ek alw) (en []) H7 (sW.mk' s) (fM [0,1,5] [0,1,5] fun x S=>some (x,S))=(pP s).bind (Sum.elim (fun s'=>some (.nor,sW.mk' s')) fun e=>some (eX.e FL e)):=
 ak (by kernel_rfl) (ah0 s _ _)
theorem ae2:fk Tryz.prog H7 adI:=eA eo Zr dT (by kernel_rfl) (fV (by kernel_rfl:_= []) dU) [] [0,1,5] [0,1,5] sW FL (by kernel_rfl) pP ae1 H8 (ju pP) (ev pP)
def Lw {ρ:Type} (a0:List Int) (a1:Int) (k: (List Int)×Unit->Option ρ):Option ρ:=
 (H8 ((a0,a1,0,()),(()),(()))).bind fun e5=>br (decide (e5.1.2.2.1 < (e5.1.1.length:Int))) (eg (0<=e5.1.2.2.1) ((e5.1.1[e5.1.2.2.1.toNat]?).bind fun x6=>br (x6==e5.1.2.1) (eg ((([]:List Int)++e5.1.1).length*8<=2 ^ 40) (k ((([]:List Int)++e5.1.1),())) none) (eg (0<=(0:Int)/\(0:Int)<=e5.1.2.2.1/\e5.1.2.2.1<=(e5.1.1.length:Int)) (eg ((([]:List Int)++((e5.1.1.drop (0:Int).toNat).take (e5.1.2.2.1.toNat - (0:Int).toNat))).length*8<=2 ^ 40) (eg (((([]:List Int)++((e5.1.1.drop (0:Int).toNat).take (e5.1.2.2.1.toNat - (0:Int).toNat)))++([e5.1.2.1]:List Int)).length*8<=2 ^ 40) (eg (0<=e5.1.2.2.1/\e5.1.2.2.1<=(e5.1.1.length:Int)/\(e5.1.1.length:Int)<=(e5.1.1.length:Int)) (eg ((((([]:List Int)++((e5.1.1.drop (0:Int).toNat).take (e5.1.2.2.1.toNat - (0:Int).toNat)))++([e5.1.2.1]:List Int))++((e5.1.1.drop e5.1.2.2.1.toNat).take ((e5.1.1.length:Int).toNat - e5.1.2.2.1.toNat))).length*8<=2 ^ 40) (k ((((([]:List Int)++((e5.1.1.drop (0:Int).toNat).take (e5.1.2.2.1.toNat - (0:Int).toNat)))++([e5.1.2.1]:List Int))++((e5.1.1.drop e5.1.2.2.1.toNat).take ((e5.1.1.length:Int).toNat - e5.1.2.2.1.toNat))),())) none) none) none) none) none)) none) (eg (0<=(0:Int)/\(0:Int)<=e5.1.2.2.1/\e5.1.2.2.1<=(e5.1.1.length:Int)) (eg ((([]:List Int)++((e5.1.1.drop (0:Int).toNat).take (e5.1.2.2.1.toNat - (0:Int).toNat))).length*8<=2 ^ 40) (eg (((([]:List Int)++((e5.1.1.drop (0:Int).toNat).take (e5.1.2.2.1.toNat - (0:Int).toNat)))++([e5.1.2.1]:List Int)).length*8<=2 ^ 40) (eg (0<=e5.1.2.2.1/\e5.1.2.2.1<=(e5.1.1.length:Int)/\(e5.1.1.length:Int)<=(e5.1.1.length:Int)) (eg ((((([]:List Int)++((e5.1.1.drop (0:Int).toNat).take (e5.1.2.2.1.toNat - (0:Int).toNat)))++([e5.1.2.1]:List Int))++((e5.1.1.drop e5.1.2.2.1.toNat).take ((e5.1.1.length:Int).toNat - e5.1.2.2.1.toNat))).length*8<=2 ^ 40) (k ((((([]:List Int)++((e5.1.1.drop (0:Int).toNat).take (e5.1.2.2.1.toNat - (0:Int).toNat)))++([e5.1.2.1]:List Int))++((e5.1.1.drop e5.1.2.2.1.toNat).take ((e5.1.1.length:Int).toNat - e5.1.2.2.1.toNat))),())) none) none) none) none) none)
def uj (a0:List Int) (a1:Int):=Lw a0 a1 some
theorem amn {ρ:Type} (a0 a1:_) (k:_->Option ρ):Lw a0 a1 k=(uj a0 a1).bind k:=by
 simp only [uj,Lw,dZ,ea,an,ah,ae]
abbrev M8:eG:=eJ [.ty (.ls (.i .i64)), .ty (.i .i64)] [.ls (.i .i64)] fun x=>uj x.1 x.2.1
theorem QT:eh Tryz.prog 148 M8:=
 dY (Λ:=en [(fC H7,adI)]) (fn:=Tryz.f148) eo Zr dT (by kernel_rfl) (ej (by kernel_rfl:_= [H7]) (eu (q:=fC H7) rfl ae2 fun _ _ _=>by kernel_rfl)) (by kernel_rfl) (fun x=>uj x.1 x.2.1)
  (fun x=>ak (by kernel_rfl) (amn x.1 x.2.1 _)) fun _ _ h=>h
abbrev J3:List (Nat×eG):= [(51,t5),(148,M8)]
theorem F7:ef Tryz.prog (ek J3):=dS wX <| dS QT <| dX _
abbrev ri:Code:=fm (fo Tryz.f128) 0
abbrev iZ:it:=⟨[(0, .cl (.ro (.i .i64))),(1, .cl (.ro (.i .i64))),(5, .cl (.own 0 (.i .i64))),(6, .cl (.int .i64))],[],[.i .i64],0,27⟩
abbrev oK:List (X×it):= [(.ext 0,⟨[(5, .cl (.own 0 (.i .i64)))],[],[.i .i64],0,27⟩)]
def uk {ρ:Type} (v1:List Int) (v2:List Int) (v3:List Int) (v4:Int) (fn: (((List Int)×(List Int)×Unit×Int×Unit)×(Unit)×((List Int)×Unit))->Option ρ) (fe: ((Unit×Unit)×(Unit)×((List Int)×Unit))->Option ρ):Option ρ:=
 br (decide (v4 < (v2.length:Int))) (eg (0<=v4) ((v2[v4.toNat]?).bind fun x5=>(jv v3 x5).bind fun y6=>br y6.1 (eg (0<=v4) ((v2[v4.toNat]?).bind fun x7=>(uj v1 x7).bind fun y8=>fn ((v2,v3,(),(IntKind.wrap .i64 (v4+1)),()),(()),(y8.1,()))) none) (fn ((v2,v3,(),(IntKind.wrap .i64 (v4+1)),()),(()),(v1,())))) none) (fe (((),()),(()),(v1,())))
abbrev qc {ρ:Type} (s:iZ.D) (fn:iZ.D->Option ρ) (fe:eX.D oK->Option ρ):Option ρ:=uk s.2.2.1 s.1.1 s.1.2.1 s.1.2.2.2.1 fn fe
def jP (s:iZ.D):Option (iZ.D⊕eX.D oK):=qc s (fun s=>some (.inl s)) (fun e=>some (.inr e))
def wc:iZ.D->Option (eX.D oK):=mw jP
theorem Nm {ρ:Type} (s:iZ.D) (fn:_->Option ρ) (fe:_):qc s fn fe=(jP s).bind (Sum.elim fn fe):=by
 simp only [jP,qc,uk,dZ,ea,an,ah,ae,aA,aB]
abbrev GO:fO:=fR [] [0,1,5,6] iZ oK wc
theorem Lx (s:iZ.D):iz Θ (ek J3) (en []) ri (iZ.mk' s) (fM [0,1,5,6] [5] fun x S=>some (x,S))=(jP s).bind (Sum.elim (fun s'=>some (.nor,iZ.mk' s')) fun e=>some (eX.e oK e)):=
 ak (by kernel_rfl) (Nm s _ _)
theorem Ly:fk Tryz.prog ri GO:=eA eo F7 dT (by kernel_rfl) (fV (by kernel_rfl:_= []) dU) [] [0,1,5,6] [5] iZ oK (by kernel_rfl) jP Lx wc (ju jP) (ev jP)
def yc {ρ:Type} (a0:List Int) (a1:List Int) (k: (List Int)×Unit->Option ρ):Option ρ:=
 (wc ((a0,a1,(),0,()),(()),(([]:List Int),()))).bind fun e9=>k (e9.2.2.1,())
def mn (a0:List Int) (a1:List Int):=yc a0 a1 some
theorem QU {ρ:Type} (a0 a1:_) (k:_->Option ρ):yc a0 a1 k=(mn a0 a1).bind k:=by
 simp only [mn,yc,ah,ae]
abbrev z9:eG:=eJ [.ty (.ls (.i .i64)), .ty (.ls (.i .i64))] [.ls (.i .i64)] fun x=>mn x.1 x.2.1
theorem Ew:eh Tryz.prog 128 z9:=
 dY (Λ:=en [(fC ri,GO)]) (fn:=Tryz.f128) eo F7 dT (by kernel_rfl) (ej (by kernel_rfl:_= [ri]) (eu (q:=fC ri) rfl Ly fun _ _ _=>by kernel_rfl)) (by kernel_rfl) (fun x=>mn x.1 x.2.1)
  (fun x=>ak (by kernel_rfl) (QU x.1 x.2.1 _)) fun _ _ h=>h
abbrev WC:List (Nat×eG):= [(120,mZ),(224,BR),(51,t5),(128,z9)]
theorem Pk:ef Tryz.prog (ek WC):=dS nC <| dS E8 <| dS wX <| dS Ew <| dX _
def sX {ρ:Type} (a0:dW) (k:Bool×Unit->Option ρ):Option ρ:=
 (gk a0.epoch 1 20).bind fun y1=>br y1.1 ((jw a0.replicas).bind fun y2=>br y2.1 ((jw a0.witnesses).bind fun y3=>br y3.1 ((jv a0.replicas a0.primary).bind fun y4=>br y4.1 ((mn a0.replicas a0.witnesses).bind fun y5=>k (((y5.1.length:Int)==0),())) (k (false,()))) (k (false,()))) (k (false,()))) (k (false,()))
def fI (a0:dW):=sX a0 some
theorem QV {ρ:Type} (a0:_) (k:_->Option ρ):sX a0 k=(fI a0).bind k:=by
 simp only [fI,sX,dZ,ah,ae]
abbrev uK:eG:=eJ [.ty (.st .config)] [.b] fun x=>fI x.1
theorem Aa:eh Tryz.prog 169 uK:=
 dY (Λ:=en []) (fn:=Tryz.f169) eo Pk dT (by kernel_rfl) (ej (by kernel_rfl:_= []) dU) (by kernel_rfl) (fun x=>fI x.1)
  (fun x=>ak (by kernel_rfl) (QV x.1 _)) fun _ _ h=>h
abbrev N6:List (Nat×eG):= [(169,uK),(120,mZ)]
theorem H9:ef Tryz.prog (ek N6):=dS Aa <| dS nC <| dX _
abbrev uL:Code:=fm (fo Tryz.f122) 0
abbrev j4:it:=⟨[(1, .cl (.ptr 0 0)),(3, .cl (.int .i64))],[[.ro (.st .config), .int .i64]],[],0,35⟩
abbrev qI:List (X×it):= [(.ret,⟨[(1, .cl (.ptr 0 0)),(2, .cl (.bl))],[[.ro (.st .config), .int .i64]],[],0,35⟩),(.ext 0,⟨[(1, .cl (.ptr 0 0)),(2, .cl (.dead))],[[.ro (.st .config), .int .i64]],[],0,35⟩)]
def nH {ρ:Type} (v1:Int) (v2:List dW) (v3:Int) (fn: ((Unit×Int×Unit)×(((List dW)×Int×Unit)×Unit)×(Unit))->Option ρ) (fe: ((Unit×Bool×Unit)×(((List dW)×Int×Unit)×Unit)×(Unit))⊕((Unit×Unit×Unit)×(((List dW)×Int×Unit)×Unit)×(Unit))->Option ρ):Option ρ:=
 br (decide (v1 < (v2.length:Int))) (eg (0<=v1) ((v2[v1.toNat]?).bind fun x4=>(fI x4).bind fun y5=>br (!y5.1) (fe (.inl (((),false,()),((v2,v3,()),()),(())))) (eg (0<=v1) ((v2[v1.toNat]?).bind fun x6=>br (!(x6.epoch==(IntKind.wrap .i64 (v1+1)))) (fe (.inl (((),false,()),((v2,v3,()),()),(())))) (fn (((),(IntKind.wrap .i64 (v1+1)),()),((v2,v3,()),()),(())))) none)) none) (fe (.inr (((),(),()),((v2,v3,()),()),(()))))
abbrev my {ρ:Type} (s:j4.D) (fn:j4.D->Option ρ) (fe:eX.D qI->Option ρ):Option ρ:=nH s.1.2.1 s.2.1.1.1 s.2.1.1.2.1 fn fe
def gv (s:j4.D):Option (j4.D⊕eX.D qI):=my s (fun s=>some (.inl s)) (fun e=>some (.inr e))
def oY:j4.D->Option (eX.D qI):=mw gv
theorem QW {ρ:Type} (s:j4.D) (fn:_->Option ρ) (fe:_):my s fn fe=(gv s).bind (Sum.elim fn fe):=by
 simp only [gv,my,nH,dZ,ea,an,ah,ae,aA,aB]
abbrev J4:fO:=fR [] [1,3] j4 qI oY
theorem Pm (s:j4.D):iz Θ (ek N6) (en []) uL (j4.mk' s) (fM [1,3] [1,2] fun x S=>some (x,S))=(gv s).bind (Sum.elim (fun s'=>some (.nor,j4.mk' s')) fun e=>some (eX.e qI e)):=
 ak (by kernel_rfl) (QW s _ _)
theorem Pn:fk Tryz.prog uL J4:=eA eo H9 dT (by kernel_rfl) (fV (by kernel_rfl:_= []) dU) [] [1,3] [1,2] j4 qI (by kernel_rfl) gv Pm oY (ju gv) (ev gv)
def wY {ρ:Type} (a0:ei) (k:Bool×Unit->Option ρ):Option ρ:=
 (oY (((),0,()),((a0.configs,a0.activated,()),()),(()))).bind fun e7=>Sum.elim (fun e7_=>k (e7_.1.2.1,())) (fun e7_=>(gk e7_.2.1.1.2.1 0 (e7_.2.1.1.1.length:Int)).bind fun y8=>k (y8.1,())) e7
def ib (a0:ei):=wY a0 some
theorem WD {ρ:Type} (a0:_) (k:_->Option ρ):wY a0 k=(ib a0).bind k:=by
 simp only [ib,wY,fU,ah,ae]
abbrev zp:eG:=eJ [.ty (.st .masterLog)] [.b] fun x=>ib x.1
theorem Dx:eh Tryz.prog 122 zp:=
 dY (Λ:=en [(fC uL,J4)]) (fn:=Tryz.f122) eo H9 dT (by kernel_rfl) (ej (by kernel_rfl:_= [uL]) (eu (q:=fC uL) rfl Pn fun _ _ _=>by kernel_rfl)) (by kernel_rfl) (fun x=>ib x.1)
  (fun x=>ak (by kernel_rfl) (WD x.1 _)) fun _ _ h=>h
abbrev amo:List (Nat×eG):= [(120,mZ)]
theorem ae3:ef Tryz.prog (ek amo):=dS nC <| dX _
def Jc {ρ:Type} (a0:ir) (k:Bool×Unit->Option ρ):Option ρ:=
 br ((a0.epoch==0)&&((a0.holder==0)&&((a0.ends==0)&&true))) (k (true,())) ((gk a0.epoch 1 20).bind fun y1=>br y1.1 ((gk a0.holder 0 4).bind fun y2=>br y2.1 ((gk a0.ends 1 1049).bind fun y3=>k (y3.1,())) (k (false,()))) (k (false,())))
def qJ (a0:ir):=Jc a0 some
theorem ah1 {ρ:Type} (a0:_) (k:_->Option ρ):Jc a0 k=(qJ a0).bind k:=by
 simp only [qJ,Jc,dZ,ah,ae]
abbrev Ia:eG:=eJ [.ty (.st .lease)] [.b] fun x=>qJ x.1
theorem M9:eh Tryz.prog 123 Ia:=
 dY (Λ:=en []) (fn:=Tryz.f123) eo ae3 dT (by kernel_rfl) (ej (by kernel_rfl:_= []) dU) (by kernel_rfl) (fun x=>qJ x.1)
  (fun x=>ak (by kernel_rfl) (ah1 x.1 _)) fun _ _ h=>h
abbrev VP:List (Nat×eG):= [(120,mZ)]
theorem Lz:ef Tryz.prog (ek VP):=dS nC <| dX _
abbrev zq:Code:=fm (fo Tryz.f124) 0
abbrev lU:it:=⟨[(0, .cl (.ro (.st .place))),(3, .cl (.int .i64))],[],[],0,38⟩
abbrev vt:List (X×it):= [(.ret,⟨[(0, .cl (.ro (.st .place))),(2, .cl (.bl))],[],[],0,38⟩),(.ext 0,⟨[(0, .cl (.ro (.st .place))),(2, .cl (.dead))],[],[],0,38⟩)]
def BT {ρ:Type} (v1:List ey) (v2:Int) (fn: (((List ey)×Int×Unit)×(Unit)×(Unit))->Option ρ) (fe: (((List ey)×Bool×Unit)×(Unit)×(Unit))⊕(((List ey)×Unit×Unit)×(Unit)×(Unit))->Option ρ):Option ρ:=
 br (decide (v2 < (v1.length:Int))) (eg (0<=v2) ((v1[v2.toNat]?).bind fun x3=>(gk x3.rack 0 9).bind fun y4=>br (!y4.1) (fe (.inl ((v1,false,()),(()),(())))) (eg (0<=v2) ((v1[v2.toNat]?).bind fun x5=>(gk x5.capacity 0 9).bind fun y6=>br (!y6.1) (fe (.inl ((v1,false,()),(()),(())))) (eg (0<=v2) ((v1[v2.toNat]?).bind fun x7=>(gk x7.load 0 99).bind fun y8=>br (!y8.1) (fe (.inl ((v1,false,()),(()),(())))) (fn ((v1,(IntKind.wrap .i64 (v2+1)),()),(()),(())))) none)) none)) none) (fe (.inr ((v1,(),()),(()),(()))))
abbrev wZ {ρ:Type} (s:lU.D) (fn:lU.D->Option ρ) (fe:eX.D vt->Option ρ):Option ρ:=BT s.1.1 s.1.2.1 fn fe
def mJ (s:lU.D):Option (lU.D⊕eX.D vt):=wZ s (fun s=>some (.inl s)) (fun e=>some (.inr e))
def zt:lU.D->Option (eX.D vt):=mw mJ
theorem WE {ρ:Type} (s:lU.D) (fn:_->Option ρ) (fe:_):wZ s fn fe=(mJ s).bind (Sum.elim fn fe):=by
 simp only [mJ,wZ,BT,dZ,ea,an,ah,ae,aA,aB]
abbrev N7:fO:=fR [] [0,3] lU vt zt
theorem TW (s:lU.D):iz Θ (ek VP) (en []) zq (lU.mk' s) (fM [0,3] [0,2] fun x S=>some (x,S))=(mJ s).bind (Sum.elim (fun s'=>some (.nor,lU.mk' s')) fun e=>some (eX.e vt e)):=
 ak (by kernel_rfl) (WE s _ _)
theorem TX:fk Tryz.prog zq N7:=eA eo Lz dT (by kernel_rfl) (fV (by kernel_rfl:_= []) dU) [] [0,3] [0,2] lU vt (by kernel_rfl) mJ TW zt (ju mJ) (ev mJ)
def Fa {ρ:Type} (a0:List ey) (k:Bool×Unit->Option ρ):Option ρ:=
 (zt ((a0,0,()),(()),(()))).bind fun e9=>Sum.elim (fun e9_=>k (e9_.1.2.1,())) (fun e9_=>k (((e9_.1.1.length:Int)==5),())) e9
def kB (a0:List ey):=Fa a0 some
theorem abR {ρ:Type} (a0:_) (k:_->Option ρ):Fa a0 k=(kB a0).bind k:=by
 simp only [kB,Fa,fU,ah,ae]
abbrev Ea:eG:=eJ [.ty (.ls (.st .place))] [.b] fun x=>kB x.1
theorem GP:eh Tryz.prog 124 Ea:=
 dY (Λ:=en [(fC zq,N7)]) (fn:=Tryz.f124) eo Lz dT (by kernel_rfl) (ej (by kernel_rfl:_= [zq]) (eu (q:=fC zq) rfl TX fun _ _ _=>by kernel_rfl)) (by kernel_rfl) (fun x=>kB x.1)
  (fun x=>ak (by kernel_rfl) (abR x.1 _)) fun _ _ h=>h
abbrev ah2:List (Nat×eG):= [(120,mZ)]
theorem Zs:ef Tryz.prog (ek ah2):=dS nC <| dX _
def Fb {ρ:Type} (a0:Op) (k:Bool×Unit->Option ρ):Option ρ:=
 (gk a0.client 0 2).bind fun y1=>br (!y1.1) (k (false,())) ((gk a0.seq 1 99).bind fun y2=>br (!y2.1) (k (false,())) ((gk a0.object 0 2).bind fun y3=>br (!y3.1) (k (false,())) ((gk a0.value 0 9).bind fun y4=>br (!y4.1) (k (false,())) (br (a0.kind==1) (br (a0.old==0) (k (true,())) (br (a0.kind==2) ((gk a0.old 0 9).bind fun y5=>k (y5.1,())) (k (false,())))) (br (a0.kind==2) ((gk a0.old 0 9).bind fun y6=>k (y6.1,())) (k (false,())))))))
def w4 (a0:Op):=Fb a0 some
theorem abT {ρ:Type} (a0:_) (k:_->Option ρ):Fb a0 k=(w4 a0).bind k:=by
 simp only [w4,Fb,dZ,ah,ae]
abbrev VQ:eG:=eJ [.ty (.st .op)] [.b] fun x=>w4 x.1
theorem ah3:eh Tryz.prog 225 VQ:=
 dY (Λ:=en []) (fn:=Tryz.f225) eo Zs dT (by kernel_rfl) (ej (by kernel_rfl:_= []) dU) (by kernel_rfl) (fun x=>w4 x.1)
  (fun x=>ak (by kernel_rfl) (abT x.1 _)) fun _ _ h=>h
abbrev alx:List (Nat×eG):= [(120,mZ),(225,VQ)]
theorem Zt:ef Tryz.prog (ek alx):=dS nC <| dS ah3 <| dX _
abbrev Ib:Code:=fm (fo Tryz.f172) 0
abbrev sY:it:=⟨[(0, .cl (.ro (.st .entry))),(3, .cl (.int .i64))],[],[],0,47⟩
abbrev FM:List (X×it):= [(.ret,⟨[(0, .cl (.ro (.st .entry))),(2, .cl (.bl))],[],[],0,47⟩),(.ext 0,⟨[(0, .cl (.ro (.st .entry))),(2, .cl (.dead))],[],[],0,47⟩)]
def Jd {ρ:Type} (v1:List ed) (v2:Int) (fn: (((List ed)×Int×Unit)×(Unit)×(Unit))->Option ρ) (fe: (((List ed)×Bool×Unit)×(Unit)×(Unit))⊕(((List ed)×Unit×Unit)×(Unit)×(Unit))->Option ρ):Option ρ:=
 br (decide (v2 < (v1.length:Int))) (eg (0<=v2) ((v1[v2.toNat]?).bind fun x3=>(gk x3.epoch 1 20).bind fun y4=>br (!y4.1) (fe (.inl ((v1,false,()),(()),(())))) (eg (0<=v2) ((v1[v2.toNat]?).bind fun x5=>(w4 x5.op).bind fun y6=>br (!y6.1) (fe (.inl ((v1,false,()),(()),(())))) (br (decide (v2 > 0)) (eg (0<=(IntKind.wrap .i64 (v2 - 1))) ((v1[(IntKind.wrap .i64 (v2 - 1)).toNat]?).bind fun x7=>eg (0<=v2) ((v1[v2.toNat]?).bind fun x8=>br (decide (x7.epoch > x8.epoch)) (fe (.inl ((v1,false,()),(()),(())))) (fn ((v1,(IntKind.wrap .i64 (v2+1)),()),(()),(())))) none) none) (fn ((v1,(IntKind.wrap .i64 (v2+1)),()),(()),(()))))) none)) none) (fe (.inr ((v1,(),()),(()),(()))))
abbrev F8 {ρ:Type} (s:sY.D) (fn:sY.D->Option ρ) (fe:eX.D FM->Option ρ):Option ρ:=Jd s.1.1 s.1.2.1 fn fe
def vu (s:sY.D):Option (sY.D⊕eX.D FM):=F8 s (fun s=>some (.inl s)) (fun e=>some (.inr e))
def Ic:sY.D->Option (eX.D FM):=mw vu
theorem ah4 {ρ:Type} (s:sY.D) (fn:_->Option ρ) (fe:_):F8 s fn fe=(vu s).bind (Sum.elim fn fe):=by
 simp only [vu,F8,Jd,dZ,ea,an,ah,ae,aA,aB]
abbrev adJ:fO:=fR [] [0,3] sY FM Ic
theorem ae4 (s:sY.D):iz Θ (ek alx) (en []) Ib (sY.mk' s) (fM [0,3] [0,2] fun x S=>some (x,S))=(vu s).bind (Sum.elim (fun s'=>some (.nor,sY.mk' s')) fun e=>some (eX.e FM e)):=
 ak (by kernel_rfl) (ah4 s _ _)
theorem ae5:fk Tryz.prog Ib adJ:=eA eo Zt dT (by kernel_rfl) (fV (by kernel_rfl:_= []) dU) [] [0,3] [0,2] sY FM (by kernel_rfl) vu ae4 Ic (ju vu) (ev vu)
def QX {ρ:Type} (a0:List ed) (k:Bool×Unit->Option ρ):Option ρ:=
 (Ic ((a0,0,()),(()),(()))).bind fun e9=>Sum.elim (fun e9_=>k (e9_.1.2.1,())) (fun e9_=>k ((decide ((e9_.1.1.length:Int)<=16)),())) e9
def sI (a0:List ed):=QX a0 some
theorem amp {ρ:Type} (a0:_) (k:_->Option ρ):QX a0 k=(sI a0).bind k:=by
 simp only [sI,QX,fU,ah,ae]
abbrev QY:eG:=eJ [.ty (.ls (.st .entry))] [.b] fun x=>sI x.1
theorem X6:eh Tryz.prog 172 QY:=
 dY (Λ:=en [(fC Ib,adJ)]) (fn:=Tryz.f172) eo Zt dT (by kernel_rfl) (ej (by kernel_rfl:_= [Ib]) (eu (q:=fC Ib) rfl ae5 fun _ _ _=>by kernel_rfl)) (by kernel_rfl) (fun x=>sI x.1)
  (fun x=>ak (by kernel_rfl) (amp x.1 _)) fun _ _ h=>h
abbrev LA:List (Nat×eG):= []
theorem GQ:ef Tryz.prog (ek LA):=dX _
abbrev sZ:Code:=fm (fo Tryz.f159) 0
abbrev jF:it:=⟨[(0, .cl (.ro (.i .i64))),(1, .cl (.ro (.i .i64))),(5, .cl (.int .i64))],[],[],0,26⟩
abbrev pQ:List (X×it):= [(.ret,⟨[(4, .cl (.bl))],[],[],0,26⟩),(.ext 0,⟨[(4, .cl (.dead))],[],[],0,26⟩)]
def wd {ρ:Type} (v1:List Int) (v2:List Int) (v3:Int) (fn: (((List Int)×(List Int)×Int×Unit)×(Unit)×(Unit))->Option ρ) (fe: ((Bool×Unit)×(Unit)×(Unit))⊕((Unit×Unit)×(Unit)×(Unit))->Option ρ):Option ρ:=
 br (decide (v3 < (v1.length:Int))) (eg (0<=v3) ((v1[v3.toNat]?).bind fun x4=>eg (0<=v3) ((v2[v3.toNat]?).bind fun x5=>br (!(x4==x5)) (fe (.inl ((false,()),(()),(())))) (fn ((v1,v2,(IntKind.wrap .i64 (v3+1)),()),(()),(())))) none) none) (fe (.inr (((),()),(()),(()))))
abbrev rj {ρ:Type} (s:jF.D) (fn:jF.D->Option ρ) (fe:eX.D pQ->Option ρ):Option ρ:=wd s.1.1 s.1.2.1 s.1.2.2.1 fn fe
def kt (s:jF.D):Option (jF.D⊕eX.D pQ):=rj s (fun s=>some (.inl s)) (fun e=>some (.inr e))
def s5:jF.D->Option (eX.D pQ):=mw kt
theorem Po {ρ:Type} (s:jF.D) (fn:_->Option ρ) (fe:_):rj s fn fe=(kt s).bind (Sum.elim fn fe):=by
 simp only [kt,rj,wd,dZ,ea,an,ah,ae,aA,aB]
abbrev Ie:fO:=fR [] [0,1,5] jF pQ s5
theorem Nn (s:jF.D):iz Θ (ek LA) (en []) sZ (jF.mk' s) (fM [0,1,5] [4] fun x S=>some (x,S))=(kt s).bind (Sum.elim (fun s'=>some (.nor,jF.mk' s')) fun e=>some (eX.e pQ e)):=
 ak (by kernel_rfl) (Po s _ _)
theorem Np:fk Tryz.prog sZ Ie:=eA eo GQ dT (by kernel_rfl) (fV (by kernel_rfl:_= []) dU) [] [0,1,5] [4] jF pQ (by kernel_rfl) kt Nn s5 (ju kt) (ev kt)
def Ab {ρ:Type} (a0:List Int) (a1:List Int) (k:Bool×Unit->Option ρ):Option ρ:=
 br (!((a0.length:Int)==(a1.length:Int))) (k (false,())) ((s5 ((a0,a1,0,()),(()),(()))).bind fun e6=>Sum.elim (fun e6_=>k (e6_.1.1,())) (fun _=>k (true,())) e6)
def og (a0:List Int) (a1:List Int):=Ab a0 a1 some
theorem TY {ρ:Type} (a0 a1:_) (k:_->Option ρ):Ab a0 a1 k=(og a0 a1).bind k:=by
 simp only [og,Ab,dZ,fU,ah,ae]
abbrev LB:eG:=eJ [.ty (.ls (.i .i64)), .ty (.ls (.i .i64))] [.b] fun x=>og x.1 x.2.1
theorem Zu:eh Tryz.prog 159 LB:=
 dY (Λ:=en [(fC sZ,Ie)]) (fn:=Tryz.f159) eo GQ dT (by kernel_rfl) (ej (by kernel_rfl:_= [sZ]) (eu (q:=fC sZ) rfl Np fun _ _ _=>by kernel_rfl)) (by kernel_rfl) (fun x=>og x.1 x.2.1)
  (fun x=>ak (by kernel_rfl) (TY x.1 x.2.1 _)) fun _ _ h=>h
abbrev Zv:List (Nat×eG):= [(159,LB)]
theorem QZ:ef Tryz.prog (ek Zv):=dS Zu <| dX _
def Ad {ρ:Type} (a0:dW) (a1:dW) (k:Bool×Unit->Option ρ):Option ρ:=
 br (a0.epoch==a1.epoch) (br (a0.primary==a1.primary) ((og a0.replicas a1.replicas).bind fun y1=>br y1.1 ((og a0.witnesses a1.witnesses).bind fun y2=>k (y2.1,())) (k (false,()))) (k (false,()))) (k (false,()))
def m8 (a0:dW) (a1:dW):=Ad a0 a1 some
theorem TZ {ρ:Type} (a0 a1:_) (k:_->Option ρ):Ad a0 a1 k=(m8 a0 a1).bind k:=by
 simp only [m8,Ad,dZ,ah,ae]
abbrev BU:eG:=eJ [.ty (.st .config), .ty (.st .config)] [.b] fun x=>m8 x.1 x.2.1
theorem F9:eh Tryz.prog 90 BU:=
 dY (Λ:=en []) (fn:=Tryz.f90) eo QZ dT (by kernel_rfl) (ej (by kernel_rfl:_= []) dU) (by kernel_rfl) (fun x=>m8 x.1 x.2.1)
  (fun x=>ak (by kernel_rfl) (TZ x.1 x.2.1 _)) fun _ _ h=>h
abbrev amq:List (Nat×eG):= [(90,BU)]
theorem ae6:ef Tryz.prog (ek amq):=dS F9 <| dX _
def Je {ρ:Type} (a0:dW) (k:Bool×Unit->Option ρ):Option ρ:=
 (m8 a0 (⟨0,0,([]:List Int),([]:List Int)⟩:dW)).bind fun y1=>k (y1.1,())
def yd (a0:dW):=Je a0 some
theorem ah5 {ρ:Type} (a0:_) (k:_->Option ρ):Je a0 k=(yd a0).bind k:=by
 simp only [yd,Je,ah,ae]
abbrev Na:eG:=eJ [.ty (.st .config)] [.b] fun x=>yd x.1
theorem T0:eh Tryz.prog 89 Na:=
 dY (Λ:=en []) (fn:=Tryz.f89) eo ae6 dT (by kernel_rfl) (ej (by kernel_rfl:_= []) dU) (by kernel_rfl) (fun x=>yd x.1)
  (fun x=>ak (by kernel_rfl) (ah5 x.1 _)) fun _ _ h=>h
abbrev amr:List (Nat×eG):= []
theorem ae7:ef Tryz.prog (ek amr):=dX _
def Jf {ρ:Type} (a0:List ed) (k:Int×Unit->Option ρ):Option ρ:=
 br ((a0.length:Int)==0) (k (0,())) (eg (0<=(IntKind.wrap .i64 ((a0.length:Int) - 1))) ((a0[(IntKind.wrap .i64 ((a0.length:Int) - 1)).toNat]?).bind fun x1=>k (x1.epoch,())) none)
def vv (a0:List ed):=Jf a0 some
theorem ah6 {ρ:Type} (a0:_) (k:_->Option ρ):Jf a0 k=(vv a0).bind k:=by
 simp only [vv,Jf,dZ,ea,an,ah,ae]
abbrev Nb:eG:=eJ [.ty (.ls (.st .entry))] [.i .i64] fun x=>vv x.1
theorem T1:eh Tryz.prog 126 Nb:=
 dY (Λ:=en []) (fn:=Tryz.f126) eo ae7 dT (by kernel_rfl) (ej (by kernel_rfl:_= []) dU) (by kernel_rfl) (fun x=>vv x.1)
  (fun x=>ak (by kernel_rfl) (ah6 x.1 _)) fun _ _ h=>h
abbrev aoE:List (Nat×eG):= [(169,uK),(51,t5)]
theorem ah7:ef Tryz.prog (ek aoE):=dS Aa <| dS wX <| dX _
def FN {ρ:Type} (a0:dW) (a1:Int) (k:Int×Unit->Option ρ):Option ρ:=
 (fI a0).bind fun y1=>br (!y1.1) (k (0,())) (br (a1==a0.primary) (k (1,())) ((jv a0.replicas a1).bind fun y2=>br y2.1 (k (2,())) ((jv a0.witnesses a1).bind fun y3=>br y3.1 (k (3,())) (k (0,())))))
def rk (a0:dW) (a1:Int):=FN a0 a1 some
theorem ajY {ρ:Type} (a0 a1:_) (k:_->Option ρ):FN a0 a1 k=(rk a0 a1).bind k:=by
 simp only [rk,FN,dZ,ah,ae]
abbrev LC:eG:=eJ [.ty (.st .config), .ty (.i .i64)] [.i .i64] fun x=>rk x.1 x.2.1
theorem Q0:eh Tryz.prog 171 LC:=
 dY (Λ:=en []) (fn:=Tryz.f171) eo ah7 dT (by kernel_rfl) (ej (by kernel_rfl:_= []) dU) (by kernel_rfl) (fun x=>rk x.1 x.2.1)
  (fun x=>ak (by kernel_rfl) (ajY x.1 x.2.1 _)) fun _ _ h=>h
abbrev WF:List (Nat×eG):= [(120,mZ),(172,QY),(89,Na),(126,Nb),(171,LC)]
theorem Pp:ef Tryz.prog (ek WF):=dS nC <| dS X6 <| dS T0 <| dS T1 <| dS Q0 <| dX _
def mz {ρ:Type} (a0:eb) (a1:Int) (k:Bool×Unit->Option ρ):Option ρ:=
 (gk a0.version 1 2).bind fun y1=>br (!y1.1) (k (false,())) ((gk a0.epoch 0 20).bind fun y2=>br (!y2.1) (k (false,())) ((sI a0.log).bind fun y3=>br (!y3.1) (k (false,())) ((sI a0.learned).bind fun y4=>br (!y4.1) (k (false,())) ((gk a0.first 0 16).bind fun y5=>br (!y5.1) (k (false,())) ((gk (IntKind.wrap .i64 (a0.first+(a0.log.length:Int))) 0 16).bind fun y6=>br (!y6.1) (k (false,())) ((gk a0.commit 0 (IntKind.wrap .i64 (a0.first+(a0.log.length:Int)))).bind fun y7=>br (!y7.1) (k (false,())) ((yd a0.config).bind fun y8=>br y8.1 (br (a0.first==0) (br ((a0.log.length:Int)==0) (k ((a0.commit==0),())) (k (false,()))) (k (false,()))) (br (!a0.intact) (k (false,())) (br (decide (a0.epoch < a0.config.epoch)) (k (false,())) ((vv a0.log).bind fun y9=>br (decide (y9.1 > a0.config.epoch)) (k (false,())) ((rk a0.config a1).bind fun y10=>br (y10.1==0) (k (false,())) (br (y10.1==3) (br (decide ((a0.log.length:Int)<=3)) (br ((a0.log.length:Int)==3) (k (true,())) (k ((a0.first==0),()))) (k (false,()))) (k ((a0.first==0),()))))))))))))))
def fw (a0:eb) (a1:Int):=mz a0 a1 some
theorem Q1 {ρ:Type} (a0 a1:_) (k:_->Option ρ):mz a0 a1 k=(fw a0 a1).bind k:=by
 simp only [fw,mz,dZ,ah,ae]
abbrev Ey:eG:=eJ [.ty (.st .server), .ty (.i .i64)] [.b] fun x=>fw x.1 x.2.1
theorem J5:eh Tryz.prog 125 Ey:=
 dY (Λ:=en []) (fn:=Tryz.f125) eo Pp dT (by kernel_rfl) (ej (by kernel_rfl:_= []) dU) (by kernel_rfl) (fun x=>fw x.1 x.2.1)
  (fun x=>ak (by kernel_rfl) (Q1 x.1 x.2.1 _)) fun _ _ h=>h
abbrev ajZ:List (Nat×eG):= [(122,zp),(120,mZ),(170,H5)]
theorem abU:ef Tryz.prog (ek ajZ):=dS Dx <| dS nC <| dS Ls <| dX _
def Eb {ρ:Type} (a0:ei) (a1:Int) (k:dW×Bool×Unit->Option ρ):Option ρ:=
 (ib a0).bind fun y1=>br (!y1.1) (k ((⟨0,0,([]:List Int),([]:List Int)⟩:dW),false,())) ((gk a1 1 (a0.configs.length:Int)).bind fun y2=>br (!y2.1) (k ((⟨0,0,([]:List Int),([]:List Int)⟩:dW),false,())) (eg (0<=(IntKind.wrap .i64 (a1 - 1))) ((a0.configs[(IntKind.wrap .i64 (a1 - 1)).toNat]?).bind fun x3=>(o9 x3).bind fun y4=>k (y4.1,true,())) none))
def oZ (a0:ei) (a1:Int):=Eb a0 a1 some
theorem ae8 {ρ:Type} (a0 a1:_) (k:_->Option ρ):Eb a0 a1 k=(oZ a0 a1).bind k:=by
 simp only [oZ,Eb,dZ,ea,an,ah,ae]
abbrev Jg:eG:=eJ [.ty (.st .masterLog), .ty (.i .i64)] [.st .config, .b] fun x=>oZ x.1 x.2.1
theorem Pq:eh Tryz.prog 127 Jg:=
 dY (Λ:=en []) (fn:=Tryz.f127) eo abU dT (by kernel_rfl) (ej (by kernel_rfl:_= []) dU) (by kernel_rfl) (fun x=>oZ x.1 x.2.1)
  (fun x=>ak (by kernel_rfl) (ae8 x.1 x.2.1 _)) fun _ _ h=>h
abbrev Ig:List (Nat×eG):= [(120,mZ),(121,Jb),(122,zp),(123,Ia),(124,Ea),(125,Ey),(126,Nb),(127,Jg),(89,Na),(90,BU)]
theorem EO:ef Tryz.prog (ek Ig):=dS nC <| dS Pj <| dS Dx <| dS M9 <| dS GP <| dS J5 <| dS T1 <| dS Pq <| dS T0 <| dS F9 <| dX _
abbrev qd:Code:=fm (fo Tryz.f46) 0
abbrev iA:it:=⟨[(1, .cl (.ptr 0 0)),(3, .cl (.int .i64))],[[.int .i64, .ro (.st .server), .ro (.i .i64), .ro (.st .config), .int .i64, .int .i64, .int .i64, .int .i64, .int .i64, .ro (.st .place)]],[],0,123⟩
abbrev nI:List (X×it):= [(.ret,⟨[(2, .cl (.bl))],[],[],0,123⟩),(.ext 0,⟨[(2, .cl (.dead))],[],[],0,123⟩)]
def iP {ρ:Type} (v7:Int) (v8:Int) (v9:List eb) (v10:List Int) (v11:List dW) (v12:Int) (v13:Int) (v14:Int) (v15:Int) (v16:Int) (v17:List ey) (fn: ((Unit×Int×Unit)×((Int×(List eb)×(List Int)×(List dW)×Int×Int×Int×Int×Int×(List ey)×Unit)×Unit)×(Unit))->Option ρ) (fe: ((Bool×Unit)×(Unit)×(Unit))⊕((Unit×Unit)×(Unit)×(Unit))->Option ρ):Option ρ:=
 br (decide (v7 < (v9.length:Int))) (eg (0<=v7) ((v9[v7.toNat]?).bind fun x18=>(fw x18 v7).bind fun y19=>br (!y19.1) (fe (.inl ((false,()),(()),(())))) (br (decide (x18.epoch > (v11.length:Int))) (fe (.inl ((false,()),(()),(())))) ((vv x18.learned).bind fun y20=>br (decide (y20.1 > v12)) (fe (.inl ((false,()),(()),(())))) ((oZ (⟨v11,v12⟩:ei) x18.config.epoch).bind fun y21=>(yd x18.config).bind fun y22=>br (!y22.1) (br (!y21.2.1) (fe (.inl ((false,()),(()),(())))) ((m8 y21.1 x18.config).bind fun y23=>br (!y23.1) (fe (.inl ((false,()),(()),(())))) (br (decide (x18.config.epoch > v12)) (fe (.inl ((false,()),(()),(())))) (fn (((),(IntKind.wrap .i64 (v7+1)),()),((v8,v9,v10,v11,v12,v13,v14,v15,v16,v17,()),()),(())))))) (fn (((),(IntKind.wrap .i64 (v7+1)),()),((v8,v9,v10,v11,v12,v13,v14,v15,v16,v17,()),()),(()))))))) none) (fe (.inr (((),()),(()),(()))))
abbrev ic {ρ:Type} (s:iA.D) (fn:iA.D->Option ρ) (fe:eX.D nI->Option ρ):Option ρ:=iP s.1.2.1 s.2.1.1.1 s.2.1.1.2.1 s.2.1.1.2.2.1 s.2.1.1.2.2.2.1 s.2.1.1.2.2.2.2.1 s.2.1.1.2.2.2.2.2.1 s.2.1.1.2.2.2.2.2.2.1 s.2.1.1.2.2.2.2.2.2.2.1 s.2.1.1.2.2.2.2.2.2.2.2.1 s.2.1.1.2.2.2.2.2.2.2.2.2.1 fn fe
def eP (s:iA.D):Option (iA.D⊕eX.D nI):=ic s (fun s=>some (.inl s)) (fun e=>some (.inr e))
def kU:iA.D->Option (eX.D nI):=mw eP
theorem LD {ρ:Type} (s:iA.D) (fn:_->Option ρ) (fe:_):ic s fn fe=(eP s).bind (Sum.elim fn fe):=by
 simp only [eP,ic,iP,dZ,ea,an,ah,ae,aA,aB]
abbrev Ga:fO:=fR [] [1,3] iA nI kU
theorem KI (s:iA.D):iz Θ (ek Ig) (en []) qd (iA.mk' s) (fM [1,3] [2] fun x S=>some (x,S))=(eP s).bind (Sum.elim (fun s'=>some (.nor,iA.mk' s')) fun e=>some (eX.e nI e)):=
 ak (by kernel_rfl) (LD s _ _)
theorem KJ:fk Tryz.prog qd Ga:=eA eo EO dT (by kernel_rfl) (fV (by kernel_rfl:_= []) dU) [] [1,3] [2] iA nI (by kernel_rfl) eP KI kU (ju eP) (ev eP)
def m9 {ρ:Type} (a0:dV) (k:Bool×Unit->Option ρ):Option ρ:=
 (gk a0.now 0 999).bind fun y1=>br (!y1.1) (k (false,())) (br (!((a0.servers.length:Int)==5)) (k (false,())) ((oW a0.sides).bind fun y2=>br (!y2.1) (k (false,())) ((ib a0.master).bind fun y3=>br (!y3.1) (k (false,())) ((gk a0.masterUp 0 3).bind fun y4=>br (!y4.1) (k (false,())) ((qJ a0.lease).bind fun y5=>br (!y5.1) (k (false,())) ((kB a0.places).bind fun y6=>br (!y6.1) (k (false,())) (br (decide (a0.lease.epoch > a0.master.activated)) (k (false,())) ((kU (((),0,()),((a0.now,a0.servers,a0.sides,a0.master.configs,a0.master.activated,a0.masterUp,a0.lease.epoch,a0.lease.holder,a0.lease.ends,a0.places,()),()),(()))).bind fun e24=>Sum.elim (fun e24_=>k (e24_.1.1,())) (fun _=>k (true,())) e24))))))))
def eC (a0:dV):=m9 a0 some
theorem Pr {ρ:Type} (a0:_) (k:_->Option ρ):m9 a0 k=(eC a0).bind k:=by
 simp only [eC,m9,dZ,fU,ah,ae]
abbrev iv:eG:=eJ [.ty (.st .cluster)] [.b] fun x=>eC x.1
theorem iW:eh Tryz.prog 46 iv:=
 dY (Λ:=en [(fC qd,Ga)]) (fn:=Tryz.f46) eo EO dT (by kernel_rfl) (ej (by kernel_rfl:_= [qd]) (eu (q:=fC qd) rfl KJ fun _ _ _=>by kernel_rfl)) (by kernel_rfl) (fun x=>eC x.1)
  (fun x=>ak (by kernel_rfl) (Pr x.1 _)) fun _ _ h=>h
abbrev WG:List (Nat×eG):= [(127,Jg)]
theorem Ps:ef Tryz.prog (ek WG):=dS Pq <| dX _
def s6 {ρ:Type} (a0:ei) (k:dW×Bool×Unit->Option ρ):Option ρ:=
 (oZ a0 a0.activated).bind fun y1=>k (y1.1,y1.2.1,())
def iw (a0:ei):=s6 a0 some
theorem Q2 {ρ:Type} (a0:_) (k:_->Option ρ):s6 a0 k=(iw a0).bind k:=by
 simp only [iw,s6,ah,ae]
abbrev qK:eG:=eJ [.ty (.st .masterLog)] [.st .config, .b] fun x=>iw x.1
theorem uM:eh Tryz.prog 50 qK:=
 dY (Λ:=en []) (fn:=Tryz.f50) eo Ps dT (by kernel_rfl) (ej (by kernel_rfl:_= []) dU) (by kernel_rfl) (fun x=>iw x.1)
  (fun x=>ak (by kernel_rfl) (Q2 x.1 _)) fun _ _ h=>h
abbrev Zw:List (Nat×eG):= [(125,Ey),(171,LC)]
theorem Q3:ef Tryz.prog (ek Zw):=dS J5 <| dS Q0 <| dX _
def Ae {ρ:Type} (a0:eb) (a1:Int) (k:Bool×Unit->Option ρ):Option ρ:=
 (fw a0 a1).bind fun y1=>br y1.1 (br a0.up ((rk a0.config a1).bind fun y2=>br (y2.1==1) (k ((a0.epoch==a0.config.epoch),())) (k (false,()))) (k (false,()))) (k (false,()))
def oh (a0:eb) (a1:Int):=Ae a0 a1 some
theorem T2 {ρ:Type} (a0 a1:_) (k:_->Option ρ):Ae a0 a1 k=(oh a0 a1).bind k:=by
 simp only [oh,Ae,dZ,ah,ae]
abbrev Gb:eG:=eJ [.ty (.st .server), .ty (.i .i64)] [.b] fun x=>oh x.1 x.2.1
theorem LF:eh Tryz.prog 191 Gb:=
 dY (Λ:=en []) (fn:=Tryz.f191) eo Q3 dT (by kernel_rfl) (ej (by kernel_rfl:_= []) dU) (by kernel_rfl) (fun x=>oh x.1 x.2.1)
  (fun x=>ak (by kernel_rfl) (T2 x.1 x.2.1 _)) fun _ _ h=>h
abbrev Gc:List (Nat×eG):= [(148,M8)]
theorem BV:ef Tryz.prog (ek Gc):=dS QT <| dX _
abbrev s7:Code:=fm (fo Tryz.f249) 0
abbrev s8:Code:=fm (fo Tryz.f249) 1
abbrev jG:it:=⟨[(0, .cl (.ro (.i .i64))),(1, .cl (.ro (.i .i64))),(5, .cl (.own 0 (.i .i64))),(6, .cl (.int .i64))],[],[.i .i64],0,34⟩
abbrev pR:List (X×it):= [(.ext 0,⟨[(1, .cl (.ro (.i .i64))),(5, .cl (.own 0 (.i .i64)))],[],[.i .i64],0,34⟩)]
def we {ρ:Type} (v1:List Int) (v2:List Int) (v3:List Int) (v4:Int) (fn: (((List Int)×(List Int)×Unit×Int×Unit)×(Unit)×((List Int)×Unit))->Option ρ) (fe: (((List Int)×Unit×Unit)×(Unit)×((List Int)×Unit))->Option ρ):Option ρ:=
 br (decide (v4 < (v2.length:Int))) (eg (0<=v4) ((v2[v4.toNat]?).bind fun x5=>(uj v1 x5).bind fun y6=>fn ((v2,v3,(),(IntKind.wrap .i64 (v4+1)),()),(()),(y6.1,()))) none) (fe ((v3,(),()),(()),(v1,())))
abbrev rn {ρ:Type} (s:jG.D) (fn:jG.D->Option ρ) (fe:eX.D pR->Option ρ):Option ρ:=we s.2.2.1 s.1.1 s.1.2.1 s.1.2.2.2.1 fn fe
def ku (s:jG.D):Option (jG.D⊕eX.D pR):=rn s (fun s=>some (.inl s)) (fun e=>some (.inr e))
def ye:jG.D->Option (eX.D pR):=mw ku
theorem Pt {ρ:Type} (s:jG.D) (fn:_->Option ρ) (fe:_):rn s fn fe=(ku s).bind (Sum.elim fn fe):=by
 simp only [ku,rn,we,dZ,ea,an,ah,ae,aA,aB]
abbrev Ih:fO:=fR [] [0,1,5,6] jG pR ye
theorem Nq (s:jG.D):iz Θ (ek Gc) (en []) s7 (jG.mk' s) (fM [0,1,5,6] [1,5] fun x S=>some (x,S))=(ku s).bind (Sum.elim (fun s'=>some (.nor,jG.mk' s')) fun e=>some (eX.e pR e)):=
 ak (by kernel_rfl) (Pt s _ _)
theorem Nr:fk Tryz.prog s7 Ih:=eA eo BV dT (by kernel_rfl) (fV (by kernel_rfl:_= []) dU) [] [0,1,5,6] [1,5] jG pR (by kernel_rfl) ku Nq ye (ju ku) (ev ku)
abbrev jH:it:=⟨[(1, .cl (.ro (.i .i64))),(5, .cl (.own 0 (.i .i64))),(7, .cl (.int .i64))],[],[.i .i64],0,34⟩
abbrev pS:List (X×it):= [(.ext 2,⟨[(5, .cl (.own 0 (.i .i64)))],[],[.i .i64],0,34⟩)]
def wg {ρ:Type} (v8:List Int) (v9:List Int) (v10:Int) (fn: (((List Int)×Unit×Int×Unit)×(Unit)×((List Int)×Unit))->Option ρ) (fe: ((Unit×Unit)×(Unit)×((List Int)×Unit))->Option ρ):Option ρ:=
 br (decide (v10 < (v9.length:Int))) (eg (0<=v10) ((v9[v10.toNat]?).bind fun x11=>(uj v8 x11).bind fun y12=>fn ((v9,(),(IntKind.wrap .i64 (v10+1)),()),(()),(y12.1,()))) none) (fe (((),()),(()),(v8,())))
abbrev rp {ρ:Type} (s:jH.D) (fn:jH.D->Option ρ) (fe:eX.D pS->Option ρ):Option ρ:=wg s.2.2.1 s.1.1 s.1.2.2.1 fn fe
def kv (s:jH.D):Option (jH.D⊕eX.D pS):=rp s (fun s=>some (.inl s)) (fun e=>some (.inr e))
def yf:jH.D->Option (eX.D pS):=mw kv
theorem Pu {ρ:Type} (s:jH.D) (fn:_->Option ρ) (fe:_):rp s fn fe=(kv s).bind (Sum.elim fn fe):=by
 simp only [kv,rp,wg,dZ,ea,an,ah,ae,aA,aB]
abbrev Ii:fO:=fR [] [1,5,7] jH pS yf
theorem Ns (s:jH.D):iz Θ (ek Gc) (en []) s8 (jH.mk' s) (fM [1,5,7] [5] fun x S=>some (x,S))=(kv s).bind (Sum.elim (fun s'=>some (.nor,jH.mk' s')) fun e=>some (eX.e pS e)):=
 ak (by kernel_rfl) (Pu s _ _)
theorem Nt:fk Tryz.prog s8 Ii:=eA eo BV dT (by kernel_rfl) (fV (by kernel_rfl:_= []) dU) [] [1,5,7] [5] jH pS (by kernel_rfl) kv Ns yf (ju kv) (ev kv)
def Af {ρ:Type} (a0:List Int) (a1:List Int) (k: (List Int)×Unit->Option ρ):Option ρ:=
 (ye ((a0,a1,(),0,()),(()),(([]:List Int),()))).bind fun e7=>(yf ((e7.1.1,(),0,()),(()),(e7.2.2.1,()))).bind fun e13=>k (e13.2.2.1,())
def om (a0:List Int) (a1:List Int):=Af a0 a1 some
theorem T3 {ρ:Type} (a0 a1:_) (k:_->Option ρ):Af a0 a1 k=(om a0 a1).bind k:=by
 simp only [om,Af,ah,ae]
abbrev LG:eG:=eJ [.ty (.ls (.i .i64)), .ty (.ls (.i .i64))] [.ls (.i .i64)] fun x=>om x.1 x.2.1
theorem Zx:eh Tryz.prog 249 LG:=
 dY (Λ:=en [(fC s7,Ih),(fC s8,Ii)]) (fn:=Tryz.f249) eo BV dT (by kernel_rfl) (ej (by kernel_rfl:_= [s7,s8]) (H2 (eu (q:=fC s7) rfl Nr fun _ _ _=>by kernel_rfl) (eu (q:=fC s8) rfl Nt fun _ _ _=>by kernel_rfl))) (by kernel_rfl) (fun x=>om x.1 x.2.1)
  (fun x=>ak (by kernel_rfl) (T3 x.1 x.2.1 _)) fun _ _ h=>h
abbrev ah8:List (Nat×eG):= [(169,uK),(249,LG)]
theorem Zy:ef Tryz.prog (ek ah8):=dS Aa <| dS Zx <| dX _
def Fc {ρ:Type} (a0:dW) (k: (List Int)×Unit->Option ρ):Option ρ:=
 (fI a0).bind fun y1=>br (!y1.1) (k (([]:List Int),())) ((om a0.replicas a0.witnesses).bind fun y2=>k (y2.1,()))
def rq (a0:dW):=Fc a0 some
theorem abV {ρ:Type} (a0:_) (k:_->Option ρ):Fc a0 k=(rq a0).bind k:=by
 simp only [rq,Fc,dZ,ah,ae]
abbrev GR:eG:=eJ [.ty (.st .config)] [.ls (.i .i64)] fun x=>rq x.1
theorem LH:eh Tryz.prog 192 GR:=
 dY (Λ:=en []) (fn:=Tryz.f192) eo Zy dT (by kernel_rfl) (ej (by kernel_rfl:_= []) dU) (by kernel_rfl) (fun x=>rq x.1)
  (fun x=>ak (by kernel_rfl) (abV x.1 _)) fun _ _ h=>h
abbrev aj0:List (Nat×eG):= [(121,Jb),(120,mZ)]
theorem abW:ef Tryz.prog (ek aj0):=dS Pj <| dS nC <| dX _
def GS {ρ:Type} (a0:List Int) (a1:Int) (a2:Int) (k:Bool×Unit->Option ρ):Option ρ:=
 (oW a0).bind fun y1=>br y1.1 ((gk a1 0 4).bind fun y2=>br y2.1 ((gk a2 0 4).bind fun y3=>br y3.1 (eg (0<=a1) ((a0[a1.toNat]?).bind fun x4=>eg (0<=a2) ((a0[a2.toNat]?).bind fun x5=>k ((x4==x5),())) none) none) (k (false,()))) (k (false,()))) (k (false,()))
def qe (a0:List Int) (a1:Int) (a2:Int):=GS a0 a1 a2 some
theorem ae9 {ρ:Type} (a0 a1 a2:_) (k:_->Option ρ):GS a0 a1 a2 k=(qe a0 a1 a2).bind k:=by
 simp only [qe,GS,dZ,ea,an,ah,ae]
abbrev Gd:eG:=eJ [.ty (.ls (.i .i64)), .ty (.i .i64), .ty (.i .i64)] [.b] fun x=>qe x.1 x.2.1 x.2.2.1
theorem Jh:eh Tryz.prog 250 Gd:=
 dY (Λ:=en []) (fn:=Tryz.f250) eo abW dT (by kernel_rfl) (ej (by kernel_rfl:_= []) dU) (by kernel_rfl) (fun x=>qe x.1 x.2.1 x.2.2.1)
  (fun x=>ak (by kernel_rfl) (ae9 x.1 x.2.1 x.2.2.1 _)) fun _ _ h=>h
abbrev aj1:List (Nat×eG):= [(250,Gd),(90,BU)]
theorem abX:ef Tryz.prog (ek aj1):=dS Jh <| dS F9 <| dX _
def GU {ρ:Type} (a0:dV) (a1:Int) (a2:Int) (k:Bool×Unit->Option ρ):Option ρ:=
 eg (0<=a2) ((a0.servers[a2.toNat]?).bind fun x1=>(qe a0.sides a1 a2).bind fun y2=>br y2.1 (br x1.up (eg (0<=a1) ((a0.servers[a1.toNat]?).bind fun x3=>br (x1.epoch==x3.epoch) (eg (0<=a1) ((a0.servers[a1.toNat]?).bind fun x4=>br (decide (x1.commit<=(x4.log.length:Int))) (eg (0<=a1) ((a0.servers[a1.toNat]?).bind fun x5=>(m8 x1.config x5.config).bind fun y6=>k (y6.1,())) none) (k (false,()))) none) (k (false,()))) none) (k (false,()))) (k (false,()))) none
def AO (a0:dV) (a1:Int) (a2:Int):=GU a0 a1 a2 some
theorem afa {ρ:Type} (a0 a1 a2:_) (k:_->Option ρ):GU a0 a1 a2 k=(AO a0 a1 a2).bind k:=by
 simp only [AO,GU,dZ,ea,an,ah,ae]
abbrev Zz:eG:=eJ [.ty (.st .cluster), .ty (.i .i64), .ty (.i .i64)] [.b] fun x=>AO x.1 x.2.1 x.2.2.1
theorem aj2:eh Tryz.prog 193 Zz:=
 dY (Λ:=en []) (fn:=Tryz.f193) eo abX dT (by kernel_rfl) (ej (by kernel_rfl:_= []) dU) (by kernel_rfl) (fun x=>AO x.1 x.2.1 x.2.2.1)
  (fun x=>ak (by kernel_rfl) (afa x.1 x.2.1 x.2.2.1 _)) fun _ _ h=>h
abbrev Ij:List (Nat×eG):= [(50,qK),(46,iv),(191,Gb),(192,GR),(193,Zz)]
theorem EP:ef Tryz.prog (ek Ij):=dS uM <| dS iW <| dS LF <| dS LH <| dS aj2 <| dX _
abbrev qf:Code:=fm (fo Tryz.f114) 0
abbrev iB:it:=⟨[(1, .cl (.ptr 0 0)),(3, .cl (.ptr 1 0)),(5, .cl (.own 0 (.i .i64))),(6, .cl (.int .i64))],[[.int .i64, .ro (.st .server), .ro (.i .i64), .ro (.st .config), .int .i64, .int .i64, .int .i64, .int .i64, .int .i64, .ro (.st .place)],[.int .i64, .int .i64, .own 1 (.i .i64), .own 2 (.i .i64)]],[.i .i64, .i .i64, .i .i64],0,64⟩
abbrev nJ:List (X×it):= [(.ret,⟨[(2, .cl (.int .i64)),(3, .cl (.ptr 0 0))],[[.int .i64, .int .i64, .own 0 (.i .i64), .own 1 (.i .i64)]],[.i .i64, .i .i64],0,64⟩),(.ext 0,⟨[(2, .cl (.dead)),(3, .cl (.ptr 0 0))],[[.int .i64, .int .i64, .own 0 (.i .i64), .own 1 (.i .i64)]],[.i .i64, .i .i64],0,64⟩)]
def sJ {ρ:Type} (v7:List Int) (v8:List Int) (v9:List Int) (v10:Int) (v11:Int) (v12:List eb) (v13:List Int) (v14:List dW) (v15:Int) (v16:Int) (v17:Int) (v18:Int) (v19:Int) (v20:List ey) (v21:Int) (v22:Int) (fn: ((Unit×Unit×Unit×Int×Unit)×((Int×(List eb)×(List Int)×(List dW)×Int×Int×Int×Int×Int×(List ey)×Unit)×(Int×Int×Unit×Unit×Unit)×Unit)×((List Int)×(List Int)×(List Int)×Unit))->Option ρ) (fe: ((Int×Unit×Unit)×((Int×Int×Unit×Unit×Unit)×Unit)×((List Int)×(List Int)×Unit))⊕((Unit×Unit×Unit)×((Int×Int×Unit×Unit×Unit)×Unit)×((List Int)×(List Int)×Unit))->Option ρ):Option ρ:=
 br (decide (v10 < (v7.length:Int))) (eg (0<=v10/\v10 < (v7.length:Int)) ((v7[v10.toNat]?).bind fun x23=>(AO (⟨v11,v12,v13,(⟨v14,v15⟩:ei),v16,(⟨v17,v18,v19⟩:ir),v20⟩:dV) v22 x23).bind fun y24=>br (!y24.1) (fe (.inl (((-1),(),()),((v21,v22,(),(),()),()),(v8,v9,())))) (fn (((),(),(),(IntKind.wrap .i64 (v10+1)),()),((v11,v12,v13,v14,v15,v16,v17,v18,v19,v20,()),(v21,v22,(),(),()),()),(v7,v8,v9,())))) none) (fe (.inr (((),(),()),((v21,v22,(),(),()),()),(v8,v9,()))))
abbrev pa {ρ:Type} (s:iB.D) (fn:iB.D->Option ρ) (fe:eX.D nJ->Option ρ):Option ρ:=sJ s.2.2.1 s.2.2.2.1 s.2.2.2.2.1 s.1.2.2.2.1 s.2.1.1.1 s.2.1.1.2.1 s.2.1.1.2.2.1 s.2.1.1.2.2.2.1 s.2.1.1.2.2.2.2.1 s.2.1.1.2.2.2.2.2.1 s.2.1.1.2.2.2.2.2.2.1 s.2.1.1.2.2.2.2.2.2.2.1 s.2.1.1.2.2.2.2.2.2.2.2.1 s.2.1.1.2.2.2.2.2.2.2.2.2.1 s.2.1.2.1.1 s.2.1.2.1.2.1 fn fe
def jd (s:iB.D):Option (iB.D⊕eX.D nJ):=pa s (fun s=>some (.inl s)) (fun e=>some (.inr e))
def qg:iB.D->Option (eX.D nJ):=mw jd
theorem LI {ρ:Type} (s:iB.D) (fn:_->Option ρ) (fe:_):pa s fn fe=(jd s).bind (Sum.elim fn fe):=by
 simp only [jd,pa,sJ,dZ,ea,an,ah,ae,aA,aB]
abbrev Ge:fO:=fR [] [1,3,5,6] iB nJ qg
theorem KK (s:iB.D):iz Θ (ek Ij) (en []) qf (iB.mk' s) (fM [1,3,5,6] [2,3] fun x S=>some (x,S))=(jd s).bind (Sum.elim (fun s'=>some (.nor,iB.mk' s')) fun e=>some (eX.e nJ e)):=
 ak (by kernel_rfl) (LI s _ _)
theorem KL:fk Tryz.prog qf Ge:=eA eo EP dT (by kernel_rfl) (fV (by kernel_rfl:_= []) dU) [] [1,3,5,6] [2,3] iB nJ (by kernel_rfl) jd KK qg (ju jd) (ev jd)
def wi {ρ:Type} (a0:dV) (k:Int×Unit->Option ρ):Option ρ:=
 (iw a0.master).bind fun y1=>(eC a0).bind fun y2=>br (!y2.1) (k ((-1),())) (br (!y1.2.1) (k ((-1),())) (eg (0<=y1.1.primary) ((a0.servers[y1.1.primary.toNat]?).bind fun x3=>(oh x3 y1.1.primary).bind fun y4=>br (!y4.1) (k ((-1),())) (eg (0<=y1.1.primary) ((a0.servers[y1.1.primary.toNat]?).bind fun x5=>br (!(x5.config.epoch==y1.1.epoch)) (k ((-1),())) ((rq y1.1).bind fun y6=>(qg (((),(),(),0,()),((a0.now,a0.servers,a0.sides,a0.master.configs,a0.master.activated,a0.masterUp,a0.lease.epoch,a0.lease.holder,a0.lease.ends,a0.places,()),(y1.1.epoch,y1.1.primary,(),(),()),()),(y6.1,y1.1.replicas,y1.1.witnesses,()))).bind fun e25=>Sum.elim (fun e25_=>k (e25_.1.1,())) (fun e25_=>k (e25_.2.1.1.2.1,())) e25)) none)) none))
def nK (a0:dV):=wi a0 some
theorem Pv {ρ:Type} (a0:_) (k:_->Option ρ):wi a0 k=(nK a0).bind k:=by
 simp only [nK,wi,dZ,ea,an,fU,ah,ae]
abbrev Ik:eG:=eJ [.ty (.st .cluster)] [.i .i64] fun x=>nK x.1
theorem T4:eh Tryz.prog 114 Ik:=
 dY (Λ:=en [(fC qf,Ge)]) (fn:=Tryz.f114) eo EP dT (by kernel_rfl) (ej (by kernel_rfl:_= [qf]) (eu (q:=fC qf) rfl KL fun _ _ _=>by kernel_rfl)) (by kernel_rfl) (fun x=>nK x.1)
  (fun x=>ak (by kernel_rfl) (Pv x.1 _)) fun _ _ h=>h
abbrev ah9:List (Nat×eG):= [(114,Ik)]
theorem ZA:ef Tryz.prog (ek ah9):=dS T4 <| dX _
def Fd {ρ:Type} (a0:dV) (k:Bool×Unit->Option ρ):Option ρ:=
 (nK a0).bind fun y1=>k ((decide (y1.1≥0)),())
def rr (a0:dV):=Fd a0 some
theorem abY {ρ:Type} (a0:_) (k:_->Option ρ):Fd a0 k=(rr a0).bind k:=by
 simp only [rr,Fd,ah,ae]
abbrev LJ:eG:=eJ [.ty (.st .cluster)] [.b] fun x=>rr x.1
theorem VS:eh Tryz.prog 111 LJ:=
 dY (Λ:=en []) (fn:=Tryz.f111) eo ZA dT (by kernel_rfl) (ej (by kernel_rfl:_= []) dU) (by kernel_rfl) (fun x=>rr x.1)
  (fun x=>ak (by kernel_rfl) (abY x.1 _)) fun _ _ h=>h
abbrev VT:List (Nat×eG):= [(46,iv)]
theorem LK:ef Tryz.prog (ek VT):=dS iW <| dX _
abbrev zu:Code:=fm (fo Tryz.f129) 0
abbrev lV:it:=⟨[(1, .cl (.ptr 0 0)),(3, .cl (.own 0 (.i .i64))),(4, .cl (.int .i64))],[[.int .i64, .ro (.st .server), .ro (.i .i64), .ro (.st .config), .int .i64, .int .i64, .int .i64, .int .i64, .int .i64, .ro (.st .place)]],[.i .i64],0,28⟩
abbrev vw:List (X×it):= [(.ext 0,⟨[(3, .cl (.own 0 (.i .i64)))],[],[.i .i64],0,28⟩)]
def BW {ρ:Type} (v1:List Int) (v2:Int) (v3:Int) (v4:List eb) (v5:List Int) (v6:List dW) (v7:Int) (v8:Int) (v9:Int) (v10:Int) (v11:Int) (v12:List ey) (fn: ((Unit×Unit×Int×Unit)×((Int×(List eb)×(List Int)×(List dW)×Int×Int×Int×Int×Int×(List ey)×Unit)×Unit)×((List Int)×Unit))->Option ρ) (fe: ((Unit×Unit)×(Unit)×((List Int)×Unit))->Option ρ):Option ρ:=
 br (decide (v2 < (v4.length:Int))) ((eC (⟨v3,v4,v5,(⟨v6,v7⟩:ei),v8,(⟨v9,v10,v11⟩:ir),v12⟩:dV)).bind fun y13=>br y13.1 (eg (0<=v2) ((v4[v2.toNat]?).bind fun x14=>br x14.up (eg ((v1++([v2]:List Int)).length*8<=2 ^ 40) (fn (((),(),(IntKind.wrap .i64 (v2+1)),()),((v3,v4,v5,v6,v7,v8,v9,v10,v11,v12,()),()),((v1++([v2]:List Int)),()))) none) (fn (((),(),(IntKind.wrap .i64 (v2+1)),()),((v3,v4,v5,v6,v7,v8,v9,v10,v11,v12,()),()),(v1,())))) none) (fe (((),()),(()),(v1,())))) (fe (((),()),(()),(v1,())))
abbrev w5 {ρ:Type} (s:lV.D) (fn:lV.D->Option ρ) (fe:eX.D vw->Option ρ):Option ρ:=BW s.2.2.1 s.1.2.2.1 s.2.1.1.1 s.2.1.1.2.1 s.2.1.1.2.2.1 s.2.1.1.2.2.2.1 s.2.1.1.2.2.2.2.1 s.2.1.1.2.2.2.2.2.1 s.2.1.1.2.2.2.2.2.2.1 s.2.1.1.2.2.2.2.2.2.2.1 s.2.1.1.2.2.2.2.2.2.2.2.1 s.2.1.1.2.2.2.2.2.2.2.2.2.1 fn fe
def mL (s:lV.D):Option (lV.D⊕eX.D vw):=w5 s (fun s=>some (.inl s)) (fun e=>some (.inr e))
def Dy:lV.D->Option (eX.D vw):=mw mL
theorem WH {ρ:Type} (s:lV.D) (fn:_->Option ρ) (fe:_):w5 s fn fe=(mL s).bind (Sum.elim fn fe):=by
 simp only [mL,w5,BW,dZ,ea,an,ah,ae,aA,aB]
abbrev N8:fO:=fR [] [1,3,4] lV vw Dy
theorem T5 (s:lV.D):iz Θ (ek VT) (en []) zu (lV.mk' s) (fM [1,3,4] [3] fun x S=>some (x,S))=(mL s).bind (Sum.elim (fun s'=>some (.nor,lV.mk' s')) fun e=>some (eX.e vw e)):=
 ak (by kernel_rfl) (WH s _ _)
theorem T6:fk Tryz.prog zu N8:=eA eo LK dT (by kernel_rfl) (fV (by kernel_rfl:_= []) dU) [] [1,3,4] [3] lV vw (by kernel_rfl) mL T5 Dy (ju mL) (ev mL)
def Fe {ρ:Type} (a0:dV) (k: (List Int)×Unit->Option ρ):Option ρ:=
 (Dy (((),(),0,()),((a0.now,a0.servers,a0.sides,a0.master.configs,a0.master.activated,a0.masterUp,a0.lease.epoch,a0.lease.holder,a0.lease.ends,a0.places,()),()),(([]:List Int),()))).bind fun e15=>k (e15.2.2.1,())
def w6 (a0:dV):=Fe a0 some
theorem abZ {ρ:Type} (a0:_) (k:_->Option ρ):Fe a0 k=(w6 a0).bind k:=by
 simp only [w6,Fe,ah,ae]
abbrev VU:eG:=eJ [.ty (.st .cluster)] [.ls (.i .i64)] fun x=>w6 x.1
theorem aia:eh Tryz.prog 129 VU:=
 dY (Λ:=en [(fC zu,N8)]) (fn:=Tryz.f129) eo LK dT (by kernel_rfl) (ej (by kernel_rfl:_= [zu]) (eu (q:=fC zu) rfl T6 fun _ _ _=>by kernel_rfl)) (by kernel_rfl) (fun x=>w6 x.1)
  (fun x=>ak (by kernel_rfl) (abZ x.1 _)) fun _ _ h=>h
abbrev Q4:List (Nat×eG):= [(121,Jb)]
theorem J6:ef Tryz.prog (ek Q4):=dS Pj <| dX _
abbrev w7:Code:=fm (fo Tryz.f130) 0
abbrev kV:it:=⟨[(0, .cl (.ro (.i .i64))),(3, .cl (.own 0 (.i .i64))),(4, .cl (.int .i64))],[],[.i .i64],0,26⟩
abbrev s9:List (X×it):= [(.ext 0,⟨[(3, .cl (.own 0 (.i .i64)))],[],[.i .i64],0,26⟩)]
def Ag {ρ:Type} (v1:List Int) (v2:List Int) (v3:Int) (fn: (((List Int)×Unit×Int×Unit)×(Unit)×((List Int)×Unit))->Option ρ) (fe: ((Unit×Unit)×(Unit)×((List Int)×Unit))->Option ρ):Option ρ:=
 br (decide (v3 < (v2.length:Int))) ((oW v2).bind fun y4=>br y4.1 (eg (0<=v3) ((v2[v3.toNat]?).bind fun x5=>br (x5==0) (eg ((v1++([v3]:List Int)).length*8<=2 ^ 40) (fn ((v2,(),(IntKind.wrap .i64 (v3+1)),()),(()),((v1++([v3]:List Int)),()))) none) (fn ((v2,(),(IntKind.wrap .i64 (v3+1)),()),(()),(v1,())))) none) (fe (((),()),(()),(v1,())))) (fe (((),()),(()),(v1,())))
abbrev uN {ρ:Type} (s:kV.D) (fn:kV.D->Option ρ) (fe:eX.D s9->Option ρ):Option ρ:=Ag s.2.2.1 s.1.1 s.1.2.2.1 fn fe
def lW (s:kV.D):Option (kV.D⊕eX.D s9):=uN s (fun s=>some (.inl s)) (fun e=>some (.inr e))
def BX:kV.D->Option (eX.D s9):=mw lW
theorem T7 {ρ:Type} (s:kV.D) (fn:_->Option ρ) (fe:_):uN s fn fe=(lW s).bind (Sum.elim fn fe):=by
 simp only [lW,uN,Ag,dZ,ea,an,ah,ae,aA,aB]
abbrev LL:fO:=fR [] [0,3,4] kV s9 BX
theorem Q5 (s:kV.D):iz Θ (ek Q4) (en []) w7 (kV.mk' s) (fM [0,3,4] [3] fun x S=>some (x,S))=(lW s).bind (Sum.elim (fun s'=>some (.nor,kV.mk' s')) fun e=>some (eX.e s9 e)):=
 ak (by kernel_rfl) (T7 s _ _)
theorem Q6:fk Tryz.prog w7 LL:=eA eo J6 dT (by kernel_rfl) (fV (by kernel_rfl:_= []) dU) [] [0,3,4] [3] kV s9 (by kernel_rfl) lW Q5 BX (ju lW) (ev lW)
def Dz {ρ:Type} (a0:List Int) (k: (List Int)×Unit->Option ρ):Option ρ:=
 (BX ((a0,(),0,()),(()),(([]:List Int),()))).bind fun e6=>k (e6.2.2.1,())
def ul (a0:List Int):=Dz a0 some
theorem ZB {ρ:Type} (a0:_) (k:_->Option ρ):Dz a0 k=(ul a0).bind k:=by
 simp only [ul,Dz,ah,ae]
abbrev Q7:eG:=eJ [.ty (.ls (.i .i64))] [.ls (.i .i64)] fun x=>ul x.1
theorem afb:eh Tryz.prog 130 Q7:=
 dY (Λ:=en [(fC w7,LL)]) (fn:=Tryz.f130) eo J6 dT (by kernel_rfl) (ej (by kernel_rfl:_= [w7]) (eu (q:=fC w7) rfl Q6 fun _ _ _=>by kernel_rfl)) (by kernel_rfl) (fun x=>ul x.1)
  (fun x=>ak (by kernel_rfl) (ZB x.1 _)) fun _ _ h=>h
abbrev aj3:List (Nat×eG):= [(129,VU),(130,Q7),(128,z9)]
theorem ab0:ef Tryz.prog (ek aj3):=dS aia <| dS afb <| dS Ew <| dX _
def GV {ρ:Type} (a0:dV) (k: (List Int)×Unit->Option ρ):Option ρ:=
 (w6 a0).bind fun y1=>(ul a0.sides).bind fun y2=>(mn y1.1 y2.1).bind fun y3=>k (y3.1,())
def AP (a0:dV):=GV a0 some
theorem afc {ρ:Type} (a0:_) (k:_->Option ρ):GV a0 k=(AP a0).bind k:=by
 simp only [AP,GV,ah,ae]
abbrev ZC:eG:=eJ [.ty (.st .cluster)] [.ls (.i .i64)] fun x=>AP x.1
theorem aj4:eh Tryz.prog 48 ZC:=
 dY (Λ:=en []) (fn:=Tryz.f48) eo ab0 dT (by kernel_rfl) (ej (by kernel_rfl:_= []) dU) (by kernel_rfl) (fun x=>AP x.1)
  (fun x=>ak (by kernel_rfl) (afc x.1 _)) fun _ _ h=>h
abbrev Il:List (Nat×eG):= [(51,t5),(148,M8)]
theorem ES:ef Tryz.prog (ek Il):=dS wX <| dS QT <| dX _
abbrev qh:Code:=fm (fo Tryz.f71) 0
abbrev iC:it:=⟨[(0, .cl (.ro (.i .i64))),(1, .cl (.ro (.i .i64))),(5, .cl (.own 0 (.i .i64))),(6, .cl (.int .i64))],[],[.i .i64],0,28⟩
abbrev nL:List (X×it):= [(.ext 0,⟨[(5, .cl (.own 0 (.i .i64)))],[],[.i .i64],0,28⟩)]
def sK {ρ:Type} (v1:List Int) (v2:List Int) (v3:List Int) (v4:Int) (fn: (((List Int)×(List Int)×Unit×Int×Unit)×(Unit)×((List Int)×Unit))->Option ρ) (fe: ((Unit×Unit)×(Unit)×((List Int)×Unit))->Option ρ):Option ρ:=
 br (decide (v4 < (v2.length:Int))) (eg (0<=v4) ((v2[v4.toNat]?).bind fun x5=>(jv v3 x5).bind fun y6=>br (!y6.1) (eg (0<=v4) ((v2[v4.toNat]?).bind fun x7=>(uj v1 x7).bind fun y8=>fn ((v2,v3,(),(IntKind.wrap .i64 (v4+1)),()),(()),(y8.1,()))) none) (fn ((v2,v3,(),(IntKind.wrap .i64 (v4+1)),()),(()),(v1,())))) none) (fe (((),()),(()),(v1,())))
abbrev pb {ρ:Type} (s:iC.D) (fn:iC.D->Option ρ) (fe:eX.D nL->Option ρ):Option ρ:=sK s.2.2.1 s.1.1 s.1.2.1 s.1.2.2.2.1 fn fe
def je (s:iC.D):Option (iC.D⊕eX.D nL):=pb s (fun s=>some (.inl s)) (fun e=>some (.inr e))
def um:iC.D->Option (eX.D nL):=mw je
theorem LM {ρ:Type} (s:iC.D) (fn:_->Option ρ) (fe:_):pb s fn fe=(je s).bind (Sum.elim fn fe):=by
 simp only [je,pb,sK,dZ,ea,an,ah,ae,aA,aB]
abbrev Gf:fO:=fR [] [0,1,5,6] iC nL um
theorem KM (s:iC.D):iz Θ (ek Il) (en []) qh (iC.mk' s) (fM [0,1,5,6] [5] fun x S=>some (x,S))=(je s).bind (Sum.elim (fun s'=>some (.nor,iC.mk' s')) fun e=>some (eX.e nL e)):=
 ak (by kernel_rfl) (LM s _ _)
theorem KN:fk Tryz.prog qh Gf:=eA eo ES dT (by kernel_rfl) (fV (by kernel_rfl:_= []) dU) [] [0,1,5,6] [5] iC nL (by kernel_rfl) je KM um (ju je) (ev je)
def wj {ρ:Type} (a0:List Int) (a1:List Int) (k: (List Int)×Unit->Option ρ):Option ρ:=
 (um ((a0,a1,(),0,()),(()),(([]:List Int),()))).bind fun e9=>k (e9.2.2.1,())
def kw (a0:List Int) (a1:List Int):=wj a0 a1 some
theorem Pw {ρ:Type} (a0 a1:_) (k:_->Option ρ):wj a0 a1 k=(kw a0 a1).bind k:=by
 simp only [kw,wj,ah,ae]
abbrev De:eG:=eJ [.ty (.ls (.i .i64)), .ty (.ls (.i .i64))] [.ls (.i .i64)] fun x=>kw x.1 x.2.1
theorem Im:eh Tryz.prog 71 De:=
 dY (Λ:=en [(fC qh,Gf)]) (fn:=Tryz.f71) eo ES dT (by kernel_rfl) (ej (by kernel_rfl:_= [qh]) (eu (q:=fC qh) rfl KN fun _ _ _=>by kernel_rfl)) (by kernel_rfl) (fun x=>kw x.1 x.2.1)
  (fun x=>ak (by kernel_rfl) (Pw x.1 x.2.1 _)) fun _ _ h=>h
abbrev adK:List (Nat×eG):= [(124,Ea),(224,BR),(148,M8)]
theorem Q8:ef Tryz.prog (ek adK):=dS GP <| dS E8 <| dS QT <| dX _
abbrev Ec:Code:=fm (fo Tryz.f269) 0
abbrev oo:it:=⟨[(0, .cl (.ro (.st .place))),(1, .cl (.ro (.i .i64))),(5, .cl (.own 0 (.i .i64))),(6, .cl (.int .i64))],[],[.i .i64],0,33⟩
abbrev Bl:List (X×it):= [(.ext 0,⟨[(5, .cl (.own 0 (.i .i64)))],[],[.i .i64],0,33⟩)]
def Ff {ρ:Type} (v1:List Int) (v2:List ey) (v3:List Int) (v4:Int) (fn: (((List ey)×(List Int)×Unit×Int×Unit)×(Unit)×((List Int)×Unit))->Option ρ) (fe: ((Unit×Unit)×(Unit)×((List Int)×Unit))->Option ρ):Option ρ:=
 br (decide (v4 < (v3.length:Int))) ((kB v2).bind fun y5=>br y5.1 ((jw v3).bind fun y6=>br y6.1 (eg (0<=v4) ((v3[v4.toNat]?).bind fun x7=>eg (0<=x7) ((v2[x7.toNat]?).bind fun x8=>(uj v1 x8.rack).bind fun y9=>fn ((v2,v3,(),(IntKind.wrap .i64 (v4+1)),()),(()),(y9.1,()))) none) none) (fe (((),()),(()),(v1,())))) (fe (((),()),(()),(v1,())))) (fe (((),()),(()),(v1,())))
abbrev BZ {ρ:Type} (s:oo.D) (fn:oo.D->Option ρ) (fe:eX.D Bl->Option ρ):Option ρ:=Ff s.2.2.1 s.1.1 s.1.2.1 s.1.2.2.2.1 fn fe
def pu (s:oo.D):Option (oo.D⊕eX.D Bl):=BZ s (fun s=>some (.inl s)) (fun e=>some (.inr e))
def GW:oo.D->Option (eX.D Bl):=mw pu
theorem ab1 {ρ:Type} (s:oo.D) (fn:_->Option ρ) (fe:_):BZ s fn fe=(pu s).bind (Sum.elim fn fe):=by
 simp only [pu,BZ,Ff,dZ,ea,an,ah,ae,aA,aB]
abbrev VV:fO:=fR [] [0,1,5,6] oo Bl GW
theorem ZD (s:oo.D):iz Θ (ek adK) (en []) Ec (oo.mk' s) (fM [0,1,5,6] [5] fun x S=>some (x,S))=(pu s).bind (Sum.elim (fun s'=>some (.nor,oo.mk' s')) fun e=>some (eX.e Bl e)):=
 ak (by kernel_rfl) (ab1 s _ _)
theorem ZE:fk Tryz.prog Ec VV:=eA eo Q8 dT (by kernel_rfl) (fV (by kernel_rfl:_= []) dU) [] [0,1,5,6] [5] oo Bl (by kernel_rfl) pu ZD GW (ju pu) (ev pu)
def Ji {ρ:Type} (a0:List ey) (a1:List Int) (k: (List Int)×Unit->Option ρ):Option ρ:=
 (GW ((a0,a1,(),0,()),(()),(([]:List Int),()))).bind fun e10=>k (e10.2.2.1,())
def Df (a0:List ey) (a1:List Int):=Ji a0 a1 some
theorem aib {ρ:Type} (a0 a1:_) (k:_->Option ρ):Ji a0 a1 k=(Df a0 a1).bind k:=by
 simp only [Df,Ji,ah,ae]
abbrev adL:eG:=eJ [.ty (.ls (.st .place)), .ty (.ls (.i .i64))] [.ls (.i .i64)] fun x=>Df x.1 x.2.1
theorem ams:eh Tryz.prog 269 adL:=
 dY (Λ:=en [(fC Ec,VV)]) (fn:=Tryz.f269) eo Q8 dT (by kernel_rfl) (ej (by kernel_rfl:_= [Ec]) (eu (q:=fC Ec) rfl ZE fun _ _ _=>by kernel_rfl)) (by kernel_rfl) (fun x=>Df x.1 x.2.1)
  (fun x=>ak (by kernel_rfl) (aib x.1 x.2.1 _)) fun _ _ h=>h
abbrev amt:List (Nat×eG):= [(124,Ea),(120,mZ)]
theorem afd:ef Tryz.prog (ek amt):=dS GP <| dS nC <| dX _
def Jj {ρ:Type} (a0:List ey) (a1:Int) (k:Bool×Unit->Option ρ):Option ρ:=
 (kB a0).bind fun y1=>br y1.1 ((gk a1 0 4).bind fun y2=>br y2.1 (eg (0<=a1) ((a0[a1.toNat]?).bind fun x3=>eg (0<=a1) ((a0[a1.toNat]?).bind fun x4=>k ((decide (x3.load < x4.capacity)),())) none) none) (k (false,()))) (k (false,()))
def Dg (a0:List ey) (a1:Int):=Jj a0 a1 some
theorem aic {ρ:Type} (a0 a1:_) (k:_->Option ρ):Jj a0 a1 k=(Dg a0 a1).bind k:=by
 simp only [Dg,Jj,dZ,ea,an,ah,ae]
abbrev adM:eG:=eJ [.ty (.ls (.st .place)), .ty (.i .i64)] [.b] fun x=>Dg x.1 x.2.1
theorem amu:eh Tryz.prog 131 adM:=
 dY (Λ:=en []) (fn:=Tryz.f131) eo afd dT (by kernel_rfl) (ej (by kernel_rfl:_= []) dU) (by kernel_rfl) (fun x=>Dg x.1 x.2.1)
  (fun x=>ak (by kernel_rfl) (aic x.1 x.2.1 _)) fun _ _ h=>h
abbrev aj5:List (Nat×eG):= [(51,t5)]
theorem ab2:ef Tryz.prog (ek aj5):=dS wX <| dX _
def GX {ρ:Type} (a0:List ey) (a1:List Int) (a2:Int) (a3:Int) (k:Bool×Unit->Option ρ):Option ρ:=
 eg (0<=a2) ((a0[a2.toNat]?).bind fun x1=>(jv a1 x1.rack).bind fun y2=>eg (0<=a3) ((a0[a3.toNat]?).bind fun x3=>(jv a1 x3.rack).bind fun y4=>br (!(y2.1==y4.1)) (k (y4.1,())) (eg (0<=a2) ((a0[a2.toNat]?).bind fun x5=>eg (0<=a3) ((a0[a3.toNat]?).bind fun x6=>k ((decide (x5.load < x6.load)),())) none) none)) none) none
def Dh (a0:List ey) (a1:List Int) (a2:Int) (a3:Int):=GX a0 a1 a2 a3 some
theorem afe {ρ:Type} (a0 a1 a2 a3:_) (k:_->Option ρ):GX a0 a1 a2 a3 k=(Dh a0 a1 a2 a3).bind k:=by
 simp only [Dh,GX,dZ,ea,an,ah,ae]
abbrev ZF:eG:=eJ [.ty (.ls (.st .place)), .ty (.ls (.i .i64)), .ty (.i .i64), .ty (.i .i64)] [.b] fun x=>Dh x.1 x.2.1 x.2.2.1 x.2.2.2.1
theorem aj6:eh Tryz.prog 270 ZF:=
 dY (Λ:=en []) (fn:=Tryz.f270) eo ab2 dT (by kernel_rfl) (ej (by kernel_rfl:_= []) dU) (by kernel_rfl) (fun x=>Dh x.1 x.2.1 x.2.2.1 x.2.2.2.1)
  (fun x=>ak (by kernel_rfl) (afe x.1 x.2.1 x.2.2.1 x.2.2.2.1 _)) fun _ _ h=>h
abbrev VW:List (Nat×eG):= [(269,adL),(224,BR),(131,adM),(51,t5),(270,ZF)]
theorem LN:ef Tryz.prog (ek VW):=dS ams <| dS E8 <| dS amu <| dS wX <| dS aj6 <| dX _
abbrev zw:Code:=fm (fo Tryz.f231) 0
abbrev lX:it:=⟨[(0, .cl (.ro (.st .place))),(1, .cl (.ro (.i .i64))),(2, .cl (.ro (.i .i64))),(7, .cl (.int .i64)),(8, .cl (.own 0 (.i .i64))),(9, .cl (.int .i64))],[],[.i .i64],0,46⟩
abbrev vx:List (X×it):= [(.ext 0,⟨[(7, .cl (.int .i64))],[],[],0,46⟩)]
def B0 {ρ:Type} (v2:List Int) (v3:List ey) (v4:List Int) (v5:List Int) (v6:Int) (v7:Int) (fn: (((List ey)×(List Int)×(List Int)×Int×Unit×Int×Unit)×(Unit)×((List Int)×Unit))->Option ρ) (fe: ((Int×Unit)×(Unit)×(Unit))->Option ρ):Option ρ:=
 br (decide (v7 < 5)) ((jw v4).bind fun y8=>br y8.1 ((Dg v3 v7).bind fun y9=>br (!y9.1) (fn ((v3,v4,v5,v6,(),(IntKind.wrap .i64 (v7+1)),()),(()),(v2,()))) ((jv v4 v7).bind fun y10=>br y10.1 (fn ((v3,v4,v5,v6,(),(IntKind.wrap .i64 (v7+1)),()),(()),(v2,()))) ((jv v5 v7).bind fun y11=>br y11.1 (fn ((v3,v4,v5,v6,(),(IntKind.wrap .i64 (v7+1)),()),(()),(v2,()))) (br (decide (v6 < 0)) (fn ((v3,v4,v5,v7,(),(IntKind.wrap .i64 (v7+1)),()),(()),(v2,()))) ((Dh v3 v2 v7 v6).bind fun y12=>br y12.1 (fn ((v3,v4,v5,v7,(),(IntKind.wrap .i64 (v7+1)),()),(()),(v2,()))) (fn ((v3,v4,v5,v6,(),(IntKind.wrap .i64 (v7+1)),()),(()),(v2,())))))))) (fe ((v6,()),(()),(())))) (fe ((v6,()),(()),(())))
abbrev w8 {ρ:Type} (s:lX.D) (fn:lX.D->Option ρ) (fe:eX.D vx->Option ρ):Option ρ:=B0 s.2.2.1 s.1.1 s.1.2.1 s.1.2.2.1 s.1.2.2.2.1 s.1.2.2.2.2.2.1 fn fe
def mM (s:lX.D):Option (lX.D⊕eX.D vx):=w8 s (fun s=>some (.inl s)) (fun e=>some (.inr e))
def DA:lX.D->Option (eX.D vx):=mw mM
theorem WI {ρ:Type} (s:lX.D) (fn:_->Option ρ) (fe:_):w8 s fn fe=(mM s).bind (Sum.elim fn fe):=by
 simp only [mM,w8,B0,dZ,ah,ae,aA,aB]
abbrev N9:fO:=fR [] [0,1,2,7,8,9] lX vx DA
theorem T8 (s:lX.D):iz Θ (ek VW) (en []) zw (lX.mk' s) (fM [0,1,2,7,8,9] [7] fun x S=>some (x,S))=(mM s).bind (Sum.elim (fun s'=>some (.nor,lX.mk' s')) fun e=>some (eX.e vx e)):=
 ak (by kernel_rfl) (WI s _ _)
theorem T9:fk Tryz.prog zw N9:=eA eo LN dT (by kernel_rfl) (fV (by kernel_rfl:_= []) dU) [] [0,1,2,7,8,9] [7] lX vx (by kernel_rfl) mM T8 DA (ju mM) (ev mM)
def Fg {ρ:Type} (a0:List ey) (a1:List Int) (a2:List Int) (k:Int×Unit->Option ρ):Option ρ:=
 (Df a0 a1).bind fun y1=>(DA ((a0,a1,a2,(-1),(),0,()),(()),(y1.1,()))).bind fun e13=>k (e13.1.1,())
def pv (a0:List ey) (a1:List Int) (a2:List Int):=Fg a0 a1 a2 some
theorem ab3 {ρ:Type} (a0 a1 a2:_) (k:_->Option ρ):Fg a0 a1 a2 k=(pv a0 a1 a2).bind k:=by
 simp only [pv,Fg,ah,ae]
abbrev LO:eG:=eJ [.ty (.ls (.st .place)), .ty (.ls (.i .i64)), .ty (.ls (.i .i64))] [.i .i64] fun x=>pv x.1 x.2.1 x.2.2.1
theorem VX:eh Tryz.prog 231 LO:=
 dY (Λ:=en [(fC zw,N9)]) (fn:=Tryz.f231) eo LN dT (by kernel_rfl) (ej (by kernel_rfl:_= [zw]) (eu (q:=fC zw) rfl T9 fun _ _ _=>by kernel_rfl)) (by kernel_rfl) (fun x=>pv x.1 x.2.1 x.2.2.1)
  (fun x=>ak (by kernel_rfl) (ab3 x.1 x.2.1 x.2.2.1 _)) fun _ _ h=>h
abbrev Oa:List (Nat×eG):= [(128,z9),(71,De),(124,Ea),(224,BR),(120,mZ),(231,LO),(148,M8)]
theorem Io:ef Tryz.prog (ek Oa):=dS Ew <| dS Im <| dS GP <| dS E8 <| dS nC <| dS VX <| dS QT <| dX _
abbrev uO:Code:=fm (fo Tryz.f230) 0
abbrev j5:it:=⟨[(0, .cl (.ro (.st .place))),(3, .cl (.int .i64)),(9, .cl (.own 0 (.i .i64))),(10, .cl (.own 1 (.i .i64)))],[],[.i .i64, .i .i64],0,52⟩
abbrev qL:List (X×it):= [(.ret,⟨[(8, .cl (.own 0 (.i .i64))),(9, .cl (.own 0 (.i .i64)))],[],[.i .i64],0,52⟩),(.ext 0,⟨[(8, .cl (.dead)),(9, .cl (.own 0 (.i .i64)))],[],[.i .i64],0,52⟩)]
def pT {ρ:Type} (v7:List Int) (v8:List Int) (v9:List ey) (v10:Int) (fn: (((List ey)×Int×Unit×Unit×Unit)×(Unit)×((List Int)×(List Int)×Unit))->Option ρ) (fe: ((Unit×Unit×Unit)×(Unit)×((List Int)×Unit))⊕((Unit×Unit×Unit)×(Unit)×((List Int)×Unit))->Option ρ):Option ρ:=
 br (decide ((v7.length:Int) < v10)) ((pv v9 v7 v8).bind fun y11=>br (decide (y11.1 < 0)) (fe (.inl (((),(),()),(()),(v7,())))) ((uj v7 y11.1).bind fun y12=>fn ((v9,v10,(),(),()),(()),(y12.1,v8,())))) (fe (.inr (((),(),()),(()),(v7,()))))
abbrev nM {ρ:Type} (s:j5.D) (fn:j5.D->Option ρ) (fe:eX.D qL->Option ρ):Option ρ:=pT s.2.2.1 s.2.2.2.1 s.1.1 s.1.2.1 fn fe
def j6 (s:j5.D):Option (j5.D⊕eX.D qL):=nM s (fun s=>some (.inl s)) (fun e=>some (.inr e))
def o0:j5.D->Option (eX.D qL):=mw j6
theorem Q9 {ρ:Type} (s:j5.D) (fn:_->Option ρ) (fe:_):nM s fn fe=(j6 s).bind (Sum.elim fn fe):=by
 simp only [j6,nM,pT,dZ,ah,ae,aA,aB]
abbrev J7:fO:=fR [] [0,3,9,10] j5 qL o0
theorem Px (s:j5.D):iz Θ (ek Oa) (en []) uO (j5.mk' s) (fM [0,3,9,10] [8,9] fun x S=>some (x,S))=(j6 s).bind (Sum.elim (fun s'=>some (.nor,j5.mk' s')) fun e=>some (eX.e qL e)):=
 ak (by kernel_rfl) (Q9 s _ _)
theorem Py:fk Tryz.prog uO J7:=eA eo Io dT (by kernel_rfl) (fV (by kernel_rfl:_= []) dU) [] [0,3,9,10] [8,9] j5 qL (by kernel_rfl) j6 Px o0 (ju j6) (ev j6)
def B3 {ρ:Type} (a0:List ey) (a1:List Int) (a2:List Int) (a3:Int) (k: (List Int)×Unit->Option ρ):Option ρ:=
 (mn a1 a2).bind fun y1=>(kw ([0,1,2,3,4]:List Int) a2).bind fun y2=>(kB a0).bind fun y3=>br (!y3.1) (k (([]:List Int),())) ((jw a1).bind fun y4=>br (!y4.1) (k (([]:List Int),())) ((jw a2).bind fun y5=>br (!y5.1) (k (([]:List Int),())) ((gk a3 0 5).bind fun y6=>br (!y6.1) (k (([]:List Int),())) ((o0 ((a0,a3,(),(),()),(()),(y1.1,y2.1,()))).bind fun e13=>Sum.elim (fun e13_=>k (e13_.2.2.1,())) (fun e13_=>k (e13_.2.2.1,())) e13))))
def rX (a0:List ey) (a1:List Int) (a2:List Int) (a3:Int):=B3 a0 a1 a2 a3 some
theorem WJ {ρ:Type} (a0 a1 a2 a3:_) (k:_->Option ρ):B3 a0 a1 a2 a3 k=(rX a0 a1 a2 a3).bind k:=by
 simp only [rX,B3,dZ,fU,ah,ae]
abbrev Ob:eG:=eJ [.ty (.ls (.st .place)), .ty (.ls (.i .i64)), .ty (.ls (.i .i64)), .ty (.i .i64)] [.ls (.i .i64)] fun x=>rX x.1 x.2.1 x.2.2.1 x.2.2.2.1
theorem ab4:eh Tryz.prog 230 Ob:=
 dY (Λ:=en [(fC uO,J7)]) (fn:=Tryz.f230) eo Io dT (by kernel_rfl) (ej (by kernel_rfl:_= [uO]) (eu (q:=fC uO) rfl Py fun _ _ _=>by kernel_rfl)) (by kernel_rfl) (fun x=>rX x.1 x.2.1 x.2.2.1 x.2.2.2.1)
  (fun x=>ak (by kernel_rfl) (WJ x.1 x.2.1 x.2.2.1 x.2.2.2.1 _)) fun _ _ h=>h
abbrev Ra:List (Nat×eG):= [(46,iv),(120,mZ),(48,ZC),(50,qK),(51,t5),(230,Ob),(89,Na),(71,De),(231,LO)]
theorem J8:ef Tryz.prog (ek Ra):=dS iW <| dS nC <| dS aj4 <| dS uM <| dS wX <| dS ab4 <| dS T0 <| dS Im <| dS VX <| dX _
abbrev w9:Code:=fm (fo Tryz.f181) 0
abbrev kW:it:=⟨[(1, .cl (.int .i64)),(2, .cl (.int .i64)),(3, .cl (.ptr 0 0)),(6, .cl (.ptr 1 0)),(8, .cl (.own 0 (.i .i64))),(9, .cl (.ptr 2 0)),(11, .cl (.own 1 (.i .i64))),(12, .cl (.int .i64))],[[.int .i64, .ro (.st .server), .ro (.i .i64), .ro (.st .config), .int .i64, .int .i64, .int .i64, .int .i64, .int .i64, .ro (.st .place)],[.int .i64, .int .i64, .em, .em],[.int .i64, .int .i64, .own 2 (.i .i64), .own 3 (.i .i64)]],[.i .i64, .i .i64, .i .i64, .i .i64],0,132⟩
abbrev ta:List (X×it):= [(.ext 0,⟨[(1, .cl (.int .i64)),(2, .cl (.int .i64)),(3, .cl (.ptr 0 0)),(6, .cl (.ptr 1 0)),(8, .cl (.own 0 (.i .i64))),(9, .cl (.ptr 2 0)),(11, .cl (.own 1 (.i .i64)))],[[.int .i64, .ro (.st .server), .ro (.i .i64), .ro (.st .config), .int .i64, .int .i64, .int .i64, .int .i64, .int .i64, .ro (.st .place)],[.int .i64, .int .i64, .em, .em],[.int .i64, .int .i64, .own 2 (.i .i64), .own 3 (.i .i64)]],[.i .i64, .i .i64, .i .i64, .i .i64],0,132⟩)]
def Ah {ρ:Type} (v6:List Int) (v7:List Int) (v8:List Int) (v9:List Int) (v10:Int) (v11:Int) (v12:Int) (v13:Int) (v14:List eb) (v15:List Int) (v16:List dW) (v17:Int) (v18:Int) (v19:Int) (v20:Int) (v21:Int) (v22:List ey) (v23:Int) (v24:Int) (v25:Int) (v26:Int) (fn: ((Int×Int×Unit×Unit×Unit×Unit×Unit×Int×Unit)×((Int×(List eb)×(List Int)×(List dW)×Int×Int×Int×Int×Int×(List ey)×Unit)×(Int×Int×Unit×Unit×Unit)×(Int×Int×Unit×Unit×Unit)×Unit)×((List Int)×(List Int)×(List Int)×(List Int)×Unit))->Option ρ) (fe: ((Int×Int×Unit×Unit×Unit×Unit×Unit×Unit)×((Int×(List eb)×(List Int)×(List dW)×Int×Int×Int×Int×Int×(List ey)×Unit)×(Int×Int×Unit×Unit×Unit)×(Int×Int×Unit×Unit×Unit)×Unit)×((List Int)×(List Int)×(List Int)×(List Int)×Unit))->Option ρ):Option ρ:=
 br (decide (v12 < (v8.length:Int))) (eg (0<=v12/\v12 < (v8.length:Int)) ((v8[v12.toNat]?).bind fun x27=>(jv v6 x27).bind fun y28=>br y28.1 (eg (0<=v12/\v12 < (v8.length:Int)) ((v8[v12.toNat]?).bind fun x29=>eg (0<=x29) ((v14[x29.toNat]?).bind fun x30=>br (x30.config.epoch==v25) (eg (0<=v12/\v12 < (v8.length:Int)) ((v8[v12.toNat]?).bind fun x31=>eg ((v7++([x31]:List Int)).length*8<=2 ^ 40) (fn ((v10,v11,(),(),(),(),(),(IntKind.wrap .i64 (v12+1)),()),((v13,v14,v15,v16,v17,v18,v19,v20,v21,v22,()),(v23,v24,(),(),()),(v25,v26,(),(),()),()),(v6,(v7++([x31]:List Int)),v8,v9,()))) none) none) (fn ((v10,v11,(),(),(),(),(),(IntKind.wrap .i64 (v12+1)),()),((v13,v14,v15,v16,v17,v18,v19,v20,v21,v22,()),(v23,v24,(),(),()),(v25,v26,(),(),()),()),(v6,v7,v8,v9,())))) none) none) (fn ((v10,v11,(),(),(),(),(),(IntKind.wrap .i64 (v12+1)),()),((v13,v14,v15,v16,v17,v18,v19,v20,v21,v22,()),(v23,v24,(),(),()),(v25,v26,(),(),()),()),(v6,v7,v8,v9,())))) none) (fe ((v10,v11,(),(),(),(),(),()),((v13,v14,v15,v16,v17,v18,v19,v20,v21,v22,()),(v23,v24,(),(),()),(v25,v26,(),(),()),()),(v6,v7,v8,v9,())))
abbrev uP {ρ:Type} (s:kW.D) (fn:kW.D->Option ρ) (fe:eX.D ta->Option ρ):Option ρ:=Ah s.2.2.1 s.2.2.2.1 s.2.2.2.2.1 s.2.2.2.2.2.1 s.1.1 s.1.2.1 s.1.2.2.2.2.2.2.2.1 s.2.1.1.1 s.2.1.1.2.1 s.2.1.1.2.2.1 s.2.1.1.2.2.2.1 s.2.1.1.2.2.2.2.1 s.2.1.1.2.2.2.2.2.1 s.2.1.1.2.2.2.2.2.2.1 s.2.1.1.2.2.2.2.2.2.2.1 s.2.1.1.2.2.2.2.2.2.2.2.1 s.2.1.1.2.2.2.2.2.2.2.2.2.1 s.2.1.2.1.1 s.2.1.2.1.2.1 s.2.1.2.2.1.1 s.2.1.2.2.1.2.1 fn fe
def lY (s:kW.D):Option (kW.D⊕eX.D ta):=uP s (fun s=>some (.inl s)) (fun e=>some (.inr e))
def B4:kW.D->Option (eX.D ta):=mw lY
theorem Ua {ρ:Type} (s:kW.D) (fn:_->Option ρ) (fe:_):uP s fn fe=(lY s).bind (Sum.elim fn fe):=by
 simp only [lY,uP,Ah,dZ,ea,an,ah,ae,aA,aB]
abbrev LP:fO:=fR [] [1,2,3,6,8,9,11,12] kW ta B4
theorem Rb (s:kW.D):iz Θ (ek Ra) (en []) w9 (kW.mk' s) (fM [1,2,3,6,8,9,11,12] [1,2,3,6,8,9,11] fun x S=>some (x,S))=(lY s).bind (Sum.elim (fun s'=>some (.nor,kW.mk' s')) fun e=>some (eX.e ta e)):=
 ak (by kernel_rfl) (Ua s _ _)
theorem Rc:fk Tryz.prog w9 LP:=eA eo J8 dT (by kernel_rfl) (fV (by kernel_rfl:_= []) dU) [] [1,2,3,6,8,9,11,12] [1,2,3,6,8,9,11] kW ta (by kernel_rfl) lY Rb B4 (ju lY) (ev lY)
def DB {ρ:Type} (a0:dV) (a1:Int) (a2:Int) (k:dW×Bool×Unit->Option ρ):Option ρ:=
 (eC a0).bind fun y1=>br (!y1.1) (k ((⟨0,0,([]:List Int),([]:List Int)⟩:dW),false,())) ((gk a1 1 3).bind fun y2=>br (!y2.1) (k ((⟨0,0,([]:List Int),([]:List Int)⟩:dW),false,())) ((gk a2 0 1).bind fun y3=>br (!y3.1) (k ((⟨0,0,([]:List Int),([]:List Int)⟩:dW),false,())) (br ((a0.master.configs.length:Int)==20) (k ((⟨0,0,([]:List Int),([]:List Int)⟩:dW),false,())) ((AP a0).bind fun y4=>(iw a0.master).bind fun y5=>(B4 ((a1,a2,(),(),(),(),(),0,()),((a0.now,a0.servers,a0.sides,a0.master.configs,a0.master.activated,a0.masterUp,a0.lease.epoch,a0.lease.holder,a0.lease.ends,a0.places,()),(0,0,(),(),()),(y5.1.epoch,y5.1.primary,(),(),()),()),(y4.1,([]:List Int),y5.1.replicas,y5.1.witnesses,()))).bind fun e32=>(rX e32.2.1.1.2.2.2.2.2.2.2.2.2.1 e32.2.2.2.1 e32.2.2.1 e32.1.1).bind fun y33=>br ((y33.1.length:Int)==0) (k ((⟨0,0,([]:List Int),([]:List Int)⟩:dW),false,())) (eg (0<=(0:Int)/\(0:Int) < (y33.1.length:Int)) ((y33.1[(0:Int).toNat]?).bind fun x34=>(jv y33.1 e32.2.1.2.2.1.2.1).bind fun y35=>br y35.1 ((yd (⟨e32.2.1.2.2.1.1,e32.2.1.2.2.1.2.1,e32.2.2.2.2.1,e32.2.2.2.2.2.1⟩:dW)).bind fun y36=>br (!y36.1) (br (e32.1.2.1==1) ((kw ([0,1,2,3,4]:List Int) e32.2.2.1).bind fun y37=>(pv e32.2.1.1.2.2.2.2.2.2.2.2.2.1 y33.1 y37.1).bind fun y38=>br (decide (y38.1≥0)) (k ((⟨(IntKind.wrap .i64 ((e32.2.1.1.2.2.2.1.length:Int)+1)),e32.2.1.2.2.1.2.1,y33.1,([y38.1]:List Int)⟩:dW),true,())) (k ((⟨(IntKind.wrap .i64 ((e32.2.1.1.2.2.2.1.length:Int)+1)),e32.2.1.2.2.1.2.1,y33.1,([]:List Int)⟩:dW),true,()))) (k ((⟨(IntKind.wrap .i64 ((e32.2.1.1.2.2.2.1.length:Int)+1)),e32.2.1.2.2.1.2.1,y33.1,([]:List Int)⟩:dW),true,()))) (br (e32.1.2.1==1) ((kw ([0,1,2,3,4]:List Int) e32.2.2.1).bind fun y39=>(pv e32.2.1.1.2.2.2.2.2.2.2.2.2.1 y33.1 y39.1).bind fun y40=>br (decide (y40.1≥0)) (k ((⟨(IntKind.wrap .i64 ((e32.2.1.1.2.2.2.1.length:Int)+1)),x34,y33.1,([y40.1]:List Int)⟩:dW),true,())) (k ((⟨(IntKind.wrap .i64 ((e32.2.1.1.2.2.2.1.length:Int)+1)),x34,y33.1,([]:List Int)⟩:dW),true,()))) (k ((⟨(IntKind.wrap .i64 ((e32.2.1.1.2.2.2.1.length:Int)+1)),x34,y33.1,([]:List Int)⟩:dW),true,())))) (br (e32.1.2.1==1) ((kw ([0,1,2,3,4]:List Int) e32.2.2.1).bind fun y41=>(pv e32.2.1.1.2.2.2.2.2.2.2.2.2.1 y33.1 y41.1).bind fun y42=>br (decide (y42.1≥0)) (k ((⟨(IntKind.wrap .i64 ((e32.2.1.1.2.2.2.1.length:Int)+1)),x34,y33.1,([y42.1]:List Int)⟩:dW),true,())) (k ((⟨(IntKind.wrap .i64 ((e32.2.1.1.2.2.2.1.length:Int)+1)),x34,y33.1,([]:List Int)⟩:dW),true,()))) (k ((⟨(IntKind.wrap .i64 ((e32.2.1.1.2.2.2.1.length:Int)+1)),x34,y33.1,([]:List Int)⟩:dW),true,())))) none)))))
def uo (a0:dV) (a1:Int) (a2:Int):=DB a0 a1 a2 some
theorem ZG {ρ:Type} (a0 a1 a2:_) (k:_->Option ρ):DB a0 a1 a2 k=(uo a0 a1 a2).bind k:=by
 simp only [uo,DB,dZ,ea,an,ah,ae]
abbrev Rd:eG:=eJ [.ty (.st .cluster), .ty (.i .i64), .ty (.i .i64)] [.st .config, .b] fun x=>uo x.1 x.2.1 x.2.2.1
theorem aff:eh Tryz.prog 181 Rd:=
 dY (Λ:=en [(fC w9,LP)]) (fn:=Tryz.f181) eo J8 dT (by kernel_rfl) (ej (by kernel_rfl:_= [w9]) (eu (q:=fC w9) rfl Rc fun _ _ _=>by kernel_rfl)) (by kernel_rfl) (fun x=>uo x.1 x.2.1 x.2.2.1)
  (fun x=>ak (by kernel_rfl) (ZG x.1 x.2.1 x.2.2.1 _)) fun _ _ h=>h
abbrev WK:List (Nat×eG):= [(155,M7),(122,zp),(169,uK),(170,H5)]
theorem Pz:ef Tryz.prog (ek WK):=dS TR <| dS Dx <| dS Aa <| dS Ls <| dX _
def yg {ρ:Type} (a0:ei) (a1:dW) (k:ei×Bool×Unit->Option ρ):Option ρ:=
 (ya a0).bind fun y1=>(ib a0).bind fun y2=>br (!y2.1) (k (y1.1,false,())) ((fI a1).bind fun y3=>br (!y3.1) (k (y1.1,false,())) (br (!(a1.epoch==(IntKind.wrap .i64 ((a0.configs.length:Int)+1)))) (k (y1.1,false,())) ((o9 a1).bind fun y4=>eg ((y1.1.configs++([y4.1]:List dW)).length*64<=2 ^ 40) (k ((⟨(y1.1.configs++([y4.1]:List dW)),y1.1.activated⟩:ei),true,())) none)))
def o3 (a0:ei) (a1:dW):=yg a0 a1 some
theorem Re {ρ:Type} (a0 a1:_) (k:_->Option ρ):yg a0 a1 k=(o3 a0 a1).bind k:=by
 simp only [o3,yg,dZ,ea,an,ah,ae]
abbrev J9:eG:=eJ [.ty (.st .masterLog), .ty (.st .config)] [.st .masterLog, .b] fun x=>o3 x.1 x.2.1
theorem WL:eh Tryz.prog 100 J9:=
 dY (Λ:=en []) (fn:=Tryz.f100) eo Pz dT (by kernel_rfl) (ej (by kernel_rfl:_= []) dU) (by kernel_rfl) (fun x=>o3 x.1 x.2.1)
  (fun x=>ak (by kernel_rfl) (Re x.1 x.2.1 _)) fun _ _ h=>h
abbrev ab5:List (Nat×eG):= [(82,Dc),(46,iv),(100,J9)]
theorem Ub:ef Tryz.prog (ek ab5):=dS FK <| dS iW <| dS WL <| dX _
def B6 {ρ:Type} (a0:dV) (a1:dW) (k:dV×Int×Unit->Option ρ):Option ρ:=
 (qG a0).bind fun y1=>(eC a0).bind fun y2=>br (!y2.1) (k (y1.1,1,())) (br (decide ((IntKind.wrap .i64 (a0.masterUp*2))<=3)) (k (y1.1,8,())) ((o3 a0.master a1).bind fun y3=>br (!y3.2.1) (k (y1.1,1,())) (k ((⟨y1.1.now,y1.1.servers,y1.1.sides,y3.1,y1.1.masterUp,y1.1.lease,y1.1.places⟩:dV),0,()))))
def rY (a0:dV) (a1:dW):=B6 a0 a1 some
theorem WM {ρ:Type} (a0 a1:_) (k:_->Option ρ):B6 a0 a1 k=(rY a0 a1).bind k:=by
 simp only [rY,B6,dZ,ah,ae]
abbrev Oc:eG:=eJ [.ty (.st .cluster), .ty (.st .config)] [.st .cluster, .i .i64] fun x=>rY x.1 x.2.1
theorem ab6:eh Tryz.prog 182 Oc:=
 dY (Λ:=en []) (fn:=Tryz.f182) eo Ub dT (by kernel_rfl) (ej (by kernel_rfl:_= []) dU) (by kernel_rfl) (fun x=>rY x.1 x.2.1)
  (fun x=>ak (by kernel_rfl) (WM x.1 x.2.1 _)) fun _ _ h=>h
abbrev aj7:List (Nat×eG):= [(123,Ia)]
theorem ab7:ef Tryz.prog (ek aj7):=dS M9 <| dX _
def GY {ρ:Type} (a0:ir) (k:Int×Unit->Option ρ):Option ρ:=
 (qJ a0).bind fun y1=>br (!y1.1) (k (0,())) (br (a0.ends==0) (k (0,())) (k ((IntKind.wrap .i64 (a0.ends+3)),())))
def xb (a0:ir):=GY a0 some
theorem afg {ρ:Type} (a0:_) (k:_->Option ρ):GY a0 k=(xb a0).bind k:=by
 simp only [xb,GY,dZ,ah,ae]
abbrev PA:eG:=eJ [.ty (.st .lease)] [.i .i64] fun x=>xb x.1
theorem ZH:eh Tryz.prog 47 PA:=
 dY (Λ:=en []) (fn:=Tryz.f47) eo ab7 dT (by kernel_rfl) (ej (by kernel_rfl:_= []) dU) (by kernel_rfl) (fun x=>xb x.1)
  (fun x=>ak (by kernel_rfl) (afg x.1 _)) fun _ _ h=>h
abbrev aj8:List (Nat×eG):= [(82,Dc),(46,iv),(120,mZ)]
theorem ab8:ef Tryz.prog (ek aj8):=dS FK <| dS iW <| dS nC <| dX _
def GZ {ρ:Type} (a0:dV) (a1:Int) (k:dV×Int×Unit->Option ρ):Option ρ:=
 (qG a0).bind fun y1=>(eC a0).bind fun y2=>br (!y2.1) (k (y1.1,1,())) ((gk a1 0 (IntKind.wrap .i64 (999 - a0.now))).bind fun y3=>br (!y3.1) (k (y1.1,1,())) (k ((⟨(IntKind.wrap .i64 (a0.now+a1)),y1.1.servers,y1.1.sides,y1.1.master,y1.1.masterUp,y1.1.lease,y1.1.places⟩:dV),0,())))
def AQ (a0:dV) (a1:Int):=GZ a0 a1 some
theorem afh {ρ:Type} (a0 a1:_) (k:_->Option ρ):GZ a0 a1 k=(AQ a0 a1).bind k:=by
 simp only [AQ,GZ,dZ,ah,ae]
abbrev ZI:eG:=eJ [.ty (.st .cluster), .ty (.i .i64)] [.st .cluster, .i .i64] fun x=>AQ x.1 x.2.1
theorem aj9:eh Tryz.prog 183 ZI:=
 dY (Λ:=en []) (fn:=Tryz.f183) eo ab8 dT (by kernel_rfl) (ej (by kernel_rfl:_= []) dU) (by kernel_rfl) (fun x=>AQ x.1 x.2.1)
  (fun x=>ak (by kernel_rfl) (afh x.1 x.2.1 _)) fun _ _ h=>h
abbrev afi:List (Nat×eG):= [(127,Jg)]
theorem WN:ef Tryz.prog (ek afi):=dS Pq <| dX _
def DC {ρ:Type} (a0:ei) (k:dW×Bool×Unit->Option ρ):Option ρ:=
 (oZ a0 (a0.configs.length:Int)).bind fun y1=>k (y1.1,y1.2.1,())
def uq (a0:ei):=DC a0 some
theorem ZJ {ρ:Type} (a0:_) (k:_->Option ρ):DC a0 k=(uq a0).bind k:=by
 simp only [uq,DC,ah,ae]
abbrev Rf:eG:=eJ [.ty (.st .masterLog)] [.st .config, .b] fun x=>uq x.1
theorem afj:eh Tryz.prog 232 Rf:=
 dY (Λ:=en []) (fn:=Tryz.f232) eo WN dT (by kernel_rfl) (ej (by kernel_rfl:_= []) dU) (by kernel_rfl) (fun x=>uq x.1)
  (fun x=>ak (by kernel_rfl) (ZJ x.1 _)) fun _ _ h=>h
abbrev ab9:List (Nat×eG):= [(123,Ia),(120,mZ),(47,PA)]
theorem Uc:ef Tryz.prog (ek ab9):=dS M9 <| dS nC <| dS ZH <| dX _
def B7 {ρ:Type} (a0:ir) (a1:Int) (k:Bool×Unit->Option ρ):Option ρ:=
 (qJ a0).bind fun y1=>br y1.1 ((gk a1 0 999).bind fun y2=>br y2.1 ((xb a0).bind fun y3=>k ((decide (a1≥y3.1)),())) (k (false,()))) (k (false,()))
def n9 (a0:ir) (a1:Int):=B7 a0 a1 some
theorem WO {ρ:Type} (a0 a1:_) (k:_->Option ρ):B7 a0 a1 k=(n9 a0 a1).bind k:=by
 simp only [n9,B7,dZ,ah,ae]
abbrev HE:eG:=eJ [.ty (.st .lease), .ty (.i .i64)] [.b] fun x=>n9 x.1 x.2.1
theorem Od:eh Tryz.prog 98 HE:=
 dY (Λ:=en []) (fn:=Tryz.f98) eo Uc dT (by kernel_rfl) (ej (by kernel_rfl:_= []) dU) (by kernel_rfl) (fun x=>n9 x.1 x.2.1)
  (fun x=>ak (by kernel_rfl) (WO x.1 x.2.1 _)) fun _ _ h=>h
abbrev afk:List (Nat×eG):= [(154,M6),(120,mZ)]
theorem WP:ef Tryz.prog (ek afk):=dS TQ <| dS nC <| dX _
def DD {ρ:Type} (a0:eb) (a1:Int) (k:eb×Bool×Unit->Option ρ):Option ρ:=
 (oJ a0).bind fun y1=>(gk a1 1 20).bind fun y2=>br (!y2.1) (k (y1.1,false,())) (br (decide (a1<=a0.epoch)) (k (y1.1,false,())) (br (decide (a0.epoch < 0)) (k (y1.1,false,())) (k ((⟨y1.1.up,y1.1.intact,y1.1.version,a1,y1.1.config,y1.1.first,y1.1.log,y1.1.commit,y1.1.learned⟩:eb),true,()))))
def ur (a0:eb) (a1:Int):=DD a0 a1 some
theorem ZK {ρ:Type} (a0 a1:_) (k:_->Option ρ):DD a0 a1 k=(ur a0 a1).bind k:=by
 simp only [ur,DD,dZ,ah,ae]
abbrev Rg:eG:=eJ [.ty (.st .server), .ty (.i .i64)] [.st .server, .b] fun x=>ur x.1 x.2.1
theorem afl:eh Tryz.prog 271 Rg:=
 dY (Λ:=en []) (fn:=Tryz.f271) eo WP dT (by kernel_rfl) (ej (by kernel_rfl:_= []) dU) (by kernel_rfl) (fun x=>ur x.1 x.2.1)
  (fun x=>ak (by kernel_rfl) (ZK x.1 x.2.1 _)) fun _ _ h=>h
abbrev Oe:List (Nat×eG):= [(82,Dc),(50,qK),(46,iv),(120,mZ),(192,GR),(250,Gd),(271,Rg)]
theorem Ip:ef Tryz.prog (ek Oe):=dS FK <| dS uM <| dS iW <| dS nC <| dS LH <| dS Jh <| dS afl <| dX _
abbrev uQ:Code:=fm (fo Tryz.f233) 0
abbrev j7:it:=⟨[(1, .cl (.int .i64)),(2, .cl (.int .i64)),(3, .cl (.ptr 0 0)),(6, .cl (.ptr 1 0)),(7, .cl (.ptr 2 0)),(10, .cl (.own 0 (.i .i64))),(11, .cl (.int .i64))],[[.int .i64, .ro (.st .server), .ro (.i .i64), .ro (.st .config), .int .i64, .int .i64, .int .i64, .int .i64, .int .i64, .ro (.st .place)],[.int .i64, .em, .em, .em, .int .i64, .int .i64, .int .i64, .int .i64, .int .i64, .em],[.int .i64, .own 1 (.st .server), .own 2 (.i .i64), .own 3 (.st .config), .int .i64, .int .i64, .int .i64, .int .i64, .int .i64, .own 4 (.st .place)]],[.i .i64, .st .server, .i .i64, .st .config, .st .place],0,85⟩
abbrev qM:List (X×it):= [(.ext 0,⟨[(6, .cl (.ptr 0 0)),(7, .cl (.ptr 1 0))],[[.int .i64, .em, .em, .em, .int .i64, .int .i64, .int .i64, .int .i64, .int .i64, .em],[.int .i64, .own 0 (.st .server), .own 1 (.i .i64), .own 2 (.st .config), .int .i64, .int .i64, .int .i64, .int .i64, .int .i64, .own 3 (.st .place)]],[.st .server, .i .i64, .st .config, .st .place],0,85⟩)]
def yh {ρ:Type} (v6:List Int) (v7:List eb) (v8:List Int) (v9:List dW) (v10:List ey) (v11:Int) (v12:Int) (v13:Int) (v14:Int) (v15:List eb) (v16:List Int) (v17:List dW) (v18:Int) (v19:Int) (v20:Int) (v21:Int) (v22:Int) (v23:List ey) (v24:Int) (v25:Int) (v26:Int) (v27:Int) (v28:Int) (v29:Int) (v30:Int) (v31:Int) (v32:Int) (v33:Int) (v34:Int) (v35:Int) (fn: ((Int×Int×Unit×Unit×Unit×Unit×Int×Unit)×((Int×(List eb)×(List Int)×(List dW)×Int×Int×Int×Int×Int×(List ey)×Unit)×(Int×Unit×Unit×Unit×Int×Int×Int×Int×Int×Unit×Unit)×(Int×Unit×Unit×Unit×Int×Int×Int×Int×Int×Unit×Unit)×Unit)×((List Int)×(List eb)×(List Int)×(List dW)×(List ey)×Unit))->Option ρ) (fe: ((Unit×Unit×Unit)×((Int×Unit×Unit×Unit×Int×Int×Int×Int×Int×Unit×Unit)×(Int×Unit×Unit×Unit×Int×Int×Int×Int×Int×Unit×Unit)×Unit)×((List eb)×(List Int)×(List dW)×(List ey)×Unit))->Option ρ):Option ρ:=
 br (decide (v13 < (v6.length:Int))) (eg (0<=v13/\v13 < (v6.length:Int)) ((v6[v13.toNat]?).bind fun x36=>eg (0<=x36) ((v15[x36.toNat]?).bind fun x37=>br x37.up (eg (0<=v13/\v13 < (v6.length:Int)) ((v6[v13.toNat]?).bind fun x38=>(qe v16 v11 x38).bind fun y39=>br y39.1 (eg (0<=v13/\v13 < (v6.length:Int)) ((v6[v13.toNat]?).bind fun x40=>eg (0<=v13/\v13 < (v6.length:Int)) ((v6[v13.toNat]?).bind fun x41=>eg (0<=x41) ((v15[x41.toNat]?).bind fun x42=>(ur x42 v12).bind fun y43=>eg (0<=x40/\x40 < (v7.length:Int)) ((v7[x40.toNat]?).bind fun _=>fn ((v11,v12,(),(),(),(),(IntKind.wrap .i64 (v13+1)),()),((v14,v15,v16,v17,v18,v19,v20,v21,v22,v23,()),(v24,(),(),(),v25,v26,v27,v28,v29,(),()),(v30,(),(),(),v31,v32,v33,v34,v35,(),()),()),(v6,(v7.set x40.toNat y43.1),v8,v9,v10,()))) none) none) none) none) (fn ((v11,v12,(),(),(),(),(IntKind.wrap .i64 (v13+1)),()),((v14,v15,v16,v17,v18,v19,v20,v21,v22,v23,()),(v24,(),(),(),v25,v26,v27,v28,v29,(),()),(v30,(),(),(),v31,v32,v33,v34,v35,(),()),()),(v6,v7,v8,v9,v10,())))) none) (fn ((v11,v12,(),(),(),(),(IntKind.wrap .i64 (v13+1)),()),((v14,v15,v16,v17,v18,v19,v20,v21,v22,v23,()),(v24,(),(),(),v25,v26,v27,v28,v29,(),()),(v30,(),(),(),v31,v32,v33,v34,v35,(),()),()),(v6,v7,v8,v9,v10,())))) none) none) (fe (((),(),()),((v24,(),(),(),v25,v26,v27,v28,v29,(),()),(v30,(),(),(),v31,v32,v33,v34,v35,(),()),()),(v7,v8,v9,v10,())))
abbrev tb {ρ:Type} (s:j7.D) (fn:j7.D->Option ρ) (fe:eX.D qM->Option ρ):Option ρ:=yh s.2.2.1 s.2.2.2.1 s.2.2.2.2.1 s.2.2.2.2.2.1 s.2.2.2.2.2.2.1 s.1.1 s.1.2.1 s.1.2.2.2.2.2.2.1 s.2.1.1.1 s.2.1.1.2.1 s.2.1.1.2.2.1 s.2.1.1.2.2.2.1 s.2.1.1.2.2.2.2.1 s.2.1.1.2.2.2.2.2.1 s.2.1.1.2.2.2.2.2.2.1 s.2.1.1.2.2.2.2.2.2.2.1 s.2.1.1.2.2.2.2.2.2.2.2.1 s.2.1.1.2.2.2.2.2.2.2.2.2.1 s.2.1.2.1.1 s.2.1.2.1.2.2.2.2.1 s.2.1.2.1.2.2.2.2.2.1 s.2.1.2.1.2.2.2.2.2.2.1 s.2.1.2.1.2.2.2.2.2.2.2.1 s.2.1.2.1.2.2.2.2.2.2.2.2.1 s.2.1.2.2.1.1 s.2.1.2.2.1.2.2.2.2.1 s.2.1.2.2.1.2.2.2.2.2.1 s.2.1.2.2.1.2.2.2.2.2.2.1 s.2.1.2.2.1.2.2.2.2.2.2.2.1 s.2.1.2.2.1.2.2.2.2.2.2.2.2.1 fn fe
def ly (s:j7.D):Option (j7.D⊕eX.D qM):=tb s (fun s=>some (.inl s)) (fun e=>some (.inr e))
def Ai:j7.D->Option (eX.D qM):=mw ly
theorem Ri {ρ:Type} (s:j7.D) (fn:_->Option ρ) (fe:_):tb s fn fe=(ly s).bind (Sum.elim fn fe):=by
 simp only [ly,tb,yh,dZ,ea,an,ah,ae,aA,aB]
abbrev Ka:fO:=fR [] [1,2,3,6,7,10,11] j7 qM Ai
theorem PB (s:j7.D):iz Θ (ek Oe) (en []) uQ (j7.mk' s) (fM [1,2,3,6,7,10,11] [6,7] fun x S=>some (x,S))=(ly s).bind (Sum.elim (fun s'=>some (.nor,j7.mk' s')) fun e=>some (eX.e qM e)):=
 ak (by kernel_rfl) (Ri s _ _)
theorem PC:fk Tryz.prog uQ Ka:=eA eo Ip dT (by kernel_rfl) (fV (by kernel_rfl:_= []) dU) [] [1,2,3,6,7,10,11] [6,7] j7 qM (by kernel_rfl) ly PB Ai (ju ly) (ev ly)
def B8 {ρ:Type} (a0:dV) (a1:Int) (a2:Int) (k:dV×Unit->Option ρ):Option ρ:=
 (qG a0).bind fun y1=>(iw a0.master).bind fun y2=>(eC a0).bind fun y3=>br (!y3.1) (k (y1.1,())) (br (!y2.2.1) (k (y1.1,())) ((gk a2 1 (a0.master.configs.length:Int)).bind fun y4=>br (!y4.1) (k (y1.1,())) ((rq y2.1).bind fun y5=>(Ai ((a1,a2,(),(),(),(),0,()),((a0.now,a0.servers,a0.sides,a0.master.configs,a0.master.activated,a0.masterUp,a0.lease.epoch,a0.lease.holder,a0.lease.ends,a0.places,()),(0,(),(),(),0,0,0,0,0,(),()),(y1.1.now,(),(),(),y1.1.master.activated,y1.1.masterUp,y1.1.lease.epoch,y1.1.lease.holder,y1.1.lease.ends,(),()),()),(y5.1,y1.1.servers,y1.1.sides,y1.1.master.configs,y1.1.places,()))).bind fun e46=>k ((⟨e46.2.1.2.1.1,e46.2.2.1,e46.2.2.2.1,(⟨e46.2.2.2.2.1,e46.2.1.2.1.2.2.2.2.1⟩:ei),e46.2.1.2.1.2.2.2.2.2.1,(⟨e46.2.1.2.1.2.2.2.2.2.2.1,e46.2.1.2.1.2.2.2.2.2.2.2.1,e46.2.1.2.1.2.2.2.2.2.2.2.2.1⟩:ir),e46.2.2.2.2.2.1⟩:dV),()))))
def rZ (a0:dV) (a1:Int) (a2:Int):=B8 a0 a1 a2 some
theorem WQ {ρ:Type} (a0 a1 a2:_) (k:_->Option ρ):B8 a0 a1 a2 k=(rZ a0 a1 a2).bind k:=by
 simp only [rZ,B8,dZ,ah,ae]
abbrev Of:eG:=eJ [.ty (.st .cluster), .ty (.i .i64), .ty (.i .i64)] [.st .cluster] fun x=>rZ x.1 x.2.1 x.2.2.1
theorem aca:eh Tryz.prog 233 Of:=
 dY (Λ:=en [(fC uQ,Ka)]) (fn:=Tryz.f233) eo Ip dT (by kernel_rfl) (ej (by kernel_rfl:_= [uQ]) (eu (q:=fC uQ) rfl PC fun _ _ _=>by kernel_rfl)) (by kernel_rfl) (fun x=>rZ x.1 x.2.1 x.2.2.1)
  (fun x=>ak (by kernel_rfl) (WQ x.1 x.2.1 x.2.2.1 _)) fun _ _ h=>h
abbrev Rj:List (Nat×eG):= [(50,qK),(46,iv),(120,mZ),(250,Gd)]
theorem Kb:ef Tryz.prog (ek Rj):=dS uM <| dS iW <| dS nC <| dS Jh <| dX _
abbrev xd:Code:=fm (fo Tryz.f299) 0
abbrev kX:it:=⟨[(1, .cl (.int .i64)),(2, .cl (.ptr 0 0)),(5, .cl (.own 0 (.i .i64))),(6, .cl (.ptr 1 0)),(7, .cl (.bl)),(8, .cl (.int .i64))],[[.int .i64, .ro (.st .server), .ro (.i .i64), .ro (.st .config), .int .i64, .int .i64, .int .i64, .int .i64, .int .i64, .ro (.st .place)],[.int .i64, .int .i64, .own 1 (.i .i64), .own 2 (.i .i64)]],[.i .i64, .i .i64, .i .i64],0,74⟩
abbrev tc:List (X×it):= [(.ext 0,⟨[(5, .cl (.own 0 (.i .i64)))],[],[.i .i64],0,74⟩)]
def uR {ρ:Type} (v2:List Int) (v3:List Int) (v4:List Int) (v5:Int) (v6:Bool) (v7:Int) (v8:Int) (v9:List eb) (v10:List Int) (v11:List dW) (v12:Int) (v13:Int) (v14:Int) (v15:Int) (v16:Int) (v17:List ey) (v18:Int) (v19:Int) (fn: ((Int×Unit×Unit×Unit×Bool×Int×Unit)×((Int×(List eb)×(List Int)×(List dW)×Int×Int×Int×Int×Int×(List ey)×Unit)×(Int×Int×Unit×Unit×Unit)×Unit)×((List Int)×(List Int)×(List Int)×Unit))->Option ρ) (fe: ((Unit×Unit)×(Unit)×((List Int)×Unit))->Option ρ):Option ρ:=
 br (decide (v7 < (v3.length:Int))) (br v6 ((eC (⟨v8,v9,v10,(⟨v11,v12⟩:ei),v13,(⟨v14,v15,v16⟩:ir),v17⟩:dV)).bind fun y20=>br y20.1 ((gk v5 0 4).bind fun y21=>br y21.1 (eg (0<=v7/\v7 < (v3.length:Int)) ((v3[v7.toNat]?).bind fun x22=>eg (0<=x22) ((v9[x22.toNat]?).bind fun x23=>br x23.up (br (x23.config.epoch==v18) (eg (0<=v7/\v7 < (v3.length:Int)) ((v3[v7.toNat]?).bind fun x24=>(qe v10 v5 x24).bind fun y25=>br y25.1 (eg (0<=v7/\v7 < (v3.length:Int)) ((v3[v7.toNat]?).bind fun x26=>eg ((v2++([x26]:List Int)).length*8<=2 ^ 40) (fn ((v5,(),(),(),v6,(IntKind.wrap .i64 (v7+1)),()),((v8,v9,v10,v11,v12,v13,v14,v15,v16,v17,()),(v18,v19,(),(),()),()),((v2++([x26]:List Int)),v3,v4,()))) none) none) (fn ((v5,(),(),(),v6,(IntKind.wrap .i64 (v7+1)),()),((v8,v9,v10,v11,v12,v13,v14,v15,v16,v17,()),(v18,v19,(),(),()),()),(v2,v3,v4,())))) none) (fn ((v5,(),(),(),v6,(IntKind.wrap .i64 (v7+1)),()),((v8,v9,v10,v11,v12,v13,v14,v15,v16,v17,()),(v18,v19,(),(),()),()),(v2,v3,v4,())))) (fn ((v5,(),(),(),v6,(IntKind.wrap .i64 (v7+1)),()),((v8,v9,v10,v11,v12,v13,v14,v15,v16,v17,()),(v18,v19,(),(),()),()),(v2,v3,v4,())))) none) none) (fe (((),()),(()),(v2,())))) (fe (((),()),(()),(v2,())))) (fe (((),()),(()),(v2,())))) (fe (((),()),(()),(v2,())))
abbrev qN {ρ:Type} (s:kX.D) (fn:kX.D->Option ρ) (fe:eX.D tc->Option ρ):Option ρ:=uR s.2.2.1 s.2.2.2.1 s.2.2.2.2.1 s.1.1 s.1.2.2.2.2.1 s.1.2.2.2.2.2.1 s.2.1.1.1 s.2.1.1.2.1 s.2.1.1.2.2.1 s.2.1.1.2.2.2.1 s.2.1.1.2.2.2.2.1 s.2.1.1.2.2.2.2.2.1 s.2.1.1.2.2.2.2.2.2.1 s.2.1.1.2.2.2.2.2.2.2.1 s.2.1.1.2.2.2.2.2.2.2.2.1 s.2.1.1.2.2.2.2.2.2.2.2.2.1 s.2.1.2.1.1 s.2.1.2.1.2.1 fn fe
def kY (s:kX.D):Option (kX.D⊕eX.D tc):=qN s (fun s=>some (.inl s)) (fun e=>some (.inr e))
def xe:kX.D->Option (eX.D tc):=mw kY
theorem Ud {ρ:Type} (s:kX.D) (fn:_->Option ρ) (fe:_):qN s fn fe=(kY s).bind (Sum.elim fn fe):=by
 simp only [kY,qN,uR,dZ,ea,an,ah,ae,aA,aB]
abbrev LQ:fO:=fR [] [1,2,5,6,7,8] kX tc xe
theorem Rk (s:kX.D):iz Θ (ek Rj) (en []) xd (kX.mk' s) (fM [1,2,5,6,7,8] [5] fun x S=>some (x,S))=(kY s).bind (Sum.elim (fun s'=>some (.nor,kX.mk' s')) fun e=>some (eX.e tc e)):=
 ak (by kernel_rfl) (Ud s _ _)
theorem Rl:fk Tryz.prog xd LQ:=eA eo Kb dT (by kernel_rfl) (fV (by kernel_rfl:_= []) dU) [] [1,2,5,6,7,8] [5] kX tc (by kernel_rfl) kY Rk xe (ju kY) (ev kY)
def DE {ρ:Type} (a0:dV) (a1:Int) (k: (List Int)×Unit->Option ρ):Option ρ:=
 (iw a0.master).bind fun y1=>(xe ((a1,(),(),(),y1.2.1,0,()),((a0.now,a0.servers,a0.sides,a0.master.configs,a0.master.activated,a0.masterUp,a0.lease.epoch,a0.lease.holder,a0.lease.ends,a0.places,()),(y1.1.epoch,y1.1.primary,(),(),()),()),(([]:List Int),y1.1.replicas,y1.1.witnesses,()))).bind fun e27=>k (e27.2.2.1,())
def ut (a0:dV) (a1:Int):=DE a0 a1 some
theorem ZL {ρ:Type} (a0 a1:_) (k:_->Option ρ):DE a0 a1 k=(ut a0 a1).bind k:=by
 simp only [ut,DE,ah,ae]
abbrev Rm:eG:=eJ [.ty (.st .cluster), .ty (.i .i64)] [.ls (.i .i64)] fun x=>ut x.1 x.2.1
theorem afm:eh Tryz.prog 299 Rm:=
 dY (Λ:=en [(fC xd,LQ)]) (fn:=Tryz.f299) eo Kb dT (by kernel_rfl) (ej (by kernel_rfl:_= [xd]) (eu (q:=fC xd) rfl Rl fun _ _ _=>by kernel_rfl)) (by kernel_rfl) (fun x=>ut x.1 x.2.1)
  (fun x=>ak (by kernel_rfl) (ZL x.1 x.2.1 _)) fun _ _ h=>h
abbrev Rn:List (Nat×eG):= [(299,Rm)]
theorem Kd:ef Tryz.prog (ek Rn):=dS afm <| dX _
abbrev xf:Code:=fm (fo Tryz.f272) 0
abbrev kZ:it:=⟨[(2, .cl (.ptr 0 0)),(5, .cl (.int .i64)),(6, .cl (.own 0 (.i .i64))),(7, .cl (.int .i64))],[[.int .i64, .ro (.st .server), .ro (.i .i64), .ro (.st .config), .int .i64, .int .i64, .int .i64, .int .i64, .int .i64, .ro (.st .place)]],[.i .i64],0,44⟩
abbrev td:List (X×it):= [(.ext 0,⟨[(5, .cl (.int .i64))],[],[],0,44⟩)]
def Aj {ρ:Type} (v2:List Int) (v3:Int) (v4:Int) (v5:Int) (v6:List eb) (v7:List Int) (v8:List dW) (v9:Int) (v10:Int) (v11:Int) (v12:Int) (v13:Int) (v14:List ey) (fn: ((Unit×Int×Unit×Int×Unit)×((Int×(List eb)×(List Int)×(List dW)×Int×Int×Int×Int×Int×(List ey)×Unit)×Unit)×((List Int)×Unit))->Option ρ) (fe: ((Int×Unit)×(Unit)×(Unit))->Option ρ):Option ρ:=
 br (decide (v4 < (v2.length:Int))) (br (decide (v3 < 0)) (eg (0<=v4/\v4 < (v2.length:Int)) ((v2[v4.toNat]?).bind fun x15=>fn (((),x15,(),(IntKind.wrap .i64 (v4+1)),()),((v5,v6,v7,v8,v9,v10,v11,v12,v13,v14,()),()),(v2,()))) none) (eg (0<=v4/\v4 < (v2.length:Int)) ((v2[v4.toNat]?).bind fun x16=>eg (0<=x16) ((v6[x16.toNat]?).bind fun x17=>eg (0<=v3) ((v6[v3.toNat]?).bind fun x18=>br (decide ((x17.log.length:Int) > (x18.log.length:Int))) (eg (0<=v4/\v4 < (v2.length:Int)) ((v2[v4.toNat]?).bind fun x19=>fn (((),x19,(),(IntKind.wrap .i64 (v4+1)),()),((v5,v6,v7,v8,v9,v10,v11,v12,v13,v14,()),()),(v2,()))) none) (fn (((),v3,(),(IntKind.wrap .i64 (v4+1)),()),((v5,v6,v7,v8,v9,v10,v11,v12,v13,v14,()),()),(v2,())))) none) none) none)) (fe ((v3,()),(()),(())))
abbrev uS {ρ:Type} (s:kZ.D) (fn:kZ.D->Option ρ) (fe:eX.D td->Option ρ):Option ρ:=Aj s.2.2.1 s.1.2.1 s.1.2.2.2.1 s.2.1.1.1 s.2.1.1.2.1 s.2.1.1.2.2.1 s.2.1.1.2.2.2.1 s.2.1.1.2.2.2.2.1 s.2.1.1.2.2.2.2.2.1 s.2.1.1.2.2.2.2.2.2.1 s.2.1.1.2.2.2.2.2.2.2.1 s.2.1.1.2.2.2.2.2.2.2.2.1 s.2.1.1.2.2.2.2.2.2.2.2.2.1 fn fe
def lZ (s:kZ.D):Option (kZ.D⊕eX.D td):=uS s (fun s=>some (.inl s)) (fun e=>some (.inr e))
def B9:kZ.D->Option (eX.D td):=mw lZ
theorem Ue {ρ:Type} (s:kZ.D) (fn:_->Option ρ) (fe:_):uS s fn fe=(lZ s).bind (Sum.elim fn fe):=by
 simp only [lZ,uS,Aj,dZ,ea,an,ah,ae,aA,aB]
abbrev LR:fO:=fR [] [2,5,6,7] kZ td B9
theorem Ro (s:kZ.D):iz Θ (ek Rn) (en []) xf (kZ.mk' s) (fM [2,5,6,7] [5] fun x S=>some (x,S))=(lZ s).bind (Sum.elim (fun s'=>some (.nor,kZ.mk' s')) fun e=>some (eX.e td e)):=
 ak (by kernel_rfl) (Ue s _ _)
theorem Rp:fk Tryz.prog xf LR:=eA eo Kd dT (by kernel_rfl) (fV (by kernel_rfl:_= []) dU) [] [2,5,6,7] [5] kZ td (by kernel_rfl) lZ Ro B9 (ju lZ) (ev lZ)
def DF {ρ:Type} (a0:dV) (a1:Int) (k:Int×Unit->Option ρ):Option ρ:=
 (ut a0 a1).bind fun y1=>(B9 (((),(-1),(),0,()),((a0.now,a0.servers,a0.sides,a0.master.configs,a0.master.activated,a0.masterUp,a0.lease.epoch,a0.lease.holder,a0.lease.ends,a0.places,()),()),(y1.1,()))).bind fun e20=>k (e20.1.1,())
def uu (a0:dV) (a1:Int):=DF a0 a1 some
theorem ZM {ρ:Type} (a0 a1:_) (k:_->Option ρ):DF a0 a1 k=(uu a0 a1).bind k:=by
 simp only [uu,DF,ah,ae]
abbrev Rq:eG:=eJ [.ty (.st .cluster), .ty (.i .i64)] [.i .i64] fun x=>uu x.1 x.2.1
theorem afn:eh Tryz.prog 272 Rq:=
 dY (Λ:=en [(fC xf,LR)]) (fn:=Tryz.f272) eo Kd dT (by kernel_rfl) (ej (by kernel_rfl:_= [xf]) (eu (q:=fC xf) rfl Rp fun _ _ _=>by kernel_rfl)) (by kernel_rfl) (fun x=>uu x.1 x.2.1)
  (fun x=>ak (by kernel_rfl) (ZM x.1 x.2.1 _)) fun _ _ h=>h
abbrev WR:List (Nat×eG):= [(120,mZ),(79,F6)]
theorem PD:ef Tryz.prog (ek WR):=dS nC <| dS H6 <| dX _
def yi {ρ:Type} (a0:eb) (k: (List ed)×Unit->Option ρ):Option ρ:=
 (gk a0.commit a0.first (IntKind.wrap .i64 (a0.first+(a0.log.length:Int)))).bind fun y1=>br (!y1.1) (k (([]:List ed),())) (br (decide (a0.first < 0)) (k (([]:List ed),())) (eg (0<=(0:Int)/\(0:Int)<=(IntKind.wrap .i64 (a0.commit - a0.first))/\(IntKind.wrap .i64 (a0.commit - a0.first))<=(a0.log.length:Int)) ((mY ((a0.log.drop (0:Int).toNat).take ((IntKind.wrap .i64 (a0.commit - a0.first)).toNat - (0:Int).toNat))).bind fun y2=>k (y2.1,())) none))
def ns (a0:eb):=yi a0 some
theorem Rr {ρ:Type} (a0:_) (k:_->Option ρ):yi a0 k=(ns a0).bind k:=by
 simp only [ns,yi,dZ,ea,an,ah,ae]
abbrev Ke:eG:=eJ [.ty (.st .server)] [.ls (.st .entry)] fun x=>ns x.1
theorem WS:eh Tryz.prog 223 Ke:=
 dY (Λ:=en []) (fn:=Tryz.f223) eo PD dT (by kernel_rfl) (ej (by kernel_rfl:_= []) dU) (by kernel_rfl) (fun x=>ns x.1)
  (fun x=>ak (by kernel_rfl) (Rr x.1 _)) fun _ _ h=>h
abbrev amv:List (Nat×eG):= [(171,LC),(79,F6),(223,Ke)]
theorem afo:ef Tryz.prog (ek amv):=dS Q0 <| dS H6 <| dS WS <| dX _
def Jk {ρ:Type} (a0:eb) (a1:Int) (k: (List ed)×Unit->Option ρ):Option ρ:=
 (rk a0.config a1).bind fun y1=>(mY a0.learned).bind fun y2=>br (y1.1==1) ((ns a0).bind fun y3=>br (decide ((y3.1.length:Int) > (y2.1.length:Int))) (k (y3.1,())) (k (y2.1,()))) (br (y1.1==2) ((ns a0).bind fun y4=>br (decide ((y4.1.length:Int) > (y2.1.length:Int))) (k (y4.1,())) (k (y2.1,()))) (k (y2.1,())))
def Di (a0:eb) (a1:Int):=Jk a0 a1 some
theorem aid {ρ:Type} (a0 a1:_) (k:_->Option ρ):Jk a0 a1 k=(Di a0 a1).bind k:=by
 simp only [Di,Jk,dZ,ah,ae]
abbrev adN:eG:=eJ [.ty (.st .server), .ty (.i .i64)] [.ls (.st .entry)] fun x=>Di x.1 x.2.1
theorem amw:eh Tryz.prog 168 adN:=
 dY (Λ:=en []) (fn:=Tryz.f168) eo afo dT (by kernel_rfl) (ej (by kernel_rfl:_= []) dU) (by kernel_rfl) (fun x=>Di x.1 x.2.1)
  (fun x=>ak (by kernel_rfl) (aid x.1 x.2.1 _)) fun _ _ h=>h
abbrev amx:List (Nat×eG):= [(172,QY),(120,mZ)]
theorem afp:ef Tryz.prog (ek amx):=dS X6 <| dS nC <| dX _
def Jl {ρ:Type} (a0:Int) (a1:List ed) (k:Bool×Unit->Option ρ):Option ρ:=
 (sI a1).bind fun y1=>br y1.1 (br (decide ((a1.length:Int)<=3)) ((gk a0 0 (IntKind.wrap .i64 (16 - (a1.length:Int)))).bind fun y2=>br y2.1 (br (a0==0) (k (true,())) (k (((a1.length:Int)==3),()))) (k (false,()))) (k (false,()))) (k (false,()))
def FO (a0:Int) (a1:List ed):=Jl a0 a1 some
theorem aie {ρ:Type} (a0 a1:_) (k:_->Option ρ):Jl a0 a1 k=(FO a0 a1).bind k:=by
 simp only [FO,Jl,dZ,ah,ae]
abbrev adO:eG:=eJ [.ty (.i .i64), .ty (.ls (.st .entry))] [.b] fun x=>FO x.1 x.2.1
theorem amy:eh Tryz.prog 315 adO:=
 dY (Λ:=en []) (fn:=Tryz.f315) eo afp dT (by kernel_rfl) (ej (by kernel_rfl:_= []) dU) (by kernel_rfl) (fun x=>FO x.1 x.2.1)
  (fun x=>ak (by kernel_rfl) (aie x.1 x.2.1 _)) fun _ _ h=>h
abbrev LS:List (Nat×eG):= []
theorem G0:ef Tryz.prog (ek LS):=dX _
abbrev te:Code:=fm (fo Tryz.f316) 0
abbrev jI:it:=⟨[(0, .cl (.ro (.st .entry))),(1, .cl (.ro (.st .entry))),(5, .cl (.int .i64))],[],[],0,30⟩
abbrev pU:List (X×it):= [(.ext 0,⟨[(5, .cl (.int .i64))],[],[],0,30⟩)]
def rt {ρ:Type} (v1:List ed) (v2:List ed) (v3:Int) (fn: (((List ed)×(List ed)×Int×Unit)×(Unit)×(Unit))->Option ρ) (fe: ((Int×Unit)×(Unit)×(Unit))->Option ρ):Option ρ:=
 br (decide (v3 < (v1.length:Int))) (br (decide (v3 < (v2.length:Int))) (eg (0<=v3) ((v1[v3.toNat]?).bind fun x4=>eg (0<=v3) ((v2[v3.toNat]?).bind fun x5=>br ((x4.epoch==x5.epoch)&&((x4.op.client==x5.op.client)&&((x4.op.seq==x5.op.seq)&&((x4.op.kind==x5.op.kind)&&((x4.op.object==x5.op.object)&&((x4.op.old==x5.op.old)&&((x4.op.value==x5.op.value)&&true))))))) (fn ((v1,v2,(IntKind.wrap .i64 (v3+1)),()),(()),(()))) (fe ((v3,()),(()),(())))) none) none) (fe ((v3,()),(()),(())))) (fe ((v3,()),(()),(())))
abbrev oL {ρ:Type} (s:jI.D) (fn:jI.D->Option ρ) (fe:eX.D pU->Option ρ):Option ρ:=rt s.1.1 s.1.2.1 s.1.2.2.1 fn fe
def jJ (s:jI.D):Option (jI.D⊕eX.D pU):=oL s (fun s=>some (.inl s)) (fun e=>some (.inr e))
def tf:jI.D->Option (eX.D pU):=mw jJ
theorem PE {ρ:Type} (s:jI.D) (fn:_->Option ρ) (fe:_):oL s fn fe=(jJ s).bind (Sum.elim fn fe):=by
 simp only [jJ,oL,rt,dZ,ea,an,ah,ae,aA,aB]
abbrev Iq:fO:=fR [] [0,1,5] jI pU tf
theorem Nu (s:jI.D):iz Θ (ek LS) (en []) te (jI.mk' s) (fM [0,1,5] [5] fun x S=>some (x,S))=(jJ s).bind (Sum.elim (fun s'=>some (.nor,jI.mk' s')) fun e=>some (eX.e pU e)):=
 ak (by kernel_rfl) (PE s _ _)
theorem Nv:fk Tryz.prog te Iq:=eA eo G0 dT (by kernel_rfl) (fV (by kernel_rfl:_= []) dU) [] [0,1,5] [5] jI pU (by kernel_rfl) jJ Nu tf (ju jJ) (ev jJ)
def uT {ρ:Type} (a0:List ed) (a1:List ed) (k:Int×Unit->Option ρ):Option ρ:=
 (tf ((a0,a1,0,()),(()),(()))).bind fun e6=>k (e6.1.1,())
def na (a0:List ed) (a1:List ed):=uT a0 a1 some
theorem Uf {ρ:Type} (a0 a1:_) (k:_->Option ρ):uT a0 a1 k=(na a0 a1).bind k:=by
 simp only [na,uT,ah,ae]
abbrev LU:eG:=eJ [.ty (.ls (.st .entry)), .ty (.ls (.st .entry))] [.i .i64] fun x=>na x.1 x.2.1
theorem ZN:eh Tryz.prog 316 LU:=
 dY (Λ:=en [(fC te,Iq)]) (fn:=Tryz.f316) eo G0 dT (by kernel_rfl) (ej (by kernel_rfl:_= [te]) (eu (q:=fC te) rfl Nv fun _ _ _=>by kernel_rfl)) (by kernel_rfl) (fun x=>na x.1 x.2.1)
  (fun x=>ak (by kernel_rfl) (Uf x.1 x.2.1 _)) fun _ _ h=>h
abbrev aka:List (Nat×eG):= [(172,QY),(315,adO),(316,LU),(79,F6)]
theorem acb:ef Tryz.prog (ek aka):=dS X6 <| dS amy <| dS ZN <| dS H6 <| dX _
def G1 {ρ:Type} (a0:List ed) (a1:Int) (a2:List ed) (k: (List ed)×Bool×Unit->Option ρ):Option ρ:=
 (sI a0).bind fun y1=>br (!y1.1) (k (([]:List ed),false,())) ((FO a1 a2).bind fun y2=>br (!y2.1) (k (([]:List ed),false,())) (br (decide (a1 > (a0.length:Int))) (k (([]:List ed),false,())) (eg (0<=a1/\a1<=(a0.length:Int)/\(a0.length:Int)<=(a0.length:Int)) ((na ((a0.drop a1.toNat).take ((a0.length:Int).toNat - a1.toNat)) a2).bind fun y3=>br (decide (y3.1 < (if (a2.length:Int) < (IntKind.wrap .i64 ((a0.length:Int) - a1)) then (a2.length:Int) else (IntKind.wrap .i64 ((a0.length:Int) - a1))))) (k (([]:List ed),false,())) ((mY a0).bind fun y4=>eg (0<=y3.1/\y3.1<=(a2.length:Int)/\(a2.length:Int)<=(a2.length:Int)) (eg ((y4.1++((a2.drop y3.1.toNat).take ((a2.length:Int).toNat - y3.1.toNat))).length*56<=2 ^ 40) ((sI (y4.1++((a2.drop y3.1.toNat).take ((a2.length:Int).toNat - y3.1.toNat)))).bind fun y5=>br (!y5.1) (k (([]:List ed),false,())) (k ((y4.1++((a2.drop y3.1.toNat).take ((a2.length:Int).toNat - y3.1.toNat))),true,()))) none) none)) none)))
def AR (a0:List ed) (a1:Int) (a2:List ed):=G1 a0 a1 a2 some
theorem afq {ρ:Type} (a0 a1 a2:_) (k:_->Option ρ):G1 a0 a1 a2 k=(AR a0 a1 a2).bind k:=by
 simp only [AR,G1,dZ,ea,an,ah,ae]
abbrev ZO:eG:=eJ [.ty (.ls (.st .entry)), .ty (.i .i64), .ty (.ls (.st .entry))] [.ls (.st .entry), .b] fun x=>AR x.1 x.2.1 x.2.2.1
theorem akb:eh Tryz.prog 300 ZO:=
 dY (Λ:=en []) (fn:=Tryz.f300) eo acb dT (by kernel_rfl) (ej (by kernel_rfl:_= []) dU) (by kernel_rfl) (fun x=>AR x.1 x.2.1 x.2.2.1)
  (fun x=>ak (by kernel_rfl) (afq x.1 x.2.1 x.2.2.1 _)) fun _ _ h=>h
abbrev Jm:List (Nat×eG):= [(50,qK),(46,iv),(120,mZ),(250,Gd),(168,adN),(300,ZO)]
theorem Ez:ef Tryz.prog (ek Jm):=dS uM <| dS iW <| dS nC <| dS Jh <| dS amw <| dS akb <| dX _
abbrev tg:Code:=fm (fo Tryz.f273) 0
abbrev uU:Code:=fm tg 0
abbrev j8:it:=⟨[(1, .cl (.int .i64)),(2, .cl (.ptr 0 0)),(6, .cl (.own 0 (.st .entry))),(7, .cl (.bl)),(8, .cl (.ptr 1 0)),(9, .cl (.bl)),(10, .cl (.int .i64)),(11, .cl (.ptr 2 0)),(12, .cl (.int .i64))],[[.int .i64, .ro (.st .server), .ro (.i .i64), .ro (.st .config), .int .i64, .int .i64, .int .i64, .int .i64, .int .i64, .ro (.st .place)],[.int .i64, .int .i64, .own 1 (.i .i64), .own 2 (.i .i64)],[.bl, .bl, .int .i64, .int .i64, .int .i64, .int .i64, .ro (.i .i64), .ro (.i .i64), .int .i64, .ro (.st .entry), .int .i64, .ro (.st .entry)]],[.st .entry, .i .i64, .i .i64],0,121⟩
abbrev qO:List (X×it):= [(.ext 2,⟨[(1, .cl (.int .i64)),(2, .cl (.ptr 0 0)),(6, .cl (.own 0 (.st .entry))),(7, .cl (.bl)),(8, .cl (.ptr 1 0)),(9, .cl (.bl)),(10, .cl (.int .i64))],[[.int .i64, .ro (.st .server), .ro (.i .i64), .ro (.st .config), .int .i64, .int .i64, .int .i64, .int .i64, .int .i64, .ro (.st .place)],[.int .i64, .int .i64, .own 1 (.i .i64), .own 2 (.i .i64)]],[.st .entry, .i .i64, .i .i64],0,121⟩)]
def yj {ρ:Type} (v27:List ed) (v28:List Int) (v29:List Int) (v30:Int) (v31:Bool) (v32:Bool) (v33:Int) (v34:Int) (v35:Int) (v36:List eb) (v37:List Int) (v38:List dW) (v39:Int) (v40:Int) (v41:Int) (v42:Int) (v43:Int) (v44:List ey) (v45:Int) (v46:Int) (v47:Bool) (v48:Bool) (v49:Int) (v50:Int) (v51:Int) (v52:Int) (v53:List Int) (v54:List Int) (v55:Int) (v56:List ed) (v57:Int) (v58:List ed) (fn: ((Int×Unit×Unit×Bool×Unit×Bool×Int×Unit×Int×Unit)×((Int×(List eb)×(List Int)×(List dW)×Int×Int×Int×Int×Int×(List ey)×Unit)×(Int×Int×Unit×Unit×Unit)×(Bool×Bool×Int×Int×Int×Int×(List Int)×(List Int)×Int×(List ed)×Int×(List ed)×Unit)×Unit)×((List ed)×(List Int)×(List Int)×Unit))->Option ρ) (fe: ((Int×Unit×Unit×Bool×Unit×Bool×Int×Unit)×((Int×(List eb)×(List Int)×(List dW)×Int×Int×Int×Int×Int×(List ey)×Unit)×(Int×Int×Unit×Unit×Unit)×Unit)×((List ed)×(List Int)×(List Int)×Unit))->Option ρ):Option ρ:=
 br (decide (v34 < 5)) (eg (0<=v34) ((v36[v34.toNat]?).bind fun x59=>br (!x59.up) (fn ((v30,(),(),v31,(),v32,v33,(),(IntKind.wrap .i64 (v34+1)),()),((v35,v36,v37,v38,v39,v40,v41,v42,v43,v44,()),(v45,v46,(),(),()),(v47,v48,v49,v50,v51,v52,v53,v54,v55,v56,v57,v58,()),()),(v27,v28,v29,()))) ((qe v37 v30 v34).bind fun y60=>br (!y60.1) (fn ((v30,(),(),v31,(),v32,v33,(),(IntKind.wrap .i64 (v34+1)),()),((v35,v36,v37,v38,v39,v40,v41,v42,v43,v44,()),(v45,v46,(),(),()),(v47,v48,v49,v50,v51,v52,v53,v54,v55,v56,v57,v58,()),()),(v27,v28,v29,()))) (eg (0<=v34) ((v36[v34.toNat]?).bind fun x61=>(Di x61 v34).bind fun y62=>(AR y62.1 v55 v56).bind fun y63=>br y63.2.1 (br (!v31) (fn ((v30,(),(),true,(),v32,v33,(),(IntKind.wrap .i64 (v34+1)),()),((v35,v36,v37,v38,v39,v40,v41,v42,v43,v44,()),(v45,v46,(),(),()),(v47,v48,v49,v50,v51,v52,v53,v54,v55,v56,v57,v58,()),()),(y63.1,v28,v29,()))) (br (decide ((y63.1.length:Int) > (v27.length:Int))) (fn ((v30,(),(),true,(),v32,v33,(),(IntKind.wrap .i64 (v34+1)),()),((v35,v36,v37,v38,v39,v40,v41,v42,v43,v44,()),(v45,v46,(),(),()),(v47,v48,v49,v50,v51,v52,v53,v54,v55,v56,v57,v58,()),()),(y63.1,v28,v29,()))) (fn ((v30,(),(),v31,(),v32,v33,(),(IntKind.wrap .i64 (v34+1)),()),((v35,v36,v37,v38,v39,v40,v41,v42,v43,v44,()),(v45,v46,(),(),()),(v47,v48,v49,v50,v51,v52,v53,v54,v55,v56,v57,v58,()),()),(v27,v28,v29,()))))) (fn ((v30,(),(),v31,(),v32,v33,(),(IntKind.wrap .i64 (v34+1)),()),((v35,v36,v37,v38,v39,v40,v41,v42,v43,v44,()),(v45,v46,(),(),()),(v47,v48,v49,v50,v51,v52,v53,v54,v55,v56,v57,v58,()),()),(v27,v28,v29,())))) none))) none) (fe ((v30,(),(),v31,(),v32,v33,()),((v35,v36,v37,v38,v39,v40,v41,v42,v43,v44,()),(v45,v46,(),(),()),()),(v27,v28,v29,())))
abbrev th {ρ:Type} (s:j8.D) (fn:j8.D->Option ρ) (fe:eX.D qO->Option ρ):Option ρ:=yj s.2.2.1 s.2.2.2.1 s.2.2.2.2.1 s.1.1 s.1.2.2.2.1 s.1.2.2.2.2.2.1 s.1.2.2.2.2.2.2.1 s.1.2.2.2.2.2.2.2.2.1 s.2.1.1.1 s.2.1.1.2.1 s.2.1.1.2.2.1 s.2.1.1.2.2.2.1 s.2.1.1.2.2.2.2.1 s.2.1.1.2.2.2.2.2.1 s.2.1.1.2.2.2.2.2.2.1 s.2.1.1.2.2.2.2.2.2.2.1 s.2.1.1.2.2.2.2.2.2.2.2.1 s.2.1.1.2.2.2.2.2.2.2.2.2.1 s.2.1.2.1.1 s.2.1.2.1.2.1 s.2.1.2.2.1.1 s.2.1.2.2.1.2.1 s.2.1.2.2.1.2.2.1 s.2.1.2.2.1.2.2.2.1 s.2.1.2.2.1.2.2.2.2.1 s.2.1.2.2.1.2.2.2.2.2.1 s.2.1.2.2.1.2.2.2.2.2.2.1 s.2.1.2.2.1.2.2.2.2.2.2.2.1 s.2.1.2.2.1.2.2.2.2.2.2.2.2.1 s.2.1.2.2.1.2.2.2.2.2.2.2.2.2.1 s.2.1.2.2.1.2.2.2.2.2.2.2.2.2.2.1 s.2.1.2.2.1.2.2.2.2.2.2.2.2.2.2.2.1 fn fe
def lz (s:j8.D):Option (j8.D⊕eX.D qO):=th s (fun s=>some (.inl s)) (fun e=>some (.inr e))
def Ak:j8.D->Option (eX.D qO):=mw lz
theorem Rs {ρ:Type} (s:j8.D) (fn:_->Option ρ) (fe:_):th s fn fe=(lz s).bind (Sum.elim fn fe):=by
 simp only [lz,th,yj,dZ,ea,an,ah,ae,aA,aB]
abbrev Kf:fO:=fR [] [1,2,6,7,8,9,10,11,12] j8 qO Ak
theorem PF (s:j8.D):iz Θ (ek Jm) (en []) uU (j8.mk' s) (fM [1,2,6,7,8,9,10,11,12] [1,2,6,7,8,9,10] fun x S=>some (x,S))=(lz s).bind (Sum.elim (fun s'=>some (.nor,j8.mk' s')) fun e=>some (eX.e qO e)):=
 ak (by kernel_rfl) (Rs s _ _)
theorem PG:fk Tryz.prog uU Kf:=eA eo Ez dT (by kernel_rfl) (fV (by kernel_rfl:_= []) dU) [] [1,2,6,7,8,9,10,11,12] [1,2,6,7,8,9,10] j8 qO (by kernel_rfl) lz PF Ak (ju lz) (ev lz)
abbrev k9:it:=⟨[(1, .cl (.int .i64)),(2, .cl (.ptr 0 0)),(6, .cl (.own 0 (.st .entry))),(7, .cl (.bl)),(8, .cl (.ptr 1 0)),(9, .cl (.bl)),(10, .cl (.int .i64))],[[.int .i64, .ro (.st .server), .ro (.i .i64), .ro (.st .config), .int .i64, .int .i64, .int .i64, .int .i64, .int .i64, .ro (.st .place)],[.int .i64, .int .i64, .own 1 (.i .i64), .own 2 (.i .i64)]],[.st .entry, .i .i64, .i .i64],0,121⟩
abbrev tj:List (X×it):= [(.ext 0,⟨[(6, .cl (.own 0 (.st .entry))),(7, .cl (.bl))],[],[.st .entry],0,121⟩)]
def uV {ρ:Type} (v2:List ed) (v3:List Int) (v4:List Int) (v5:Int) (v6:Bool) (v7:Bool) (v8:Int) (v9:Int) (v10:List eb) (v11:List Int) (v12:List dW) (v13:Int) (v14:Int) (v15:Int) (v16:Int) (v17:Int) (v18:List ey) (v19:Int) (v20:Int) (fn: ((Int×Unit×Unit×Bool×Unit×Bool×Int×Unit)×((Int×(List eb)×(List Int)×(List dW)×Int×Int×Int×Int×Int×(List ey)×Unit)×(Int×Int×Unit×Unit×Unit)×Unit)×((List ed)×(List Int)×(List Int)×Unit))->Option ρ) (fe: ((Unit×Bool×Unit)×(Unit)×((List ed)×Unit))->Option ρ):Option ρ:=
 br (decide (v8 < (v4.length:Int))) (br v7 ((eC (⟨v9,v10,v11,(⟨v12,v13⟩:ei),v14,(⟨v15,v16,v17⟩:ir),v18⟩:dV)).bind fun y21=>br y21.1 ((gk v5 0 4).bind fun y22=>br y22.1 (eg (0<=v8/\v8 < (v4.length:Int)) ((v4[v8.toNat]?).bind fun x23=>eg (0<=x23) ((v10[x23.toNat]?).bind fun x24=>br (!x24.up) (fn ((v5,(),(),v6,(),v7,(IntKind.wrap .i64 (v8+1)),()),((v9,v10,v11,v12,v13,v14,v15,v16,v17,v18,()),(v19,v20,(),(),()),()),(v2,v3,v4,()))) (br (!(x24.config.epoch==v19)) (fn ((v5,(),(),v6,(),v7,(IntKind.wrap .i64 (v8+1)),()),((v9,v10,v11,v12,v13,v14,v15,v16,v17,v18,()),(v19,v20,(),(),()),()),(v2,v3,v4,()))) (eg (0<=v8/\v8 < (v4.length:Int)) ((v4[v8.toNat]?).bind fun x25=>(qe v11 v5 x25).bind fun y26=>br (!y26.1) (fn ((v5,(),(),v6,(),v7,(IntKind.wrap .i64 (v8+1)),()),((v9,v10,v11,v12,v13,v14,v15,v16,v17,v18,()),(v19,v20,(),(),()),()),(v2,v3,v4,()))) ((Ak ((v5,(),(),v6,(),v7,v8,(),0,()),((v9,v10,v11,v12,v13,v14,v15,v16,v17,v18,()),(v19,v20,(),(),()),(x24.up,x24.intact,x24.version,x24.epoch,x24.config.epoch,x24.config.primary,x24.config.replicas,x24.config.witnesses,x24.first,x24.log,x24.commit,x24.learned,()),()),(v2,v3,v4,()))).bind fun e64=>fn ((e64.1.1,(),(),e64.1.2.2.2.1,(),e64.1.2.2.2.2.2.1,(IntKind.wrap .i64 (e64.1.2.2.2.2.2.2.1+1)),()),((e64.2.1.1.1,e64.2.1.1.2.1,e64.2.1.1.2.2.1,e64.2.1.1.2.2.2.1,e64.2.1.1.2.2.2.2.1,e64.2.1.1.2.2.2.2.2.1,e64.2.1.1.2.2.2.2.2.2.1,e64.2.1.1.2.2.2.2.2.2.2.1,e64.2.1.1.2.2.2.2.2.2.2.2.1,e64.2.1.1.2.2.2.2.2.2.2.2.2.1,()),(e64.2.1.2.1.1,e64.2.1.2.1.2.1,(),(),()),()),(e64.2.2.1,e64.2.2.2.1,e64.2.2.2.2.1,())))) none))) none) none) (fe (((),v6,()),(()),(v2,())))) (fe (((),v6,()),(()),(v2,())))) (fe (((),v6,()),(()),(v2,())))) (fe (((),v6,()),(()),(v2,())))
abbrev qP {ρ:Type} (s:k9.D) (fn:k9.D->Option ρ) (fe:eX.D tj->Option ρ):Option ρ:=uV s.2.2.1 s.2.2.2.1 s.2.2.2.2.1 s.1.1 s.1.2.2.2.1 s.1.2.2.2.2.2.1 s.1.2.2.2.2.2.2.1 s.2.1.1.1 s.2.1.1.2.1 s.2.1.1.2.2.1 s.2.1.1.2.2.2.1 s.2.1.1.2.2.2.2.1 s.2.1.1.2.2.2.2.2.1 s.2.1.1.2.2.2.2.2.2.1 s.2.1.1.2.2.2.2.2.2.2.1 s.2.1.1.2.2.2.2.2.2.2.2.1 s.2.1.1.2.2.2.2.2.2.2.2.2.1 s.2.1.2.1.1 s.2.1.2.1.2.1 fn fe
def lc (s:k9.D):Option (k9.D⊕eX.D tj):=qP s (fun s=>some (.inl s)) (fun e=>some (.inr e))
def xg:k9.D->Option (eX.D tj):=mw lc
theorem Ug {ρ:Type} (s:k9.D) (fn:_->Option ρ) (fe:_):qP s fn fe=(lc s).bind (Sum.elim fn fe):=by
 simp only [lc,qP,uV,dZ,ea,an,ah,ae,aA,aB]
abbrev LV:fO:=fR [] [1,2,6,7,8,9,10] k9 tj xg
theorem Rt (s:k9.D):iz Θ (ek Jm) (en [(fC uU,Kf)]) tg (k9.mk' s) (fM [1,2,6,7,8,9,10] [6,7] fun x S=>some (x,S))=(lc s).bind (Sum.elim (fun s'=>some (.nor,k9.mk' s')) fun e=>some (eX.e tj e)):=
 ak (by kernel_rfl) (Ug s _ _)
theorem Ru:fk Tryz.prog tg LV:=eA eo Ez dT (by kernel_rfl) (fV (by kernel_rfl:_= [uU]) (eu (q:=fC uU) rfl PG fun _ _ _=>by kernel_rfl)) [] [1,2,6,7,8,9,10] [6,7] k9 tj (by kernel_rfl) lc Rt xg (ju lc) (ev lc)
def DG {ρ:Type} (a0:dV) (a1:Int) (k: (List ed)×Bool×Unit->Option ρ):Option ρ:=
 (iw a0.master).bind fun y1=>(xg ((a1,(),(),false,(),y1.2.1,0,()),((a0.now,a0.servers,a0.sides,a0.master.configs,a0.master.activated,a0.masterUp,a0.lease.epoch,a0.lease.holder,a0.lease.ends,a0.places,()),(y1.1.epoch,y1.1.primary,(),(),()),()),(([]:List ed),y1.1.replicas,y1.1.witnesses,()))).bind fun e65=>k (e65.2.2.1,e65.1.2.1,())
def uv (a0:dV) (a1:Int):=DG a0 a1 some
theorem ZP {ρ:Type} (a0 a1:_) (k:_->Option ρ):DG a0 a1 k=(uv a0 a1).bind k:=by
 simp only [uv,DG,ah,ae]
abbrev Rv:eG:=eJ [.ty (.st .cluster), .ty (.i .i64)] [.ls (.st .entry), .b] fun x=>uv x.1 x.2.1
theorem afr:eh Tryz.prog 273 Rv:=
 dY (Λ:=en [(fC tg,LV)]) (fn:=Tryz.f273) eo Ez dT (by kernel_rfl) (ej (by kernel_rfl:_= [tg]) (eu (q:=fC tg) rfl Ru fun _ _ _=>by kernel_rfl)) (by kernel_rfl) (fun x=>uv x.1 x.2.1)
  (fun x=>ak (by kernel_rfl) (ZP x.1 x.2.1 _)) fun _ _ h=>h
abbrev aif:List (Nat×eG):= [(46,iv),(120,mZ),(272,Rq),(79,F6),(273,Rv)]
theorem ZQ:ef Tryz.prog (ek aif):=dS iW <| dS nC <| dS afn <| dS H6 <| dS afr <| dX _
def Fh {ρ:Type} (a0:dV) (a1:Int) (k: (List ed)×Bool×Unit->Option ρ):Option ρ:=
 (eC a0).bind fun y1=>br (!y1.1) (k (([]:List ed),false,())) ((gk a1 0 4).bind fun y2=>br (!y2.1) (k (([]:List ed),false,())) (br (a0.master.activated==0) (k (([]:List ed),true,())) ((uu a0 a1).bind fun y3=>br (decide (y3.1≥0)) (eg (0<=y3.1) ((a0.servers[y3.1.toNat]?).bind fun x4=>(mY x4.log).bind fun y5=>k (y5.1,true,())) none) ((uv a0 a1).bind fun y6=>k (y6.1,y6.2.1,())))))
def xh (a0:dV) (a1:Int):=Fh a0 a1 some
theorem acd {ρ:Type} (a0 a1:_) (k:_->Option ρ):Fh a0 a1 k=(xh a0 a1).bind k:=by
 simp only [xh,Fh,dZ,ea,an,ah,ae]
abbrev VY:eG:=eJ [.ty (.st .cluster), .ty (.i .i64)] [.ls (.st .entry), .b] fun x=>xh x.1 x.2.1
theorem aig:eh Tryz.prog 234 VY:=
 dY (Λ:=en []) (fn:=Tryz.f234) eo ZQ dT (by kernel_rfl) (ej (by kernel_rfl:_= []) dU) (by kernel_rfl) (fun x=>xh x.1 x.2.1)
  (fun x=>ak (by kernel_rfl) (acd x.1 x.2.1 _)) fun _ _ h=>h
abbrev ace:List (Nat×eG):= []
theorem Uh:ef Tryz.prog (ek ace):=dX _
def Ca {ρ:Type} (a0:Op) (k:Bool×Unit->Option ρ):Option ρ:=
 k ((a0.kind==2),())
def vy (a0:Op):=Ca a0 some
theorem WT {ρ:Type} (a0:_) (k:_->Option ρ):Ca a0 k=(vy a0).bind k:=by
 simp only [vy,Ca,ae]
abbrev Og:eG:=eJ [.ty (.st .op)] [.b] fun x=>vy x.1
theorem acf:eh Tryz.prog 218 Og:=
 dY (Λ:=en []) (fn:=Tryz.f218) eo Uh dT (by kernel_rfl) (ej (by kernel_rfl:_= []) dU) (by kernel_rfl) (fun x=>vy x.1)
  (fun x=>ak (by kernel_rfl) (WT x.1 _)) fun _ _ h=>h
abbrev LW:List (Nat×eG):= [(218,Og)]
theorem G2:ef Tryz.prog (ek LW):=dS acf <| dX _
abbrev tm:Code:=fm (fo Tryz.f158) 0
abbrev jK:it:=⟨[(0, .cl (.ro (.st .entry))),(3, .cl (.int .i64))],[],[],0,16⟩
abbrev pV:List (X×it):= [(.ret,⟨[(2, .cl (.bl))],[],[],0,16⟩),(.ext 0,⟨[(2, .cl (.dead))],[],[],0,16⟩)]
def wk {ρ:Type} (v1:List ed) (v2:Int) (fn: (((List ed)×Int×Unit)×(Unit)×(Unit))->Option ρ) (fe: ((Bool×Unit)×(Unit)×(Unit))⊕((Unit×Unit)×(Unit)×(Unit))->Option ρ):Option ρ:=
 br (decide (v2 < (v1.length:Int))) (eg (0<=v2) ((v1[v2.toNat]?).bind fun x3=>(vy x3.op).bind fun y4=>br y4.1 (fe (.inl ((true,()),(()),(())))) (fn ((v1,(IntKind.wrap .i64 (v2+1)),()),(()),(())))) none) (fe (.inr (((),()),(()),(()))))
abbrev ru {ρ:Type} (s:jK.D) (fn:jK.D->Option ρ) (fe:eX.D pV->Option ρ):Option ρ:=wk s.1.1 s.1.2.1 fn fe
def kx (s:jK.D):Option (jK.D⊕eX.D pV):=ru s (fun s=>some (.inl s)) (fun e=>some (.inr e))
def to:jK.D->Option (eX.D pV):=mw kx
theorem PH {ρ:Type} (s:jK.D) (fn:_->Option ρ) (fe:_):ru s fn fe=(kx s).bind (Sum.elim fn fe):=by
 simp only [kx,ru,wk,dZ,ea,an,ah,ae,aA,aB]
abbrev Ir:fO:=fR [] [0,3] jK pV to
theorem Nw (s:jK.D):iz Θ (ek LW) (en []) tm (jK.mk' s) (fM [0,3] [2] fun x S=>some (x,S))=(kx s).bind (Sum.elim (fun s'=>some (.nor,jK.mk' s')) fun e=>some (eX.e pV e)):=
 ak (by kernel_rfl) (PH s _ _)
theorem Nx:fk Tryz.prog tm Ir:=eA eo G2 dT (by kernel_rfl) (fV (by kernel_rfl:_= []) dU) [] [0,3] [2] jK pV (by kernel_rfl) kx Nw to (ju kx) (ev kx)
def Al {ρ:Type} (a0:List ed) (k:Bool×Unit->Option ρ):Option ρ:=
 (to ((a0,0,()),(()),(()))).bind fun e5=>Sum.elim (fun e5_=>k (e5_.1.1,())) (fun _=>k (false,())) e5
def nc (a0:List ed):=Al a0 some
theorem Ui {ρ:Type} (a0:_) (k:_->Option ρ):Al a0 k=(nc a0).bind k:=by
 simp only [nc,Al,fU,ah,ae]
abbrev Gg:eG:=eJ [.ty (.ls (.st .entry))] [.b] fun x=>nc x.1
theorem LX:eh Tryz.prog 158 Gg:=
 dY (Λ:=en [(fC tm,Ir)]) (fn:=Tryz.f158) eo G2 dT (by kernel_rfl) (ej (by kernel_rfl:_= [tm]) (eu (q:=fC tm) rfl Nx fun _ _ _=>by kernel_rfl)) (by kernel_rfl) (fun x=>nc x.1)
  (fun x=>ak (by kernel_rfl) (Ui x.1 _)) fun _ _ h=>h
abbrev WU:List (Nat×eG):= [(171,LC),(154,M6),(172,QY),(120,mZ),(126,Nb),(158,Gg),(170,H5),(79,F6)]
theorem PI:ef Tryz.prog (ek WU):=dS Q0 <| dS TQ <| dS X6 <| dS nC <| dS T1 <| dS LX <| dS Ls <| dS H6 <| dX _
def yk {ρ:Type} (a0:eb) (a1:dW) (a2:Int) (a3:List ed) (k:eb×Bool×Unit->Option ρ):Option ρ:=
 (rk a1 a2).bind fun y1=>br (y1.1==0) ((oJ a0).bind fun y2=>k (y2.1,false,())) ((sI a3).bind fun y3=>br (!y3.1) ((oJ a0).bind fun y4=>k (y4.1,false,())) ((gk a0.version 1 2).bind fun y5=>br (!y5.1) ((oJ a0).bind fun y6=>k (y6.1,false,())) ((gk a0.epoch 0 a1.epoch).bind fun y7=>br (!y7.1) ((oJ a0).bind fun y8=>k (y8.1,false,())) ((vv a3).bind fun y9=>br (decide (y9.1 > a1.epoch)) ((oJ a0).bind fun y10=>k (y10.1,false,())) (br (a0.version==1) ((nc a3).bind fun y11=>br y11.1 ((oJ a0).bind fun y12=>k (y12.1,false,())) ((o9 a1).bind fun y13=>(mY a3).bind fun y14=>br (y1.1==3) (eg (0<=(if (IntKind.wrap .i64 ((a3.length:Int) - 3)) > 0 then (IntKind.wrap .i64 ((a3.length:Int) - 3)) else 0)/\(if (IntKind.wrap .i64 ((a3.length:Int) - 3)) > 0 then (IntKind.wrap .i64 ((a3.length:Int) - 3)) else 0)<=(a3.length:Int)/\(a3.length:Int)<=(a3.length:Int)) ((mY ((a3.drop (if (IntKind.wrap .i64 ((a3.length:Int) - 3)) > 0 then (IntKind.wrap .i64 ((a3.length:Int) - 3)) else 0).toNat).take ((a3.length:Int).toNat - (if (IntKind.wrap .i64 ((a3.length:Int) - 3)) > 0 then (IntKind.wrap .i64 ((a3.length:Int) - 3)) else 0).toNat))).bind fun y15=>k ((⟨a0.up,true,a0.version,a1.epoch,y13.1,(if (IntKind.wrap .i64 ((a3.length:Int) - 3)) > 0 then (IntKind.wrap .i64 ((a3.length:Int) - 3)) else 0),y15.1,(a3.length:Int),([]:List ed)⟩:eb),true,())) none) (k ((⟨a0.up,true,a0.version,a1.epoch,y13.1,0,y14.1,(a3.length:Int),([]:List ed)⟩:eb),true,())))) ((o9 a1).bind fun y16=>(mY a3).bind fun y17=>br (y1.1==3) (eg (0<=(if (IntKind.wrap .i64 ((a3.length:Int) - 3)) > 0 then (IntKind.wrap .i64 ((a3.length:Int) - 3)) else 0)/\(if (IntKind.wrap .i64 ((a3.length:Int) - 3)) > 0 then (IntKind.wrap .i64 ((a3.length:Int) - 3)) else 0)<=(a3.length:Int)/\(a3.length:Int)<=(a3.length:Int)) ((mY ((a3.drop (if (IntKind.wrap .i64 ((a3.length:Int) - 3)) > 0 then (IntKind.wrap .i64 ((a3.length:Int) - 3)) else 0).toNat).take ((a3.length:Int).toNat - (if (IntKind.wrap .i64 ((a3.length:Int) - 3)) > 0 then (IntKind.wrap .i64 ((a3.length:Int) - 3)) else 0).toNat))).bind fun y18=>k ((⟨a0.up,true,a0.version,a1.epoch,y16.1,(if (IntKind.wrap .i64 ((a3.length:Int) - 3)) > 0 then (IntKind.wrap .i64 ((a3.length:Int) - 3)) else 0),y18.1,(a3.length:Int),([]:List ed)⟩:eb),true,())) none) (k ((⟨a0.up,true,a0.version,a1.epoch,y16.1,0,y17.1,(a3.length:Int),([]:List ed)⟩:eb),true,()))))))))
def o4 (a0:eb) (a1:dW) (a2:Int) (a3:List ed):=yk a0 a1 a2 a3 some
theorem Rx {ρ:Type} (a0 a1 a2 a3:_) (k:_->Option ρ):yk a0 a1 a2 a3 k=(o4 a0 a1 a2 a3).bind k:=by
 simp only [o4,yk,dZ,ea,an,ah,ae]
abbrev Kg:eG:=eJ [.ty (.st .server), .ty (.st .config), .ty (.i .i64), .ty (.ls (.st .entry))] [.st .server, .b] fun x=>o4 x.1 x.2.1 x.2.2.1 x.2.2.2.1
theorem WV:eh Tryz.prog 102 Kg:=
 dY (Λ:=en []) (fn:=Tryz.f102) eo PI dT (by kernel_rfl) (ej (by kernel_rfl:_= []) dU) (by kernel_rfl) (fun x=>o4 x.1 x.2.1 x.2.2.1 x.2.2.2.1)
  (fun x=>ak (by kernel_rfl) (Rx x.1 x.2.1 x.2.2.1 x.2.2.2.1 _)) fun _ _ h=>h
abbrev Uj:List (Nat×eG):= [(155,M7),(122,zp)]
theorem Ny:ef Tryz.prog (ek Uj):=dS TR <| dS Dx <| dX _
def wl {ρ:Type} (a0:ei) (a1:Int) (k:ei×Bool×Unit->Option ρ):Option ρ:=
 (ya a0).bind fun y1=>(ib a0).bind fun y2=>br (!y2.1) (k (y1.1,false,())) (br (!(a1==(a0.configs.length:Int))) (k (y1.1,false,())) (br (decide (a1<=a0.activated)) (k (y1.1,false,())) (k ((⟨y1.1.configs,a1⟩:ei),true,()))))
def nN (a0:ei) (a1:Int):=wl a0 a1 some
theorem PJ {ρ:Type} (a0 a1:_) (k:_->Option ρ):wl a0 a1 k=(nN a0 a1).bind k:=by
 simp only [nN,wl,dZ,ah,ae]
abbrev It:eG:=eJ [.ty (.st .masterLog), .ty (.i .i64)] [.st .masterLog, .b] fun x=>nN x.1 x.2.1
theorem Uk:eh Tryz.prog 101 It:=
 dY (Λ:=en []) (fn:=Tryz.f101) eo Ny dT (by kernel_rfl) (ej (by kernel_rfl:_= []) dU) (by kernel_rfl) (fun x=>nN x.1 x.2.1)
  (fun x=>ak (by kernel_rfl) (PJ x.1 x.2.1 _)) fun _ _ h=>h
abbrev Jn:List (Nat×eG):= [(82,Dc),(232,Rf),(46,iv),(98,HE),(233,Of),(234,VY),(192,GR),(158,Gg),(102,Kg),(101,It)]
theorem DH:ef Tryz.prog (ek Jn):=dS FK <| dS afj <| dS iW <| dS Od <| dS aca <| dS aig <| dS LH <| dS LX <| dS WV <| dS Uk <| dX _
abbrev zx:Code:=fm (fo Tryz.f184) 0
abbrev zy:Code:=fm (fo Tryz.f184) 1
abbrev zz:Code:=fm (fo Tryz.f184) 2
abbrev l4:it:=⟨[(1, .cl (.ptr 0 0)),(2, .cl (.ptr 1 0)),(4, .cl (.ptr 2 0)),(5, .cl (.ptr 3 0)),(7, .cl (.own 0 (.st .entry))),(9, .cl (.own 1 (.i .i64))),(10, .cl (.int .i64))],[[.int .i64, .ro (.st .server), .ro (.i .i64), .ro (.st .config), .int .i64, .int .i64, .int .i64, .int .i64, .int .i64, .ro (.st .place)],[.int .i64, .em, .em, .em, .int .i64, .int .i64, .int .i64, .int .i64, .int .i64, .em],[.int .i64, .own 2 (.st .server), .own 3 (.i .i64), .own 4 (.st .config), .int .i64, .int .i64, .int .i64, .int .i64, .int .i64, .own 5 (.st .place)],[.int .i64, .int .i64, .own 6 (.i .i64), .own 7 (.i .i64)]],[.st .entry, .i .i64, .st .server, .i .i64, .st .config, .st .place, .i .i64, .i .i64],0,180⟩
abbrev vz:List (X×it):= [(.ret,⟨[(1, .cl (.ptr 0 0)),(2, .cl (.ptr 1 0)),(3, .cl (.int .i64)),(4, .cl (.ptr 2 0)),(5, .cl (.ptr 3 0)),(7, .cl (.own 0 (.st .entry))),(9, .cl (.own 1 (.i .i64)))],[[.int .i64, .ro (.st .server), .ro (.i .i64), .ro (.st .config), .int .i64, .int .i64, .int .i64, .int .i64, .int .i64, .ro (.st .place)],[.int .i64, .own 2 (.st .server), .own 3 (.i .i64), .own 4 (.st .config), .int .i64, .int .i64, .int .i64, .int .i64, .int .i64, .own 5 (.st .place)],[.int .i64, .own 2 (.st .server), .own 3 (.i .i64), .own 4 (.st .config), .int .i64, .int .i64, .int .i64, .int .i64, .int .i64, .own 5 (.st .place)],[.int .i64, .int .i64, .own 6 (.i .i64), .own 7 (.i .i64)]],[.st .entry, .i .i64, .st .server, .i .i64, .st .config, .st .place, .i .i64, .i .i64],0,180⟩),(.ext 1,⟨[(1, .cl (.ptr 0 0)),(2, .cl (.ptr 1 0)),(3, .cl (.dead)),(4, .cl (.ptr 2 0)),(5, .cl (.ptr 3 0)),(7, .cl (.own 0 (.st .entry))),(9, .cl (.own 1 (.i .i64)))],[[.int .i64, .ro (.st .server), .ro (.i .i64), .ro (.st .config), .int .i64, .int .i64, .int .i64, .int .i64, .int .i64, .ro (.st .place)],[.int .i64, .em, .em, .em, .int .i64, .int .i64, .int .i64, .int .i64, .int .i64, .em],[.int .i64, .own 2 (.st .server), .own 3 (.i .i64), .own 4 (.st .config), .int .i64, .int .i64, .int .i64, .int .i64, .int .i64, .own 5 (.st .place)],[.int .i64, .int .i64, .own 6 (.i .i64), .own 7 (.i .i64)]],[.st .entry, .i .i64, .st .server, .i .i64, .st .config, .st .place, .i .i64, .i .i64],0,180⟩)]
def Cb {ρ:Type} (v10:List ed) (v11:List Int) (v12:List eb) (v13:List Int) (v14:List dW) (v15:List ey) (v16:List Int) (v17:List Int) (v18:Int) (v19:Int) (v20:List eb) (v21:List Int) (v22:List dW) (v23:Int) (v24:Int) (v25:Int) (v26:Int) (v27:Int) (v28:List ey) (v29:Int) (v30:Int) (v31:Int) (v32:Int) (v33:Int) (v34:Int) (v35:Int) (v36:Int) (v37:Int) (v38:Int) (v39:Int) (v40:Int) (v41:Int) (v42:Int) (fn: ((Unit×Unit×Unit×Unit×Unit×Unit×Int×Unit)×((Int×(List eb)×(List Int)×(List dW)×Int×Int×Int×Int×Int×(List ey)×Unit)×(Int×Unit×Unit×Unit×Int×Int×Int×Int×Int×Unit×Unit)×(Int×Unit×Unit×Unit×Int×Int×Int×Int×Int×Unit×Unit)×(Int×Int×Unit×Unit×Unit)×Unit)×((List ed)×(List Int)×(List eb)×(List Int)×(List dW)×(List ey)×(List Int)×(List Int)×Unit))->Option ρ) (fe: ((Unit×Unit×Int×Unit×Unit×Unit×Unit×Unit)×((Int×(List eb)×(List Int)×(List dW)×Int×Int×Int×Int×Int×(List ey)×Unit)×(Int×Unit×Unit×Unit×Int×Int×Int×Int×Int×Unit×Unit)×(Int×Unit×Unit×Unit×Int×Int×Int×Int×Int×Unit×Unit)×(Int×Int×Unit×Unit×Unit)×Unit)×((List ed)×(List Int)×(List eb)×(List Int)×(List dW)×(List ey)×(List Int)×(List Int)×Unit))⊕((Unit×Unit×Unit×Unit×Unit×Unit×Unit×Unit)×((Int×(List eb)×(List Int)×(List dW)×Int×Int×Int×Int×Int×(List ey)×Unit)×(Int×Unit×Unit×Unit×Int×Int×Int×Int×Int×Unit×Unit)×(Int×Unit×Unit×Unit×Int×Int×Int×Int×Int×Unit×Unit)×(Int×Int×Unit×Unit×Unit)×Unit)×((List ed)×(List Int)×(List eb)×(List Int)×(List dW)×(List ey)×(List Int)×(List Int)×Unit))->Option ρ):Option ρ:=
 br (decide (v18 < (v11.length:Int))) (eg (0<=v18/\v18 < (v11.length:Int)) ((v11[v18.toNat]?).bind fun x43=>eg (0<=x43) ((v20[x43.toNat]?).bind fun x44=>br (!x44.up) (fe (.inl (((),(),10,(),(),(),(),()),((v19,v20,v21,v22,v23,v24,v25,v26,v27,v28,()),(v35,(),(),(),v36,v37,v38,v39,v40,(),()),(v35,(),(),(),v36,v37,v38,v39,v40,(),()),(v41,v42,(),(),()),()),(v10,v11,v12,v13,v14,v15,v16,v17,())))) (eg (0<=v18/\v18 < (v11.length:Int)) ((v11[v18.toNat]?).bind fun x45=>eg (0<=x45) ((v21[x45.toNat]?).bind fun x46=>br (!(x46==0)) (fe (.inl (((),(),10,(),(),(),(),()),((v19,v20,v21,v22,v23,v24,v25,v26,v27,v28,()),(v35,(),(),(),v36,v37,v38,v39,v40,(),()),(v35,(),(),(),v36,v37,v38,v39,v40,(),()),(v41,v42,(),(),()),()),(v10,v11,v12,v13,v14,v15,v16,v17,())))) (fn (((),(),(),(),(),(),(IntKind.wrap .i64 (v18+1)),()),((v19,v20,v21,v22,v23,v24,v25,v26,v27,v28,()),(v29,(),(),(),v30,v31,v32,v33,v34,(),()),(v35,(),(),(),v36,v37,v38,v39,v40,(),()),(v41,v42,(),(),()),()),(v10,v11,v12,v13,v14,v15,v16,v17,())))) none) none)) none) none) (fe (.inr (((),(),(),(),(),(),(),()),((v19,v20,v21,v22,v23,v24,v25,v26,v27,v28,()),(v29,(),(),(),v30,v31,v32,v33,v34,(),()),(v35,(),(),(),v36,v37,v38,v39,v40,(),()),(v41,v42,(),(),()),()),(v10,v11,v12,v13,v14,v15,v16,v17,()))))
abbrev xi {ρ:Type} (s:l4.D) (fn:l4.D->Option ρ) (fe:eX.D vz->Option ρ):Option ρ:=Cb s.2.2.1 s.2.2.2.1 s.2.2.2.2.1 s.2.2.2.2.2.1 s.2.2.2.2.2.2.1 s.2.2.2.2.2.2.2.1 s.2.2.2.2.2.2.2.2.1 s.2.2.2.2.2.2.2.2.2.1 s.1.2.2.2.2.2.2.1 s.2.1.1.1 s.2.1.1.2.1 s.2.1.1.2.2.1 s.2.1.1.2.2.2.1 s.2.1.1.2.2.2.2.1 s.2.1.1.2.2.2.2.2.1 s.2.1.1.2.2.2.2.2.2.1 s.2.1.1.2.2.2.2.2.2.2.1 s.2.1.1.2.2.2.2.2.2.2.2.1 s.2.1.1.2.2.2.2.2.2.2.2.2.1 s.2.1.2.1.1 s.2.1.2.1.2.2.2.2.1 s.2.1.2.1.2.2.2.2.2.1 s.2.1.2.1.2.2.2.2.2.2.1 s.2.1.2.1.2.2.2.2.2.2.2.1 s.2.1.2.1.2.2.2.2.2.2.2.2.1 s.2.1.2.2.1.1 s.2.1.2.2.1.2.2.2.2.1 s.2.1.2.2.1.2.2.2.2.2.1 s.2.1.2.2.1.2.2.2.2.2.2.1 s.2.1.2.2.1.2.2.2.2.2.2.2.1 s.2.1.2.2.1.2.2.2.2.2.2.2.2.1 s.2.1.2.2.2.1.1 s.2.1.2.2.2.1.2.1 fn fe
def mN (s:l4.D):Option (l4.D⊕eX.D vz):=xi s (fun s=>some (.inl s)) (fun e=>some (.inr e))
def zA:l4.D->Option (eX.D vz):=mw mN
theorem WW {ρ:Type} (s:l4.D) (fn:_->Option ρ) (fe:_):xi s fn fe=(mN s).bind (Sum.elim fn fe):=by
 simp only [mN,xi,Cb,dZ,ea,an,ah,ae,aA,aB]
abbrev Oh:fO:=fR [] [1,2,4,5,7,9,10] l4 vz zA
theorem Ul (s:l4.D):iz Θ (ek Jn) (en []) zx (l4.mk' s) (fM [1,2,4,5,7,9,10] [1,2,3,4,5,7,9] fun x S=>some (x,S))=(mN s).bind (Sum.elim (fun s'=>some (.nor,l4.mk' s')) fun e=>some (eX.e vz e)):=
 ak (by kernel_rfl) (WW s _ _)
theorem Um:fk Tryz.prog zx Oh:=eA eo DH dT (by kernel_rfl) (fV (by kernel_rfl:_= []) dU) [] [1,2,4,5,7,9,10] [1,2,3,4,5,7,9] l4 vz (by kernel_rfl) mN Ul zA (ju mN) (ev mN)
abbrev l5:it:=⟨[(1, .cl (.ptr 0 0)),(2, .cl (.ptr 1 0)),(4, .cl (.ptr 2 0)),(5, .cl (.ptr 3 0)),(7, .cl (.own 0 (.st .entry))),(9, .cl (.own 1 (.i .i64))),(11, .cl (.int .i64))],[[.int .i64, .ro (.st .server), .ro (.i .i64), .ro (.st .config), .int .i64, .int .i64, .int .i64, .int .i64, .int .i64, .ro (.st .place)],[.int .i64, .em, .em, .em, .int .i64, .int .i64, .int .i64, .int .i64, .int .i64, .em],[.int .i64, .own 2 (.st .server), .own 3 (.i .i64), .own 4 (.st .config), .int .i64, .int .i64, .int .i64, .int .i64, .int .i64, .own 5 (.st .place)],[.int .i64, .int .i64, .own 6 (.i .i64), .own 7 (.i .i64)]],[.st .entry, .i .i64, .st .server, .i .i64, .st .config, .st .place, .i .i64, .i .i64],0,180⟩
abbrev vA:List (X×it):= [(.ret,⟨[(1, .cl (.ptr 0 0)),(2, .cl (.ptr 1 0)),(3, .cl (.int .i64)),(4, .cl (.ptr 2 0)),(5, .cl (.ptr 3 0)),(7, .cl (.own 0 (.st .entry))),(9, .cl (.own 1 (.i .i64)))],[[.int .i64, .ro (.st .server), .ro (.i .i64), .ro (.st .config), .int .i64, .int .i64, .int .i64, .int .i64, .int .i64, .ro (.st .place)],[.int .i64, .own 2 (.st .server), .own 3 (.i .i64), .own 4 (.st .config), .int .i64, .int .i64, .int .i64, .int .i64, .int .i64, .own 5 (.st .place)],[.int .i64, .own 2 (.st .server), .own 3 (.i .i64), .own 4 (.st .config), .int .i64, .int .i64, .int .i64, .int .i64, .int .i64, .own 5 (.st .place)],[.int .i64, .int .i64, .own 6 (.i .i64), .own 7 (.i .i64)]],[.st .entry, .i .i64, .st .server, .i .i64, .st .config, .st .place, .i .i64, .i .i64],0,180⟩),(.ext 3,⟨[(1, .cl (.ptr 0 0)),(2, .cl (.ptr 1 0)),(3, .cl (.dead)),(4, .cl (.ptr 2 0)),(5, .cl (.ptr 3 0)),(7, .cl (.own 0 (.st .entry))),(9, .cl (.own 1 (.i .i64)))],[[.int .i64, .ro (.st .server), .ro (.i .i64), .ro (.st .config), .int .i64, .int .i64, .int .i64, .int .i64, .int .i64, .ro (.st .place)],[.int .i64, .em, .em, .em, .int .i64, .int .i64, .int .i64, .int .i64, .int .i64, .em],[.int .i64, .own 2 (.st .server), .own 3 (.i .i64), .own 4 (.st .config), .int .i64, .int .i64, .int .i64, .int .i64, .int .i64, .own 5 (.st .place)],[.int .i64, .int .i64, .own 6 (.i .i64), .own 7 (.i .i64)]],[.st .entry, .i .i64, .st .server, .i .i64, .st .config, .st .place, .i .i64, .i .i64],0,180⟩)]
def xj {ρ:Type} (v48:List ed) (v49:List Int) (v50:List eb) (v51:List Int) (v52:List dW) (v53:List ey) (v54:List Int) (v55:List Int) (v56:Int) (v57:Int) (v58:List eb) (v59:List Int) (v60:List dW) (v61:Int) (v62:Int) (v63:Int) (v64:Int) (v65:Int) (v66:List ey) (v67:Int) (v68:Int) (v69:Int) (v70:Int) (v71:Int) (v72:Int) (v73:Int) (v74:Int) (v75:Int) (v76:Int) (v77:Int) (v78:Int) (v79:Int) (v80:Int) (fn: ((Unit×Unit×Unit×Unit×Unit×Unit×Int×Unit)×((Int×(List eb)×(List Int)×(List dW)×Int×Int×Int×Int×Int×(List ey)×Unit)×(Int×Unit×Unit×Unit×Int×Int×Int×Int×Int×Unit×Unit)×(Int×Unit×Unit×Unit×Int×Int×Int×Int×Int×Unit×Unit)×(Int×Int×Unit×Unit×Unit)×Unit)×((List ed)×(List Int)×(List eb)×(List Int)×(List dW)×(List ey)×(List Int)×(List Int)×Unit))->Option ρ) (fe: ((Unit×Unit×Int×Unit×Unit×Unit×Unit×Unit)×((Int×(List eb)×(List Int)×(List dW)×Int×Int×Int×Int×Int×(List ey)×Unit)×(Int×Unit×Unit×Unit×Int×Int×Int×Int×Int×Unit×Unit)×(Int×Unit×Unit×Unit×Int×Int×Int×Int×Int×Unit×Unit)×(Int×Int×Unit×Unit×Unit)×Unit)×((List ed)×(List Int)×(List eb)×(List Int)×(List dW)×(List ey)×(List Int)×(List Int)×Unit))⊕((Unit×Unit×Unit×Unit×Unit×Unit×Unit×Unit)×((Int×(List eb)×(List Int)×(List dW)×Int×Int×Int×Int×Int×(List ey)×Unit)×(Int×Unit×Unit×Unit×Int×Int×Int×Int×Int×Unit×Unit)×(Int×Unit×Unit×Unit×Int×Int×Int×Int×Int×Unit×Unit)×(Int×Int×Unit×Unit×Unit)×Unit)×((List ed)×(List Int)×(List eb)×(List Int)×(List dW)×(List ey)×(List Int)×(List Int)×Unit))->Option ρ):Option ρ:=
 br (decide (v56 < (v49.length:Int))) (eg (0<=v56/\v56 < (v49.length:Int)) ((v49[v56.toNat]?).bind fun x81=>eg (0<=x81) ((v58[x81.toNat]?).bind fun x82=>br (x82.version==1) ((nc v48).bind fun y83=>br y83.1 (fe (.inl (((),(),6,(),(),(),(),()),((v57,v58,v59,v60,v61,v62,v63,v64,v65,v66,()),(v73,(),(),(),v74,v75,v76,v77,v78,(),()),(v73,(),(),(),v74,v75,v76,v77,v78,(),()),(v79,v80,(),(),()),()),(v48,v49,v50,v51,v52,v53,v54,v55,())))) (fn (((),(),(),(),(),(),(IntKind.wrap .i64 (v56+1)),()),((v57,v58,v59,v60,v61,v62,v63,v64,v65,v66,()),(v67,(),(),(),v68,v69,v70,v71,v72,(),()),(v73,(),(),(),v74,v75,v76,v77,v78,(),()),(v79,v80,(),(),()),()),(v48,v49,v50,v51,v52,v53,v54,v55,())))) (fn (((),(),(),(),(),(),(IntKind.wrap .i64 (v56+1)),()),((v57,v58,v59,v60,v61,v62,v63,v64,v65,v66,()),(v67,(),(),(),v68,v69,v70,v71,v72,(),()),(v73,(),(),(),v74,v75,v76,v77,v78,(),()),(v79,v80,(),(),()),()),(v48,v49,v50,v51,v52,v53,v54,v55,())))) none) none) (fe (.inr (((),(),(),(),(),(),(),()),((v57,v58,v59,v60,v61,v62,v63,v64,v65,v66,()),(v67,(),(),(),v68,v69,v70,v71,v72,(),()),(v73,(),(),(),v74,v75,v76,v77,v78,(),()),(v79,v80,(),(),()),()),(v48,v49,v50,v51,v52,v53,v54,v55,()))))
abbrev tp {ρ:Type} (s:l5.D) (fn:l5.D->Option ρ) (fe:eX.D vA->Option ρ):Option ρ:=xj s.2.2.1 s.2.2.2.1 s.2.2.2.2.1 s.2.2.2.2.2.1 s.2.2.2.2.2.2.1 s.2.2.2.2.2.2.2.1 s.2.2.2.2.2.2.2.2.1 s.2.2.2.2.2.2.2.2.2.1 s.1.2.2.2.2.2.2.1 s.2.1.1.1 s.2.1.1.2.1 s.2.1.1.2.2.1 s.2.1.1.2.2.2.1 s.2.1.1.2.2.2.2.1 s.2.1.1.2.2.2.2.2.1 s.2.1.1.2.2.2.2.2.2.1 s.2.1.1.2.2.2.2.2.2.2.1 s.2.1.1.2.2.2.2.2.2.2.2.1 s.2.1.1.2.2.2.2.2.2.2.2.2.1 s.2.1.2.1.1 s.2.1.2.1.2.2.2.2.1 s.2.1.2.1.2.2.2.2.2.1 s.2.1.2.1.2.2.2.2.2.2.1 s.2.1.2.1.2.2.2.2.2.2.2.1 s.2.1.2.1.2.2.2.2.2.2.2.2.1 s.2.1.2.2.1.1 s.2.1.2.2.1.2.2.2.2.1 s.2.1.2.2.1.2.2.2.2.2.1 s.2.1.2.2.1.2.2.2.2.2.2.1 s.2.1.2.2.1.2.2.2.2.2.2.2.1 s.2.1.2.2.1.2.2.2.2.2.2.2.2.1 s.2.1.2.2.2.1.1 s.2.1.2.2.2.1.2.1 fn fe
def ky (s:l5.D):Option (l5.D⊕eX.D vA):=tp s (fun s=>some (.inl s)) (fun e=>some (.inr e))
def zB:l5.D->Option (eX.D vA):=mw ky
theorem WX {ρ:Type} (s:l5.D) (fn:_->Option ρ) (fe:_):tp s fn fe=(ky s).bind (Sum.elim fn fe):=by
 simp only [ky,tp,xj,dZ,ea,an,ah,ae,aA,aB]
abbrev Oi:fO:=fR [] [1,2,4,5,7,9,11] l5 vA zB
theorem Un (s:l5.D):iz Θ (ek Jn) (en []) zy (l5.mk' s) (fM [1,2,4,5,7,9,11] [1,2,3,4,5,7,9] fun x S=>some (x,S))=(ky s).bind (Sum.elim (fun s'=>some (.nor,l5.mk' s')) fun e=>some (eX.e vA e)):=
 ak (by kernel_rfl) (WX s _ _)
theorem Uo:fk Tryz.prog zy Oi:=eA eo DH dT (by kernel_rfl) (fV (by kernel_rfl:_= []) dU) [] [1,2,4,5,7,9,11] [1,2,3,4,5,7,9] l5 vA (by kernel_rfl) ky Un zB (ju ky) (ev ky)
abbrev l6:it:=⟨[(1, .cl (.ptr 0 0)),(2, .cl (.ptr 1 0)),(4, .cl (.ptr 2 0)),(5, .cl (.ptr 3 0)),(7, .cl (.own 0 (.st .entry))),(9, .cl (.own 1 (.i .i64))),(12, .cl (.int .i64))],[[.int .i64, .ro (.st .server), .ro (.i .i64), .ro (.st .config), .int .i64, .int .i64, .int .i64, .int .i64, .int .i64, .ro (.st .place)],[.int .i64, .em, .em, .em, .int .i64, .int .i64, .int .i64, .int .i64, .int .i64, .em],[.int .i64, .own 2 (.st .server), .own 3 (.i .i64), .own 4 (.st .config), .int .i64, .int .i64, .int .i64, .int .i64, .int .i64, .own 5 (.st .place)],[.int .i64, .int .i64, .own 6 (.i .i64), .own 7 (.i .i64)]],[.st .entry, .i .i64, .st .server, .i .i64, .st .config, .st .place, .i .i64, .i .i64],0,180⟩
abbrev vB:List (X×it):= [(.ext 5,⟨[(1, .cl (.ptr 0 0)),(2, .cl (.ptr 1 0)),(4, .cl (.ptr 2 0)),(5, .cl (.ptr 3 0))],[[.int .i64, .ro (.st .server), .ro (.i .i64), .ro (.st .config), .int .i64, .int .i64, .int .i64, .int .i64, .int .i64, .ro (.st .place)],[.int .i64, .em, .em, .em, .int .i64, .int .i64, .int .i64, .int .i64, .int .i64, .em],[.int .i64, .own 0 (.st .server), .own 1 (.i .i64), .own 2 (.st .config), .int .i64, .int .i64, .int .i64, .int .i64, .int .i64, .own 3 (.st .place)],[.int .i64, .int .i64, .own 4 (.i .i64), .own 5 (.i .i64)]],[.st .server, .i .i64, .st .config, .st .place, .i .i64, .i .i64],0,180⟩)]
def Cc {ρ:Type} (v85:List ed) (v86:List Int) (v87:List eb) (v88:List Int) (v89:List dW) (v90:List ey) (v91:List Int) (v92:List Int) (v93:Int) (v94:Int) (v95:List eb) (v96:List Int) (v97:List dW) (v98:Int) (v99:Int) (v100:Int) (v101:Int) (v102:Int) (v103:List ey) (v104:Int) (v105:Int) (v106:Int) (v107:Int) (v108:Int) (v109:Int) (v110:Int) (v111:Int) (v112:Int) (v113:Int) (v114:Int) (v115:Int) (v116:Int) (v117:Int) (fn: ((Unit×Unit×Unit×Unit×Unit×Unit×Int×Unit)×((Int×(List eb)×(List Int)×(List dW)×Int×Int×Int×Int×Int×(List ey)×Unit)×(Int×Unit×Unit×Unit×Int×Int×Int×Int×Int×Unit×Unit)×(Int×Unit×Unit×Unit×Int×Int×Int×Int×Int×Unit×Unit)×(Int×Int×Unit×Unit×Unit)×Unit)×((List ed)×(List Int)×(List eb)×(List Int)×(List dW)×(List ey)×(List Int)×(List Int)×Unit))->Option ρ) (fe: ((Unit×Unit×Unit×Unit×Unit)×((Int×(List eb)×(List Int)×(List dW)×Int×Int×Int×Int×Int×(List ey)×Unit)×(Int×Unit×Unit×Unit×Int×Int×Int×Int×Int×Unit×Unit)×(Int×Unit×Unit×Unit×Int×Int×Int×Int×Int×Unit×Unit)×(Int×Int×Unit×Unit×Unit)×Unit)×((List eb)×(List Int)×(List dW)×(List ey)×(List Int)×(List Int)×Unit))->Option ρ):Option ρ:=
 br (decide (v93 < (v86.length:Int))) (eg (0<=v93/\v93 < (v86.length:Int)) ((v86[v93.toNat]?).bind fun x118=>eg (0<=v93/\v93 < (v86.length:Int)) ((v86[v93.toNat]?).bind fun x119=>eg (0<=x119/\x119 < (v87.length:Int)) ((v87[x119.toNat]?).bind fun x120=>eg (0<=v93/\v93 < (v86.length:Int)) ((v86[v93.toNat]?).bind fun x121=>(v87[x119.toNat]?).bind fun x122=>eg (0+x120.config.replicas.length<=x122.config.replicas.length) ((v87[x119.toNat]?).bind fun x123=>eg (0+x120.config.witnesses.length<=x123.config.witnesses.length) ((v87[x119.toNat]?).bind fun x124=>eg (0+x120.log.length<=x124.log.length) ((v87[x119.toNat]?).bind fun x125=>eg (0+x120.learned.length<=x125.learned.length) ((o4 (⟨x120.up,x120.intact,x120.version,x120.epoch,(⟨x120.config.epoch,x120.config.primary,((x122.config.replicas.drop 0).take x120.config.replicas.length),((x123.config.witnesses.drop 0).take x120.config.witnesses.length)⟩:dW),x120.first,((x124.log.drop 0).take x120.log.length),x120.commit,((x125.learned.drop 0).take x120.learned.length)⟩:eb) (⟨v116,v117,v91,v92⟩:dW) x121 v85).bind fun y126=>eg (0<=x118/\x118 < (v87.length:Int)) ((v87[x118.toNat]?).bind fun _=>fn (((),(),(),(),(),(),(IntKind.wrap .i64 (v93+1)),()),((v94,v95,v96,v97,v98,v99,v100,v101,v102,v103,()),(v104,(),(),(),v105,v106,v107,v108,v109,(),()),(v110,(),(),(),v111,v112,v113,v114,v115,(),()),(v116,v117,(),(),()),()),(v85,v86,(v87.set x118.toNat y126.1),v88,v89,v90,v91,v92,()))) none) none) none) none) none) none) none) none) none) (fe (((),(),(),(),()),((v94,v95,v96,v97,v98,v99,v100,v101,v102,v103,()),(v104,(),(),(),v105,v106,v107,v108,v109,(),()),(v110,(),(),(),v111,v112,v113,v114,v115,(),()),(v116,v117,(),(),()),()),(v87,v88,v89,v90,v91,v92,())))
abbrev xk {ρ:Type} (s:l6.D) (fn:l6.D->Option ρ) (fe:eX.D vB->Option ρ):Option ρ:=Cc s.2.2.1 s.2.2.2.1 s.2.2.2.2.1 s.2.2.2.2.2.1 s.2.2.2.2.2.2.1 s.2.2.2.2.2.2.2.1 s.2.2.2.2.2.2.2.2.1 s.2.2.2.2.2.2.2.2.2.1 s.1.2.2.2.2.2.2.1 s.2.1.1.1 s.2.1.1.2.1 s.2.1.1.2.2.1 s.2.1.1.2.2.2.1 s.2.1.1.2.2.2.2.1 s.2.1.1.2.2.2.2.2.1 s.2.1.1.2.2.2.2.2.2.1 s.2.1.1.2.2.2.2.2.2.2.1 s.2.1.1.2.2.2.2.2.2.2.2.1 s.2.1.1.2.2.2.2.2.2.2.2.2.1 s.2.1.2.1.1 s.2.1.2.1.2.2.2.2.1 s.2.1.2.1.2.2.2.2.2.1 s.2.1.2.1.2.2.2.2.2.2.1 s.2.1.2.1.2.2.2.2.2.2.2.1 s.2.1.2.1.2.2.2.2.2.2.2.2.1 s.2.1.2.2.1.1 s.2.1.2.2.1.2.2.2.2.1 s.2.1.2.2.1.2.2.2.2.2.1 s.2.1.2.2.1.2.2.2.2.2.2.1 s.2.1.2.2.1.2.2.2.2.2.2.2.1 s.2.1.2.2.1.2.2.2.2.2.2.2.2.1 s.2.1.2.2.2.1.1 s.2.1.2.2.2.1.2.1 fn fe
def mO (s:l6.D):Option (l6.D⊕eX.D vB):=xk s (fun s=>some (.inl s)) (fun e=>some (.inr e))
def DI:l6.D->Option (eX.D vB):=mw mO
theorem WY {ρ:Type} (s:l6.D) (fn:_->Option ρ) (fe:_):xk s fn fe=(mO s).bind (Sum.elim fn fe):=by
 simp only [mO,xk,Cc,dZ,ea,an,ah,ae,aA,aB]
abbrev Oj:fO:=fR [] [1,2,4,5,7,9,12] l6 vB DI
theorem Up (s:l6.D):iz Θ (ek Jn) (en []) zz (l6.mk' s) (fM [1,2,4,5,7,9,12] [1,2,4,5] fun x S=>some (x,S))=(mO s).bind (Sum.elim (fun s'=>some (.nor,l6.mk' s')) fun e=>some (eX.e vB e)):=
 ak (by kernel_rfl) (WY s _ _)
theorem Uq:fk Tryz.prog zz Oj:=eA eo DH dT (by kernel_rfl) (fV (by kernel_rfl:_= []) dU) [] [1,2,4,5,7,9,12] [1,2,4,5] l6 vB (by kernel_rfl) mO Up DI (ju mO) (ev mO)
def G3 {ρ:Type} (a0:dV) (k:dV×Int×Unit->Option ρ):Option ρ:=
 (qG a0).bind fun y1=>(uq a0.master).bind fun y2=>(eC a0).bind fun y3=>br (!y3.1) (k (y1.1,1,())) (br (!y2.2.1) (k (y1.1,1,())) (br (y2.1.epoch==a0.master.activated) (k (y1.1,1,())) (br (decide ((IntKind.wrap .i64 (a0.masterUp*2))<=3)) (k (y1.1,8,())) (eg (0<=y2.1.primary) ((a0.servers[y2.1.primary.toNat]?).bind fun x4=>br (!x4.up) (k (y1.1,2,())) (eg (0<=y2.1.primary) ((a0.sides[y2.1.primary.toNat]?).bind fun x5=>br (!(x5==0)) (k (y1.1,10,())) ((n9 a0.lease a0.now).bind fun y6=>br (!y6.1) (k (y1.1,7,())) ((rZ a0 y2.1.primary y2.1.epoch).bind fun y7=>(xh a0 y2.1.primary).bind fun y8=>br (!y8.2.1) (k (y7.1,9,())) ((rq y2.1).bind fun y9=>(zA (((),(),(),(),(),(),0,()),((a0.now,a0.servers,a0.sides,a0.master.configs,a0.master.activated,a0.masterUp,a0.lease.epoch,a0.lease.holder,a0.lease.ends,a0.places,()),(0,(),(),(),0,0,0,0,0,(),()),(y7.1.now,(),(),(),y7.1.master.activated,y7.1.masterUp,y7.1.lease.epoch,y7.1.lease.holder,y7.1.lease.ends,(),()),(y2.1.epoch,y2.1.primary,(),(),()),()),(y8.1,y9.1,y7.1.servers,y7.1.sides,y7.1.master.configs,y7.1.places,y2.1.replicas,y2.1.witnesses,()))).bind fun e47=>Sum.elim (fun e47_=>k ((⟨e47_.2.1.2.1.1,e47_.2.2.2.2.1,e47_.2.2.2.2.2.1,(⟨e47_.2.2.2.2.2.2.1,e47_.2.1.2.1.2.2.2.2.1⟩:ei),e47_.2.1.2.1.2.2.2.2.2.1,(⟨e47_.2.1.2.1.2.2.2.2.2.2.1,e47_.2.1.2.1.2.2.2.2.2.2.2.1,e47_.2.1.2.1.2.2.2.2.2.2.2.2.1⟩:ir),e47_.2.2.2.2.2.2.2.1⟩:dV),e47_.1.2.2.1,())) (fun e47_=>(zB (((),(),(),(),(),(),0,()),((e47_.2.1.1.1,e47_.2.1.1.2.1,e47_.2.1.1.2.2.1,e47_.2.1.1.2.2.2.1,e47_.2.1.1.2.2.2.2.1,e47_.2.1.1.2.2.2.2.2.1,e47_.2.1.1.2.2.2.2.2.2.1,e47_.2.1.1.2.2.2.2.2.2.2.1,e47_.2.1.1.2.2.2.2.2.2.2.2.1,e47_.2.1.1.2.2.2.2.2.2.2.2.2.1,()),(e47_.2.1.2.1.1,(),(),(),e47_.2.1.2.1.2.2.2.2.1,e47_.2.1.2.1.2.2.2.2.2.1,e47_.2.1.2.1.2.2.2.2.2.2.1,e47_.2.1.2.1.2.2.2.2.2.2.2.1,e47_.2.1.2.1.2.2.2.2.2.2.2.2.1,(),()),(e47_.2.1.2.2.1.1,(),(),(),e47_.2.1.2.2.1.2.2.2.2.1,e47_.2.1.2.2.1.2.2.2.2.2.1,e47_.2.1.2.2.1.2.2.2.2.2.2.1,e47_.2.1.2.2.1.2.2.2.2.2.2.2.1,e47_.2.1.2.2.1.2.2.2.2.2.2.2.2.1,(),()),(e47_.2.1.2.2.2.1.1,e47_.2.1.2.2.2.1.2.1,(),(),()),()),(e47_.2.2.1,e47_.2.2.2.1,e47_.2.2.2.2.1,e47_.2.2.2.2.2.1,e47_.2.2.2.2.2.2.1,e47_.2.2.2.2.2.2.2.1,e47_.2.2.2.2.2.2.2.2.1,e47_.2.2.2.2.2.2.2.2.2.1,()))).bind fun e84=>Sum.elim (fun e84_=>k ((⟨e84_.2.1.2.1.1,e84_.2.2.2.2.1,e84_.2.2.2.2.2.1,(⟨e84_.2.2.2.2.2.2.1,e84_.2.1.2.1.2.2.2.2.1⟩:ei),e84_.2.1.2.1.2.2.2.2.2.1,(⟨e84_.2.1.2.1.2.2.2.2.2.2.1,e84_.2.1.2.1.2.2.2.2.2.2.2.1,e84_.2.1.2.1.2.2.2.2.2.2.2.2.1⟩:ir),e84_.2.2.2.2.2.2.2.1⟩:dV),e84_.1.2.2.1,())) (fun e84_=>(DI (((),(),(),(),(),(),0,()),((e84_.2.1.1.1,e84_.2.1.1.2.1,e84_.2.1.1.2.2.1,e84_.2.1.1.2.2.2.1,e84_.2.1.1.2.2.2.2.1,e84_.2.1.1.2.2.2.2.2.1,e84_.2.1.1.2.2.2.2.2.2.1,e84_.2.1.1.2.2.2.2.2.2.2.1,e84_.2.1.1.2.2.2.2.2.2.2.2.1,e84_.2.1.1.2.2.2.2.2.2.2.2.2.1,()),(e84_.2.1.2.1.1,(),(),(),e84_.2.1.2.1.2.2.2.2.1,e84_.2.1.2.1.2.2.2.2.2.1,e84_.2.1.2.1.2.2.2.2.2.2.1,e84_.2.1.2.1.2.2.2.2.2.2.2.1,e84_.2.1.2.1.2.2.2.2.2.2.2.2.1,(),()),(e84_.2.1.2.2.1.1,(),(),(),e84_.2.1.2.2.1.2.2.2.2.1,e84_.2.1.2.2.1.2.2.2.2.2.1,e84_.2.1.2.2.1.2.2.2.2.2.2.1,e84_.2.1.2.2.1.2.2.2.2.2.2.2.1,e84_.2.1.2.2.1.2.2.2.2.2.2.2.2.1,(),()),(e84_.2.1.2.2.2.1.1,e84_.2.1.2.2.2.1.2.1,(),(),()),()),(e84_.2.2.1,e84_.2.2.2.1,e84_.2.2.2.2.1,e84_.2.2.2.2.2.1,e84_.2.2.2.2.2.2.1,e84_.2.2.2.2.2.2.2.1,e84_.2.2.2.2.2.2.2.2.1,e84_.2.2.2.2.2.2.2.2.2.1,()))).bind fun e129=>(nN (⟨e129.2.1.1.2.2.2.1,e129.2.1.1.2.2.2.2.1⟩:ei) e129.2.1.2.2.2.1.1).bind fun y130=>k ((⟨e129.2.1.2.2.1.1,e129.2.2.1,e129.2.2.2.1,y130.1,e129.2.1.2.2.1.2.2.2.2.2.1,(⟨0,0,0⟩:ir),e129.2.2.2.2.2.1⟩:dV),0,())) e84) e47)))) none)) none))))
def AU (a0:dV):=G3 a0 some
theorem afs {ρ:Type} (a0:_) (k:_->Option ρ):G3 a0 k=(AU a0).bind k:=by
 simp only [AU,G3,dZ,ea,an,fU,ah,ae]
abbrev ZR:eG:=eJ [.ty (.st .cluster)] [.st .cluster, .i .i64] fun x=>AU x.1
theorem akc:eh Tryz.prog 184 ZR:=
 dY (Λ:=en [(fC zx,Oh),(fC zy,Oi),(fC zz,Oj)]) (fn:=Tryz.f184) eo DH dT (by kernel_rfl) (ej (by kernel_rfl:_= [zx,zy,zz]) (H2 (eu (q:=fC zx) rfl Um fun _ _ _=>by kernel_rfl) (H2 (eu (q:=fC zy) rfl Uo fun _ _ _=>by kernel_rfl) (eu (q:=fC zz) rfl Uq fun _ _ _=>by kernel_rfl)))) (by kernel_rfl) (fun x=>AU x.1)
  (fun x=>ak (by kernel_rfl) (afs x.1 _)) fun _ _ h=>h
abbrev aih:List (Nat×eG):= [(46,iv),(120,mZ)]
theorem ZS:ef Tryz.prog (ek aih):=dS iW <| dS nC <| dX _
def Fi {ρ:Type} (a0:dV) (a1:Int) (k:Int×Unit->Option ρ):Option ρ:=
 (eC a0).bind fun y1=>br (!y1.1) (k (1,())) ((gk a1 0 4).bind fun y2=>br (!y2.1) (k (1,())) (eg (0<=a1) ((a0.servers[a1.toNat]?).bind fun x3=>br (!x3.up) (k (2,())) (k (0,()))) none))
def Bm (a0:dV) (a1:Int):=Fi a0 a1 some
theorem acg {ρ:Type} (a0 a1:_) (k:_->Option ρ):Fi a0 a1 k=(Bm a0 a1).bind k:=by
 simp only [Bm,Fi,dZ,ea,an,ah,ae]
abbrev VZ:eG:=eJ [.ty (.st .cluster), .ty (.i .i64)] [.i .i64] fun x=>Bm x.1 x.2.1
theorem aii:eh Tryz.prog 235 VZ:=
 dY (Λ:=en []) (fn:=Tryz.f235) eo ZS dT (by kernel_rfl) (ej (by kernel_rfl:_= []) dU) (by kernel_rfl) (fun x=>Bm x.1 x.2.1)
  (fun x=>ak (by kernel_rfl) (acg x.1 x.2.1 _)) fun _ _ h=>h
abbrev afu:List (Nat×eG):= [(123,Ia),(120,mZ),(98,HE)]
theorem WZ:ef Tryz.prog (ek afu):=dS M9 <| dS nC <| dS Od <| dX _
def DJ {ρ:Type} (a0:ir) (a1:Int) (a2:Int) (a3:Int) (a4:Int) (k:ir×Bool×Unit->Option ρ):Option ρ:=
 br (a0.epoch==a1) ((qJ a0).bind fun y1=>br (!y1.1) (k (a0,false,())) ((gk a1 1 20).bind fun y2=>br (!y2.1) (k (a0,false,())) ((gk a2 0 4).bind fun y3=>br (!y3.1) (k (a0,false,())) ((gk a3 0 999).bind fun y4=>br (!y4.1) (k (a0,false,())) ((gk a4 1 50).bind fun y5=>br (!y5.1) (k (a0,false,())) ((n9 a0 a3).bind fun y6=>br (!y6.1) (br (!(a0.holder==a2)) (k (a0,false,())) (br (a0.holder==a2) (k ((⟨a1,a2,(if a0.ends > (IntKind.wrap .i64 (a3+a4)) then a0.ends else (IntKind.wrap .i64 (a3+a4)))⟩:ir),true,())) (k ((⟨a1,a2,(IntKind.wrap .i64 (a3+a4))⟩:ir),true,())))) (br (a0.holder==a2) (k ((⟨a1,a2,(if a0.ends > (IntKind.wrap .i64 (a3+a4)) then a0.ends else (IntKind.wrap .i64 (a3+a4)))⟩:ir),true,())) (k ((⟨a1,a2,(IntKind.wrap .i64 (a3+a4))⟩:ir),true,()))))))))) ((qJ a0).bind fun y7=>br (!y7.1) (k (a0,false,())) ((gk a1 1 20).bind fun y8=>br (!y8.1) (k (a0,false,())) ((gk a2 0 4).bind fun y9=>br (!y9.1) (k (a0,false,())) ((gk a3 0 999).bind fun y10=>br (!y10.1) (k (a0,false,())) ((gk a4 1 50).bind fun y11=>br (!y11.1) (k (a0,false,())) ((n9 a0 a3).bind fun y12=>br (!y12.1) (br (!false) (k (a0,false,())) (k ((⟨a1,a2,(IntKind.wrap .i64 (a3+a4))⟩:ir),true,()))) (k ((⟨a1,a2,(IntKind.wrap .i64 (a3+a4))⟩:ir),true,()))))))))
def uw (a0:ir) (a1:Int) (a2:Int) (a3:Int) (a4:Int):=DJ a0 a1 a2 a3 a4 some
theorem ZT {ρ:Type} (a0 a1 a2 a3 a4:_) (k:_->Option ρ):DJ a0 a1 a2 a3 a4 k=(uw a0 a1 a2 a3 a4).bind k:=by
 simp only [uw,DJ,dZ,ah,ae]
abbrev Ry:eG:=eJ [.ty (.st .lease), .ty (.i .i64), .ty (.i .i64), .ty (.i .i64), .ty (.i .i64)] [.st .lease, .b] fun x=>uw x.1 x.2.1 x.2.2.1 x.2.2.2.1 x.2.2.2.2.1
theorem afv:eh Tryz.prog 236 Ry:=
 dY (Λ:=en []) (fn:=Tryz.f236) eo WZ dT (by kernel_rfl) (ej (by kernel_rfl:_= []) dU) (by kernel_rfl) (fun x=>uw x.1 x.2.1 x.2.2.1 x.2.2.2.1 x.2.2.2.2.1)
  (fun x=>ak (by kernel_rfl) (ZT x.1 x.2.1 x.2.2.1 x.2.2.2.1 x.2.2.2.2.1 _)) fun _ _ h=>h
abbrev afw:List (Nat×eG):= [(82,Dc),(235,VZ),(191,Gb),(236,Ry)]
theorem W0:ef Tryz.prog (ek afw):=dS FK <| dS aii <| dS LF <| dS afv <| dX _
def DK {ρ:Type} (a0:dV) (a1:Int) (a2:Int) (k:dV×Int×Unit->Option ρ):Option ρ:=
 (qG a0).bind fun y1=>(Bm a0 a1).bind fun y2=>br (!(y2.1==0)) (k (y1.1,y2.1,())) (eg (0<=a1) ((a0.servers[a1.toNat]?).bind fun x3=>(oh x3 a1).bind fun y4=>br (!y4.1) (k (y1.1,3,())) (br (decide ((IntKind.wrap .i64 (a0.masterUp*2))<=3)) (k (y1.1,8,())) (eg (0<=a1) ((a0.sides[a1.toNat]?).bind fun x5=>br (!(x5==0)) (k (y1.1,8,())) (br (!(x3.config.epoch==(a0.master.configs.length:Int))) (k (y1.1,11,())) ((uw a0.lease x3.config.epoch a1 a0.now a2).bind fun y6=>br (!y6.2.1) (k (y1.1,7,())) (k ((⟨y1.1.now,y1.1.servers,y1.1.sides,y1.1.master,y1.1.masterUp,y6.1,y1.1.places⟩:dV),0,()))))) none))) none)
def ux (a0:dV) (a1:Int) (a2:Int):=DK a0 a1 a2 some
theorem ZU {ρ:Type} (a0 a1 a2:_) (k:_->Option ρ):DK a0 a1 a2 k=(ux a0 a1 a2).bind k:=by
 simp only [ux,DK,dZ,ea,an,ah,ae]
abbrev Rz:eG:=eJ [.ty (.st .cluster), .ty (.i .i64), .ty (.i .i64)] [.st .cluster, .i .i64] fun x=>ux x.1 x.2.1 x.2.2.1
theorem afx:eh Tryz.prog 185 Rz:=
 dY (Λ:=en []) (fn:=Tryz.f185) eo W0 dT (by kernel_rfl) (ej (by kernel_rfl:_= []) dU) (by kernel_rfl) (fun x=>ux x.1 x.2.1 x.2.2.1)
  (fun x=>ak (by kernel_rfl) (ZU x.1 x.2.1 x.2.2.1 _)) fun _ _ h=>h
abbrev ach:List (Nat×eG):= [(82,Dc),(46,iv),(120,mZ),(111,LJ),(181,Rd),(182,Oc),(47,PA),(183,ZI),(184,ZR),(185,Rz)]
theorem Ur:ef Tryz.prog (ek ach):=dS FK <| dS iW <| dS nC <| dS VS <| dS aff <| dS ab6 <| dS ZH <| dS aj9 <| dS akc <| dS afx <| dX _
def Cd {ρ:Type} (a0:dV) (a1:Int) (a2:Int) (k:dV×Int×Unit->Option ρ):Option ρ:=
 (qG a0).bind fun y1=>(eC a0).bind fun y2=>br (!y2.1) (k (y1.1,1,())) ((gk a2 1 50).bind fun y3=>br (!y3.1) (k (y1.1,1,())) ((rr a0).bind fun y4=>br y4.1 (k (y1.1,0,())) ((uo a0 a1 0).bind fun y5=>br (!y5.2.1) (k (y1.1,10,())) ((rY a0 y5.1).bind fun y6=>br (!(y6.2.1==0)) (k (y1.1,y6.2.1,())) ((xb a0.lease).bind fun y7=>(AQ y6.1 (if (IntKind.wrap .i64 (y7.1 - a0.now)) > 0 then (IntKind.wrap .i64 (y7.1 - a0.now)) else 0)).bind fun y8=>br (!(y8.2.1==0)) (k (y1.1,y8.2.1,())) ((AU y8.1).bind fun y9=>br (!(y9.2.1==0)) (k (y9.1,y9.2.1,())) ((ux y9.1 y5.1.primary a2).bind fun y10=>k (y10.1,y10.2.1,()))))))))
def sa (a0:dV) (a1:Int) (a2:Int):=Cd a0 a1 a2 some
theorem W1 {ρ:Type} (a0 a1 a2:_) (k:_->Option ρ):Cd a0 a1 a2 k=(sa a0 a1 a2).bind k:=by
 simp only [sa,Cd,dZ,ah,ae]
abbrev Ok:eG:=eJ [.ty (.st .cluster), .ty (.i .i64), .ty (.i .i64)] [.st .cluster, .i .i64] fun x=>sa x.1 x.2.1 x.2.2.1
theorem aci:eh Tryz.prog 110 Ok:=
 dY (Λ:=en []) (fn:=Tryz.f110) eo Ur dT (by kernel_rfl) (ej (by kernel_rfl:_= []) dU) (by kernel_rfl) (fun x=>sa x.1 x.2.1 x.2.2.1)
  (fun x=>ak (by kernel_rfl) (W1 x.1 x.2.1 x.2.2.1 _)) fun _ _ h=>h
abbrev LY:List (Nat×eG):= [(110,Ok),(111,LJ)]
theorem Iu:ef Tryz.prog (ek LY):=dS aci <| dS VS <| dX _
def qy {ρ:Type} (a0:dV) (a1:Int) (k:Int×Unit->Option ρ):Option ρ:=
 (sa a0 a1 50).bind fun y1=>(rr a0).bind fun y2=>br y2.1 (k (0,())) ((rr y1.1).bind fun y3=>br y3.1 (k (1,())) (k ((-1),())))
def ld (a0:dV) (a1:Int):=qy a0 a1 some
theorem Jo {ρ:Type} (a0 a1:_) (k:_->Option ρ):qy a0 a1 k=(ld a0 a1).bind k:=by
 simp only [ld,qy,dZ,ah,ae]
abbrev Ed:eG:=eJ [.ty (.st .cluster), .ty (.i .i64)] [.i .i64] fun x=>ld x.1 x.2.1
theorem LZ:eh Tryz.prog 35 Ed:=
 dY (Λ:=en []) (fn:=Tryz.f35) eo Iu dT (by kernel_rfl) (ej (by kernel_rfl:_= []) dU) (by kernel_rfl) (fun x=>ld x.1 x.2.1)
  (fun x=>ak (by kernel_rfl) (Jo x.1 x.2.1 _)) fun _ _ h=>h
abbrev aoF:List (Nat×eG):= []
theorem aij:ef Tryz.prog (ek aoF):=dX _
def Nc {ρ:Type} (a0:Int) (a1:Int) (a2:Int) (k:Bool×Unit->Option ρ):Option ρ:=
 br (decide (a1<=a0)) (k ((decide (a0<=a2)),())) (k (false,()))
def fp (a0:Int) (a1:Int) (a2:Int):=Nc a0 a1 a2 some
theorem akd {ρ:Type} (a0 a1 a2:_) (k:_->Option ρ):Nc a0 a1 a2 k=(fp a0 a1 a2).bind k:=by
 simp only [fp,Nc,dZ,ae]
abbrev jU:eG:=eJ [.ty (.i .i64), .ty (.i .i64), .ty (.i .i64)] [.b] fun x=>fp x.1 x.2.1 x.2.2.1
theorem j9:eh Tryz.prog 135 jU:=
 dY (Λ:=en []) (fn:=Tryz.f135) eo aij dT (by kernel_rfl) (ej (by kernel_rfl:_= []) dU) (by kernel_rfl) (fun x=>fp x.1 x.2.1 x.2.2.1)
  (fun x=>ak (by kernel_rfl) (akd x.1 x.2.1 x.2.2.1 _)) fun _ _ h=>h
abbrev RA:List (Nat×eG):= [(135,jU)]
theorem Kh:ef Tryz.prog (ek RA):=dS j9 <| dX _
abbrev xm:Code:=fm (fo Tryz.f227) 0
abbrev lf:it:=⟨[(0, .cl (.ro (.i .i64))),(5, .cl (.ro (.i .i64))),(6, .cl (.int .i64)),(7, .cl (.int .i64))],[],[],0,29⟩
abbrev tu:List (X×it):= [(.ret,⟨[(2, .cl (.bl))],[],[],0,29⟩),(.ext 0,⟨[(2, .cl (.dead))],[],[],0,29⟩)]
def qQ {ρ:Type} (v1:List Int) (v2:List Int) (v3:Int) (v4:Int) (fn: (((List Int)×(List Int)×Int×Int×Unit)×(Unit)×(Unit))->Option ρ) (fe: ((Bool×Unit)×(Unit)×(Unit))⊕((Unit×Unit)×(Unit)×(Unit))->Option ρ):Option ρ:=
 br (decide (v4 < v3)) (eg (0<=v4) ((v2[v4.toNat]?).bind fun x5=>(fp x5 0 4).bind fun y6=>br (!y6.1) (fe (.inl ((false,()),(()),(())))) (br (decide (v4 > 0)) (eg (0<=(IntKind.wrap .i64 (v4 - 1))) ((v1[(IntKind.wrap .i64 (v4 - 1)).toNat]?).bind fun x7=>br (decide (x5<=x7)) (fe (.inl ((false,()),(()),(())))) (fn ((v1,v2,v3,(IntKind.wrap .i64 (v4+1)),()),(()),(())))) none) (fn ((v1,v2,v3,(IntKind.wrap .i64 (v4+1)),()),(()),(()))))) none) (fe (.inr (((),()),(()),(()))))
abbrev o5 {ρ:Type} (s:lf.D) (fn:lf.D->Option ρ) (fe:eX.D tu->Option ρ):Option ρ:=qQ s.1.1 s.1.2.1 s.1.2.2.1 s.1.2.2.2.1 fn fe
def jL (s:lf.D):Option (lf.D⊕eX.D tu):=o5 s (fun s=>some (.inl s)) (fun e=>some (.inr e))
def tw:lf.D->Option (eX.D tu):=mw jL
theorem Us {ρ:Type} (s:lf.D) (fn:_->Option ρ) (fe:_):o5 s fn fe=(jL s).bind (Sum.elim fn fe):=by
 simp only [jL,o5,qQ,dZ,ea,an,ah,ae,aA,aB]
abbrev L0:fO:=fR [] [0,5,6,7] lf tu tw
theorem RB (s:lf.D):iz Θ (ek RA) (en []) xm (lf.mk' s) (fM [0,5,6,7] [2] fun x S=>some (x,S))=(jL s).bind (Sum.elim (fun s'=>some (.nor,lf.mk' s')) fun e=>some (eX.e tu e)):=
 ak (by kernel_rfl) (Us s _ _)
theorem RC:fk Tryz.prog xm L0:=eA eo Kh dT (by kernel_rfl) (fV (by kernel_rfl:_= []) dU) [] [0,5,6,7] [2] lf tu (by kernel_rfl) jL RB tw (ju jL) (ev jL)
def zC {ρ:Type} (a0:List Int) (k:Bool×Unit->Option ρ):Option ρ:=
 (tw ((a0,a0,(a0.length:Int),0,()),(()),(()))).bind fun e8=>Sum.elim (fun e8_=>k (e8_.1.1,())) (fun _=>k (true,())) e8
def jx (a0:List Int):=zC a0 some
theorem ZV {ρ:Type} (a0:_) (k:_->Option ρ):zC a0 k=(jx a0).bind k:=by
 simp only [jx,zC,fU,ah,ae]
abbrev Ce:eG:=eJ [.ty (.ls (.i .i64))] [.b] fun x=>jx x.1
theorem Fj:eh Tryz.prog 227 Ce:=
 dY (Λ:=en [(fC xm,L0)]) (fn:=Tryz.f227) eo Kh dT (by kernel_rfl) (ej (by kernel_rfl:_= [xm]) (eu (q:=fC xm) rfl RC fun _ _ _=>by kernel_rfl)) (by kernel_rfl) (fun x=>jx x.1)
  (fun x=>ak (by kernel_rfl) (ZV x.1 _)) fun _ _ h=>h
abbrev RD:List (Nat×eG):= []
theorem Ki:ef Tryz.prog (ek RD):=dX _
abbrev xn:Code:=fm (fo Tryz.f214) 0
abbrev lg:it:=⟨[(0, .cl (.ro (.i .i64))),(1, .cl (.int .i64)),(7, .cl (.int .i64)),(8, .cl (.int .i64))],[],[],0,19⟩
abbrev tz:List (X×it):= [(.ret,⟨[(4, .cl (.int .i64))],[],[],0,19⟩),(.ext 0,⟨[(4, .cl (.dead))],[],[],0,19⟩)]
def Am {ρ:Type} (v1:List Int) (v2:Int) (v3:Int) (v4:Int) (fn: (((List Int)×Int×Int×Int×Unit)×(Unit)×(Unit))->Option ρ) (fe: ((Int×Unit)×(Unit)×(Unit))⊕((Unit×Unit)×(Unit)×(Unit))->Option ρ):Option ρ:=
 br (decide (v4 < v3)) (eg (0<=v4) ((v1[v4.toNat]?).bind fun x5=>br (v2==x5) (fe (.inl ((v4,()),(()),(())))) (fn ((v1,v2,v3,(IntKind.wrap .i64 (v4+1)),()),(()),(())))) none) (fe (.inr (((),()),(()),(()))))
abbrev uW {ρ:Type} (s:lg.D) (fn:lg.D->Option ρ) (fe:eX.D tz->Option ρ):Option ρ:=Am s.1.1 s.1.2.1 s.1.2.2.1 s.1.2.2.2.1 fn fe
def l7 (s:lg.D):Option (lg.D⊕eX.D tz):=uW s (fun s=>some (.inl s)) (fun e=>some (.inr e))
def xp:lg.D->Option (eX.D tz):=mw l7
theorem Ut {ρ:Type} (s:lg.D) (fn:_->Option ρ) (fe:_):uW s fn fe=(l7 s).bind (Sum.elim fn fe):=by
 simp only [l7,uW,Am,dZ,ea,an,ah,ae,aA,aB]
abbrev L3:fO:=fR [] [0,1,7,8] lg tz xp
theorem RE (s:lg.D):iz Θ (ek RD) (en []) xn (lg.mk' s) (fM [0,1,7,8] [4] fun x S=>some (x,S))=(l7 s).bind (Sum.elim (fun s'=>some (.nor,lg.mk' s')) fun e=>some (eX.e tz e)):=
 ak (by kernel_rfl) (Ut s _ _)
theorem RF:fk Tryz.prog xn L3:=eA eo Ki dT (by kernel_rfl) (fV (by kernel_rfl:_= []) dU) [] [0,1,7,8] [4] lg tz (by kernel_rfl) l7 RE xp (ju l7) (ev l7)
def DL {ρ:Type} (a0:List Int) (a1:Int) (k:Int×Unit->Option ρ):Option ρ:=
 (xp ((a0,a1,(a0.length:Int),0,()),(()),(()))).bind fun e6=>Sum.elim (fun e6_=>k (e6_.1.1,())) (fun _=>k ((-1),())) e6
def yl (a0:List Int) (a1:Int):=DL a0 a1 some
theorem ZW {ρ:Type} (a0 a1:_) (k:_->Option ρ):DL a0 a1 k=(yl a0 a1).bind k:=by
 simp only [yl,DL,fU,ah,ae]
abbrev RG:eG:=eJ [.ty (.ls (.i .i64)), .ty (.i .i64)] [.i .i64] fun x=>yl x.1 x.2.1
theorem afy:eh Tryz.prog 214 RG:=
 dY (Λ:=en [(fC xn,L3)]) (fn:=Tryz.f214) eo Ki dT (by kernel_rfl) (ej (by kernel_rfl:_= [xn]) (eu (q:=fC xn) rfl RF fun _ _ _=>by kernel_rfl)) (by kernel_rfl) (fun x=>yl x.1 x.2.1)
  (fun x=>ak (by kernel_rfl) (ZW x.1 x.2.1 _)) fun _ _ h=>h
abbrev W2:List (Nat×eG):= [(214,RG)]
theorem PK:ef Tryz.prog (ek W2):=dS afy <| dX _
def ym {ρ:Type} (a0:List Int) (a1:Int) (k:Bool×Unit->Option ρ):Option ρ:=
 (yl a0 a1).bind fun y1=>k ((decide (y1.1≥0)),())
def qR (a0:List Int) (a1:Int):=ym a0 a1 some
theorem RH {ρ:Type} (a0 a1:_) (k:_->Option ρ):ym a0 a1 k=(qR a0 a1).bind k:=by
 simp only [qR,ym,ah,ae]
abbrev Kj:eG:=eJ [.ty (.ls (.i .i64)), .ty (.i .i64)] [.b] fun x=>qR x.1 x.2.1
theorem W3:eh Tryz.prog 144 Kj:=
 dY (Λ:=en []) (fn:=Tryz.f144) eo PK dT (by kernel_rfl) (ej (by kernel_rfl:_= []) dU) (by kernel_rfl) (fun x=>qR x.1 x.2.1)
  (fun x=>ak (by kernel_rfl) (RH x.1 x.2.1 _)) fun _ _ h=>h
abbrev aik:List (Nat×eG):= [(144,Kj)]
theorem ZX:ef Tryz.prog (ek aik):=dS W3 <| dX _
def Fk {ρ:Type} (a0:List Int) (a1:Int) (k:Bool×Unit->Option ρ):Option ρ:=
 (qR a0 a1).bind fun y1=>k (y1.1,())
def kC (a0:List Int) (a1:Int):=Fk a0 a1 some
theorem acj {ρ:Type} (a0 a1:_) (k:_->Option ρ):Fk a0 a1 k=(kC a0 a1).bind k:=by
 simp only [kC,Fk,ah,ae]
abbrev xq:eG:=eJ [.ty (.ls (.i .i64)), .ty (.i .i64)] [.b] fun x=>kC x.1 x.2.1
theorem Bn:eh Tryz.prog 66 xq:=
 dY (Λ:=en []) (fn:=Tryz.f66) eo ZX dT (by kernel_rfl) (ej (by kernel_rfl:_= []) dU) (by kernel_rfl) (fun x=>kC x.1 x.2.1)
  (fun x=>ak (by kernel_rfl) (acj x.1 x.2.1 _)) fun _ _ h=>h
abbrev afz:List (Nat×eG):= []
theorem W4:ef Tryz.prog (ek afz):=dX _
def zD {ρ:Type} (a0:List Int) (k: (List Int)×Unit->Option ρ):Option ρ:=
 eg (a0.length*8<=2 ^ 40) (k (a0,())) none
def oa (a0:List Int):Option ((List Int)×Unit):=zD a0 some
abbrev Fl:eG:=eJ [.ty (.ls (.i .i64))] [.ls (.i .i64)] fun x=>oa x.1
abbrev Fm (y: (List Int)×Unit):Option (V×List gK):=ret (GI [.ls (.i .i64)] y) fun v g=>some (v,g)
theorem Jp:eh Tryz.prog 164 Fl:=
 dY (Λ:=en []) (fn:=Tryz.f164) eo W4 dT (by kernel_rfl) (ej (by kernel_rfl:_= []) dU) (by kernel_rfl) (fun x=>oa x.1)
  (fun x=>ak (by kernel_rfl:_=anC x.1 (amb (Fm ([],())) (eg ((([]:List Int)++x.1).length*8<=2 ^ 40) (Fm (([]:List Int)++x.1,())) none) none) (eg ((([]:List Int)++x.1).length*8<=2 ^ 40) (Fm (([]:List Int)++x.1,())) none)) (aeK x.1 8 Fm)) fun _ _ h=>h
abbrev ake:List (Nat×eG):= []
theorem acl:ef Tryz.prog (ek ake):=dX _
def L4 {ρ:Type} (a0:Int) (k:Int×Unit->Option ρ):Option ρ:=
 br (decide (a0≥4294967296)) (none) (br (decide (a0≥65536)) (none) (br (decide (a0≥256)) (none) (eg (0<=(IntKind.wrap .u8 a0)) ((sb0[(IntKind.wrap .u8 a0).toNat]?).bind fun x1=>k ((IntKind.wrap .i64 (0+(IntKind.wrap .i64 (x1.toNat:Int)))),())) none)))
def Gh (a0:Int):=L4 a0 some
theorem afA {ρ:Type} (a0:_) (k:_->Option ρ):L4 a0 k=(Gh a0).bind k:=by
 simp only [Gh,L4,dZ,ea,an,ah,ae]
abbrev ZY:eG:=eJ [.ty (.i .u64)] [.i .i64] fun x=>Gh x.1
theorem akf:eh Tryz.prog 298 ZY:=
 dY (Λ:=en []) (fn:=Tryz.f298) eo acl dT (by kernel_rfl) (ej (by kernel_rfl:_= []) dU) (by kernel_rfl) (fun x=>Gh x.1)
  (fun x=>ak (by kernel_rfl) (afA x.1 _)) fun _ _ h=>h
abbrev aoG:List (Nat×eG):= [(298,ZY)]
theorem ail:ef Tryz.prog (ek aoG):=dS akf <| dX _
def Uu {ρ:Type} (a0:Int) (k:Int×Unit->Option ρ):Option ρ:=
 (Gh a0).bind fun y1=>k (y1.1,())
def Gi (a0:Int):=Uu a0 some
theorem akg {ρ:Type} (a0:_) (k:_->Option ρ):Uu a0 k=(Gi a0).bind k:=by
 simp only [Gi,Uu,ah,ae]
abbrev aim:eG:=eJ [.ty (.i .u64)] [.i .i64] fun x=>Gi x.1
theorem aoH:eh Tryz.prog 268 aim:=
 dY (Λ:=en []) (fn:=Tryz.f268) eo ail dT (by kernel_rfl) (ej (by kernel_rfl:_= []) dU) (by kernel_rfl) (fun x=>Gi x.1)
  (fun x=>ak (by kernel_rfl) (akg x.1 _)) fun _ _ h=>h
abbrev acm:List (Nat×eG):= []
theorem Uv:ef Tryz.prog (ek acm):=dX _
def xt {ρ:Type} (a0:Int) (k:Bool×Unit->Option ρ):Option ρ:=
 k ((!(a0==a0)),())
def pz (a0:Int):=xt a0 some
theorem W5 {ρ:Type} (a0:_) (k:_->Option ρ):xt a0 k=(pz a0).bind k:=by
 simp only [pz,xt,ae]
abbrev Ol:eG:=eJ [.ty (.i .i64)] [.b] fun x=>pz x.1
theorem acn:eh Tryz.prog 314 Ol:=
 dY (Λ:=en []) (fn:=Tryz.f314) eo Uv dT (by kernel_rfl) (ej (by kernel_rfl:_= []) dU) (by kernel_rfl) (fun x=>pz x.1)
  (fun x=>ak (by kernel_rfl) (W5 x.1 _)) fun _ _ h=>h
abbrev afB:List (Nat×eG):= [(314,Ol)]
theorem W6:ef Tryz.prog (ek afB):=dS acn <| dX _
def zE {ρ:Type} (a0:Int) (a1:Int) (k:Bool×Unit->Option ρ):Option ρ:=
 (pz a0).bind fun y1=>br y1.1 ((pz a1).bind fun y2=>br (!y2.1) (k (true,())) (k ((decide (a0 < a1)),()))) (k ((decide (a0 < a1)),()))
def pi (a0:Int) (a1:Int):=zE a0 a1 some
theorem ZZ {ρ:Type} (a0 a1:_) (k:_->Option ρ):zE a0 a1 k=(pi a0 a1).bind k:=by
 simp only [pi,zE,dZ,ah,ae]
abbrev RI:eG:=eJ [.ty (.i .i64), .ty (.i .i64)] [.b] fun x=>pi x.1 x.2.1
theorem afC:eh Tryz.prog 294 RI:=
 dY (Λ:=en []) (fn:=Tryz.f294) eo W6 dT (by kernel_rfl) (ej (by kernel_rfl:_= []) dU) (by kernel_rfl) (fun x=>pi x.1 x.2.1)
  (fun x=>ak (by kernel_rfl) (ZZ x.1 x.2.1 _)) fun _ _ h=>h
abbrev nP:List (Nat×eG):= [(294,RI)]
theorem mF:ef Tryz.prog (ek nP):=dS afC <| dX _
abbrev gP:Code:=fm (fo Tryz.f288) 0
abbrev i4:Code:=fm gP 0
abbrev eY:it:=⟨[(0, .cl (.own 0 (.i .i64))),(1, .cl (.int .i64)),(2, .cl (.int .i64)),(6, .cl (.int .i64)),(7, .cl (.int .i64))],[],[.i .i64],1,49⟩
abbrev gQ:List (X×it):= [(.ext 2,⟨[(0, .cl (.own 0 (.i .i64))),(1, .cl (.int .i64)),(2, .cl (.int .i64)),(6, .cl (.int .i64))],[],[.i .i64],1,49⟩)]
def gA {ρ:Type} (v5:List Int) (v6:Int) (v7:Int) (v8:Int) (v9:Int) (fn: ((Unit×Int×Int×Int×Int×Unit)×(Unit)×((List Int)×Unit))->Option ρ) (fe: ((Unit×Int×Int×Int×Unit)×(Unit)×((List Int)×Unit))->Option ρ):Option ρ:=
 br (decide (v9 > v6)) (eg (0<=v9/\v9 < (v5.length:Int)) ((v5[v9.toNat]?).bind fun x10=>eg (0<=(IntKind.wrap .i64 (v9 - 1))/\(IntKind.wrap .i64 (v9 - 1)) < (v5.length:Int)) ((v5[(IntKind.wrap .i64 (v9 - 1)).toNat]?).bind fun x11=>(pi x10 x11).bind fun y12=>br y12.1 (eg (0<=(IntKind.wrap .i64 (v9 - 1))/\(IntKind.wrap .i64 (v9 - 1)) < (v5.length:Int)) ((v5[(IntKind.wrap .i64 (v9 - 1)).toNat]?).bind fun x13=>eg (0<=v9/\v9 < (v5.length:Int)) ((v5[v9.toNat]?).bind fun x14=>eg (0<=v9/\v9 < (v5.length:Int)) (eg (0<=(IntKind.wrap .i64 (v9 - 1))/\(IntKind.wrap .i64 (v9 - 1)) < (v5.length:Int)) ((v5[v9.toNat]?).bind fun _=>let z16:=v5.set v9.toNat x13; (z16[(IntKind.wrap .i64 (v9 - 1)).toNat]?).bind fun _=>fn (((),v6,v7,v8,(IntKind.wrap .i64 (v9 - 1)),()),(()),((z16.set ((IntKind.wrap .i64 (v9 - 1)).toNat) x14),()))) none) none) none) none) (fe (((),v6,v7,v8,()),(()),(v5,())))) none) none) (fe (((),v6,v7,v8,()),(()),(v5,())))
abbrev fY {ρ:Type} (s:eY.D) (fn:eY.D->Option ρ) (fe:eX.D gQ->Option ρ):Option ρ:=gA s.2.2.1 s.1.2.1 s.1.2.2.1 s.1.2.2.2.1 s.1.2.2.2.2.1 fn fe
def eZ (s:eY.D):Option (eY.D⊕eX.D gQ):=fY s (fun s=>some (.inl s)) (fun e=>some (.inr e))
def gR:eY.D->Option (eX.D gQ):=mw eZ
theorem AW {ρ:Type} (s:eY.D) (fn:_->Option ρ) (fe:_):fY s fn fe=(eZ s).bind (Sum.elim fn fe):=by
 simp only [eZ,fY,gA,dZ,ea,an,ah,ae,aA,aB]
abbrev rv:fO:=fR [] [0,1,2,6,7] eY gQ gR
theorem zF (s:eY.D):iz Θ (ek nP) (en []) i4 (eY.mk' s) (fM [0,1,2,6,7] [0,1,2,6] fun x S=>some (x,S))=(eZ s).bind (Sum.elim (fun s'=>some (.nor,eY.mk' s')) fun e=>some (eX.e gQ e)):=
 ak (by kernel_rfl) (AW s _ _)
theorem zG:fk Tryz.prog i4 rv:=eA eo mF dT (by kernel_rfl) (fV (by kernel_rfl:_= []) dU) [] [0,1,2,6,7] [0,1,2,6] eY gQ (by kernel_rfl) eZ zF gR (ju eZ) (ev eZ)
abbrev fa:it:=⟨[(0, .cl (.own 0 (.i .i64))),(1, .cl (.int .i64)),(2, .cl (.int .i64)),(6, .cl (.int .i64))],[],[.i .i64],1,49⟩
abbrev gT:List (X×it):= [(.ext 0,⟨[],[],[.i .i64],1,49⟩)]
def fZ {ρ:Type} (v1:List Int) (v2:Int) (v3:Int) (v4:Int) (fn: ((Unit×Int×Int×Int×Unit)×(Unit)×((List Int)×Unit))->Option ρ) (fe: ((Unit)×(Unit)×((List Int)×Unit))->Option ρ):Option ρ:=
 br (decide (v4 < v3)) ((gR (((),v2,v3,v4,v4,()),(()),(v1,()))).bind fun e19=>fn (((),e19.1.2.1,e19.1.2.2.1,(IntKind.wrap .i64 (e19.1.2.2.2.1+1)),()),(()),(e19.2.2.1,()))) (fe ((()),(()),(v1,())))
abbrev fG {ρ:Type} (s:fa.D) (fn:fa.D->Option ρ) (fe:eX.D gT->Option ρ):Option ρ:=fZ s.2.2.1 s.1.2.1 s.1.2.2.1 s.1.2.2.2.1 fn fe
def eH (s:fa.D):Option (fa.D⊕eX.D gT):=fG s (fun s=>some (.inl s)) (fun e=>some (.inr e))
def gU:fa.D->Option (eX.D gT):=mw eH
theorem AX {ρ:Type} (s:fa.D) (fn:_->Option ρ) (fe:_):fG s fn fe=(eH s).bind (Sum.elim fn fe):=by
 simp only [eH,fG,fZ,dZ,ah,ae,aA,aB]
abbrev rx:fO:=fR [] [0,1,2,6] fa gT gU
theorem zH (s:fa.D):iz Θ (ek nP) (en [(fC i4,rv)]) gP (fa.mk' s) (fM [0,1,2,6] [] fun x S=>some (x,S))=(eH s).bind (Sum.elim (fun s'=>some (.nor,fa.mk' s')) fun e=>some (eX.e gT e)):=
 ak (by kernel_rfl) (AX s _ _)
theorem zI:fk Tryz.prog gP rx:=eA eo mF dT (by kernel_rfl) (fV (by kernel_rfl:_= [i4]) (eu (q:=fC i4) rfl zG fun _ _ _=>by kernel_rfl)) [] [0,1,2,6] [] fa gT (by kernel_rfl) eH zH gU (ju eH) (ev eH)
def jk {ρ:Type} (a0:List Int) (a1:Int) (a2:Int) (k: (List Int)×Unit->Option ρ):Option ρ:=
 (gU (((),a1,a2,(IntKind.wrap .i64 (a1+1)),()),(()),(a0,()))).bind fun e20=>k (e20.2.2.1,())
def fF (a0:List Int) (a1:Int) (a2:Int):=jk a0 a1 a2 some
theorem Cf {ρ:Type} (a0 a1 a2:_) (k:_->Option ρ):jk a0 a1 a2 k=(fF a0 a1 a2).bind k:=by
 simp only [fF,jk,ah,ae]
abbrev tA:eG:=aor (.i .i64) [.ty (.i .i64), .ty (.i .i64)] [] fun l x=>fF l x.1 x.2.1
theorem Dj:eh Tryz.prog (Nl 288) tA:=
 aeH (Λ:=en [(fC gP,rx)]) (fn:=Tryz.f288) eo mF dT (by kernel_rfl) (ej (by kernel_rfl:_= [gP]) (eu (q:=fC gP) rfl zI fun _ _ _=>by kernel_rfl)) (by kernel_rfl) (fun l x=>fF l x.1 x.2.1)
  (fun l x=>ak (by kernel_rfl) (Cf l x.1 x.2.1 _)) fun _ _ _ h=>h
abbrev zJ:List (Nat×eG):= [(Nl 288,tA)]
theorem wm:ef Tryz.prog (ek zJ):=dS Dj <| dX _
abbrev lh:Code:=fm (fo Tryz.f267) 0
abbrev fD:it:=⟨[(0, .cl (.own 0 (.i .i64))),(1, .cl (.int .i64)),(2, .cl (.int .i64)),(3, .cl (.int .i64)),(8, .cl (.bl)),(9, .cl (.bl))],[],[.i .i64],1,134⟩
abbrev jM:List (X×it):= [(.ret,⟨[],[],[.i .i64],1,134⟩)]
def mD {ρ:Type} (v1:List Int) (v2:Int) (v3:Int) (v4:Int) (v5:Bool) (_v6:Bool) (_fn: ((Unit×Int×Int×Int×Bool×Bool×Unit)×(Unit)×((List Int)×Unit))->Option ρ) (fe: ((Unit)×(Unit)×((List Int)×Unit))->Option ρ):Option ρ:=
 br (decide ((IntKind.wrap .i64 (v3 - v2))<=12)) ((fF v1 v2 v3).bind fun y7=>eg (y7.1.length=v1.length) (fe ((()),(()),(y7.1,()))) none) (br (v4==0) (none) (br (!v5) (none) (none)))
abbrev kG {ρ:Type} (s:fD.D) (fn:fD.D->Option ρ) (fe:eX.D jM->Option ρ):Option ρ:=mD s.2.2.1 s.1.2.1 s.1.2.2.1 s.1.2.2.2.1 s.1.2.2.2.2.1 s.1.2.2.2.2.2.1 fn fe
def gg (s:fD.D):Option (fD.D⊕eX.D jM):=kG s (fun s=>some (.inl s)) (fun e=>some (.inr e))
def li:fD.D->Option (eX.D jM):=mw gg
theorem EA {ρ:Type} (s:fD.D) (fn:_->Option ρ) (fe:_):kG s fn fe=(gg s).bind (Sum.elim fn fe):=by
 simp only [gg,kG,mD,dZ,ea,an,ah,ae,aB]
abbrev xw:fO:=fR [] [0,1,2,3,8,9] fD jM li
theorem Ee (s:fD.D):iz Θ (ek zJ) (en []) lh (fD.mk' s) (fM [0,1,2,3,8,9] [] fun x S=>some (x,S))=(gg s).bind (Sum.elim (fun s'=>some (.nor,fD.mk' s')) fun e=>some (eX.e jM e)):=
 ak (by kernel_rfl) (EA s _ _)
theorem Ef:fk Tryz.prog lh xw:=eA eo wm dT (by kernel_rfl) (fV (by kernel_rfl:_= []) dU) [] [0,1,2,3,8,9] [] fD jM (by kernel_rfl) gg Ee li (ju gg) (ev gg)
def lN {ρ:Type} (a0:List Int) (a1:Int) (a2:Int) (a3:Int) (k: (List Int)×Unit->Option ρ):Option ρ:=
 (li (((),a1,a2,a3,true,true,()),(()),(a0,()))).bind fun e8=>k (e8.2.2.1,())
def gy (a0:List Int) (a1:Int) (a2:Int) (a3:Int):=lN a0 a1 a2 a3 some
theorem Gj {ρ:Type} (a0 a1 a2 a3:_) (k:_->Option ρ):lN a0 a1 a2 a3 k=(gy a0 a1 a2 a3).bind k:=by
 simp only [gy,lN,ah,ae]
abbrev zK:eG:=aor (.i .i64) [.ty (.i .i64), .ty (.i .i64), .ty (.i .i64)] [] fun l x=>gy l x.1 x.2.1 x.2.2.1
theorem HF:eh Tryz.prog (Nl 267) zK:=
 aeH (Λ:=en [(fC lh,xw)]) (fn:=Tryz.f267) eo wm dT (by kernel_rfl) (ej (by kernel_rfl:_= [lh]) (eu (q:=fC lh) rfl Ef fun _ _ _=>by kernel_rfl)) (by kernel_rfl) (fun l x=>gy l x.1 x.2.1 x.2.2.1)
  (fun l x=>ak (by kernel_rfl) (Gj l x.1 x.2.1 x.2.2.1 _)) fun _ _ _ h=>h
abbrev Z0:List (Nat×eG):= [(268,aim),(Nl 267,zK)]
theorem RJ:ef Tryz.prog (ek Z0):=dS aoH <| dS HF <| dX _
def uX {ρ:Type} (a0:List Int) (k: (List Int)×Unit->Option ρ):Option ρ:=
 (Gi (IntKind.wrap .u64 (a0.length:Int))).bind fun y1=>(gy a0 0 (a0.length:Int) y1.1).bind fun y2=>eg (y2.1.length=a0.length) (k (y2.1,())) none
def ne (a0:List Int):=uX a0 some
theorem Uw {ρ:Type} (a0:_) (k:_->Option ρ):uX a0 k=(ne a0).bind k:=by
 simp only [ne,uX,ea,an,ah,ae]
abbrev L5:eG:=aor (.i .i64) [] [] fun l _=>ne l
theorem Z1:eh Tryz.prog (Nl 216) L5:=
 aeH (Λ:=en []) (fn:=Tryz.f216) eo RJ dT (by kernel_rfl) (ej (by kernel_rfl:_= []) dU) (by kernel_rfl) (fun l _=>ne l)
  (fun l _=>ak (by kernel_rfl) (Uw l _)) fun _ _ _ h=>h
abbrev Cg:List (Nat×eG):= []
theorem xx:ef Tryz.prog (ek Cg):=dX _
abbrev nn:Code:=fm (fo Tryz.f217) 0
abbrev pc:Code:=fm nn 0
abbrev ig:it:=⟨[(0, .cl (.own 0 (.i .i64))),(3, .cl (.int .i64)),(4, .cl (.sub 0 (.i .i64))),(5, .cl (.int .i64))],[],[.i .i64],0,61⟩
abbrev np:List (X×it):= [(.ext 2,⟨[(0, .cl (.own 0 (.i .i64))),(3, .cl (.int .i64))],[],[.i .i64],0,61⟩)]
def ry {ρ:Type} (v5:List Int) (v6:Int) (v7: (Nat×Nat)) (v8:Int) (fn: ((Unit×Int×((Nat×Nat))×Int×Unit)×(Unit)×((List Int)×Unit))->Option ρ) (fe: ((Unit×Int×Unit)×(Unit)×((List Int)×Unit))->Option ρ):Option ρ:=
 br (decide (v8 < ((v7.2:Nat):Int))) (eg (0<=v8/\v8 < ((v7.2:Nat):Int)) ((v5[(v7.1+v8.toNat)]?).bind fun x9=>eg (0<=(IntKind.wrap .i64 (v8 - 1))/\(IntKind.wrap .i64 (v8 - 1)) < ((v7.2:Nat):Int)) ((v5[(v7.1+(IntKind.wrap .i64 (v8 - 1)).toNat)]?).bind fun x10=>br (!(x9==x10)) (eg (0<=v8/\v8 < ((v7.2:Nat):Int)) ((v5[(v7.1+v8.toNat)]?).bind fun x11=>eg (0<=v6/\v6 < (v5.length:Int)) ((v5[v6.toNat]?).bind fun _=>fn (((),(IntKind.wrap .i64 (v6+1)),(v7.1,v7.2),(IntKind.wrap .i64 (v8+1)),()),(()),((v5.set v6.toNat x11),()))) none) none) (fn (((),v6,(v7.1,v7.2),(IntKind.wrap .i64 (v8+1)),()),(()),(v5,())))) none) none) (fe (((),v6,()),(()),(v5,())))
abbrev oq {ρ:Type} (s:ig.D) (fn:ig.D->Option ρ) (fe:eX.D np->Option ρ):Option ρ:=ry s.2.2.1 s.1.2.1 s.1.2.2.1 s.1.2.2.2.1 fn fe
def iQ (s:ig.D):Option (ig.D⊕eX.D np):=oq s (fun s=>some (.inl s)) (fun e=>some (.inr e))
def sL:ig.D->Option (eX.D np):=mw iQ
theorem KO {ρ:Type} (s:ig.D) (fn:_->Option ρ) (fe:_):oq s fn fe=(iQ s).bind (Sum.elim fn fe):=by
 simp only [iQ,oq,ry,dZ,ea,an,ah,ae,aA,aB]
abbrev ET:fO:=fR [] [0,3,4,5] ig np sL
theorem Jq (s:ig.D):iz Θ (ek Cg) (en []) pc (ig.mk' s) (fM [0,3,4,5] [0,3] fun x S=>some (x,S))=(iQ s).bind (Sum.elim (fun s'=>some (.nor,ig.mk' s')) fun e=>some (eX.e np e)):=
 ak (by kernel_rfl) (KO s _ _)
theorem Jr:fk Tryz.prog pc ET:=eA eo xx dT (by kernel_rfl) (fV (by kernel_rfl:_= []) dU) [] [0,3,4,5] [0,3] ig np (by kernel_rfl) iQ Jq sL (ju iQ) (ev iQ)
abbrev ii:it:=⟨[(0, .cl (.own 0 (.i .i64))),(3, .cl (.int .i64))],[],[.i .i64],0,61⟩
abbrev nq:List (X×it):= [(.ret,⟨[(0, .cl (.own 0 (.i .i64))),(2, .cl (.sub 0 (.i .i64)))],[],[.i .i64],0,61⟩),(.ext 0,⟨[(0, .cl (.own 0 (.i .i64))),(2, .cl (.dead))],[],[.i .i64],0,61⟩)]
def lj {ρ:Type} (v1:List Int) (v2:Int) (fn: ((Unit×Int×Unit)×(Unit)×((List Int)×Unit))->Option ρ) (fe: ((Unit×((Nat×Nat))×Unit)×(Unit)×((List Int)×Unit))⊕((Unit×Unit×Unit)×(Unit)×((List Int)×Unit))->Option ρ):Option ρ:=
 br (decide (v2 < (v1.length:Int))) (eg (0<=v2/\v2 < (v1.length:Int)) ((v1[v2.toNat]?).bind fun x3=>eg (0<=(IntKind.wrap .i64 (v2 - 1))/\(IntKind.wrap .i64 (v2 - 1)) < (v1.length:Int)) ((v1[(IntKind.wrap .i64 (v2 - 1)).toNat]?).bind fun x4=>br (x3==x4) (eg (0<=v2/\v2<=(v1.length:Int)/\(v1.length:Int)<=((v1.length:Nat):Int)) ((sL (((),v2,((0+v2.toNat),((v1.length:Int).toNat - v2.toNat)),1,()),(()),(v1,()))).bind fun e14=>eg (0<=e14.1.2.1/\e14.1.2.1<=(e14.2.2.1.length:Int)/\(e14.2.2.1.length:Int)<=((e14.2.2.1.length:Nat):Int)) (eg ((0+e14.1.2.1.toNat)+((e14.2.2.1.length:Int).toNat - e14.1.2.1.toNat)<=e14.2.2.1.length) (eg (0<=(0:Int)/\(0:Int)<=e14.1.2.1/\e14.1.2.1<=((e14.2.2.1.length:Nat):Int)) (fe (.inl (((),((0+(0:Int).toNat),(e14.1.2.1.toNat - (0:Int).toNat)),()),(()),((e14.2.2.1.take (0+e14.1.2.1.toNat)++List.replicate ((e14.2.2.1.length:Int).toNat - e14.1.2.1.toNat) (0:Int)++e14.2.2.1.drop ((0+e14.1.2.1.toNat)+((e14.2.2.1.length:Int).toNat - e14.1.2.1.toNat))),())))) none) none) none) none) (fn (((),(IntKind.wrap .i64 (v2+1)),()),(()),(v1,())))) none) none) (fe (.inr (((),(),()),(()),(v1,()))))
abbrev jV {ρ:Type} (s:ii.D) (fn:ii.D->Option ρ) (fe:eX.D nq->Option ρ):Option ρ:=lj s.2.2.1 s.1.2.1 fn fe
def fT (s:ii.D):Option (ii.D⊕eX.D nq):=jV s (fun s=>some (.inl s)) (fun e=>some (.inr e))
def pd:ii.D->Option (eX.D nq):=mw fT
theorem KP {ρ:Type} (s:ii.D) (fn:_->Option ρ) (fe:_):jV s fn fe=(fT s).bind (Sum.elim fn fe):=by
 simp only [fT,jV,lj,dZ,ea,an,ah,ae,aA,aB]
abbrev EU:fO:=fR [] [0,3] ii nq pd
theorem Js (s:ii.D):iz Θ (ek Cg) (en [(fC pc,ET)]) nn (ii.mk' s) (fM [0,3] [0,2] fun x S=>some (x,S))=(fT s).bind (Sum.elim (fun s'=>some (.nor,ii.mk' s')) fun e=>some (eX.e nq e)):=
 ak (by kernel_rfl) (KP s _ _)
theorem Jt:fk Tryz.prog nn EU:=eA eo xx dT (by kernel_rfl) (fV (by kernel_rfl:_= [pc]) (eu (q:=fC pc) rfl Jr fun _ _ _=>by kernel_rfl)) [] [0,3] [0,2] ii nq (by kernel_rfl) fT Js pd (ju fT) (ev fT)
def qi {ρ:Type} (a0:List Int) (k: (List Int)×Unit->Option ρ):Option ρ:=
 br (decide ((a0.length:Int) < 2)) (k (a0,())) ((pd (((),1,()),(()),(a0,()))).bind fun e15=>Sum.elim (fun e15_=>eg (e15_.1.2.1.1=0/\e15_.1.2.1.2<=e15_.2.2.1.length) (k ((e15_.2.2.1.take e15_.1.2.1.2),())) none) (fun e15_=>k (e15_.2.2.1,())) e15)
def kH (a0:List Int):=qi a0 some
theorem Nz {ρ:Type} (a0:_) (k:_->Option ρ):qi a0 k=(kH a0).bind k:=by
 simp only [kH,qi,dZ,ea,an,fU,ah,ae]
abbrev G4:eG:=aoq (.i .i64) [] [.ls (.i .i64)] fun l _=>kH l
theorem RK:eh Tryz.prog (Tl 217) G4:=
 aeG (Λ:=en [(fC nn,EU)]) (fn:=Tryz.f217) eo xx dT (by kernel_rfl) (ej (by kernel_rfl:_= [nn]) (eu (q:=fC nn) rfl Jt fun _ _ _=>by kernel_rfl)) (fun l _=>kH l)
  (fun l _=>ak (by kernel_rfl) (Nz l _)) fun _ _ _ h=>h
abbrev ain:List (Nat×eG):= [(164,Fl),(Nl 216,L5),(Tl 217,G4)]
theorem Z2:ef Tryz.prog (ek ain):=dS Jp <| dS Z1 <| dS RK <| dX _
def Ch {ρ:Type} (a0:List Int) (k: (List Int)×Unit->Option ρ):Option ρ:=
 (oa a0).bind fun y1=>(ne y1.1).bind fun y2=>eg (y2.1.length=y1.1.length) ((kH y2.1).bind fun y3=>k (y3.1,())) none
def ot (a0:List Int):=Ch a0 some
theorem aco {ρ:Type} (a0:_) (k:_->Option ρ):Ch a0 k=(ot a0).bind k:=by
 simp only [ot,Ch,ea,an,ah,ae]
abbrev G5:eG:=eJ [.ty (.ls (.i .i64))] [.ls (.i .i64)] fun x=>ot x.1
theorem L6:eh Tryz.prog 150 G5:=
 dY (Λ:=en []) (fn:=Tryz.f150) eo Z2 dT (by kernel_rfl) (ej (by kernel_rfl:_= []) dU) (by kernel_rfl) (fun x=>ot x.1)
  (fun x=>ak (by kernel_rfl) (aco x.1 _)) fun _ _ h=>h
abbrev NA:List (Nat×eG):= [(66,xq)]
theorem Ju:ef Tryz.prog (ek NA):=dS Bn <| dX _
def rz {ρ:Type} (a0:Int) (a1:List Int) (k:Bool×Unit->Option ρ):Option ρ:=
 (kC a1 a0).bind fun y1=>k (y1.1,())
def kD (a0:Int) (a1:List Int):=rz a0 a1 some
theorem KQ {ρ:Type} (a0 a1:_) (k:_->Option ρ):rz a0 a1 k=(kD a0 a1).bind k:=by
 simp only [kD,rz,ah,ae]
abbrev yY:eG:=eJ [.ty (.i .i64), .pr (.ls (.i .i64))] [.b] fun x=>kD x.1 x.2.1
theorem EV:eh Tryz.prog 151 yY:=
 dY (Λ:=en []) (fn:=Tryz.f151) eo Ju dT (by kernel_rfl) (ej (by kernel_rfl:_= []) dU) (by kernel_rfl) (fun x=>kD x.1 x.2.1)
  (fun x=>ak (by kernel_rfl) (KQ x.1 x.2.1 _)) fun _ _ h=>h
abbrev pA:List (Nat×eG):= [(151,yY)]
theorem ou:ef Tryz.prog (ek pA):=dS EV <| dX _
abbrev gV:Code:=fm (fo Tryz.f143) 0
abbrev eL:it:=⟨[(0, .cl (.ro (.i .i64))),(1, .fn 151 [.pro (.ls (.i .i64))]),(7, .cl (.int .i64)),(8, .cl (.int .i64))],[],[],0,19⟩
abbrev f8:List (X×it):= [(.ret,⟨[(4, .cl (.int .i64))],[],[],0,19⟩),(.ext 0,⟨[(4, .cl (.dead))],[],[],0,19⟩)]
def i5 {ρ:Type} (v1:List Int) (v2:List Int) (v3:Int) (v4:Int) (fn: (((List Int)×((List Int)×Unit)×Int×Int×Unit)×(Unit)×(Unit))->Option ρ) (fe: ((Int×Unit)×(Unit)×(Unit))⊕((Unit×Unit)×(Unit)×(Unit))->Option ρ):Option ρ:=
 br (decide (v4 < v3)) (eg (0<=v4) ((v1[v4.toNat]?).bind fun x5=>(kD x5 v2).bind fun y6=>br y6.1 (fe (.inl ((v4,()),(()),(())))) (fn ((v1,(v2,()),v3,(IntKind.wrap .i64 (v4+1)),()),(()),(())))) none) (fe (.inr (((),()),(()),(()))))
abbrev gE {ρ:Type} (s:eL.D) (fn:eL.D->Option ρ) (fe:eX.D f8->Option ρ):Option ρ:=i5 s.1.1 s.1.2.1.1 s.1.2.2.1 s.1.2.2.2.1 fn fe
def eR (s:eL.D):Option (eL.D⊕eX.D f8):=gE s (fun s=>some (.inl s)) (fun e=>some (.inr e))
def gW:eL.D->Option (eX.D f8):=mw eR
theorem wy {ρ:Type} (s:eL.D) (fn:_->Option ρ) (fe:_):gE s fn fe=(eR s).bind (Sum.elim fn fe):=by
 simp only [eR,gE,i5,dZ,ea,an,ah,ae,aA,aB]
abbrev oM:fO:=fR [] [0,1,7,8] eL f8 gW
theorem vN (s:eL.D):iz Θ (ek pA) (en []) gV (eL.mk' s) (fM [0,1,7,8] [4] fun x S=>some (x,S))=(eR s).bind (Sum.elim (fun s'=>some (.nor,eL.mk' s')) fun e=>some (eX.e f8 e)):=
 ak (by kernel_rfl) (wy s _ _)
theorem vO:fk Tryz.prog gV oM:=eA eo ou dT (by kernel_rfl) (fV (by kernel_rfl:_= []) dU) [] [0,1,7,8] [4] eL f8 (by kernel_rfl) eR vN gW (ju eR) (ev eR)
def jy {ρ:Type} (a0:List Int) (a1_0:List Int) (k:Int×Unit->Option ρ):Option ρ:=
 (gW ((a0,(a1_0,()),(a0.length:Int),0,()),(()),(()))).bind fun e7=>Sum.elim (fun e7_=>k (e7_.1.1,())) (fun _=>k ((-1),())) e7
def gm (a0:List Int) (a1_0:List Int):=jy a0 a1_0 some
theorem yn {ρ:Type} (a0 a1_0:_) (k:_->Option ρ):jy a0 a1_0 k=(gm a0 a1_0).bind k:=by
 simp only [gm,jy,fU,ah,ae]
abbrev pB:eG:=eJ [.ty (.ls (.i .i64)), .fn 151 [.ls (.i .i64)]] [.i .i64] fun x=>gm x.1 x.2.1.1
theorem zL:eh Tryz.prog 143 pB:=
 dY (Λ:=en [(fC gV,oM)]) (fn:=Tryz.f143) eo ou dT (by kernel_rfl) (ej (by kernel_rfl:_= [gV]) (eu (q:=fC gV) rfl vO fun _ _ _=>by kernel_rfl)) (by kernel_rfl) (fun x=>gm x.1 x.2.1.1)
  (fun x=>ak (by kernel_rfl) (yn x.1 x.2.1.1 _)) fun _ _ h=>h
abbrev nV:List (Nat×eG):= [(143,pB),(151,yY)]
theorem nh:ef Tryz.prog (ek nV):=dS zL <| dS EV <| dX _
abbrev gl:Code:=fm (fo Tryz.f74) 0
abbrev eF:it:=⟨[(0, .cl (.own 0 (.i .i64))),(1, .fn 151 [.pro (.ls (.i .i64))]),(5, .cl (.int .i64)),(6, .cl (.int .i64))],[],[.i .i64],0,42⟩
abbrev fJ:List (X×it):= [(.ext 0,⟨[(0, .cl (.own 0 (.i .i64))),(5, .cl (.int .i64))],[],[.i .i64],0,42⟩)]
def ip {ρ:Type} (v2:List Int) (v3:List Int) (v4:Int) (v5:Int) (fn: ((Unit×((List Int)×Unit)×Int×Int×Unit)×(Unit)×((List Int)×Unit))->Option ρ) (fe: ((Unit×Int×Unit)×(Unit)×((List Int)×Unit))->Option ρ):Option ρ:=
 br (decide (v5 < (v2.length:Int))) (eg (0<=v5/\v5 < (v2.length:Int)) ((v2[v5.toNat]?).bind fun x6=>(kD x6 v3).bind fun y7=>br (!y7.1) (eg (0<=v4/\v4 < (v2.length:Int)) ((v2[v4.toNat]?).bind fun _=>fn (((),(v3,()),(IntKind.wrap .i64 (v4+1)),(IntKind.wrap .i64 (v5+1)),()),(()),((v2.set v4.toNat x6),()))) none) (fn (((),(v3,()),v4,(IntKind.wrap .i64 (v5+1)),()),(()),(v2,())))) none) (fe (((),v4,()),(()),(v2,())))
abbrev gi {ρ:Type} (s:eF.D) (fn:eF.D->Option ρ) (fe:eX.D fJ->Option ρ):Option ρ:=ip s.2.2.1 s.1.2.1.1 s.1.2.2.1 s.1.2.2.2.1 fn fe
def eK (s:eF.D):Option (eF.D⊕eX.D fJ):=gi s (fun s=>some (.inl s)) (fun e=>some (.inr e))
def iy:eF.D->Option (eX.D fJ):=mw eK
theorem t4 {ρ:Type} (s:eF.D) (fn:_->Option ρ) (fe:_):gi s fn fe=(eK s).bind (Sum.elim fn fe):=by
 simp only [eK,gi,ip,dZ,ea,an,ah,ae,aA,aB]
abbrev nu:fO:=fR [] [0,1,5,6] eF fJ iy
theorem tB (s:eF.D):iz Θ (ek nV) (en []) gl (eF.mk' s) (fM [0,1,5,6] [0,5] fun x S=>some (x,S))=(eK s).bind (Sum.elim (fun s'=>some (.nor,eF.mk' s')) fun e=>some (eX.e fJ e)):=
 ak (by kernel_rfl) (t4 s _ _)
theorem tC:fk Tryz.prog gl nu:=eA eo nh dT (by kernel_rfl) (fV (by kernel_rfl:_= []) dU) [] [0,1,5,6] [0,5] eF fJ (by kernel_rfl) eK tB iy (ju eK) (ev eK)
def iK {ρ:Type} (a0:List Int) (a1_0:List Int) (k: (List Int)×Unit->Option ρ):Option ρ:=
 (gm a0 a1_0).bind fun y1=>br (y1.1==(-1)) (k (a0,())) ((iy (((),(a1_0,()),y1.1,(IntKind.wrap .i64 (y1.1+1)),()),(()),(a0,()))).bind fun e10=>eg (0<=e10.1.2.1/\e10.1.2.1<=(e10.2.2.1.length:Int)/\(e10.2.2.1.length:Int)<=((e10.2.2.1.length:Nat):Int)) (eg ((0+e10.1.2.1.toNat)+((e10.2.2.1.length:Int).toNat - e10.1.2.1.toNat)<=e10.2.2.1.length) (eg (0<=(0:Int)/\(0:Int)<=e10.1.2.1/\e10.1.2.1<=((e10.2.2.1.length:Nat):Int)) (eg ((0+(0:Int).toNat)=0/\(e10.1.2.1.toNat - (0:Int).toNat)<=(e10.2.2.1.take (0+e10.1.2.1.toNat)++List.replicate ((e10.2.2.1.length:Int).toNat - e10.1.2.1.toNat) (0:Int)++e10.2.2.1.drop ((0+e10.1.2.1.toNat)+((e10.2.2.1.length:Int).toNat - e10.1.2.1.toNat))).length) (k (((e10.2.2.1.take (0+e10.1.2.1.toNat)++List.replicate ((e10.2.2.1.length:Int).toNat - e10.1.2.1.toNat) (0:Int)++e10.2.2.1.drop ((0+e10.1.2.1.toNat)+((e10.2.2.1.length:Int).toNat - e10.1.2.1.toNat))).take (e10.1.2.1.toNat - (0:Int).toNat)),())) none) none) none) none)
def fB (a0:List Int) (a1_0:List Int):=iK a0 a1_0 some
theorem uY {ρ:Type} (a0 a1_0:_) (k:_->Option ρ):iK a0 a1_0 k=(fB a0 a1_0).bind k:=by
 simp only [fB,iK,dZ,ea,an,ah,ae]
abbrev nW:eG:=aoq (.i .i64) [.fn 151 [.ls (.i .i64)]] [.ls (.i .i64)] fun l x=>fB l x.1.1
theorem wz:eh Tryz.prog (Tl 74) nW:=
 aeG (Λ:=en [(fC gl,nu)]) (fn:=Tryz.f74) eo nh dT (by kernel_rfl) (ej (by kernel_rfl:_= [gl]) (eu (q:=fC gl) rfl tC fun _ _ _=>by kernel_rfl)) (fun l x=>fB l x.1.1)
  (fun l x=>ak (by kernel_rfl) (uY l x.1.1 _)) fun _ _ _ h=>h
abbrev Ux:List (Nat×eG):= [(150,G5),(Tl 74,nW)]
theorem NB:ef Tryz.prog (ek Ux):=dS L6 <| dS wz <| dX _
def wn {ρ:Type} (a0:List Int) (a1:List Int) (k: (List Int)×Unit->Option ρ):Option ρ:=
 (ot a0).bind fun y1=>(fB y1.1 a1).bind fun y2=>k (y2.1,())
def iX (a0:List Int) (a1:List Int):=wn a0 a1 some
theorem PL {ρ:Type} (a0 a1:_) (k:_->Option ρ):wn a0 a1 k=(iX a0 a1).bind k:=by
 simp only [iX,wn,ah,ae]
abbrev yp:eG:=eJ [.ty (.ls (.i .i64)), .ty (.ls (.i .i64))] [.ls (.i .i64)] fun x=>iX x.1 x.2.1
theorem Dk:eh Tryz.prog 73 yp:=
 dY (Λ:=en []) (fn:=Tryz.f73) eo NB dT (by kernel_rfl) (ej (by kernel_rfl:_= []) dU) (by kernel_rfl) (fun x=>iX x.1 x.2.1)
  (fun x=>ak (by kernel_rfl) (PL x.1 x.2.1 _)) fun _ _ h=>h
abbrev W7:List (Nat×eG):= [(73,yp)]
theorem PM:ef Tryz.prog (ek W7):=dS Dk <| dX _
def yq {ρ:Type} (a0:List Int) (a1:List Int) (k: (List Int)×Unit->Option ρ):Option ρ:=
 (iX a0 a1).bind fun y1=>(iX a0 y1.1).bind fun y2=>k (y2.1,())
def nv (a0:List Int) (a1:List Int):=yq a0 a1 some
theorem RL {ρ:Type} (a0 a1:_) (k:_->Option ρ):yq a0 a1 k=(nv a0 a1).bind k:=by
 simp only [nv,yq,ah,ae]
abbrev EB:eG:=eJ [.ty (.ls (.i .i64)), .ty (.ls (.i .i64))] [.ls (.i .i64)] fun x=>nv x.1 x.2.1
theorem Kk:eh Tryz.prog 228 EB:=
 dY (Λ:=en []) (fn:=Tryz.f228) eo PM dT (by kernel_rfl) (ej (by kernel_rfl:_= []) dU) (by kernel_rfl) (fun x=>nv x.1 x.2.1)
  (fun x=>ak (by kernel_rfl) (RL x.1 x.2.1 _)) fun _ _ h=>h
abbrev W8:List (Nat×eG):= [(135,jU),(227,Ce),(66,xq),(228,EB)]
theorem PN:ef Tryz.prog (ek W8):=dS j9 <| dS Fj <| dS Bn <| dS Kk <| dX _
def yr {ρ:Type} (a0:dW) (k:Bool×Unit->Option ρ):Option ρ:=
 (fp a0.epoch 1 20).bind fun y1=>br y1.1 ((jx a0.replicas).bind fun y2=>br y2.1 ((jx a0.witnesses).bind fun y3=>br y3.1 ((kC a0.replicas a0.primary).bind fun y4=>br y4.1 ((nv a0.replicas a0.witnesses).bind fun y5=>k (((y5.1.length:Int)==0),())) (k (false,()))) (k (false,()))) (k (false,()))) (k (false,()))
def lA (a0:dW):=yr a0 some
theorem RM {ρ:Type} (a0:_) (k:_->Option ρ):yr a0 k=(lA a0).bind k:=by
 simp only [lA,yr,dZ,ah,ae]
abbrev uZ:eG:=eJ [.ty (.st .config)] [.b] fun x=>lA x.1
theorem An:eh Tryz.prog 176 uZ:=
 dY (Λ:=en []) (fn:=Tryz.f176) eo PN dT (by kernel_rfl) (ej (by kernel_rfl:_= []) dU) (by kernel_rfl) (fun x=>lA x.1)
  (fun x=>ak (by kernel_rfl) (RM x.1 _)) fun _ _ h=>h
abbrev Om:List (Nat×eG):= [(176,uZ),(135,jU)]
theorem Iv:ef Tryz.prog (ek Om):=dS An <| dS j9 <| dX _
abbrev u3:Code:=fm (fo Tryz.f137) 0
abbrev ka:it:=⟨[(1, .cl (.ptr 0 0)),(6, .cl (.ro (.st .config))),(7, .cl (.int .i64)),(8, .cl (.int .i64))],[[.ro (.st .config), .int .i64]],[],0,30⟩
abbrev qS:List (X×it):= [(.ret,⟨[(1, .cl (.ptr 0 0)),(2, .cl (.bl))],[[.ro (.st .config), .int .i64]],[],0,30⟩),(.ext 0,⟨[(1, .cl (.ptr 0 0)),(2, .cl (.dead))],[[.ro (.st .config), .int .i64]],[],0,30⟩)]
def yt {ρ:Type} (v1:List dW) (v2:Int) (v3:Int) (v4:List dW) (v5:Int) (fn: ((Unit×(List dW)×Int×Int×Unit)×(((List dW)×Int×Unit)×Unit)×(Unit))->Option ρ) (fe: ((Unit×Bool×Unit)×(((List dW)×Int×Unit)×Unit)×(Unit))⊕((Unit×Unit×Unit)×(((List dW)×Int×Unit)×Unit)×(Unit))->Option ρ):Option ρ:=
 br (decide (v3 < v2)) (eg (0<=v3) ((v1[v3.toNat]?).bind fun x6=>(lA x6).bind fun y7=>br (!y7.1) (fe (.inl (((),false,()),((v4,v5,()),()),(())))) (br (!(x6.epoch==(IntKind.wrap .i64 (v3+1)))) (fe (.inl (((),false,()),((v4,v5,()),()),(())))) (fn (((),v1,v2,(IntKind.wrap .i64 (v3+1)),()),((v4,v5,()),()),(()))))) none) (fe (.inr (((),(),()),((v4,v5,()),()),(()))))
abbrev tD {ρ:Type} (s:ka.D) (fn:ka.D->Option ρ) (fe:eX.D qS->Option ρ):Option ρ:=yt s.1.2.1 s.1.2.2.1 s.1.2.2.2.1 s.2.1.1.1 s.2.1.1.2.1 fn fe
def lB (s:ka.D):Option (ka.D⊕eX.D qS):=tD s (fun s=>some (.inl s)) (fun e=>some (.inr e))
def u4:ka.D->Option (eX.D qS):=mw lB
theorem RN {ρ:Type} (s:ka.D) (fn:_->Option ρ) (fe:_):tD s fn fe=(lB s).bind (Sum.elim fn fe):=by
 simp only [lB,tD,yt,dZ,ea,an,ah,ae,aA,aB]
abbrev Kl:fO:=fR [] [1,6,7,8] ka qS u4
theorem PO (s:ka.D):iz Θ (ek Om) (en []) u3 (ka.mk' s) (fM [1,6,7,8] [1,2] fun x S=>some (x,S))=(lB s).bind (Sum.elim (fun s'=>some (.nor,ka.mk' s')) fun e=>some (eX.e qS e)):=
 ak (by kernel_rfl) (RN s _ _)
theorem PP:fk Tryz.prog u3 Kl:=eA eo Iv dT (by kernel_rfl) (fV (by kernel_rfl:_= []) dU) [] [1,6,7,8] [1,2] ka qS (by kernel_rfl) lB PO u4 (ju lB) (ev lB)
def Ci {ρ:Type} (a0:ei) (k:Bool×Unit->Option ρ):Option ρ:=
 (u4 (((),a0.configs,(a0.configs.length:Int),0,()),((a0.configs,a0.activated,()),()),(()))).bind fun e8=>Sum.elim (fun e8_=>k (e8_.1.2.1,())) (fun e8_=>(fp e8_.2.1.1.2.1 0 (e8_.2.1.1.1.length:Int)).bind fun y9=>k (y9.1,())) e8
def mP (a0:ei):=Ci a0 some
theorem W9 {ρ:Type} (a0:_) (k:_->Option ρ):Ci a0 k=(mP a0).bind k:=by
 simp only [mP,Ci,fU,ah,ae]
abbrev zM:eG:=eJ [.ty (.st .masterLog)] [.b] fun x=>mP x.1
theorem DM:eh Tryz.prog 137 zM:=
 dY (Λ:=en [(fC u3,Kl)]) (fn:=Tryz.f137) eo Iv dT (by kernel_rfl) (ej (by kernel_rfl:_= [u3]) (eu (q:=fC u3) rfl PP fun _ _ _=>by kernel_rfl)) (by kernel_rfl) (fun x=>mP x.1)
  (fun x=>ak (by kernel_rfl) (W9 x.1 _)) fun _ _ h=>h
abbrev afD:List (Nat×eG):= []
theorem Xa:ef Tryz.prog (ek afD):=dX _
def vC {ρ:Type} (a0:dW) (k:dW×Unit->Option ρ):Option ρ:=
 eg ((([]:List Int)++a0.replicas).length*8<=2 ^ 40) (eg ((([]:List Int)++a0.witnesses).length*8<=2 ^ 40) (k ((⟨a0.epoch,a0.primary,(([]:List Int)++a0.replicas),(([]:List Int)++a0.witnesses)⟩:dW),())) none) none
def jz (a0:dW):=vC a0 some
theorem Z3 {ρ:Type} (a0:_) (k:_->Option ρ):vC a0 k=(jz a0).bind k:=by
 simp only [jz,vC,ea,an,ae]
abbrev yu:eG:=eJ [.ty (.st .config)] [.st .config] fun x=>jz x.1
theorem Cj:eh Tryz.prog 177 yu:=
 dY (Λ:=en []) (fn:=Tryz.f177) eo Xa dT (by kernel_rfl) (ej (by kernel_rfl:_= []) dU) (by kernel_rfl) (fun x=>jz x.1)
  (fun x=>ak (by kernel_rfl) (Z3 x.1 _)) fun _ _ h=>h
abbrev akh:List (Nat×eG):= [(137,zM),(135,jU),(177,yu)]
theorem acp:ef Tryz.prog (ek akh):=dS DM <| dS j9 <| dS Cj <| dX _
def Eg {ρ:Type} (a0:ei) (a1:Int) (k:dW×Bool×Unit->Option ρ):Option ρ:=
 (mP a0).bind fun y1=>br (!y1.1) (k ((⟨0,0,([]:List Int),([]:List Int)⟩:dW),false,())) ((fp a1 1 (a0.configs.length:Int)).bind fun y2=>br (!y2.1) (k ((⟨0,0,([]:List Int),([]:List Int)⟩:dW),false,())) (eg (0<=(IntKind.wrap .i64 (a1 - 1))) ((a0.configs[(IntKind.wrap .i64 (a1 - 1)).toNat]?).bind fun x3=>(jz x3).bind fun y4=>k (y4.1,true,())) none))
def qj (a0:ei) (a1:Int):=Eg a0 a1 some
theorem afE {ρ:Type} (a0 a1:_) (k:_->Option ρ):Eg a0 a1 k=(qj a0 a1).bind k:=by
 simp only [qj,Eg,dZ,ea,an,ah,ae]
abbrev Jv:eG:=eJ [.ty (.st .masterLog), .ty (.i .i64)] [.st .config, .b] fun x=>qj x.1 x.2.1
theorem PQ:eh Tryz.prog 142 Jv:=
 dY (Λ:=en []) (fn:=Tryz.f142) eo acp dT (by kernel_rfl) (ej (by kernel_rfl:_= []) dU) (by kernel_rfl) (fun x=>qj x.1 x.2.1)
  (fun x=>ak (by kernel_rfl) (afE x.1 x.2.1 _)) fun _ _ h=>h
abbrev Xb:List (Nat×eG):= [(142,Jv)]
theorem PR:ef Tryz.prog (ek Xb):=dS PQ <| dX _
def tE {ρ:Type} (a0:ei) (k:dW×Bool×Unit->Option ρ):Option ρ:=
 (qj a0 a0.activated).bind fun y1=>k (y1.1,y1.2.1,())
def gx (a0:ei):=tE a0 some
theorem RP {ρ:Type} (a0:_) (k:_->Option ρ):tE a0 k=(gx a0).bind k:=by
 simp only [gx,tE,ah,ae]
abbrev qT:eG:=eJ [.ty (.st .masterLog)] [.st .config, .b] fun x=>gx x.1
theorem u5:eh Tryz.prog 60 qT:=
 dY (Λ:=en []) (fn:=Tryz.f60) eo PR dT (by kernel_rfl) (ej (by kernel_rfl:_= []) dU) (by kernel_rfl) (fun x=>gx x.1)
  (fun x=>ak (by kernel_rfl) (RP x.1 _)) fun _ _ h=>h
abbrev acq:List (Nat×eG):= [(135,jU)]
theorem Uy:ef Tryz.prog (ek acq):=dS j9 <| dX _
def Ck {ρ:Type} (a0:Int) (k:Bool×Unit->Option ρ):Option ρ:=
 (fp a0 0 3).bind fun y1=>k ((!y1.1),())
def vD (a0:Int):=Ck a0 some
theorem Xc {ρ:Type} (a0:_) (k:_->Option ρ):Ck a0 k=(vD a0).bind k:=by
 simp only [vD,Ck,ah,ae]
abbrev Oo:eG:=eJ [.ty (.i .i64)] [.b] fun x=>vD x.1
theorem acr:eh Tryz.prog 210 Oo:=
 dY (Λ:=en []) (fn:=Tryz.f210) eo Uy dT (by kernel_rfl) (ej (by kernel_rfl:_= []) dU) (by kernel_rfl) (fun x=>vD x.1)
  (fun x=>ak (by kernel_rfl) (Xc x.1 _)) fun _ _ h=>h
abbrev t6:List (Nat×eG):= [(210,Oo)]
theorem rA:ef Tryz.prog (ek t6):=dS acr <| dX _
abbrev jl:Code:=fm (fo Tryz.f143) 0
abbrev ff:it:=⟨[(0, .cl (.ro (.i .i64))),(1, .cl (.fc 210)),(7, .cl (.int .i64)),(8, .cl (.int .i64))],[],[],0,19⟩
abbrev ij:List (X×it):= [(.ret,⟨[(4, .cl (.int .i64))],[],[],0,19⟩),(.ext 0,⟨[(4, .cl (.dead))],[],[],0,19⟩)]
def kJ {ρ:Type} (v1:List Int) (v2:Int) (v3:Int) (fn: (((List Int)×Unit×Int×Int×Unit)×(Unit)×(Unit))->Option ρ) (fe: ((Int×Unit)×(Unit)×(Unit))⊕((Unit×Unit)×(Unit)×(Unit))->Option ρ):Option ρ:=
 br (decide (v3 < v2)) (eg (0<=v3) ((v1[v3.toNat]?).bind fun x4=>(vD x4).bind fun y5=>br y5.1 (fe (.inl ((v3,()),(()),(())))) (fn ((v1,(),v2,(IntKind.wrap .i64 (v3+1)),()),(()),(())))) none) (fe (.inr (((),()),(()),(()))))
abbrev i6 {ρ:Type} (s:ff.D) (fn:ff.D->Option ρ) (fe:eX.D ij->Option ρ):Option ρ:=kJ s.1.1 s.1.2.2.1 s.1.2.2.2.1 fn fe
def fq (s:ff.D):Option (ff.D⊕eX.D ij):=i6 s (fun s=>some (.inl s)) (fun e=>some (.inr e))
def jm:ff.D->Option (eX.D ij):=mw fq
theorem Bu {ρ:Type} (s:ff.D) (fn:_->Option ρ) (fe:_):i6 s fn fe=(fq s).bind (Sum.elim fn fe):=by
 simp only [fq,i6,kJ,dZ,ea,an,ah,ae,aA,aB]
abbrev sA:fO:=fR [] [0,1,7,8] ff ij jm
theorem AY (s:ff.D):iz Θ (ek t6) (en []) jl (ff.mk' s) (fM [0,1,7,8] [4] fun x S=>some (x,S))=(fq s).bind (Sum.elim (fun s'=>some (.nor,ff.mk' s')) fun e=>some (eX.e ij e)):=
 ak (by kernel_rfl) (Bu s _ _)
theorem AZ:fk Tryz.prog jl sA:=eA eo rA dT (by kernel_rfl) (fV (by kernel_rfl:_= []) dU) [] [0,1,7,8] [4] ff ij (by kernel_rfl) fq AY jm (ju fq) (ev fq)
def lH {ρ:Type} (a0:List Int) (k:Int×Unit->Option ρ):Option ρ:=
 (jm ((a0,(),(a0.length:Int),0,()),(()),(()))).bind fun e6=>Sum.elim (fun e6_=>k (e6_.1.1,())) (fun _=>k ((-1),())) e6
def iL (a0:List Int):=lH a0 some
theorem C2 {ρ:Type} (a0:_) (k:_->Option ρ):lH a0 k=(iL a0).bind k:=by
 simp only [iL,lH,fU,ah,ae]
abbrev t7:eG:=eJ [.ty (.ls (.i .i64)), .fc 210] [.i .i64] fun x=>iL x.1
theorem Eh:eh Tryz.prog 143 t7:=
 dY (Λ:=en [(fC jl,sA)]) (fn:=Tryz.f143) eo rA dT (by kernel_rfl) (ej (by kernel_rfl:_= [jl]) (eu (q:=fC jl) rfl AZ fun _ _ _=>by kernel_rfl)) (by kernel_rfl) (fun x=>iL x.1)
  (fun x=>ak (by kernel_rfl) (C2 x.1 _)) fun _ _ h=>h
abbrev Cm:List (Nat×eG):= [(143,t7)]
theorem zN:ef Tryz.prog (ek Cm):=dS Eh <| dX _
def kj {ρ:Type} (a0:List Int) (k:Bool×Unit->Option ρ):Option ρ:=
 (iL a0).bind fun y1=>k ((decide (y1.1≥0)),())
def gX (a0:List Int):=kj a0 some
theorem A0 {ρ:Type} (a0:_) (k:_->Option ρ):kj a0 k=(gX a0).bind k:=by
 simp only [gX,kj,ah,ae]
abbrev rB:eG:=eJ [.ty (.ls (.i .i64)), .fc 210] [.b] fun x=>gX x.1
theorem Cn:eh Tryz.prog 61 rB:=
 dY (Λ:=en []) (fn:=Tryz.f61) eo zN dT (by kernel_rfl) (ej (by kernel_rfl:_= []) dU) (by kernel_rfl) (fun x=>gX x.1)
  (fun x=>ak (by kernel_rfl) (A0 x.1 _)) fun _ _ h=>h
abbrev aki:List (Nat×eG):= [(61,rB)]
theorem acs:ef Tryz.prog (ek aki):=dS Cn <| dX _
def Ei {ρ:Type} (a0:List Int) (k:Bool×Unit->Option ρ):Option ρ:=
 br ((a0.length:Int)==5) ((gX a0).bind fun y1=>k ((!y1.1),())) (k (false,()))
def uy (a0:List Int):=Ei a0 some
theorem afF {ρ:Type} (a0:_) (k:_->Option ρ):Ei a0 k=(uy a0).bind k:=by
 simp only [uy,Ei,dZ,ah,ae]
abbrev PS:eG:=eJ [.ty (.ls (.i .i64))] [.b] fun x=>uy x.1
theorem Z4:eh Tryz.prog 136 PS:=
 dY (Λ:=en []) (fn:=Tryz.f136) eo acs dT (by kernel_rfl) (ej (by kernel_rfl:_= []) dU) (by kernel_rfl) (fun x=>uy x.1)
  (fun x=>ak (by kernel_rfl) (afF x.1 _)) fun _ _ h=>h
abbrev amz:List (Nat×eG):= [(135,jU)]
theorem afG:ef Tryz.prog (ek amz):=dS j9 <| dX _
def Gk {ρ:Type} (a0:ir) (k:Bool×Unit->Option ρ):Option ρ:=
 br ((a0.epoch==0)&&((a0.holder==0)&&((a0.ends==0)&&true))) (k (true,())) ((fp a0.epoch 1 20).bind fun y1=>br y1.1 ((fp a0.holder 0 4).bind fun y2=>br y2.1 ((fp a0.ends 1 1049).bind fun y3=>k (y3.1,())) (k (false,()))) (k (false,())))
def qU (a0:ir):=Gk a0 some
theorem aio {ρ:Type} (a0:_) (k:_->Option ρ):Gk a0 k=(qU a0).bind k:=by
 simp only [qU,Gk,dZ,ah,ae]
abbrev Iw:eG:=eJ [.ty (.st .lease)] [.b] fun x=>qU x.1
theorem Nd:eh Tryz.prog 138 Iw:=
 dY (Λ:=en []) (fn:=Tryz.f138) eo afG dT (by kernel_rfl) (ej (by kernel_rfl:_= []) dU) (by kernel_rfl) (fun x=>qU x.1)
  (fun x=>ak (by kernel_rfl) (aio x.1 _)) fun _ _ h=>h
abbrev Z5:List (Nat×eG):= [(135,jU)]
theorem RQ:ef Tryz.prog (ek Z5):=dS j9 <| dX _
def Ao {ρ:Type} (a0:ey) (k:Bool×Unit->Option ρ):Option ρ:=
 (fp a0.rack 0 9).bind fun y1=>br (!y1.1) (k (true,())) ((fp a0.capacity 0 9).bind fun y2=>br (!y2.1) (k (true,())) ((fp a0.load 0 99).bind fun y3=>k ((!y3.1),())))
def tF (a0:ey):=Ao a0 some
theorem Uz {ρ:Type} (a0:_) (k:_->Option ρ):Ao a0 k=(tF a0).bind k:=by
 simp only [tF,Ao,dZ,ah,ae]
abbrev L7:eG:=eJ [.ty (.st .place)] [.b] fun x=>tF x.1
theorem Z6:eh Tryz.prog 212 L7:=
 dY (Λ:=en []) (fn:=Tryz.f212) eo RQ dT (by kernel_rfl) (ej (by kernel_rfl:_= []) dU) (by kernel_rfl) (fun x=>tF x.1)
  (fun x=>ak (by kernel_rfl) (Uz x.1 _)) fun _ _ h=>h
end
end Go.Proofs.YtkcgfceffffmoaaGreat.En
