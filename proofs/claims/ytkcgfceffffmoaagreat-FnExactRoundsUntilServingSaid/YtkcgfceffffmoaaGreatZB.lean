/- Printed by a program: the walk. -/
import Derived.Test.YtkcgfceffffmoaaGreatZB1
namespace Go.Proofs.YtkcgfceffffmoaaGreat.En
open Go
noncomputable section
abbrev rC:List (Nat×eG):= [(212,L7)]
theorem pC:ef Tryz.prog (ek rC):=dS Z6 <| dX _
abbrev iE:Code:=fm (fo Tryz.f266) 0
abbrev eU:it:=⟨[(0, .cl (.ro (.st .place))),(1, .cl (.fc 212)),(7, .cl (.int .i64)),(8, .cl (.int .i64))],[],[],0,19⟩
abbrev gr:List (X×it):= [(.ret,⟨[(4, .cl (.int .i64))],[],[],0,19⟩),(.ext 0,⟨[(4, .cl (.dead))],[],[],0,19⟩)]
def jQ {ρ:Type} (v1:List ey) (v2:Int) (v3:Int) (fn: (((List ey)×Unit×Int×Int×Unit)×(Unit)×(Unit))->Option ρ) (fe: ((Int×Unit)×(Unit)×(Unit))⊕((Unit×Unit)×(Unit)×(Unit))->Option ρ):Option ρ:=
 br (decide (v3 < v2)) (eg (0<=v3) ((v1[v3.toNat]?).bind fun x4=>(tF x4).bind fun y5=>br y5.1 (fe (.inl ((v3,()),(()),(())))) (fn ((v1,(),v2,(IntKind.wrap .i64 (v3+1)),()),(()),(())))) none) (fe (.inr (((),()),(()),(()))))
abbrev iu {ρ:Type} (s:eU.D) (fn:eU.D->Option ρ) (fe:eX.D gr->Option ρ):Option ρ:=jQ s.1.1 s.1.2.2.1 s.1.2.2.2.1 fn fe
def fb (s:eU.D):Option (eU.D⊕eX.D gr):=iu s (fun s=>some (.inl s)) (fun e=>some (.inr e))
def iG:eU.D->Option (eX.D gr):=mw fb
theorem yZ {ρ:Type} (s:eU.D) (fn:_->Option ρ) (fe:_):iu s fn fe=(fb s).bind (Sum.elim fn fe):=by
 simp only [fb,iu,jQ,dZ,ea,an,ah,ae,aA,aB]
abbrev qk:fO:=fR [] [0,1,7,8] eU gr iG
theorem yw (s:eU.D):iz Θ (ek rC) (en []) iE (eU.mk' s) (fM [0,1,7,8] [4] fun x S=>some (x,S))=(fb s).bind (Sum.elim (fun s'=>some (.nor,eU.mk' s')) fun e=>some (eX.e gr e)):=
 ak (by kernel_rfl) (yZ s _ _)
theorem yx:fk Tryz.prog iE qk:=eA eo pC dT (by kernel_rfl) (fV (by kernel_rfl:_= []) dU) [] [0,1,7,8] [4] eU gr (by kernel_rfl) fb yw iG (ju fb) (ev fb)
def km {ρ:Type} (a0:List ey) (k:Int×Unit->Option ρ):Option ρ:=
 (iG ((a0,(),(a0.length:Int),0,()),(()),(()))).bind fun e6=>Sum.elim (fun e6_=>k (e6_.1.1,())) (fun _=>k ((-1),())) e6
def gY (a0:List ey):=km a0 some
theorem A1 {ρ:Type} (a0:_) (k:_->Option ρ):km a0 k=(gY a0).bind k:=by
 simp only [gY,km,fU,ah,ae]
abbrev rD:eG:=eJ [.ty (.ls (.st .place)), .fc 212] [.i .i64] fun x=>gY x.1
theorem Co:eh Tryz.prog 266 rD:=
 dY (Λ:=en [(fC iE,qk)]) (fn:=Tryz.f266) eo pC dT (by kernel_rfl) (ej (by kernel_rfl:_= [iE]) (eu (q:=fC iE) rfl yx fun _ _ _=>by kernel_rfl)) (by kernel_rfl) (fun x=>gY x.1)
  (fun x=>ak (by kernel_rfl) (A1 x.1 _)) fun _ _ h=>h
abbrev zO:List (Nat×eG):= [(266,rD)]
theorem xy:ef Tryz.prog (ek zO):=dS Co <| dX _
def jA {ρ:Type} (a0:List ey) (k:Bool×Unit->Option ρ):Option ρ:=
 (gY a0).bind fun y1=>k ((decide (y1.1≥0)),())
def gn (a0:List ey):=jA a0 some
theorem yy {ρ:Type} (a0:_) (k:_->Option ρ):jA a0 k=(gn a0).bind k:=by
 simp only [gn,jA,ah,ae]
abbrev pD:eG:=eJ [.ty (.ls (.st .place)), .fc 212] [.b] fun x=>gn x.1
theorem zP:eh Tryz.prog 211 pD:=
 dY (Λ:=en []) (fn:=Tryz.f211) eo xy dT (by kernel_rfl) (ej (by kernel_rfl:_= []) dU) (by kernel_rfl) (fun x=>gn x.1)
  (fun x=>ak (by kernel_rfl) (yy x.1 _)) fun _ _ h=>h
abbrev aip:List (Nat×eG):= [(211,pD)]
theorem Z7:ef Tryz.prog (ek aip):=dS zP <| dX _
def Cp {ρ:Type} (a0:List ey) (k:Bool×Unit->Option ρ):Option ρ:=
 br ((a0.length:Int)==5) ((gn a0).bind fun y1=>k ((!y1.1),())) (k (false,()))
def mA (a0:List ey):=Cp a0 some
theorem act {ρ:Type} (a0:_) (k:_->Option ρ):Cp a0 k=(mA a0).bind k:=by
 simp only [mA,Cp,dZ,ah,ae]
abbrev Ej:eG:=eJ [.ty (.ls (.st .place))] [.b] fun x=>mA x.1
theorem G6:eh Tryz.prog 139 Ej:=
 dY (Λ:=en []) (fn:=Tryz.f139) eo Z7 dT (by kernel_rfl) (ej (by kernel_rfl:_= []) dU) (by kernel_rfl) (fun x=>mA x.1)
  (fun x=>ak (by kernel_rfl) (act x.1 _)) fun _ _ h=>h
abbrev aiq:List (Nat×eG):= [(135,jU)]
theorem Z8:ef Tryz.prog (ek aiq):=dS j9 <| dX _
def Fn {ρ:Type} (a0:Op) (k:Bool×Unit->Option ρ):Option ρ:=
 (fp a0.client 0 2).bind fun y1=>br (!y1.1) (k (false,())) ((fp a0.seq 1 99).bind fun y2=>br (!y2.1) (k (false,())) ((fp a0.object 0 2).bind fun y3=>br (!y3.1) (k (false,())) ((fp a0.value 0 9).bind fun y4=>br (!y4.1) (k (false,())) (br (a0.kind==1) (br (a0.old==0) (k (true,())) (br (a0.kind==2) ((fp a0.old 0 9).bind fun y5=>k (y5.1,())) (k (false,())))) (br (a0.kind==2) ((fp a0.old 0 9).bind fun y6=>k (y6.1,())) (k (false,())))))))
def t8 (a0:Op):=Fn a0 some
theorem acu {ρ:Type} (a0:_) (k:_->Option ρ):Fn a0 k=(t8 a0).bind k:=by
 simp only [t8,Fn,dZ,ah,ae]
abbrev V0:eG:=eJ [.ty (.st .op)] [.b] fun x=>t8 x.1
theorem air:eh Tryz.prog 229 V0:=
 dY (Λ:=en []) (fn:=Tryz.f229) eo Z8 dT (by kernel_rfl) (ej (by kernel_rfl:_= []) dU) (by kernel_rfl) (fun x=>t8 x.1)
  (fun x=>ak (by kernel_rfl) (acu x.1 _)) fun _ _ h=>h
abbrev aly:List (Nat×eG):= [(135,jU),(229,V0)]
theorem Z9:ef Tryz.prog (ek aly):=dS j9 <| dS air <| dX _
abbrev Ix:Code:=fm (fo Tryz.f179) 0
abbrev tG:it:=⟨[(0, .cl (.ro (.st .entry))),(5, .cl (.ro (.st .entry))),(6, .cl (.int .i64)),(7, .cl (.int .i64))],[],[],0,41⟩
abbrev FP:List (X×it):= [(.ret,⟨[(0, .cl (.ro (.st .entry))),(2, .cl (.bl))],[],[],0,41⟩),(.ext 0,⟨[(0, .cl (.ro (.st .entry))),(2, .cl (.dead))],[],[],0,41⟩)]
def Jw {ρ:Type} (v1:List ed) (v2:List ed) (v3:Int) (v4:Int) (fn: (((List ed)×(List ed)×Int×Int×Unit)×(Unit)×(Unit))->Option ρ) (fe: (((List ed)×Bool×Unit)×(Unit)×(Unit))⊕(((List ed)×Unit×Unit)×(Unit)×(Unit))->Option ρ):Option ρ:=
 br (decide (v4 < v3)) (eg (0<=v4) ((v2[v4.toNat]?).bind fun x5=>(fp x5.epoch 1 20).bind fun y6=>br (!y6.1) (fe (.inl ((v1,false,()),(()),(())))) (br (decide (v4 > 0)) (eg (0<=(IntKind.wrap .i64 (v4 - 1))) ((v1[(IntKind.wrap .i64 (v4 - 1)).toNat]?).bind fun x7=>br (decide (x5.epoch < x7.epoch)) (fe (.inl ((v1,false,()),(()),(())))) ((t8 x5.op).bind fun y8=>br (!y8.1) (fe (.inl ((v1,false,()),(()),(())))) (fn ((v1,v2,v3,(IntKind.wrap .i64 (v4+1)),()),(()),(()))))) none) ((t8 x5.op).bind fun y9=>br (!y9.1) (fe (.inl ((v1,false,()),(()),(())))) (fn ((v1,v2,v3,(IntKind.wrap .i64 (v4+1)),()),(()),(())))))) none) (fe (.inr ((v1,(),()),(()),(()))))
abbrev Gl {ρ:Type} (s:tG.D) (fn:tG.D->Option ρ) (fe:eX.D FP->Option ρ):Option ρ:=Jw s.1.1 s.1.2.1 s.1.2.2.1 s.1.2.2.2.1 fn fe
def vE (s:tG.D):Option (tG.D⊕eX.D FP):=Gl s (fun s=>some (.inl s)) (fun e=>some (.inr e))
def Iy:tG.D->Option (eX.D FP):=mw vE
theorem ais {ρ:Type} (s:tG.D) (fn:_->Option ρ) (fe:_):Gl s fn fe=(vE s).bind (Sum.elim fn fe):=by
 simp only [vE,Gl,Jw,dZ,ea,an,ah,ae,aA,aB]
abbrev adP:fO:=fR [] [0,5,6,7] tG FP Iy
theorem afH (s:tG.D):iz Θ (ek aly) (en []) Ix (tG.mk' s) (fM [0,5,6,7] [0,2] fun x S=>some (x,S))=(vE s).bind (Sum.elim (fun s'=>some (.nor,tG.mk' s')) fun e=>some (eX.e FP e)):=
 ak (by kernel_rfl) (ais s _ _)
theorem afI:fk Tryz.prog Ix adP:=eA eo Z9 dT (by kernel_rfl) (fV (by kernel_rfl:_= []) dU) [] [0,5,6,7] [0,2] tG FP (by kernel_rfl) vE afH Iy (ju vE) (ev vE)
def RR {ρ:Type} (a0:List ed) (k:Bool×Unit->Option ρ):Option ρ:=
 (Iy ((a0,a0,(a0.length:Int),0,()),(()),(()))).bind fun e10=>Sum.elim (fun e10_=>k (e10_.1.2.1,())) (fun e10_=>k ((decide ((e10_.1.1.length:Int)<=16)),())) e10
def sM (a0:List ed):=RR a0 some
theorem amA {ρ:Type} (a0:_) (k:_->Option ρ):RR a0 k=(sM a0).bind k:=by
 simp only [sM,RR,fU,ah,ae]
abbrev Nf:eG:=eJ [.ty (.ls (.st .entry))] [.b] fun x=>sM x.1
theorem RS:eh Tryz.prog 179 Nf:=
 dY (Λ:=en [(fC Ix,adP)]) (fn:=Tryz.f179) eo Z9 dT (by kernel_rfl) (ej (by kernel_rfl:_= [Ix]) (eu (q:=fC Ix) rfl afI fun _ _ _=>by kernel_rfl)) (by kernel_rfl) (fun x=>sM x.1)
  (fun x=>ak (by kernel_rfl) (amA x.1 _)) fun _ _ h=>h
abbrev RT:List (Nat×eG):= []
theorem Km:ef Tryz.prog (ek RT):=dX _
abbrev xz:Code:=fm (fo Tryz.f219) 0
abbrev ll:it:=⟨[(0, .cl (.ro (.i .i64))),(1, .cl (.ro (.i .i64))),(12, .cl (.int .i64)),(13, .cl (.int .i64))],[],[],0,26⟩
abbrev tH:List (X×it):= [(.ret,⟨[(4, .cl (.bl))],[],[],0,26⟩),(.ext 0,⟨[(4, .cl (.dead))],[],[],0,26⟩)]
def Ap {ρ:Type} (v1:List Int) (v2:List Int) (v3:Int) (v4:Int) (fn: (((List Int)×(List Int)×Int×Int×Unit)×(Unit)×(Unit))->Option ρ) (fe: ((Bool×Unit)×(Unit)×(Unit))⊕((Unit×Unit)×(Unit)×(Unit))->Option ρ):Option ρ:=
 br (decide (v4 < v3)) (eg (0<=v4) ((v1[v4.toNat]?).bind fun x5=>eg (0<=v4) ((v2[v4.toNat]?).bind fun x6=>br (!(x5==x6)) (fe (.inl ((false,()),(()),(())))) (fn ((v1,v2,v3,(IntKind.wrap .i64 (v4+1)),()),(()),(())))) none) none) (fe (.inr (((),()),(()),(()))))
abbrev u6 {ρ:Type} (s:ll.D) (fn:ll.D->Option ρ) (fe:eX.D tH->Option ρ):Option ρ:=Ap s.1.1 s.1.2.1 s.1.2.2.1 s.1.2.2.2.1 fn fe
def l8 (s:ll.D):Option (ll.D⊕eX.D tH):=u6 s (fun s=>some (.inl s)) (fun e=>some (.inr e))
def xA:ll.D->Option (eX.D tH):=mw l8
theorem UA {ρ:Type} (s:ll.D) (fn:_->Option ρ) (fe:_):u6 s fn fe=(l8 s).bind (Sum.elim fn fe):=by
 simp only [l8,u6,Ap,dZ,ea,an,ah,ae,aA,aB]
abbrev L8:fO:=fR [] [0,1,12,13] ll tH xA
theorem RU (s:ll.D):iz Θ (ek RT) (en []) xz (ll.mk' s) (fM [0,1,12,13] [4] fun x S=>some (x,S))=(l8 s).bind (Sum.elim (fun s'=>some (.nor,ll.mk' s')) fun e=>some (eX.e tH e)):=
 ak (by kernel_rfl) (UA s _ _)
theorem RV:fk Tryz.prog xz L8:=eA eo Km dT (by kernel_rfl) (fV (by kernel_rfl:_= []) dU) [] [0,1,12,13] [4] ll tH (by kernel_rfl) l8 RU xA (ju l8) (ev l8)
def DN {ρ:Type} (a0:List Int) (a1:List Int) (k:Bool×Unit->Option ρ):Option ρ:=
 br (!((a0.length:Int)==(a1.length:Int))) (k (false,())) ((xA ((a0,a1,(a0.length:Int),0,()),(()),(()))).bind fun e7=>Sum.elim (fun e7_=>k (e7_.1.1,())) (fun _=>k (true,())) e7)
def yz (a0:List Int) (a1:List Int):=DN a0 a1 some
theorem aaa {ρ:Type} (a0 a1:_) (k:_->Option ρ):DN a0 a1 k=(yz a0 a1).bind k:=by
 simp only [yz,DN,dZ,fU,ah,ae]
abbrev RX:eG:=eJ [.ty (.ls (.i .i64)), .ty (.ls (.i .i64))] [.b] fun x=>yz x.1 x.2.1
theorem afJ:eh Tryz.prog 219 RX:=
 dY (Λ:=en [(fC xz,L8)]) (fn:=Tryz.f219) eo Km dT (by kernel_rfl) (ej (by kernel_rfl:_= [xz]) (eu (q:=fC xz) rfl RV fun _ _ _=>by kernel_rfl)) (by kernel_rfl) (fun x=>yz x.1 x.2.1)
  (fun x=>ak (by kernel_rfl) (aaa x.1 x.2.1 _)) fun _ _ h=>h
abbrev aab:List (Nat×eG):= [(219,RX)]
theorem RY:ef Tryz.prog (ek aab):=dS afJ <| dX _
def Aq {ρ:Type} (a0:List Int) (a1:List Int) (k:Bool×Unit->Option ρ):Option ρ:=
 (yz a0 a1).bind fun y1=>k (y1.1,())
def ow (a0:List Int) (a1:List Int):=Aq a0 a1 some
theorem UB {ρ:Type} (a0 a1:_) (k:_->Option ρ):Aq a0 a1 k=(ow a0 a1).bind k:=by
 simp only [ow,Aq,ah,ae]
abbrev L9:eG:=eJ [.ty (.ls (.i .i64)), .ty (.ls (.i .i64))] [.b] fun x=>ow x.1 x.2.1
theorem aac:eh Tryz.prog 160 L9:=
 dY (Λ:=en []) (fn:=Tryz.f160) eo RY dT (by kernel_rfl) (ej (by kernel_rfl:_= []) dU) (by kernel_rfl) (fun x=>ow x.1 x.2.1)
  (fun x=>ak (by kernel_rfl) (UB x.1 x.2.1 _)) fun _ _ h=>h
abbrev aad:List (Nat×eG):= [(160,L9)]
theorem RZ:ef Tryz.prog (ek aad):=dS aac <| dX _
def Ar {ρ:Type} (a0:dW) (a1:dW) (k:Bool×Unit->Option ρ):Option ρ:=
 br (a0.epoch==a1.epoch) (br (a0.primary==a1.primary) ((ow a0.replicas a1.replicas).bind fun y1=>br y1.1 ((ow a0.witnesses a1.witnesses).bind fun y2=>k (y2.1,())) (k (false,()))) (k (false,()))) (k (false,()))
def l9 (a0:dW) (a1:dW):=Ar a0 a1 some
theorem UC {ρ:Type} (a0 a1:_) (k:_->Option ρ):Ar a0 a1 k=(l9 a0 a1).bind k:=by
 simp only [l9,Ar,dZ,ah,ae]
abbrev Cq:eG:=eJ [.ty (.st .config), .ty (.st .config)] [.b] fun x=>l9 x.1 x.2.1
theorem Gm:eh Tryz.prog 91 Cq:=
 dY (Λ:=en []) (fn:=Tryz.f91) eo RZ dT (by kernel_rfl) (ej (by kernel_rfl:_= []) dU) (by kernel_rfl) (fun x=>l9 x.1 x.2.1)
  (fun x=>ak (by kernel_rfl) (UC x.1 x.2.1 _)) fun _ _ h=>h
abbrev ait:List (Nat×eG):= []
theorem aae:ef Tryz.prog (ek ait):=dX _
def Fo {ρ:Type} (a0:List ed) (k:Int×Unit->Option ρ):Option ρ:=
 br ((a0.length:Int)==0) (k (0,())) (eg (0<=(IntKind.wrap .i64 ((a0.length:Int) - 1))) ((a0[(IntKind.wrap .i64 ((a0.length:Int) - 1)).toNat]?).bind fun x1=>k (x1.epoch,())) none)
def rE (a0:List ed):=Fo a0 some
theorem acv {ρ:Type} (a0:_) (k:_->Option ρ):Fo a0 k=(rE a0).bind k:=by
 simp only [rE,Fo,dZ,ea,an,ah,ae]
abbrev G7:eG:=eJ [.ty (.ls (.st .entry))] [.i .i64] fun x=>rE x.1
theorem Ma:eh Tryz.prog 141 G7:=
 dY (Λ:=en []) (fn:=Tryz.f141) eo aae dT (by kernel_rfl) (ej (by kernel_rfl:_= []) dU) (by kernel_rfl) (fun x=>rE x.1)
  (fun x=>ak (by kernel_rfl) (acv x.1 _)) fun _ _ h=>h
abbrev aoI:List (Nat×eG):= [(176,uZ),(66,xq)]
theorem aiu:ef Tryz.prog (ek aoI):=dS An <| dS Bn <| dX _
def Ng {ρ:Type} (a0:dW) (a1:Int) (k:Int×Unit->Option ρ):Option ρ:=
 (lA a0).bind fun y1=>br (!y1.1) (k (0,())) (br (a1==a0.primary) (k (1,())) ((kC a0.replicas a1).bind fun y2=>br y2.1 (k (2,())) ((kC a0.witnesses a1).bind fun y3=>br y3.1 (k (3,())) (k (0,())))))
def Cr (a0:dW) (a1:Int):=Ng a0 a1 some
theorem akj {ρ:Type} (a0 a1:_) (k:_->Option ρ):Ng a0 a1 k=(Cr a0 a1).bind k:=by
 simp only [Cr,Ng,dZ,ah,ae]
abbrev R0:eG:=eJ [.ty (.st .config), .ty (.i .i64)] [.i .i64] fun x=>Cr x.1 x.2.1
theorem aaf:eh Tryz.prog 178 R0:=
 dY (Λ:=en []) (fn:=Tryz.f178) eo aiu dT (by kernel_rfl) (ej (by kernel_rfl:_= []) dU) (by kernel_rfl) (fun x=>Cr x.1 x.2.1)
  (fun x=>ak (by kernel_rfl) (akj x.1 x.2.1 _)) fun _ _ h=>h
abbrev aoJ:List (Nat×eG):= [(179,Nf),(135,jU)]
theorem aiv:ef Tryz.prog (ek aoJ):=dS RS <| dS j9 <| dX _
def Iz {ρ:Type} (a0:Int) (a1:List ed) (k:Bool×Unit->Option ρ):Option ρ:=
 (sM a1).bind fun y1=>br y1.1 (br (decide ((a1.length:Int)<=3)) ((fp a0 0 (IntKind.wrap .i64 (16 - (a1.length:Int)))).bind fun y2=>br y2.1 (br (a0==0) (k (true,())) (k (((a1.length:Int)==3),()))) (k (false,()))) (k (false,()))) (k (false,()))
def Ct (a0:Int) (a1:List ed):=Iz a0 a1 some
theorem akk {ρ:Type} (a0 a1:_) (k:_->Option ρ):Iz a0 a1 k=(Ct a0 a1).bind k:=by
 simp only [Ct,Iz,dZ,ah,ae]
abbrev aag:eG:=eJ [.ty (.i .i64), .ty (.ls (.st .entry))] [.b] fun x=>Ct x.1 x.2.1
theorem aiw:eh Tryz.prog 213 aag:=
 dY (Λ:=en []) (fn:=Tryz.f213) eo aiv dT (by kernel_rfl) (ej (by kernel_rfl:_= []) dU) (by kernel_rfl) (fun x=>Ct x.1 x.2.1)
  (fun x=>ak (by kernel_rfl) (akk x.1 x.2.1 _)) fun _ _ h=>h
abbrev Xd:List (Nat×eG):= [(135,jU),(179,Nf),(91,Cq),(141,G7),(178,R0),(213,aag)]
theorem PT:ef Tryz.prog (ek Xd):=dS j9 <| dS RS <| dS Gm <| dS Ma <| dS aaf <| dS aiw <| dX _
def yA {ρ:Type} (a0:eb) (a1:Int) (k:Bool×Unit->Option ρ):Option ρ:=
 (fp a0.version 1 2).bind fun y1=>br (!y1.1) (k (false,())) ((fp a0.epoch 0 20).bind fun y2=>br (!y2.1) (k (false,())) ((sM a0.log).bind fun y3=>br (!y3.1) (k (false,())) ((sM a0.learned).bind fun y4=>br (!y4.1) (k (false,())) ((fp a0.first 0 16).bind fun y5=>br (!y5.1) (k (false,())) (br (decide ((IntKind.wrap .i64 (a0.first+(a0.log.length:Int))) > 16)) (k (false,())) ((fp a0.commit 0 (IntKind.wrap .i64 (a0.first+(a0.log.length:Int)))).bind fun y6=>br (!y6.1) (k (false,())) ((l9 a0.config (⟨0,0,([]:List Int),([]:List Int)⟩:dW)).bind fun y7=>br y7.1 (br (a0.first==0) (br (a0.commit==0) (k (((a0.log.length:Int)==0),())) (k (false,()))) (k (false,()))) (br (!a0.intact) (k (false,())) (br (decide (a0.epoch < a0.config.epoch)) (k (false,())) ((rE a0.log).bind fun y8=>br (decide (y8.1 > a0.config.epoch)) (k (false,())) ((Cr a0.config a1).bind fun y9=>br (y9.1==1) (k ((a0.first==0),())) (br (y9.1==2) (k ((a0.first==0),())) (br (y9.1==3) ((Ct a0.first a0.log).bind fun y10=>k (y10.1,())) (k (false,())))))))))))))))
def nw (a0:eb) (a1:Int):=yA a0 a1 some
theorem R1 {ρ:Type} (a0 a1:_) (k:_->Option ρ):yA a0 a1 k=(nw a0 a1).bind k:=by
 simp only [nw,yA,dZ,ah,ae]
abbrev EC:eG:=eJ [.ty (.st .server), .ty (.i .i64)] [.b] fun x=>nw x.1 x.2.1
theorem Kn:eh Tryz.prog 140 EC:=
 dY (Λ:=en []) (fn:=Tryz.f140) eo PT dT (by kernel_rfl) (ej (by kernel_rfl:_= []) dU) (by kernel_rfl) (fun x=>nw x.1 x.2.1)
  (fun x=>ak (by kernel_rfl) (R1 x.1 x.2.1 _)) fun _ _ h=>h
abbrev IA:List (Nat×eG):= [(135,jU),(136,PS),(137,zM),(138,Iw),(139,Ej),(140,EC),(141,G7),(91,Cq),(142,Jv)]
theorem EW:ef Tryz.prog (ek IA):=dS j9 <| dS Z4 <| dS DM <| dS Nd <| dS G6 <| dS Kn <| dS Ma <| dS Gm <| dS PQ <| dX _
abbrev qm:Code:=fm (fo Tryz.f57) 0
abbrev iH:it:=⟨[(1, .cl (.ptr 0 0)),(57, .cl (.ro (.st .server))),(58, .cl (.int .i64)),(59, .cl (.int .i64))],[[.int .i64, .ro (.st .server), .ro (.i .i64), .ro (.st .config), .int .i64, .int .i64, .int .i64, .int .i64, .int .i64, .ro (.st .place)]],[],0,118⟩
abbrev nQ:List (X×it):= [(.ret,⟨[(2, .cl (.bl))],[],[],0,118⟩),(.ext 0,⟨[(2, .cl (.dead))],[],[],0,118⟩)]
def sN {ρ:Type} (v7:List eb) (v8:Int) (v9:Int) (v10:Int) (v11:List eb) (v12:List Int) (v13:List dW) (v14:Int) (v15:Int) (v16:Int) (v17:Int) (v18:Int) (v19:List ey) (fn: ((Unit×(List eb)×Int×Int×Unit)×((Int×(List eb)×(List Int)×(List dW)×Int×Int×Int×Int×Int×(List ey)×Unit)×Unit)×(Unit))->Option ρ) (fe: ((Bool×Unit)×(Unit)×(Unit))⊕((Unit×Unit)×(Unit)×(Unit))->Option ρ):Option ρ:=
 br (decide (v9 < v8)) (eg (0<=v9) ((v7[v9.toNat]?).bind fun x20=>(nw x20 v9).bind fun y21=>br (!y21.1) (fe (.inl ((false,()),(()),(())))) (br (decide (x20.epoch > (v13.length:Int))) (fe (.inl ((false,()),(()),(())))) ((rE x20.learned).bind fun y22=>br (decide (y22.1 > v14)) (fe (.inl ((false,()),(()),(())))) ((l9 x20.config (⟨0,0,([]:List Int),([]:List Int)⟩:dW)).bind fun y23=>br y23.1 (fn (((),v7,v8,(IntKind.wrap .i64 (v9+1)),()),((v10,v11,v12,v13,v14,v15,v16,v17,v18,v19,()),()),(()))) ((qj (⟨v13,v14⟩:ei) x20.config.epoch).bind fun y24=>br (!y24.2.1) (fe (.inl ((false,()),(()),(())))) ((l9 y24.1 x20.config).bind fun y25=>br (!y25.1) (fe (.inl ((false,()),(()),(())))) (br (decide (x20.config.epoch > v14)) (fe (.inl ((false,()),(()),(())))) (fn (((),v7,v8,(IntKind.wrap .i64 (v9+1)),()),((v10,v11,v12,v13,v14,v15,v16,v17,v18,v19,()),()),(())))))))))) none) (fe (.inr (((),()),(()),(()))))
abbrev pe {ρ:Type} (s:iH.D) (fn:iH.D->Option ρ) (fe:eX.D nQ->Option ρ):Option ρ:=sN s.1.2.1 s.1.2.2.1 s.1.2.2.2.1 s.2.1.1.1 s.2.1.1.2.1 s.2.1.1.2.2.1 s.2.1.1.2.2.2.1 s.2.1.1.2.2.2.2.1 s.2.1.1.2.2.2.2.2.1 s.2.1.1.2.2.2.2.2.2.1 s.2.1.1.2.2.2.2.2.2.2.1 s.2.1.1.2.2.2.2.2.2.2.2.1 s.2.1.1.2.2.2.2.2.2.2.2.2.1 fn fe
def jf (s:iH.D):Option (iH.D⊕eX.D nQ):=pe s (fun s=>some (.inl s)) (fun e=>some (.inr e))
def qn:iH.D->Option (eX.D nQ):=mw jf
theorem Mb {ρ:Type} (s:iH.D) (fn:_->Option ρ) (fe:_):pe s fn fe=(jf s).bind (Sum.elim fn fe):=by
 simp only [jf,pe,sN,dZ,ea,an,ah,ae,aA,aB]
abbrev Gn:fO:=fR [] [1,57,58,59] iH nQ qn
theorem KR (s:iH.D):iz Θ (ek IA) (en []) qm (iH.mk' s) (fM [1,57,58,59] [2] fun x S=>some (x,S))=(jf s).bind (Sum.elim (fun s'=>some (.nor,iH.mk' s')) fun e=>some (eX.e nQ e)):=
 ak (by kernel_rfl) (Mb s _ _)
theorem KS:fk Tryz.prog qm Gn:=eA eo EW dT (by kernel_rfl) (fV (by kernel_rfl:_= []) dU) [] [1,57,58,59] [2] iH nQ (by kernel_rfl) jf KR qn (ju jf) (ev jf)
def wo {ρ:Type} (a0:dV) (k:Bool×Unit->Option ρ):Option ρ:=
 (fp a0.now 0 999).bind fun y1=>br (!y1.1) (k (false,())) (br (!((a0.servers.length:Int)==5)) (k (false,())) ((uy a0.sides).bind fun y2=>br (!y2.1) (k (false,())) ((mP a0.master).bind fun y3=>br (!y3.1) (k (false,())) ((qU a0.lease).bind fun y4=>br (!y4.1) (k (false,())) ((mA a0.places).bind fun y5=>br (!y5.1) (k (false,())) ((fp a0.masterUp 0 3).bind fun y6=>br (!y6.1) (k (false,())) (br (decide (a0.lease.epoch > a0.master.activated)) (k (false,())) ((qn (((),a0.servers,(a0.servers.length:Int),0,()),((a0.now,a0.servers,a0.sides,a0.master.configs,a0.master.activated,a0.masterUp,a0.lease.epoch,a0.lease.holder,a0.lease.ends,a0.places,()),()),(()))).bind fun e26=>Sum.elim (fun e26_=>k (e26_.1.1,())) (fun _=>k (true,())) e26))))))))
def gZ (a0:dV):=wo a0 some
theorem PU {ρ:Type} (a0:_) (k:_->Option ρ):wo a0 k=(gZ a0).bind k:=by
 simp only [gZ,wo,dZ,fU,ah,ae]
abbrev lI:eG:=eJ [.ty (.st .cluster)] [.b] fun x=>gZ x.1
theorem mB:eh Tryz.prog 57 lI:=
 dY (Λ:=en [(fC qm,Gn)]) (fn:=Tryz.f57) eo EW dT (by kernel_rfl) (ej (by kernel_rfl:_= [qm]) (eu (q:=fC qm) rfl KS fun _ _ _=>by kernel_rfl)) (by kernel_rfl) (fun x=>gZ x.1)
  (fun x=>ak (by kernel_rfl) (PU x.1 _)) fun _ _ h=>h
abbrev acw:List (Nat×eG):= [(57,lI),(135,jU)]
theorem UD:ef Tryz.prog (ek acw):=dS mB <| dS j9 <| dX _
def ox {ρ:Type} (a0:dV) (a1:Int) (k:Bool×Unit->Option ρ):Option ρ:=
 (gZ a0).bind fun y1=>br y1.1 ((fp a1 0 4).bind fun y2=>k (y2.1,())) (k (false,()))
def iR (a0:dV) (a1:Int):=ox a0 a1 some
theorem Xe {ρ:Type} (a0 a1:_) (k:_->Option ρ):ox a0 a1 k=(iR a0 a1).bind k:=by
 simp only [iR,ox,dZ,ah,ae]
abbrev vF:eG:=eJ [.ty (.st .cluster), .ty (.i .i64)] [.b] fun x=>iR x.1 x.2.1
theorem zQ:eh Tryz.prog 156 vF:=
 dY (Λ:=en []) (fn:=Tryz.f156) eo UD dT (by kernel_rfl) (ej (by kernel_rfl:_= []) dU) (by kernel_rfl) (fun x=>iR x.1 x.2.1)
  (fun x=>ak (by kernel_rfl) (Xe x.1 x.2.1 _)) fun _ _ h=>h
abbrev aah:List (Nat×eG):= [(140,EC),(178,R0)]
theorem R2:ef Tryz.prog (ek aah):=dS Kn <| dS aaf <| dX _
def Au {ρ:Type} (a0:eb) (a1:Int) (k:Bool×Unit->Option ρ):Option ρ:=
 (nw a0 a1).bind fun y1=>br y1.1 (br a0.up ((Cr a0.config a1).bind fun y2=>br (y2.1==1) (k ((a0.epoch==a0.config.epoch),())) (k (false,()))) (k (false,()))) (k (false,()))
def qo (a0:eb) (a1:Int):=Au a0 a1 some
theorem UE {ρ:Type} (a0 a1:_) (k:_->Option ρ):Au a0 a1 k=(qo a0 a1).bind k:=by
 simp only [qo,Au,dZ,ah,ae]
abbrev Mc:eG:=eJ [.ty (.st .server), .ty (.i .i64)] [.b] fun x=>qo x.1 x.2.1
theorem aai:eh Tryz.prog 256 Mc:=
 dY (Λ:=en []) (fn:=Tryz.f256) eo R2 dT (by kernel_rfl) (ej (by kernel_rfl:_= []) dU) (by kernel_rfl) (fun x=>qo x.1 x.2.1)
  (fun x=>ak (by kernel_rfl) (UE x.1 x.2.1 _)) fun _ _ h=>h
abbrev acx:List (Nat×eG):= [(156,vF),(256,Mc)]
theorem UF:ef Tryz.prog (ek acx):=dS zQ <| dS aai <| dX _
def tI {ρ:Type} (a0:dV) (a1:Int) (k:Bool×Unit->Option ρ):Option ρ:=
 (iR a0 a1).bind fun y1=>br y1.1 (eg (0<=a1) ((a0.servers[a1.toNat]?).bind fun x2=>(qo x2 a1).bind fun y3=>k (y3.1,())) none) (k (false,()))
def ma (a0:dV) (a1:Int):=tI a0 a1 some
theorem Xf {ρ:Type} (a0 a1:_) (k:_->Option ρ):tI a0 a1 k=(ma a0 a1).bind k:=by
 simp only [ma,tI,dZ,ea,an,ah,ae]
abbrev HG:eG:=eJ [.ty (.st .cluster), .ty (.i .i64)] [.b] fun x=>ma x.1 x.2.1
theorem Oq:eh Tryz.prog 198 HG:=
 dY (Λ:=en []) (fn:=Tryz.f198) eo UF dT (by kernel_rfl) (ej (by kernel_rfl:_= []) dU) (by kernel_rfl) (fun x=>ma x.1 x.2.1)
  (fun x=>ak (by kernel_rfl) (Xf x.1 x.2.1 _)) fun _ _ h=>h
abbrev aaj:List (Nat×eG):= []
theorem R3:ef Tryz.prog (ek aaj):=dX _
def Av {ρ:Type} (a1:Int) (k: (List Int)×Unit->Option ρ):Option ρ:=
 br (decide (a1 < 0)) (none) (br (decide ((IntKind.wrap .i64 (a1 - (IntKind.wrap .i64 (0 - 0)))) > 0)) (eg ((0:Int)=0/\(0:Int)=0) (eg (0 < (IntKind.wrap .i64 (a1 - (IntKind.wrap .i64 (0 - 0))))/\(IntKind.wrap .i64 (a1 - (IntKind.wrap .i64 (0 - 0))))*((8:Nat):Int)<=2 ^ 40) (eg (0<=(0:Int)/\(0:Int)<=(0:Int)/\(0:Int)<=(((IntKind.wrap .i64 (a1 - (IntKind.wrap .i64 (0 - 0)))).toNat:Nat):Int)) (eg ((0+(0:Int).toNat)=0/\((0:Int).toNat - (0:Int).toNat)<=(List.replicate (IntKind.wrap .i64 (a1 - (IntKind.wrap .i64 (0 - 0)))).toNat (0:Int)).length) (k (((List.replicate (IntKind.wrap .i64 (a1 - (IntKind.wrap .i64 (0 - 0)))).toNat (0:Int)).take ((0:Int).toNat - (0:Int).toNat)),())) none) none) none) none) (k (([]:List Int),())))
def qp (a1:Int):=Av a1 some
theorem UG {ρ:Type} (a1:_) (k:_->Option ρ):Av a1 k=(qp a1).bind k:=by
 simp only [qp,Av,dZ,ea,an,ae]
abbrev Md:eG:=eJ [.nl, .ty (.i .i64)] [.ls (.i .i64)] fun x=>qp x.2.1
theorem aak:eh Tryz.prog 149 Md:=
 dY (Λ:=en []) (fn:=Tryz.f149) eo R3 dT (by kernel_rfl) (ej (by kernel_rfl:_= []) dU) (by kernel_rfl) (fun x=>qp x.2.1)
  (fun x=>ak (by kernel_rfl) (UG x.2.1 _)) fun _ _ h=>h
abbrev HH:List (Nat×eG):= [(149,Md)]
theorem Dl:ef Tryz.prog (ek HH):=dS aak <| dX _
abbrev u7:Code:=fm (fo Tryz.f72) 0
abbrev tJ:Code:=fm (fo Tryz.f72) 1
abbrev kb:it:=⟨[(0, .cl (.ro (.ls (.i .i64)))),(3, .cl (.int .i64)),(9, .cl (.ro (.ls (.i .i64)))),(10, .cl (.int .i64)),(11, .cl (.int .i64))],[],[],0,36⟩
abbrev qV:List (X×it):= [(.ext 0,⟨[(0, .cl (.ro (.ls (.i .i64)))),(3, .cl (.int .i64))],[],[],0,36⟩)]
def yB {ρ:Type} (v1:List (List Int)) (v2:Int) (v3:List (List Int)) (v4:Int) (v5:Int) (fn: (((List (List Int))×Int×(List (List Int))×Int×Int×Unit)×(Unit)×(Unit))->Option ρ) (fe: (((List (List Int))×Int×Unit)×(Unit)×(Unit))->Option ρ):Option ρ:=
 br (decide (v5 < v4)) (eg (0<=v5) ((v3[v5.toNat]?).bind fun x6=>br (decide ((IntKind.wrap .i64 (v2+(x6.length:Int))) < 0)) (none) (fn ((v1,(IntKind.wrap .i64 (v2+(x6.length:Int))),v3,v4,(IntKind.wrap .i64 (v5+1)),()),(()),(())))) none) (fe ((v1,v2,()),(()),(())))
abbrev tK {ρ:Type} (s:kb.D) (fn:kb.D->Option ρ) (fe:eX.D qV->Option ρ):Option ρ:=yB s.1.1 s.1.2.1 s.1.2.2.1 s.1.2.2.2.1 s.1.2.2.2.2.1 fn fe
def lC (s:kb.D):Option (kb.D⊕eX.D qV):=tK s (fun s=>some (.inl s)) (fun e=>some (.inr e))
def Aw:kb.D->Option (eX.D qV):=mw lC
theorem R4 {ρ:Type} (s:kb.D) (fn:_->Option ρ) (fe:_):tK s fn fe=(lC s).bind (Sum.elim fn fe):=by
 simp only [lC,tK,yB,dZ,ea,an,ah,ae,aA,aB]
abbrev Ko:fO:=fR [] [0,3,9,10,11] kb qV Aw
theorem PV (s:kb.D):iz Θ (ek HH) (en []) u7 (kb.mk' s) (fM [0,3,9,10,11] [0,3] fun x S=>some (x,S))=(lC s).bind (Sum.elim (fun s'=>some (.nor,kb.mk' s')) fun e=>some (eX.e qV e)):=
 ak (by kernel_rfl) (R4 s _ _)
theorem PW:fk Tryz.prog u7 Ko:=eA eo Dl dT (by kernel_rfl) (fV (by kernel_rfl:_= []) dU) [] [0,3,9,10,11] [0,3] kb qV (by kernel_rfl) lC PV Aw (ju lC) (ev lC)
abbrev jN:it:=⟨[(6, .cl (.own 0 (.i .i64))),(25, .cl (.ro (.ls (.i .i64)))),(26, .cl (.int .i64)),(27, .cl (.int .i64))],[],[.i .i64],0,36⟩
abbrev pW:List (X×it):= [(.ext 2,⟨[(6, .cl (.own 0 (.i .i64)))],[],[.i .i64],0,36⟩)]
def wq {ρ:Type} (v9:List Int) (v10:List (List Int)) (v11:Int) (v12:Int) (fn: ((Unit×(List (List Int))×Int×Int×Unit)×(Unit)×((List Int)×Unit))->Option ρ) (fe: ((Unit×Unit)×(Unit)×((List Int)×Unit))->Option ρ):Option ρ:=
 br (decide (v12 < v11)) (eg (0<=v12) ((v10[v12.toNat]?).bind fun x13=>eg ((v9++x13).length*8<=2 ^ 40) (fn (((),v10,v11,(IntKind.wrap .i64 (v12+1)),()),(()),((v9++x13),()))) none) none) (fe (((),()),(()),(v9,())))
abbrev rF {ρ:Type} (s:jN.D) (fn:jN.D->Option ρ) (fe:eX.D pW->Option ρ):Option ρ:=wq s.2.2.1 s.1.2.1 s.1.2.2.1 s.1.2.2.2.1 fn fe
def kz (s:jN.D):Option (jN.D⊕eX.D pW):=rF s (fun s=>some (.inl s)) (fun e=>some (.inr e))
def yC:jN.D->Option (eX.D pW):=mw kz
theorem PX {ρ:Type} (s:jN.D) (fn:_->Option ρ) (fe:_):rF s fn fe=(kz s).bind (Sum.elim fn fe):=by
 simp only [kz,rF,wq,dZ,ea,an,ah,ae,aA,aB]
abbrev IB:fO:=fR [] [6,25,26,27] jN pW yC
theorem NC (s:jN.D):iz Θ (ek HH) (en []) tJ (jN.mk' s) (fM [6,25,26,27] [6] fun x S=>some (x,S))=(kz s).bind (Sum.elim (fun s'=>some (.nor,jN.mk' s')) fun e=>some (eX.e pW e)):=
 ak (by kernel_rfl) (PX s _ _)
theorem ND:fk Tryz.prog tJ IB:=eA eo Dl dT (by kernel_rfl) (fV (by kernel_rfl:_= []) dU) [] [6,25,26,27] [6] jN pW (by kernel_rfl) kz NC yC (ju kz) (ev kz)
def Cu {ρ:Type} (a0:List (List Int)) (k: (List Int)×Unit->Option ρ):Option ρ:=
 (Aw ((a0,0,a0,(a0.length:Int),0,()),(()),(()))).bind fun e7=>(qp e7.1.2.1).bind fun y8=>(yC (((),e7.1.1,(e7.1.1.length:Int),0,()),(()),(y8.1,()))).bind fun e14=>k (e14.2.2.1,())
def sb (a0:List (List Int)):=Cu a0 some
theorem Xg {ρ:Type} (a0:_) (k:_->Option ρ):Cu a0 k=(sb a0).bind k:=by
 simp only [sb,Cu,ah,ae]
abbrev Ot:eG:=eJ [.ty (.ls (.ls (.i .i64)))] [.ls (.i .i64)] fun x=>sb x.1
theorem acy:eh Tryz.prog 72 Ot:=
 dY (Λ:=en [(fC u7,Ko),(fC tJ,IB)]) (fn:=Tryz.f72) eo Dl dT (by kernel_rfl) (ej (by kernel_rfl:_= [u7,tJ]) (H2 (eu (q:=fC u7) rfl PW fun _ _ _=>by kernel_rfl) (eu (q:=fC tJ) rfl ND fun _ _ _=>by kernel_rfl))) (by kernel_rfl) (fun x=>sb x.1)
  (fun x=>ak (by kernel_rfl) (Xg x.1 _)) fun _ _ h=>h
abbrev aal:List (Nat×eG):= [(72,Ot),(150,G5)]
theorem R5:ef Tryz.prog (ek aal):=dS acy <| dS L6 <| dX _
def Ax {ρ:Type} (a0:List Int) (a1:List Int) (k: (List Int)×Unit->Option ρ):Option ρ:=
 (sb ([a0,a1]:List (List Int))).bind fun y1=>(ot y1.1).bind fun y2=>k (y2.1,())
def oy (a0:List Int) (a1:List Int):=Ax a0 a1 some
theorem UH {ρ:Type} (a0 a1:_) (k:_->Option ρ):Ax a0 a1 k=(oy a0 a1).bind k:=by
 simp only [oy,Ax,ah,ae]
abbrev Gp:eG:=eJ [.ty (.ls (.i .i64)), .ty (.ls (.i .i64))] [.ls (.i .i64)] fun x=>oy x.1 x.2.1
theorem Me:eh Tryz.prog 257 Gp:=
 dY (Λ:=en []) (fn:=Tryz.f257) eo R5 dT (by kernel_rfl) (ej (by kernel_rfl:_= []) dU) (by kernel_rfl) (fun x=>oy x.1 x.2.1)
  (fun x=>ak (by kernel_rfl) (UH x.1 x.2.1 _)) fun _ _ h=>h
abbrev aix:List (Nat×eG):= [(176,uZ),(257,Gp)]
theorem aam:ef Tryz.prog (ek aix):=dS An <| dS Me <| dX _
def Fp {ρ:Type} (a0:dW) (k: (List Int)×Unit->Option ρ):Option ρ:=
 (lA a0).bind fun y1=>br (!y1.1) (k (([]:List Int),())) ((oy a0.replicas a0.witnesses).bind fun y2=>k (y2.1,()))
def rG (a0:dW):=Fp a0 some
theorem acz {ρ:Type} (a0:_) (k:_->Option ρ):Fp a0 k=(rG a0).bind k:=by
 simp only [rG,Fp,dZ,ah,ae]
abbrev G8:eG:=eJ [.ty (.st .config)] [.ls (.i .i64)] fun x=>rG x.1
theorem Mf:eh Tryz.prog 199 G8:=
 dY (Λ:=en []) (fn:=Tryz.f199) eo aam dT (by kernel_rfl) (ej (by kernel_rfl:_= []) dU) (by kernel_rfl) (fun x=>rG x.1)
  (fun x=>ak (by kernel_rfl) (acz x.1 _)) fun _ _ h=>h
abbrev akl:List (Nat×eG):= [(136,PS),(135,jU)]
theorem acA:ef Tryz.prog (ek akl):=dS Z4 <| dS j9 <| dX _
def G9 {ρ:Type} (a0:List Int) (a1:Int) (a2:Int) (k:Bool×Unit->Option ρ):Option ρ:=
 (uy a0).bind fun y1=>br y1.1 ((fp a1 0 4).bind fun y2=>br y2.1 ((fp a2 0 4).bind fun y3=>br y3.1 (eg (0<=a1) ((a0[a1.toNat]?).bind fun x4=>eg (0<=a2) ((a0[a2.toNat]?).bind fun x5=>k ((x4==x5),())) none) none) (k (false,()))) (k (false,()))) (k (false,()))
def sd (a0:List Int) (a1:Int) (a2:Int):=G9 a0 a1 a2 some
theorem afK {ρ:Type} (a0 a1 a2:_) (k:_->Option ρ):G9 a0 a1 a2 k=(sd a0 a1 a2).bind k:=by
 simp only [sd,G9,dZ,ea,an,ah,ae]
abbrev Gq:eG:=eJ [.ty (.ls (.i .i64)), .ty (.i .i64), .ty (.i .i64)] [.b] fun x=>sd x.1 x.2.1 x.2.2.1
theorem Jx:eh Tryz.prog 258 Gq:=
 dY (Λ:=en []) (fn:=Tryz.f258) eo acA dT (by kernel_rfl) (ej (by kernel_rfl:_= []) dU) (by kernel_rfl) (fun x=>sd x.1 x.2.1 x.2.2.1)
  (fun x=>ak (by kernel_rfl) (afK x.1 x.2.1 x.2.2.1 _)) fun _ _ h=>h
abbrev aqi:List (Nat×eG):= [(258,Gq),(91,Cq)]
theorem akm:ef Tryz.prog (ek aqi):=dS Jx <| dS Gm <| dX _
def R6 {ρ:Type} (a0:dV) (a1:Int) (a2:Int) (k:Bool×Unit->Option ρ):Option ρ:=
 eg (0<=a1) ((a0.servers[a1.toNat]?).bind fun x1=>eg (0<=a2) ((a0.servers[a2.toNat]?).bind fun x2=>(sd a0.sides a1 a2).bind fun y3=>br y3.1 (br x2.up (br (x2.epoch==x1.epoch) ((l9 x2.config x1.config).bind fun y4=>br y4.1 (k ((decide (x2.commit<=(x1.log.length:Int))),())) (k (false,()))) (k (false,()))) (k (false,()))) (k (false,()))) none) none
def Jy (a0:dV) (a1:Int) (a2:Int):=R6 a0 a1 a2 some
theorem amB {ρ:Type} (a0 a1 a2:_) (k:_->Option ρ):R6 a0 a1 a2 k=(Jy a0 a1 a2).bind k:=by
 simp only [Jy,R6,dZ,ea,an,ah,ae]
abbrev alz:eG:=eJ [.ty (.st .cluster), .ty (.i .i64), .ty (.i .i64)] [.b] fun x=>Jy x.1 x.2.1 x.2.2.1
theorem aqj:eh Tryz.prog 201 alz:=
 dY (Λ:=en []) (fn:=Tryz.f201) eo akm dT (by kernel_rfl) (ej (by kernel_rfl:_= []) dU) (by kernel_rfl) (fun x=>Jy x.1 x.2.1 x.2.2.1)
  (fun x=>ak (by kernel_rfl) (amB x.1 x.2.1 x.2.2.1 _)) fun _ _ h=>h
abbrev NE:List (Nat×eG):= [(201,alz)]
theorem Jz:ef Tryz.prog (ek NE):=dS aqj <| dX _
def rH {ρ:Type} (a0:Int) (a1:dV) (a2:dW) (k:Bool×Unit->Option ρ):Option ρ:=
 (Jy a1 a2.primary a0).bind fun y1=>k ((!y1.1),())
def nr (a0:Int) (a1:dV) (a2:dW):=rH a0 a1 a2 some
theorem KT {ρ:Type} (a0 a1 a2:_) (k:_->Option ρ):rH a0 a1 a2 k=(nr a0 a1 a2).bind k:=by
 simp only [nr,rH,ah,ae]
abbrev EX:eG:=eJ [.ty (.i .i64), .pr (.st .cluster), .pr (.st .config)] [.b] fun x=>nr x.1 x.2.1 x.2.2.1
theorem NF:eh Tryz.prog 200 EX:=
 dY (Λ:=en []) (fn:=Tryz.f200) eo Jz dT (by kernel_rfl) (ej (by kernel_rfl:_= []) dU) (by kernel_rfl) (fun x=>nr x.1 x.2.1 x.2.2.1)
  (fun x=>ak (by kernel_rfl) (KT x.1 x.2.1 x.2.2.1 _)) fun _ _ h=>h
abbrev pE:List (Nat×eG):= [(200,EX)]
theorem oz:ef Tryz.prog (ek pE):=dS NF <| dX _
abbrev hO:Code:=fm (fo Tryz.f143) 0
abbrev eM:it:=⟨[(0, .cl (.ro (.i .i64))),(1, .fn 200 [.pro (.st .cluster), .pro (.st .config)]),(7, .cl (.int .i64)),(8, .cl (.int .i64))],[],[],0,19⟩
abbrev ga:List (X×it):= [(.ret,⟨[(4, .cl (.int .i64))],[],[],0,19⟩),(.ext 0,⟨[(4, .cl (.dead))],[],[],0,19⟩)]
def i7 {ρ:Type} (v1:List Int) (v2:dV) (v3:dW) (v4:Int) (v5:Int) (fn: (((List Int)×(dV×dW×Unit)×Int×Int×Unit)×(Unit)×(Unit))->Option ρ) (fe: ((Int×Unit)×(Unit)×(Unit))⊕((Unit×Unit)×(Unit)×(Unit))->Option ρ):Option ρ:=
 br (decide (v5 < v4)) (eg (0<=v5) ((v1[v5.toNat]?).bind fun x6=>(nr x6 v2 v3).bind fun y7=>br y7.1 (fe (.inl ((v5,()),(()),(())))) (fn ((v1,(v2,v3,()),v4,(IntKind.wrap .i64 (v5+1)),()),(()),(())))) none) (fe (.inr (((),()),(()),(()))))
abbrev gF {ρ:Type} (s:eM.D) (fn:eM.D->Option ρ) (fe:eX.D ga->Option ρ):Option ρ:=i7 s.1.1 s.1.2.1.1 s.1.2.1.2.1 s.1.2.2.1 s.1.2.2.2.1 fn fe
def eS (s:eM.D):Option (eM.D⊕eX.D ga):=gF s (fun s=>some (.inl s)) (fun e=>some (.inr e))
def hQ:eM.D->Option (eX.D ga):=mw eS
theorem wA {ρ:Type} (s:eM.D) (fn:_->Option ρ) (fe:_):gF s fn fe=(eS s).bind (Sum.elim fn fe):=by
 simp only [eS,gF,i7,dZ,ea,an,ah,ae,aA,aB]
abbrev oO:fO:=fR [] [0,1,7,8] eM ga hQ
theorem vP (s:eM.D):iz Θ (ek pE) (en []) hO (eM.mk' s) (fM [0,1,7,8] [4] fun x S=>some (x,S))=(eS s).bind (Sum.elim (fun s'=>some (.nor,eM.mk' s')) fun e=>some (eX.e ga e)):=
 ak (by kernel_rfl) (wA s _ _)
theorem vQ:fk Tryz.prog hO oO:=eA eo oz dT (by kernel_rfl) (fV (by kernel_rfl:_= []) dU) [] [0,1,7,8] [4] eM ga (by kernel_rfl) eS vP hQ (ju eS) (ev eS)
def jB {ρ:Type} (a0:List Int) (a1_0:dV) (a1_1:dW) (k:Int×Unit->Option ρ):Option ρ:=
 (hQ ((a0,(a1_0,a1_1,()),(a0.length:Int),0,()),(()),(()))).bind fun e8=>Sum.elim (fun e8_=>k (e8_.1.1,())) (fun _=>k ((-1),())) e8
def gp (a0:List Int) (a1_0:dV) (a1_1:dW):=jB a0 a1_0 a1_1 some
theorem yD {ρ:Type} (a0 a1_0 a1_1:_) (k:_->Option ρ):jB a0 a1_0 a1_1 k=(gp a0 a1_0 a1_1).bind k:=by
 simp only [gp,jB,fU,ah,ae]
abbrev pF:eG:=eJ [.ty (.ls (.i .i64)), .fn 200 [.st .cluster, .st .config]] [.i .i64] fun x=>gp x.1 x.2.1.1 x.2.1.2.1
theorem zR:eh Tryz.prog 143 pF:=
 dY (Λ:=en [(fC hO,oO)]) (fn:=Tryz.f143) eo oz dT (by kernel_rfl) (ej (by kernel_rfl:_= [hO]) (eu (q:=fC hO) rfl vQ fun _ _ _=>by kernel_rfl)) (by kernel_rfl) (fun x=>gp x.1 x.2.1.1 x.2.1.2.1)
  (fun x=>ak (by kernel_rfl) (yD x.1 x.2.1.1 x.2.1.2.1 _)) fun _ _ h=>h
abbrev xB:List (Nat×eG):= [(143,pF)]
theorem u9:ef Tryz.prog (ek xB):=dS zR <| dX _
def iU {ρ:Type} (a0:List Int) (a1_0:dV) (a1_1:dW) (k:Bool×Unit->Option ρ):Option ρ:=
 (gp a0 a1_0 a1_1).bind fun y1=>k ((decide (y1.1≥0)),())
def fW (a0:List Int) (a1_0:dV) (a1_1:dW):=iU a0 a1_0 a1_1 some
theorem vR {ρ:Type} (a0 a1_0 a1_1:_) (k:_->Option ρ):iU a0 a1_0 a1_1 k=(fW a0 a1_0 a1_1).bind k:=by
 simp only [fW,iU,ah,ae]
abbrev oA:eG:=eJ [.ty (.ls (.i .i64)), .fn 200 [.st .cluster, .st .config]] [.b] fun x=>fW x.1 x.2.1.1 x.2.1.2.1
theorem xC:eh Tryz.prog 61 oA:=
 dY (Λ:=en []) (fn:=Tryz.f61) eo u9 dT (by kernel_rfl) (ej (by kernel_rfl:_= []) dU) (by kernel_rfl) (fun x=>fW x.1 x.2.1.1 x.2.1.2.1)
  (fun x=>ak (by kernel_rfl) (vR x.1 x.2.1.1 x.2.1.2.1 _)) fun _ _ h=>h
abbrev UI:List (Nat×eG):= [(60,qT),(198,HG),(199,G8),(61,oA)]
theorem NG:ef Tryz.prog (ek UI):=dS u5 <| dS Oq <| dS Mf <| dS xC <| dX _
def wr {ρ:Type} (a0:dV) (k:Int×Unit->Option ρ):Option ρ:=
 (gx a0.master).bind fun y1=>br (!y1.2.1) (k ((-1),())) ((ma a0 y1.1.primary).bind fun y2=>br (!y2.1) (k ((-1),())) (eg (0<=y1.1.primary) ((a0.servers[y1.1.primary.toNat]?).bind fun x3=>br (!(x3.config.epoch==y1.1.epoch)) (k ((-1),())) ((rG y1.1).bind fun y4=>(fW y4.1 a0 y1.1).bind fun y5=>br y5.1 (k ((-1),())) (k (y1.1.primary,())))) none))
def nR (a0:dV):=wr a0 some
theorem PY {ρ:Type} (a0:_) (k:_->Option ρ):wr a0 k=(nR a0).bind k:=by
 simp only [nR,wr,dZ,ea,an,ah,ae]
abbrev IC:eG:=eJ [.ty (.st .cluster)] [.i .i64] fun x=>nR x.1
theorem UJ:eh Tryz.prog 116 IC:=
 dY (Λ:=en []) (fn:=Tryz.f116) eo NG dT (by kernel_rfl) (ej (by kernel_rfl:_= []) dU) (by kernel_rfl) (fun x=>nR x.1)
  (fun x=>ak (by kernel_rfl) (PY x.1 _)) fun _ _ h=>h
abbrev aiy:List (Nat×eG):= [(116,IC)]
theorem aan:ef Tryz.prog (ek aiy):=dS UJ <| dX _
def Fq {ρ:Type} (a0:dV) (k:Bool×Unit->Option ρ):Option ρ:=
 (nR a0).bind fun y1=>k ((!(y1.1==(-1))),())
def rI (a0:dV):=Fq a0 some
theorem acB {ρ:Type} (a0:_) (k:_->Option ρ):Fq a0 k=(rI a0).bind k:=by
 simp only [rI,Fq,ah,ae]
abbrev Mg:eG:=eJ [.ty (.st .cluster)] [.b] fun x=>rI x.1
theorem V2:eh Tryz.prog 112 Mg:=
 dY (Λ:=en []) (fn:=Tryz.f112) eo aan dT (by kernel_rfl) (ej (by kernel_rfl:_= []) dU) (by kernel_rfl) (fun x=>rI x.1)
  (fun x=>ak (by kernel_rfl) (acB x.1 _)) fun _ _ h=>h
abbrev aao:List (Nat×eG):= []
theorem R7:ef Tryz.prog (ek aao):=dX _
def Ay {ρ:Type} (a0:List ed) (k: (List ed)×Unit->Option ρ):Option ρ:=
 eg (a0.length*56<=2 ^ 40) (k (a0,())) none
def iI (a0:List ed):Option ((List ed)×Unit):=Ay a0 some
abbrev qq:eG:=eJ [.ty (.ls (.st .entry))] [.ls (.st .entry)] fun x=>iI x.1
abbrev Cv (y: (List ed)×Unit):Option (V×List gK):=ret (GI [.ls (.st .entry)] y) fun v g=>some (v,g)
theorem tL:eh Tryz.prog 80 qq:=
 dY (Λ:=en []) (fn:=Tryz.f80) eo R7 dT (by kernel_rfl) (ej (by kernel_rfl:_= []) dU) (by kernel_rfl) (fun x=>iI x.1)
  (fun x=>ak (by kernel_rfl:_=anC x.1 (amb (Cv ([],())) (eg ((([]:List ed)++x.1).length*56<=2 ^ 40) (Cv (([]:List ed)++x.1,())) none) none) (eg ((([]:List ed)++x.1).length*56<=2 ^ 40) (Cv (([]:List ed)++x.1,())) none)) (aeK x.1 56 Cv)) fun _ _ h=>h
abbrev afL:List (Nat×eG):= [(177,yu),(80,qq)]
theorem Xh:ef Tryz.prog (ek afL):=dS Cj <| dS tL <| dX _
def DP {ρ:Type} (a0:eb) (k:eb×Unit->Option ρ):Option ρ:=
 (jz a0.config).bind fun y1=>(iI a0.log).bind fun y2=>(iI a0.learned).bind fun y3=>k ((⟨a0.up,a0.intact,a0.version,a0.epoch,y1.1,a0.first,y2.1,a0.commit,y3.1⟩:eb),())
def kK (a0:eb):=DP a0 some
theorem aap {ρ:Type} (a0:_) (k:_->Option ρ):DP a0 k=(kK a0).bind k:=by
 simp only [kK,DP,ah,ae]
abbrev Fr:eG:=eJ [.ty (.st .server)] [.st .server] fun x=>kK x.1
theorem JA:eh Tryz.prog 163 Fr:=
 dY (Λ:=en []) (fn:=Tryz.f163) eo Xh dT (by kernel_rfl) (ej (by kernel_rfl:_= []) dU) (by kernel_rfl) (fun x=>kK x.1)
  (fun x=>ak (by kernel_rfl) (aap x.1 _)) fun _ _ h=>h
abbrev R8:List (Nat×eG):= [(177,yu)]
theorem Kp:ef Tryz.prog (ek R8):=dS Cj <| dX _
abbrev xD:Code:=fm (fo Tryz.f165) 0
abbrev ln:it:=⟨[(2, .cl (.ptr 0 0)),(3, .cl (.ptr 1 0)),(10, .cl (.ro (.st .config))),(11, .cl (.int .i64)),(12, .cl (.int .i64))],[[.em, .int .i64],[.own 0 (.st .config), .int .i64]],[.st .config],0,25⟩
abbrev tM:List (X×it):= [(.ext 0,⟨[(2, .cl (.ptr 0 0)),(3, .cl (.ptr 1 0))],[[.em, .int .i64],[.own 0 (.st .config), .int .i64]],[.st .config],0,25⟩)]
def Az {ρ:Type} (v8:List dW) (v9:List dW) (v10:Int) (v11:Int) (v12:Int) (v13:Int) (fn: ((Unit×Unit×(List dW)×Int×Int×Unit)×((Unit×Int×Unit)×(Unit×Int×Unit)×Unit)×((List dW)×Unit))->Option ρ) (fe: ((Unit×Unit×Unit)×((Unit×Int×Unit)×(Unit×Int×Unit)×Unit)×((List dW)×Unit))->Option ρ):Option ρ:=
 br (decide (v11 < v10)) (eg (0<=v11) ((v9[v11.toNat]?).bind fun x14=>(jz x14).bind fun y15=>eg ((v8++([y15.1]:List dW)).length*64<=2 ^ 40) (fn (((),(),v9,v10,(IntKind.wrap .i64 (v11+1)),()),(((),v12,()),((),v13,()),()),((v8++([y15.1]:List dW)),()))) none) none) (fe (((),(),()),(((),v12,()),((),v13,()),()),(v8,())))
abbrev va {ρ:Type} (s:ln.D) (fn:ln.D->Option ρ) (fe:eX.D tM->Option ρ):Option ρ:=Az s.2.2.1 s.1.2.2.1 s.1.2.2.2.1 s.1.2.2.2.2.1 s.2.1.1.2.1 s.2.1.2.1.2.1 fn fe
def mb (s:ln.D):Option (ln.D⊕eX.D tM):=va s (fun s=>some (.inl s)) (fun e=>some (.inr e))
def Cw:ln.D->Option (eX.D tM):=mw mb
theorem UK {ρ:Type} (s:ln.D) (fn:_->Option ρ) (fe:_):va s fn fe=(mb s).bind (Sum.elim fn fe):=by
 simp only [mb,va,Az,dZ,ea,an,ah,ae,aA,aB]
abbrev Mh:fO:=fR [.b 2 0 (.st .config)] [2,3,10,11,12] ln tM Cw
theorem R9 (s:ln.D):iz Θ (ek R8) (en []) xD (ln.mk' s) (fM [2,3,10,11,12] [2,3] fun x S=>some (x,S))=(mb s).bind (Sum.elim (fun s'=>some (.nor,ln.mk' s')) fun e=>some (eX.e tM e)):=
 ak (by kernel_rfl) (UK s _ _)
theorem Sa:fk Tryz.prog xD Mh:=eA eo Kp dT (by kernel_rfl) (fV (by kernel_rfl:_= []) dU) [.b 2 0 (.st .config)] [2,3,10,11,12] [2,3] ln tM (by kernel_rfl) mb R9 Cw (ju mb) (ev mb)
def DQ {ρ:Type} (a0:ei) (k:ei×Unit->Option ρ):Option ρ:=
 (Cw (((),(),a0.configs,(a0.configs.length:Int),0,()),(((),0,()),((),a0.activated,()),()),(([]:List dW),()))).bind fun e16=>k ((⟨e16.2.2.1,e16.2.1.2.1.2.1⟩:ei),())
def pj (a0:ei):=DQ a0 some
theorem aaq {ρ:Type} (a0:_) (k:_->Option ρ):DQ a0 k=(pj a0).bind k:=by
 simp only [pj,DQ,ah,ae]
abbrev Fs:eG:=eJ [.ty (.st .masterLog)] [.st .masterLog] fun x=>pj x.1
theorem JB:eh Tryz.prog 165 Fs:=
 dY (Λ:=en [(fC xD,Mh)]) (fn:=Tryz.f165) eo Kp dT (by kernel_rfl) (ej (by kernel_rfl:_= [xD]) (eu (q:=fC xD) rfl Sa fun _ _ _=>by kernel_rfl)) (by kernel_rfl) (fun x=>pj x.1)
  (fun x=>ak (by kernel_rfl) (aaq x.1 _)) fun _ _ h=>h
abbrev aar:List (Nat×eG):= []
theorem Sb:ef Tryz.prog (ek aar):=dX _
def Kq {ρ:Type} (a0:List ey) (k: (List ey)×Unit->Option ρ):Option ρ:=
 eg (a0.length*24<=2 ^ 40) (k (a0,())) none
def xE (a0:List ey):Option ((List ey)×Unit):=Kq a0 some
abbrev Mi:eG:=eJ [.ty (.ls (.st .place))] [.ls (.st .place)] fun x=>xE x.1
abbrev Cx (y: (List ey)×Unit):Option (V×List gK):=ret (GI [.ls (.st .place)] y) fun v g=>some (v,g)
theorem aas:eh Tryz.prog 166 Mi:=
 dY (Λ:=en []) (fn:=Tryz.f166) eo Sb dT (by kernel_rfl) (ej (by kernel_rfl:_= []) dU) (by kernel_rfl) (fun x=>xE x.1)
  (fun x=>ak (by kernel_rfl:_=anC x.1 (amb (Cx ([],())) (eg ((([]:List ey)++x.1).length*24<=2 ^ 40) (Cx (([]:List ey)++x.1,())) none) none) (eg ((([]:List ey)++x.1).length*24<=2 ^ 40) (Cx (([]:List ey)++x.1,())) none)) (aeK x.1 24 Cx)) fun _ _ h=>h
abbrev Ou:List (Nat×eG):= [(163,Fr),(164,Fl),(165,Fs),(166,Mi)]
theorem IE:ef Tryz.prog (ek Ou):=dS JA <| dS Jp <| dS JB <| dS aas <| dX _
abbrev vb:Code:=fm (fo Tryz.f95) 0
abbrev ke:it:=⟨[(1, .cl (.ptr 0 0)),(2, .cl (.ptr 1 0)),(3, .cl (.ptr 2 0)),(9, .cl (.ro (.st .server))),(10, .cl (.int .i64)),(11, .cl (.int .i64))],[[.int .i64, .ro (.st .server), .ro (.i .i64), .ro (.st .config), .int .i64, .int .i64, .int .i64, .int .i64, .int .i64, .ro (.st .place)],[.int .i64, .em, .em, .em, .int .i64, .int .i64, .int .i64, .int .i64, .int .i64, .em],[.int .i64, .own 0 (.st .server), .ro (.i .i64), .ro (.st .config), .int .i64, .int .i64, .int .i64, .int .i64, .int .i64, .ro (.st .place)]],[.st .server],0,36⟩
abbrev qW:List (X×it):= [(.ext 0,⟨[(1, .cl (.ptr 0 0)),(2, .cl (.ptr 1 0)),(3, .cl (.ptr 2 0))],[[.int .i64, .ro (.st .server), .ro (.i .i64), .ro (.st .config), .int .i64, .int .i64, .int .i64, .int .i64, .int .i64, .ro (.st .place)],[.int .i64, .em, .em, .em, .int .i64, .int .i64, .int .i64, .int .i64, .int .i64, .em],[.int .i64, .own 0 (.st .server), .ro (.i .i64), .ro (.st .config), .int .i64, .int .i64, .int .i64, .int .i64, .int .i64, .ro (.st .place)]],[.st .server],0,36⟩)]
def yE {ρ:Type} (v31:List eb) (v32:List eb) (v33:Int) (v34:Int) (v35:Int) (v36:List eb) (v37:List Int) (v38:List dW) (v39:Int) (v40:Int) (v41:Int) (v42:Int) (v43:Int) (v44:List ey) (v45:Int) (v46:Int) (v47:Int) (v48:Int) (v49:Int) (v50:Int) (v51:Int) (v52:List Int) (v53:List dW) (v54:Int) (v55:Int) (v56:Int) (v57:Int) (v58:Int) (v59:List ey) (fn: ((Unit×Unit×Unit×(List eb)×Int×Int×Unit)×((Int×(List eb)×(List Int)×(List dW)×Int×Int×Int×Int×Int×(List ey)×Unit)×(Int×Unit×Unit×Unit×Int×Int×Int×Int×Int×Unit×Unit)×(Int×Unit×(List Int)×(List dW)×Int×Int×Int×Int×Int×(List ey)×Unit)×Unit)×((List eb)×Unit))->Option ρ) (fe: ((Unit×Unit×Unit×Unit)×((Int×(List eb)×(List Int)×(List dW)×Int×Int×Int×Int×Int×(List ey)×Unit)×(Int×Unit×Unit×Unit×Int×Int×Int×Int×Int×Unit×Unit)×(Int×Unit×(List Int)×(List dW)×Int×Int×Int×Int×Int×(List ey)×Unit)×Unit)×((List eb)×Unit))->Option ρ):Option ρ:=
 br (decide (v34 < v33)) (eg (0<=v34) ((v32[v34.toNat]?).bind fun x60=>(kK x60).bind fun y61=>eg ((v31++([y61.1]:List eb)).length*152<=2 ^ 40) (fn (((),(),(),v32,v33,(IntKind.wrap .i64 (v34+1)),()),((v35,v36,v37,v38,v39,v40,v41,v42,v43,v44,()),(v45,(),(),(),v46,v47,v48,v49,v50,(),()),(v51,(),v52,v53,v54,v55,v56,v57,v58,v59,()),()),((v31++([y61.1]:List eb)),()))) none) none) (fe (((),(),(),()),((v35,v36,v37,v38,v39,v40,v41,v42,v43,v44,()),(v45,(),(),(),v46,v47,v48,v49,v50,(),()),(v51,(),v52,v53,v54,v55,v56,v57,v58,v59,()),()),(v31,())))
abbrev tN {ρ:Type} (s:ke.D) (fn:ke.D->Option ρ) (fe:eX.D qW->Option ρ):Option ρ:=yE s.2.2.1 s.1.2.2.2.1 s.1.2.2.2.2.1 s.1.2.2.2.2.2.1 s.2.1.1.1 s.2.1.1.2.1 s.2.1.1.2.2.1 s.2.1.1.2.2.2.1 s.2.1.1.2.2.2.2.1 s.2.1.1.2.2.2.2.2.1 s.2.1.1.2.2.2.2.2.2.1 s.2.1.1.2.2.2.2.2.2.2.1 s.2.1.1.2.2.2.2.2.2.2.2.1 s.2.1.1.2.2.2.2.2.2.2.2.2.1 s.2.1.2.1.1 s.2.1.2.1.2.2.2.2.1 s.2.1.2.1.2.2.2.2.2.1 s.2.1.2.1.2.2.2.2.2.2.1 s.2.1.2.1.2.2.2.2.2.2.2.1 s.2.1.2.1.2.2.2.2.2.2.2.2.1 s.2.1.2.2.1.1 s.2.1.2.2.1.2.2.1 s.2.1.2.2.1.2.2.2.1 s.2.1.2.2.1.2.2.2.2.1 s.2.1.2.2.1.2.2.2.2.2.1 s.2.1.2.2.1.2.2.2.2.2.2.1 s.2.1.2.2.1.2.2.2.2.2.2.2.1 s.2.1.2.2.1.2.2.2.2.2.2.2.2.1 s.2.1.2.2.1.2.2.2.2.2.2.2.2.2.1 fn fe
def lD (s:ke.D):Option (ke.D⊕eX.D qW):=tN s (fun s=>some (.inl s)) (fun e=>some (.inr e))
def AA:ke.D->Option (eX.D qW):=mw lD
theorem Sc {ρ:Type} (s:ke.D) (fn:_->Option ρ) (fe:_):tN s fn fe=(lD s).bind (Sum.elim fn fe):=by
 simp only [lD,tN,yE,dZ,ea,an,ah,ae,aA,aB]
abbrev Kr:fO:=fR [.b 2 1 (.st .server)] [1,2,3,9,10,11] ke qW AA
theorem PZ (s:ke.D):iz Θ (ek Ou) (en []) vb (ke.mk' s) (fM [1,2,3,9,10,11] [1,2,3] fun x S=>some (x,S))=(lD s).bind (Sum.elim (fun s'=>some (.nor,ke.mk' s')) fun e=>some (eX.e qW e)):=
 ak (by kernel_rfl) (Sc s _ _)
theorem P0:fk Tryz.prog vb Kr:=eA eo IE dT (by kernel_rfl) (fV (by kernel_rfl:_= []) dU) [.b 2 1 (.st .server)] [1,2,3,9,10,11] [1,2,3] ke qW (by kernel_rfl) lD PZ AA (ju lD) (ev lD)
def Cy {ρ:Type} (a0:dV) (k:dV×Unit->Option ρ):Option ρ:=
 (AA (((),(),(),a0.servers,(a0.servers.length:Int),0,()),((a0.now,a0.servers,a0.sides,a0.master.configs,a0.master.activated,a0.masterUp,a0.lease.epoch,a0.lease.holder,a0.lease.ends,a0.places,()),(0,(),(),(),0,0,0,0,0,(),()),(a0.now,(),a0.sides,a0.master.configs,a0.master.activated,a0.masterUp,a0.lease.epoch,a0.lease.holder,a0.lease.ends,a0.places,()),()),(([]:List eb),()))).bind fun e62=>(oa e62.2.1.1.2.2.1).bind fun y63=>(pj (⟨e62.2.1.1.2.2.2.1,e62.2.1.1.2.2.2.2.1⟩:ei)).bind fun y64=>(xE e62.2.1.1.2.2.2.2.2.2.2.2.2.1).bind fun y65=>k ((⟨e62.2.1.2.2.1.1,e62.2.2.1,y63.1,y64.1,e62.2.1.2.2.1.2.2.2.2.2.1,(⟨e62.2.1.2.2.1.2.2.2.2.2.2.1,e62.2.1.2.2.1.2.2.2.2.2.2.2.1,e62.2.1.2.2.1.2.2.2.2.2.2.2.2.1⟩:ir),y65.1⟩:dV),())
def fP (a0:dV):=Cy a0 some
theorem Xi {ρ:Type} (a0:_) (k:_->Option ρ):Cy a0 k=(fP a0).bind k:=by
 simp only [fP,Cy,ah,ae]
abbrev sf:eG:=eJ [.ty (.st .cluster)] [.st .cluster] fun x=>fP x.1
theorem vG:eh Tryz.prog 95 sf:=
 dY (Λ:=en [(fC vb,Kr)]) (fn:=Tryz.f95) eo IE dT (by kernel_rfl) (ej (by kernel_rfl:_= [vb]) (eu (q:=fC vb) rfl P0 fun _ _ _=>by kernel_rfl)) (by kernel_rfl) (fun x=>fP x.1)
  (fun x=>ak (by kernel_rfl) (Xi x.1 _)) fun _ _ h=>h
abbrev akn:List (Nat×eG):= []
theorem acC:ef Tryz.prog (ek akn):=dX _
def Ek {ρ:Type} (a0:dV) (a1:Int) (k:Bool×Unit->Option ρ):Option ρ:=
 eg (0<=a1) ((a0.servers[a1.toNat]?).bind fun x1=>br x1.up (eg (0<=a1) ((a0.sides[a1.toNat]?).bind fun x2=>k ((x2==0),())) none) (k (false,()))) none
def sg (a0:dV) (a1:Int):=Ek a0 a1 some
theorem afM {ρ:Type} (a0 a1:_) (k:_->Option ρ):Ek a0 a1 k=(sg a0 a1).bind k:=by
 simp only [sg,Ek,dZ,ea,an,ah,ae]
abbrev JC:eG:=eJ [.ty (.st .cluster), .ty (.i .i64)] [.b] fun x=>sg x.1 x.2.1
theorem P1:eh Tryz.prog 64 JC:=
 dY (Λ:=en []) (fn:=Tryz.f64) eo acC dT (by kernel_rfl) (ej (by kernel_rfl:_= []) dU) (by kernel_rfl) (fun x=>sg x.1 x.2.1)
  (fun x=>ak (by kernel_rfl) (afM x.1 x.2.1 _)) fun _ _ h=>h
abbrev Xj:List (Nat×eG):= [(64,JC)]
theorem P2:ef Tryz.prog (ek Xj):=dS P1 <| dX _
def yF {ρ:Type} (a0:Int) (_a1:eb) (a2:dV) (k:Bool×Unit->Option ρ):Option ρ:=
 (sg a2 a0).bind fun y1=>k (y1.1,())
def qX (a0:Int) (a1:eb) (a2:dV):=yF a0 a1 a2 some
theorem Sd {ρ:Type} (a0 a1 a2:_) (k:_->Option ρ):yF a0 a1 a2 k=(qX a0 a1 a2).bind k:=by
 simp only [qX,yF,ah,ae]
abbrev Ks:eG:=eJ [.ty (.i .i64), .ty (.st .server), .pr (.st .cluster)] [.b] fun x=>qX x.1 x.2.1 x.2.2.1
theorem Xk:eh Tryz.prog 238 Ks:=
 dY (Λ:=en []) (fn:=Tryz.f238) eo P2 dT (by kernel_rfl) (ej (by kernel_rfl:_= []) dU) (by kernel_rfl) (fun x=>qX x.1 x.2.1 x.2.2.1)
  (fun x=>ak (by kernel_rfl) (Sd x.1 x.2.1 x.2.2.1 _)) fun _ _ h=>h
abbrev t9:List (Nat×eG):= [(57,lI),(238,Ks)]
theorem rJ:ef Tryz.prog (ek t9):=dS mB <| dS Xk <| dX _
abbrev jn:Code:=fm (fo Tryz.f237) 0
abbrev fg:it:=⟨[(1, .fn 238 [.pro (.st .cluster)]),(5, .cl (.own 0 (.i .i64))),(14, .cl (.ro (.st .server))),(15, .cl (.int .i64)),(16, .cl (.int .i64))],[],[.i .i64],0,31⟩
abbrev ik:List (X×it):= [(.ext 0,⟨[(5, .cl (.own 0 (.i .i64)))],[],[.i .i64],0,31⟩)]
def kL {ρ:Type} (v2:List Int) (v3:dV) (v4:List eb) (v5:Int) (v6:Int) (fn: (((dV×Unit)×Unit×(List eb)×Int×Int×Unit)×(Unit)×((List Int)×Unit))->Option ρ) (fe: ((Unit×Unit)×(Unit)×((List Int)×Unit))->Option ρ):Option ρ:=
 br (decide (v6 < v5)) (eg (0<=v6) ((v4[v6.toNat]?).bind fun x7=>(qX v6 x7 v3).bind fun y8=>br y8.1 (eg ((v2++([v6]:List Int)).length*8<=2 ^ 40) (fn (((v3,()),(),v4,v5,(IntKind.wrap .i64 (v6+1)),()),(()),((v2++([v6]:List Int)),()))) none) (fn (((v3,()),(),v4,v5,(IntKind.wrap .i64 (v6+1)),()),(()),(v2,())))) none) (fe (((),()),(()),(v2,())))
abbrev i8 {ρ:Type} (s:fg.D) (fn:fg.D->Option ρ) (fe:eX.D ik->Option ρ):Option ρ:=kL s.2.2.1 s.1.1.1 s.1.2.2.1 s.1.2.2.2.1 s.1.2.2.2.2.1 fn fe
def fr (s:fg.D):Option (fg.D⊕eX.D ik):=i8 s (fun s=>some (.inl s)) (fun e=>some (.inr e))
def kQ:fg.D->Option (eX.D ik):=mw fr
theorem Bv {ρ:Type} (s:fg.D) (fn:_->Option ρ) (fe:_):i8 s fn fe=(fr s).bind (Sum.elim fn fe):=by
 simp only [fr,i8,kL,dZ,ea,an,ah,ae,aA,aB]
abbrev sB:fO:=fR [] [1,5,14,15,16] fg ik kQ
theorem A2 (s:fg.D):iz Θ (ek t9) (en []) jn (fg.mk' s) (fM [1,5,14,15,16] [5] fun x S=>some (x,S))=(fr s).bind (Sum.elim (fun s'=>some (.nor,fg.mk' s')) fun e=>some (eX.e ik e)):=
 ak (by kernel_rfl) (Bv s _ _)
theorem A3:fk Tryz.prog jn sB:=eA eo rJ dT (by kernel_rfl) (fV (by kernel_rfl:_= []) dU) [] [1,5,14,15,16] [5] fg ik (by kernel_rfl) fr A2 kQ (ju fr) (ev fr)
def lJ {ρ:Type} (a0:dV) (a1_0:dV) (k: (List Int)×Unit->Option ρ):Option ρ:=
 (gZ a0).bind fun y1=>br (!y1.1) (k (([]:List Int),())) ((kQ (((a1_0,()),(),a0.servers,(a0.servers.length:Int),0,()),(()),(([]:List Int),()))).bind fun e9=>k (e9.2.2.1,()))
def gG (a0:dV) (a1_0:dV):=lJ a0 a1_0 some
theorem C3 {ρ:Type} (a0 a1_0:_) (k:_->Option ρ):lJ a0 a1_0 k=(gG a0 a1_0).bind k:=by
 simp only [gG,lJ,dZ,ah,ae]
abbrev ua:eG:=eJ [.ty (.st .cluster), .fn 238 [.st .cluster]] [.ls (.i .i64)] fun x=>gG x.1 x.2.1.1
theorem El:eh Tryz.prog 237 ua:=
 dY (Λ:=en [(fC jn,sB)]) (fn:=Tryz.f237) eo rJ dT (by kernel_rfl) (ej (by kernel_rfl:_= [jn]) (eu (q:=fC jn) rfl A3 fun _ _ _=>by kernel_rfl)) (by kernel_rfl) (fun x=>gG x.1 x.2.1.1)
  (fun x=>ak (by kernel_rfl) (C3 x.1 x.2.1.1 _)) fun _ _ h=>h
abbrev Xl:List (Nat×eG):= [(64,JC)]
theorem P3:ef Tryz.prog (ek Xl):=dS P1 <| dX _
def yG {ρ:Type} (a0:Int) (a1:dV) (a2:dW) (k:Bool×Unit->Option ρ):Option ρ:=
 (sg a1 a0).bind fun y1=>br (!y1.1) (k (true,())) (eg (0<=a0) ((a1.servers[a0.toNat]?).bind fun x2=>k ((!(x2.config.epoch==a2.epoch)),())) none)
def nx (a0:Int) (a1:dV) (a2:dW):=yG a0 a1 a2 some
theorem Se {ρ:Type} (a0 a1 a2:_) (k:_->Option ρ):yG a0 a1 a2 k=(nx a0 a1 a2).bind k:=by
 simp only [nx,yG,dZ,ea,an,ah,ae]
abbrev ED:eG:=eJ [.ty (.i .i64), .pr (.st .cluster), .pr (.st .config)] [.b] fun x=>nx x.1 x.2.1 x.2.2.1
theorem Kt:eh Tryz.prog 239 ED:=
 dY (Λ:=en []) (fn:=Tryz.f239) eo P3 dT (by kernel_rfl) (ej (by kernel_rfl:_= []) dU) (by kernel_rfl) (fun x=>nx x.1 x.2.1 x.2.2.1)
  (fun x=>ak (by kernel_rfl) (Se x.1 x.2.1 x.2.2.1 _)) fun _ _ h=>h
abbrev sC:List (Nat×eG):= [(239,ED)]
theorem qs:ef Tryz.prog (ek sC):=dS Kt <| dX _
abbrev iT:Code:=fm (fo Tryz.f143) 0
abbrev eV:it:=⟨[(0, .cl (.ro (.i .i64))),(1, .fn 239 [.pro (.st .cluster), .pro (.st .config)]),(7, .cl (.int .i64)),(8, .cl (.int .i64))],[],[],0,19⟩
abbrev gC:List (X×it):= [(.ret,⟨[(4, .cl (.int .i64))],[],[],0,19⟩),(.ext 0,⟨[(4, .cl (.dead))],[],[],0,19⟩)]
def qt {ρ:Type} (v1:List Int) (v2:dV) (v3:dW) (v4:Int) (v5:Int) (fn: (((List Int)×(dV×dW×Unit)×Int×Int×Unit)×(Unit)×(Unit))->Option ρ) (fe: ((Int×Unit)×(Unit)×(Unit))⊕((Unit×Unit)×(Unit)×(Unit))->Option ρ):Option ρ:=
 br (decide (v5 < v4)) (eg (0<=v5) ((v1[v5.toNat]?).bind fun x6=>(nx x6 v2 v3).bind fun y7=>br y7.1 (fe (.inl ((v5,()),(()),(())))) (fn ((v1,(v2,v3,()),v4,(IntKind.wrap .i64 (v5+1)),()),(()),(())))) none) (fe (.inr (((),()),(()),(()))))
abbrev mq {ρ:Type} (s:eV.D) (fn:eV.D->Option ρ) (fe:eX.D gC->Option ρ):Option ρ:=qt s.1.1 s.1.2.1.1 s.1.2.1.2.1 s.1.2.2.1 s.1.2.2.2.1 fn fe
def fH (s:eV.D):Option (eV.D⊕eX.D gC):=mq s (fun s=>some (.inl s)) (fun e=>some (.inr e))
def mG:eV.D->Option (eX.D gC):=mw fH
theorem zS {ρ:Type} (s:eV.D) (fn:_->Option ρ) (fe:_):mq s fn fe=(fH s).bind (Sum.elim fn fe):=by
 simp only [fH,mq,qt,dZ,ea,an,ah,ae,aA,aB]
abbrev qD:fO:=fR [] [0,1,7,8] eV gC mG
theorem za (s:eV.D):iz Θ (ek sC) (en []) iT (eV.mk' s) (fM [0,1,7,8] [4] fun x S=>some (x,S))=(fH s).bind (Sum.elim (fun s'=>some (.nor,eV.mk' s')) fun e=>some (eX.e gC e)):=
 ak (by kernel_rfl) (zS s _ _)
theorem zb:fk Tryz.prog iT qD:=eA eo qs dT (by kernel_rfl) (fV (by kernel_rfl:_= []) dU) [] [0,1,7,8] [4] eV gC (by kernel_rfl) fH za mG (ju fH) (ev fH)
def ni {ρ:Type} (a0:List Int) (a1_0:dV) (a1_1:dW) (k:Int×Unit->Option ρ):Option ρ:=
 (mG ((a0,(a1_0,a1_1,()),(a0.length:Int),0,()),(()),(()))).bind fun e8=>Sum.elim (fun e8_=>k (e8_.1.1,())) (fun _=>k ((-1),())) e8
def jo (a0:List Int) (a1_0:dV) (a1_1:dW):=ni a0 a1_0 a1_1 some
theorem Bw {ρ:Type} (a0 a1_0 a1_1:_) (k:_->Option ρ):ni a0 a1_0 a1_1 k=(jo a0 a1_0 a1_1).bind k:=by
 simp only [jo,ni,fU,ah,ae]
abbrev sD:eG:=eJ [.ty (.ls (.i .i64)), .fn 239 [.st .cluster, .st .config]] [.i .i64] fun x=>jo x.1 x.2.1.1 x.2.1.2.1
theorem C4:eh Tryz.prog 143 sD:=
 dY (Λ:=en [(fC iT,qD)]) (fn:=Tryz.f143) eo qs dT (by kernel_rfl) (ej (by kernel_rfl:_= [iT]) (eu (q:=fC iT) rfl zb fun _ _ _=>by kernel_rfl)) (by kernel_rfl) (fun x=>jo x.1 x.2.1.1 x.2.1.2.1)
  (fun x=>ak (by kernel_rfl) (Bw x.1 x.2.1.1 x.2.1.2.1 _)) fun _ _ h=>h
abbrev pG:List (Nat×eG):= [(143,sD),(239,ED)]
theorem oB:ef Tryz.prog (ek pG):=dS C4 <| dS Kt <| dX _
abbrev hU:Code:=fm (fo Tryz.f74) 0
abbrev eN:it:=⟨[(0, .cl (.own 0 (.i .i64))),(1, .fn 239 [.pro (.st .cluster), .pro (.st .config)]),(5, .cl (.int .i64)),(6, .cl (.int .i64))],[],[.i .i64],0,42⟩
abbrev gb:List (X×it):= [(.ext 0,⟨[(0, .cl (.own 0 (.i .i64))),(5, .cl (.int .i64))],[],[.i .i64],0,42⟩)]
def oC {ρ:Type} (v2:List Int) (v3:dV) (v4:dW) (v5:Int) (v6:Int) (fn: ((Unit×(dV×dW×Unit)×Int×Int×Unit)×(Unit)×((List Int)×Unit))->Option ρ) (fe: ((Unit×Int×Unit)×(Unit)×((List Int)×Unit))->Option ρ):Option ρ:=
 br (decide (v6 < (v2.length:Int))) (eg (0<=v6/\v6 < (v2.length:Int)) ((v2[v6.toNat]?).bind fun x7=>(nx x7 v3 v4).bind fun y8=>br (!y8.1) (eg (0<=v5/\v5 < (v2.length:Int)) ((v2[v5.toNat]?).bind fun _=>fn (((),(v3,v4,()),(IntKind.wrap .i64 (v5+1)),(IntKind.wrap .i64 (v6+1)),()),(()),((v2.set v5.toNat x7),()))) none) (fn (((),(v3,v4,()),v5,(IntKind.wrap .i64 (v6+1)),()),(()),(v2,())))) none) (fe (((),v5,()),(()),(v2,())))
abbrev lp {ρ:Type} (s:eN.D) (fn:eN.D->Option ρ) (fe:eX.D gb->Option ρ):Option ρ:=oC s.2.2.1 s.1.2.1.1 s.1.2.1.2.1 s.1.2.2.1 s.1.2.2.2.1 fn fe
def fv (s:eN.D):Option (eN.D⊕eX.D gb):=lp s (fun s=>some (.inl s)) (fun e=>some (.inr e))
def lK:eN.D->Option (eX.D gb):=mw fv
theorem wB {ρ:Type} (s:eN.D) (fn:_->Option ρ) (fe:_):lp s fn fe=(fv s).bind (Sum.elim fn fe):=by
 simp only [fv,lp,oC,dZ,ea,an,ah,ae,aA,aB]
abbrev oP:fO:=fR [] [0,1,5,6] eN gb lK
theorem vS (s:eN.D):iz Θ (ek pG) (en []) hU (eN.mk' s) (fM [0,1,5,6] [0,5] fun x S=>some (x,S))=(fv s).bind (Sum.elim (fun s'=>some (.nor,eN.mk' s')) fun e=>some (eX.e gb e)):=
 ak (by kernel_rfl) (wB s _ _)
theorem vT:fk Tryz.prog hU oP:=eA eo oB dT (by kernel_rfl) (fV (by kernel_rfl:_= []) dU) [] [0,1,5,6] [0,5] eN gb (by kernel_rfl) fv vS lK (ju fv) (ev fv)
def lO {ρ:Type} (a0:List Int) (a1_0:dV) (a1_1:dW) (k: (List Int)×Unit->Option ρ):Option ρ:=
 (jo a0 a1_0 a1_1).bind fun y1=>br (y1.1==(-1)) (k (a0,())) ((lK (((),(a1_0,a1_1,()),y1.1,(IntKind.wrap .i64 (y1.1+1)),()),(()),(a0,()))).bind fun e11=>eg (0<=e11.1.2.1/\e11.1.2.1<=(e11.2.2.1.length:Int)/\(e11.2.2.1.length:Int)<=((e11.2.2.1.length:Nat):Int)) (eg ((0+e11.1.2.1.toNat)+((e11.2.2.1.length:Int).toNat - e11.1.2.1.toNat)<=e11.2.2.1.length) (eg (0<=(0:Int)/\(0:Int)<=e11.1.2.1/\e11.1.2.1<=((e11.2.2.1.length:Nat):Int)) (eg ((0+(0:Int).toNat)=0/\(e11.1.2.1.toNat - (0:Int).toNat)<=(e11.2.2.1.take (0+e11.1.2.1.toNat)++List.replicate ((e11.2.2.1.length:Int).toNat - e11.1.2.1.toNat) (0:Int)++e11.2.2.1.drop ((0+e11.1.2.1.toNat)+((e11.2.2.1.length:Int).toNat - e11.1.2.1.toNat))).length) (k (((e11.2.2.1.take (0+e11.1.2.1.toNat)++List.replicate ((e11.2.2.1.length:Int).toNat - e11.1.2.1.toNat) (0:Int)++e11.2.2.1.drop ((0+e11.1.2.1.toNat)+((e11.2.2.1.length:Int).toNat - e11.1.2.1.toNat))).take (e11.1.2.1.toNat - (0:Int).toNat)),())) none) none) none) none)
def fQ (a0:List Int) (a1_0:dV) (a1_1:dW):=lO a0 a1_0 a1_1 some
theorem yH {ρ:Type} (a0 a1_0 a1_1:_) (k:_->Option ρ):lO a0 a1_0 a1_1 k=(fQ a0 a1_0 a1_1).bind k:=by
 simp only [fQ,lO,dZ,ea,an,ah,ae]
abbrev pH:eG:=aoq (.i .i64) [.fn 239 [.st .cluster, .st .config]] [.ls (.i .i64)] fun l x=>fQ l x.1.1 x.1.2.1
theorem zT:eh Tryz.prog (Tl 74) pH:=
 aeG (Λ:=en [(fC hU,oP)]) (fn:=Tryz.f74) eo oB dT (by kernel_rfl) (ej (by kernel_rfl:_= [hU]) (eu (q:=fC hU) rfl vT fun _ _ _=>by kernel_rfl)) (fun l x=>fQ l x.1.1 x.1.2.1)
  (fun l x=>ak (by kernel_rfl) (yH l x.1.1 x.1.2.1 _)) fun _ _ _ h=>h
abbrev Sf:List (Nat×eG):= []
theorem Ku:ef Tryz.prog (ek Sf):=dX _
abbrev xF:Code:=fm (fo Tryz.f62) 0
abbrev lq:it:=⟨[(1, .cl (.own 0 (.i .i64))),(4, .cl (.int .i64))],[],[.i .i64],0,13⟩
abbrev tO:List (X×it):= [(.ext 0,⟨[(1, .cl (.own 0 (.i .i64)))],[],[.i .i64],0,13⟩)]
def Kv {ρ:Type} (v1:List Int) (v2:Int) (fn: ((Unit×Int×Unit)×(Unit)×((List Int)×Unit))->Option ρ) (fe: ((Unit×Unit)×(Unit)×((List Int)×Unit))->Option ρ):Option ρ:=
 br (decide (v2 < 5)) (eg ((v1++([v2]:List Int)).length*8<=2 ^ 40) (fn (((),(IntKind.wrap .i64 (v2+1)),()),(()),((v1++([v2]:List Int)),()))) none) (fe (((),()),(()),(v1,())))
abbrev EE {ρ:Type} (s:lq.D) (fn:lq.D->Option ρ) (fe:eX.D tO->Option ρ):Option ρ:=Kv s.2.2.1 s.1.2.1 fn fe
def qu (s:lq.D):Option (lq.D⊕eX.D tO):=EE s (fun s=>some (.inl s)) (fun e=>some (.inr e))
def Cz:lq.D->Option (eX.D tO):=mw qu
theorem UL {ρ:Type} (s:lq.D) (fn:_->Option ρ) (fe:_):EE s fn fe=(qu s).bind (Sum.elim fn fe):=by
 simp only [qu,EE,Kv,dZ,ea,an,ae,aA,aB]
abbrev Mj:fO:=fR [] [1,4] lq tO Cz
theorem Sg (s:lq.D):iz Θ (ek Sf) (en []) xF (lq.mk' s) (fM [1,4] [1] fun x S=>some (x,S))=(qu s).bind (Sum.elim (fun s'=>some (.nor,lq.mk' s')) fun e=>some (eX.e tO e)):=
 ak (by kernel_rfl) (UL s _ _)
theorem Si:fk Tryz.prog xF Mj:=eA eo Ku dT (by kernel_rfl) (fV (by kernel_rfl:_= []) dU) [] [1,4] [1] lq tO (by kernel_rfl) qu Sg Cz (ju qu) (ev qu)
def DR {ρ:Type} (k: (List Int)×Unit->Option ρ):Option ρ:=
 (Cz (((),0,()),(()),(([]:List Int),()))).bind fun e3=>k (e3.2.2.1,())
def ob:=DR some
theorem aat {ρ:Type} (k:_->Option ρ):DR k=(ob).bind k:=by
 simp only [ob,DR,ah,ae]
abbrev JD:eG:=eJ [] [.ls (.i .i64)] fun x=>ob
theorem Sj:eh Tryz.prog 62 JD:=
 dY (Λ:=en [(fC xF,Mj)]) (fn:=Tryz.f62) eo Ku dT (by kernel_rfl) (ej (by kernel_rfl:_= [xF]) (eu (q:=fC xF) rfl Si fun _ _ _=>by kernel_rfl)) (by kernel_rfl) (fun x=>ob)
  (fun x=>ak (by kernel_rfl) (aat _)) fun _ _ h=>h
abbrev adQ:List (Nat×eG):= [(139,Ej),(227,Ce),(150,G5)]
theorem Sk:ef Tryz.prog (ek adQ):=dS G6 <| dS Fj <| dS L6 <| dX _
abbrev Em:Code:=fm (fo Tryz.f274) 0
abbrev oD:it:=⟨[(0, .cl (.ro (.st .place))),(5, .cl (.own 0 (.i .i64))),(18, .cl (.ro (.i .i64))),(19, .cl (.int .i64)),(20, .cl (.int .i64))],[],[.i .i64],0,35⟩
abbrev Bo:List (X×it):= [(.ext 0,⟨[(5, .cl (.own 0 (.i .i64)))],[],[.i .i64],0,35⟩)]
def Ft {ρ:Type} (v3:List Int) (v4:List ey) (v5:List Int) (v6:Int) (v7:Int) (fn: (((List ey)×Unit×(List Int)×Int×Int×Unit)×(Unit)×((List Int)×Unit))->Option ρ) (fe: ((Unit×Unit)×(Unit)×((List Int)×Unit))->Option ρ):Option ρ:=
 br (decide (v7 < v6)) (eg (0<=v7) ((v5[v7.toNat]?).bind fun x8=>eg (0<=x8) ((v4[x8.toNat]?).bind fun x9=>eg ((v3++([x9.rack]:List Int)).length*8<=2 ^ 40) (fn ((v4,(),v5,v6,(IntKind.wrap .i64 (v7+1)),()),(()),((v3++([x9.rack]:List Int)),()))) none) none) none) (fe (((),()),(()),(v3,())))
abbrev CA {ρ:Type} (s:oD.D) (fn:oD.D->Option ρ) (fe:eX.D Bo->Option ρ):Option ρ:=Ft s.2.2.1 s.1.1 s.1.2.2.1 s.1.2.2.2.1 s.1.2.2.2.2.1 fn fe
def pI (s:oD.D):Option (oD.D⊕eX.D Bo):=CA s (fun s=>some (.inl s)) (fun e=>some (.inr e))
def Ha:oD.D->Option (eX.D Bo):=mw pI
theorem acD {ρ:Type} (s:oD.D) (fn:_->Option ρ) (fe:_):CA s fn fe=(pI s).bind (Sum.elim fn fe):=by
 simp only [pI,CA,Ft,dZ,ea,an,ah,ae,aA,aB]
abbrev V3:fO:=fR [] [0,5,18,19,20] oD Bo Ha
theorem aau (s:oD.D):iz Θ (ek adQ) (en []) Em (oD.mk' s) (fM [0,5,18,19,20] [5] fun x S=>some (x,S))=(pI s).bind (Sum.elim (fun s'=>some (.nor,oD.mk' s')) fun e=>some (eX.e Bo e)):=
 ak (by kernel_rfl) (acD s _ _)
theorem aav:fk Tryz.prog Em V3:=eA eo Sk dT (by kernel_rfl) (fV (by kernel_rfl:_= []) dU) [] [0,5,18,19,20] [5] oD Bo (by kernel_rfl) pI aau Ha (ju pI) (ev pI)
def JE {ρ:Type} (a0:List ey) (a1:List Int) (k: (List Int)×Unit->Option ρ):Option ρ:=
 (mA a0).bind fun y1=>br (!y1.1) (k (([]:List Int),())) ((jx a1).bind fun y2=>br (!y2.1) (k (([]:List Int),())) ((Ha ((a0,(),a1,(a1.length:Int),0,()),(()),(([]:List Int),()))).bind fun e10=>(ot e10.2.2.1).bind fun y11=>k (y11.1,())))
def Dm (a0:List ey) (a1:List Int):=JE a0 a1 some
theorem aiz {ρ:Type} (a0 a1:_) (k:_->Option ρ):JE a0 a1 k=(Dm a0 a1).bind k:=by
 simp only [Dm,JE,dZ,ah,ae]
abbrev adR:eG:=eJ [.ty (.ls (.st .place)), .ty (.ls (.i .i64))] [.ls (.i .i64)] fun x=>Dm x.1 x.2.1
theorem amC:eh Tryz.prog 274 adR:=
 dY (Λ:=en [(fC Em,V3)]) (fn:=Tryz.f274) eo Sk dT (by kernel_rfl) (ej (by kernel_rfl:_= [Em]) (eu (q:=fC Em) rfl aav fun _ _ _=>by kernel_rfl)) (by kernel_rfl) (fun x=>Dm x.1 x.2.1)
  (fun x=>ak (by kernel_rfl) (aiz x.1 x.2.1 _)) fun _ _ h=>h
abbrev amD:List (Nat×eG):= [(139,Ej),(135,jU)]
theorem afN:ef Tryz.prog (ek amD):=dS G6 <| dS j9 <| dX _
def JF {ρ:Type} (a0:List ey) (a1:Int) (k:Bool×Unit->Option ρ):Option ρ:=
 (mA a0).bind fun y1=>br y1.1 ((fp a1 0 4).bind fun y2=>br y2.1 (eg (0<=a1) ((a0[a1.toNat]?).bind fun x3=>eg (0<=a1) ((a0[a1.toNat]?).bind fun x4=>k ((decide (x3.load < x4.capacity)),())) none) none) (k (false,()))) (k (false,()))
def Dn (a0:List ey) (a1:Int):=JF a0 a1 some
theorem aiA {ρ:Type} (a0 a1:_) (k:_->Option ρ):JF a0 a1 k=(Dn a0 a1).bind k:=by
 simp only [Dn,JF,dZ,ea,an,ah,ae]
abbrev adS:eG:=eJ [.ty (.ls (.st .place)), .ty (.i .i64)] [.b] fun x=>Dn x.1 x.2.1
theorem amE:eh Tryz.prog 65 adS:=
 dY (Λ:=en []) (fn:=Tryz.f65) eo afN dT (by kernel_rfl) (ej (by kernel_rfl:_= []) dU) (by kernel_rfl) (fun x=>Dn x.1 x.2.1)
  (fun x=>ak (by kernel_rfl) (aiA x.1 x.2.1 _)) fun _ _ h=>h
abbrev V4:List (Nat×eG):= [(227,Ce),(274,adR),(65,adS),(66,xq)]
theorem Ml:ef Tryz.prog (ek V4):=dS Fj <| dS amC <| dS amE <| dS Bn <| dX _
abbrev zU:Code:=fm (fo Tryz.f241) 0
abbrev mc:it:=⟨[(0, .cl (.ro (.st .place))),(1, .cl (.ro (.i .i64))),(2, .cl (.ro (.i .i64))),(7, .cl (.int .i64)),(8, .cl (.own 0 (.i .i64))),(19, .cl (.int .i64))],[],[.i .i64],0,79⟩
abbrev vH:List (X×it):= [(.ext 0,⟨[(7, .cl (.int .i64))],[],[],0,79⟩)]
def CB {ρ:Type} (v3:List Int) (v4:List ey) (v5:List Int) (v6:List Int) (v7:Int) (v8:Int) (fn: (((List ey)×(List Int)×(List Int)×Int×Unit×Int×Unit)×(Unit)×((List Int)×Unit))->Option ρ) (fe: ((Int×Unit)×(Unit)×(Unit))->Option ρ):Option ρ:=
 br (decide (v8 < 5)) ((Dn v4 v8).bind fun y9=>br (!y9.1) (fn ((v4,v5,v6,v7,(),(IntKind.wrap .i64 (v8+1)),()),(()),(v3,()))) ((kC v5 v8).bind fun y10=>br y10.1 (fn ((v4,v5,v6,v7,(),(IntKind.wrap .i64 (v8+1)),()),(()),(v3,()))) ((kC v6 v8).bind fun y11=>br y11.1 (fn ((v4,v5,v6,v7,(),(IntKind.wrap .i64 (v8+1)),()),(()),(v3,()))) (br (decide (v7 < 0)) (fn ((v4,v5,v6,v8,(),(IntKind.wrap .i64 (v8+1)),()),(()),(v3,()))) (eg (0<=v7) ((v4[v7.toNat]?).bind fun x12=>(kC v3 x12.rack).bind fun y13=>eg (0<=v8) ((v4[v8.toNat]?).bind fun x14=>(kC v3 x14.rack).bind fun y15=>br y13.1 (br (!y15.1) (fn ((v4,v5,v6,v8,(),(IntKind.wrap .i64 (v8+1)),()),(()),(v3,()))) (br (y13.1==y15.1) (eg (0<=v8) ((v4[v8.toNat]?).bind fun x16=>eg (0<=v7) ((v4[v7.toNat]?).bind fun x17=>br (decide (x16.load < x17.load)) (fn ((v4,v5,v6,v8,(),(IntKind.wrap .i64 (v8+1)),()),(()),(v3,()))) (fn ((v4,v5,v6,v7,(),(IntKind.wrap .i64 (v8+1)),()),(()),(v3,())))) none) none) (fn ((v4,v5,v6,v7,(),(IntKind.wrap .i64 (v8+1)),()),(()),(v3,()))))) (br (y13.1==y15.1) (eg (0<=v8) ((v4[v8.toNat]?).bind fun x18=>eg (0<=v7) ((v4[v7.toNat]?).bind fun x19=>br (decide (x18.load < x19.load)) (fn ((v4,v5,v6,v8,(),(IntKind.wrap .i64 (v8+1)),()),(()),(v3,()))) (fn ((v4,v5,v6,v7,(),(IntKind.wrap .i64 (v8+1)),()),(()),(v3,())))) none) none) (fn ((v4,v5,v6,v7,(),(IntKind.wrap .i64 (v8+1)),()),(()),(v3,()))))) none) none))))) (fe ((v7,()),(()),(())))
abbrev xG {ρ:Type} (s:mc.D) (fn:mc.D->Option ρ) (fe:eX.D vH->Option ρ):Option ρ:=CB s.2.2.1 s.1.1 s.1.2.1 s.1.2.2.1 s.1.2.2.2.1 s.1.2.2.2.2.2.1 fn fe
def mQ (s:mc.D):Option (mc.D⊕eX.D vH):=xG s (fun s=>some (.inl s)) (fun e=>some (.inr e))
def DS:mc.D->Option (eX.D vH):=mw mQ
theorem Xm {ρ:Type} (s:mc.D) (fn:_->Option ρ) (fe:_):xG s fn fe=(mQ s).bind (Sum.elim fn fe):=by
 simp only [mQ,xG,CB,dZ,ea,an,ah,ae,aA,aB]
abbrev Ov:fO:=fR [] [0,1,2,7,8,19] mc vH DS
theorem UM (s:mc.D):iz Θ (ek V4) (en []) zU (mc.mk' s) (fM [0,1,2,7,8,19] [7] fun x S=>some (x,S))=(mQ s).bind (Sum.elim (fun s'=>some (.nor,mc.mk' s')) fun e=>some (eX.e vH e)):=
 ak (by kernel_rfl) (Xm s _ _)
theorem UN:fk Tryz.prog zU Ov:=eA eo Ml dT (by kernel_rfl) (fV (by kernel_rfl:_= []) dU) [] [0,1,2,7,8,19] [7] mc vH (by kernel_rfl) mQ UM DS (ju mQ) (ev mQ)
def Fu {ρ:Type} (a0:List ey) (a1:List Int) (a2:List Int) (k:Int×Unit->Option ρ):Option ρ:=
 (jx a1).bind fun y1=>br (!y1.1) (k ((-1),())) ((Dm a0 a1).bind fun y2=>(DS ((a0,a1,a2,(-1),(),0,()),(()),(y2.1,()))).bind fun e20=>k (e20.1.1,()))
def pJ (a0:List ey) (a1:List Int) (a2:List Int):=Fu a0 a1 a2 some
theorem acE {ρ:Type} (a0 a1 a2:_) (k:_->Option ρ):Fu a0 a1 a2 k=(pJ a0 a1 a2).bind k:=by
 simp only [pJ,Fu,dZ,ah,ae]
abbrev Mm:eG:=eJ [.ty (.ls (.st .place)), .ty (.ls (.i .i64)), .ty (.ls (.i .i64))] [.i .i64] fun x=>pJ x.1 x.2.1 x.2.2.1
theorem V5:eh Tryz.prog 241 Mm:=
 dY (Λ:=en [(fC zU,Ov)]) (fn:=Tryz.f241) eo Ml dT (by kernel_rfl) (ej (by kernel_rfl:_= [zU]) (eu (q:=fC zU) rfl UN fun _ _ _=>by kernel_rfl)) (by kernel_rfl) (fun x=>pJ x.1 x.2.1 x.2.2.1)
  (fun x=>ak (by kernel_rfl) (acE x.1 x.2.1 x.2.2.1 _)) fun _ _ h=>h
abbrev Ow:List (Nat×eG):= [(139,Ej),(227,Ce),(135,jU),(228,EB),(62,JD),(73,yp),(241,Mm),(257,Gp)]
theorem IG:ef Tryz.prog (ek Ow):=dS G6 <| dS Fj <| dS j9 <| dS Kk <| dS Sj <| dS Dk <| dS V5 <| dS Me <| dX _
abbrev vd:Code:=fm (fo Tryz.f240) 0
abbrev kf:it:=⟨[(0, .cl (.ro (.st .place))),(3, .cl (.int .i64)),(9, .cl (.own 0 (.i .i64))),(10, .cl (.own 1 (.i .i64)))],[],[.i .i64, .i .i64],0,52⟩
abbrev qY:List (X×it):= [(.ext 0,⟨[(9, .cl (.own 0 (.i .i64)))],[],[.i .i64],0,52⟩)]
def pX {ρ:Type} (v8:List Int) (v9:List Int) (v10:List ey) (v11:Int) (fn: (((List ey)×Int×Unit×Unit×Unit)×(Unit)×((List Int)×(List Int)×Unit))->Option ρ) (fe: ((Unit×Unit)×(Unit)×((List Int)×Unit))->Option ρ):Option ρ:=
 br (decide ((v8.length:Int) < v11)) ((pJ v10 v8 v9).bind fun y12=>br (decide (y12.1 < 0)) (fe (((),()),(()),(v8,()))) ((oy v8 ([y12.1]:List Int)).bind fun y13=>fn ((v10,v11,(),(),()),(()),(y13.1,v9,())))) (fe (((),()),(()),(v8,())))
abbrev nS {ρ:Type} (s:kf.D) (fn:kf.D->Option ρ) (fe:eX.D qY->Option ρ):Option ρ:=pX s.2.2.1 s.2.2.2.1 s.1.1 s.1.2.1 fn fe
def kg (s:kf.D):Option (kf.D⊕eX.D qY):=nS s (fun s=>some (.inl s)) (fun e=>some (.inr e))
def qZ:kf.D->Option (eX.D qY):=mw kg
theorem Sl {ρ:Type} (s:kf.D) (fn:_->Option ρ) (fe:_):nS s fn fe=(kg s).bind (Sum.elim fn fe):=by
 simp only [kg,nS,pX,dZ,ah,ae,aA,aB]
abbrev Kw:fO:=fR [] [0,3,9,10] kf qY qZ
theorem P4 (s:kf.D):iz Θ (ek Ow) (en []) vd (kf.mk' s) (fM [0,3,9,10] [9] fun x S=>some (x,S))=(kg s).bind (Sum.elim (fun s'=>some (.nor,kf.mk' s')) fun e=>some (eX.e qY e)):=
 ak (by kernel_rfl) (Sl s _ _)
theorem P5:fk Tryz.prog vd Kw:=eA eo IG dT (by kernel_rfl) (fV (by kernel_rfl:_= []) dU) [] [0,3,9,10] [9] kf qY (by kernel_rfl) kg P4 qZ (ju kg) (ev kg)
def CC {ρ:Type} (a0:List ey) (a1:List Int) (a2:List Int) (a3:Int) (k: (List Int)×Unit->Option ρ):Option ρ:=
 (mA a0).bind fun y1=>br (!y1.1) (k (([]:List Int),())) ((jx a1).bind fun y2=>br (!y2.1) (k (([]:List Int),())) ((jx a2).bind fun y3=>br (!y3.1) (k (([]:List Int),())) ((fp a3 0 5).bind fun y4=>br (!y4.1) (k (([]:List Int),())) ((nv a1 a2).bind fun y5=>(ob).bind fun y6=>(iX y6.1 a2).bind fun y7=>(qZ ((a0,a3,(),(),()),(()),(y5.1,y7.1,()))).bind fun e14=>k (e14.2.2.1,())))))
def sj (a0:List ey) (a1:List Int) (a2:List Int) (a3:Int):=CC a0 a1 a2 a3 some
theorem Xn {ρ:Type} (a0 a1 a2 a3:_) (k:_->Option ρ):CC a0 a1 a2 a3 k=(sj a0 a1 a2 a3).bind k:=by
 simp only [sj,CC,dZ,ah,ae]
abbrev Ox:eG:=eJ [.ty (.ls (.st .place)), .ty (.ls (.i .i64)), .ty (.ls (.i .i64)), .ty (.i .i64)] [.ls (.i .i64)] fun x=>sj x.1 x.2.1 x.2.2.1 x.2.2.2.1
theorem acF:eh Tryz.prog 240 Ox:=
 dY (Λ:=en [(fC vd,Kw)]) (fn:=Tryz.f240) eo IG dT (by kernel_rfl) (ej (by kernel_rfl:_= [vd]) (eu (q:=fC vd) rfl P5 fun _ _ _=>by kernel_rfl)) (by kernel_rfl) (fun x=>sj x.1 x.2.1 x.2.2.1 x.2.2.2.1)
  (fun x=>ak (by kernel_rfl) (Xn x.1 x.2.1 x.2.2.1 x.2.2.2.1 _)) fun _ _ h=>h
abbrev afO:List (Nat×eG):= [(57,lI),(135,jU),(237,ua),(60,qT),(164,Fl),(Tl 74,pH),(240,Ox),(66,xq),(62,JD),(73,yp),(241,Mm)]
theorem Xo:ef Tryz.prog (ek afO):=dS mB <| dS j9 <| dS El <| dS u5 <| dS Jp <| dS zT <| dS acF <| dS Bn <| dS Sj <| dS Dk <| dS V5 <| dX _
def DT {ρ:Type} (a0:dV) (a1:Int) (a2:Int) (k:dW×Bool×Unit->Option ρ):Option ρ:=
 (gZ a0).bind fun y1=>br (!y1.1) (k ((⟨0,0,([]:List Int),([]:List Int)⟩:dW),false,())) ((fp a1 1 3).bind fun y2=>br (!y2.1) (k ((⟨0,0,([]:List Int),([]:List Int)⟩:dW),false,())) ((fp a2 0 1).bind fun y3=>br (!y3.1) (k ((⟨0,0,([]:List Int),([]:List Int)⟩:dW),false,())) (br (decide ((a0.master.configs.length:Int)≥20)) (k ((⟨0,0,([]:List Int),([]:List Int)⟩:dW),false,())) ((gG a0 a0).bind fun y4=>(gx a0.master).bind fun y5=>(oa y5.1.replicas).bind fun y6=>(fQ y6.1 a0 y5.1).bind fun y7=>(sj a0.places y7.1 y4.1 a1).bind fun y8=>br ((y8.1.length:Int)==0) (k ((⟨0,0,([]:List Int),([]:List Int)⟩:dW),false,())) (eg (0<=(0:Int)/\(0:Int) < (y8.1.length:Int)) ((y8.1[(0:Int).toNat]?).bind fun x9=>br (decide (y5.1.epoch > 0)) ((kC y8.1 y5.1.primary).bind fun y10=>br y10.1 ((ob).bind fun y11=>(iX y11.1 y4.1).bind fun y12=>(pJ a0.places y8.1 y12.1).bind fun y13=>br (a2==1) (br (decide (y13.1≥0)) (k ((⟨(IntKind.wrap .i64 ((a0.master.configs.length:Int)+1)),y5.1.primary,y8.1,([y13.1]:List Int)⟩:dW),true,())) (k ((⟨(IntKind.wrap .i64 ((a0.master.configs.length:Int)+1)),y5.1.primary,y8.1,([]:List Int)⟩:dW),true,()))) (k ((⟨(IntKind.wrap .i64 ((a0.master.configs.length:Int)+1)),y5.1.primary,y8.1,([]:List Int)⟩:dW),true,()))) ((ob).bind fun y14=>(iX y14.1 y4.1).bind fun y15=>(pJ a0.places y8.1 y15.1).bind fun y16=>br (a2==1) (br (decide (y16.1≥0)) (k ((⟨(IntKind.wrap .i64 ((a0.master.configs.length:Int)+1)),x9,y8.1,([y16.1]:List Int)⟩:dW),true,())) (k ((⟨(IntKind.wrap .i64 ((a0.master.configs.length:Int)+1)),x9,y8.1,([]:List Int)⟩:dW),true,()))) (k ((⟨(IntKind.wrap .i64 ((a0.master.configs.length:Int)+1)),x9,y8.1,([]:List Int)⟩:dW),true,())))) ((ob).bind fun y17=>(iX y17.1 y4.1).bind fun y18=>(pJ a0.places y8.1 y18.1).bind fun y19=>br (a2==1) (br (decide (y19.1≥0)) (k ((⟨(IntKind.wrap .i64 ((a0.master.configs.length:Int)+1)),x9,y8.1,([y19.1]:List Int)⟩:dW),true,())) (k ((⟨(IntKind.wrap .i64 ((a0.master.configs.length:Int)+1)),x9,y8.1,([]:List Int)⟩:dW),true,()))) (k ((⟨(IntKind.wrap .i64 ((a0.master.configs.length:Int)+1)),x9,y8.1,([]:List Int)⟩:dW),true,())))) none)))))
def uz (a0:dV) (a1:Int) (a2:Int):=DT a0 a1 a2 some
theorem aaw {ρ:Type} (a0 a1 a2:_) (k:_->Option ρ):DT a0 a1 a2 k=(uz a0 a1 a2).bind k:=by
 simp only [uz,DT,dZ,ea,an,ah,ae]
abbrev So:eG:=eJ [.ty (.st .cluster), .ty (.i .i64), .ty (.i .i64)] [.st .config, .b] fun x=>uz x.1 x.2.1 x.2.2.1
theorem afP:eh Tryz.prog 186 So:=
 dY (Λ:=en []) (fn:=Tryz.f186) eo Xo dT (by kernel_rfl) (ej (by kernel_rfl:_= []) dU) (by kernel_rfl) (fun x=>uz x.1 x.2.1 x.2.2.1)
  (fun x=>ak (by kernel_rfl) (aaw x.1 x.2.1 x.2.2.1 _)) fun _ _ h=>h
abbrev acG:List (Nat×eG):= []
theorem UO:ef Tryz.prog (ek acG):=dX _
def tP {ρ:Type} (a0:dV) (k:Bool×Unit->Option ρ):Option ρ:=
 k ((decide ((IntKind.wrap .i64 (2*a0.masterUp)) > 3)),())
def mR (a0:dV):=tP a0 some
theorem Xp {ρ:Type} (a0:_) (k:_->Option ρ):tP a0 k=(mR a0).bind k:=by
 simp only [mR,tP,ae]
abbrev DU:eG:=eJ [.ty (.st .cluster)] [.b] fun x=>mR x.1
theorem HI:eh Tryz.prog 58 DU:=
 dY (Λ:=en []) (fn:=Tryz.f58) eo UO dT (by kernel_rfl) (ej (by kernel_rfl:_= []) dU) (by kernel_rfl) (fun x=>mR x.1)
  (fun x=>ak (by kernel_rfl) (Xp x.1 _)) fun _ _ h=>h
abbrev Xq:List (Nat×eG):= [(165,Fs),(137,zM),(176,uZ),(177,yu)]
theorem P6:ef Tryz.prog (ek Xq):=dS JB <| dS DM <| dS An <| dS Cj <| dX _
def yI {ρ:Type} (a0:ei) (a1:dW) (k:ei×Bool×Unit->Option ρ):Option ρ:=
 (pj a0).bind fun y1=>(mP a0).bind fun y2=>br (!y2.1) (k (y1.1,false,())) ((lA a1).bind fun y3=>br (!y3.1) (k (y1.1,false,())) (br (!(a1.epoch==(IntKind.wrap .i64 ((a0.configs.length:Int)+1)))) (k (y1.1,false,())) ((jz a1).bind fun y4=>eg ((y1.1.configs++([y4.1]:List dW)).length*64<=2 ^ 40) (k ((⟨(y1.1.configs++([y4.1]:List dW)),y1.1.activated⟩:ei),true,())) none)))
def o6 (a0:ei) (a1:dW):=yI a0 a1 some
theorem Sq {ρ:Type} (a0 a1:_) (k:_->Option ρ):yI a0 a1 k=(o6 a0 a1).bind k:=by
 simp only [o6,yI,dZ,ea,an,ah,ae]
abbrev Kx:eG:=eJ [.ty (.st .masterLog), .ty (.st .config)] [.st .masterLog, .b] fun x=>o6 x.1 x.2.1
theorem Xr:eh Tryz.prog 107 Kx:=
 dY (Λ:=en []) (fn:=Tryz.f107) eo P6 dT (by kernel_rfl) (ej (by kernel_rfl:_= []) dU) (by kernel_rfl) (fun x=>o6 x.1 x.2.1)
  (fun x=>ak (by kernel_rfl) (Sq x.1 x.2.1 _)) fun _ _ h=>h
abbrev acH:List (Nat×eG):= [(95,sf),(57,lI),(58,DU),(107,Kx)]
theorem UP:ef Tryz.prog (ek acH):=dS vG <| dS mB <| dS HI <| dS Xr <| dX _
def CD {ρ:Type} (a0:dV) (a1:dW) (k:dV×Int×Unit->Option ρ):Option ρ:=
 (fP a0).bind fun y1=>(gZ a0).bind fun y2=>br (!y2.1) (k (y1.1,1,())) ((mR a0).bind fun y3=>br (!y3.1) (k (y1.1,8,())) ((o6 a0.master a1).bind fun y4=>br (!y4.2.1) (k (y1.1,1,())) (k ((⟨y1.1.now,y1.1.servers,y1.1.sides,y4.1,y1.1.masterUp,y1.1.lease,y1.1.places⟩:dV),0,()))))
def sk (a0:dV) (a1:dW):=CD a0 a1 some
theorem Xt {ρ:Type} (a0 a1:_) (k:_->Option ρ):CD a0 a1 k=(sk a0 a1).bind k:=by
 simp only [sk,CD,dZ,ah,ae]
abbrev Oy:eG:=eJ [.ty (.st .cluster), .ty (.st .config)] [.st .cluster, .i .i64] fun x=>sk x.1 x.2.1
theorem acI:eh Tryz.prog 187 Oy:=
 dY (Λ:=en []) (fn:=Tryz.f187) eo UP dT (by kernel_rfl) (ej (by kernel_rfl:_= []) dU) (by kernel_rfl) (fun x=>sk x.1 x.2.1)
  (fun x=>ak (by kernel_rfl) (Xt x.1 x.2.1 _)) fun _ _ h=>h
abbrev ako:List (Nat×eG):= [(138,Iw)]
theorem acJ:ef Tryz.prog (ek ako):=dS Nd <| dX _
def Hb {ρ:Type} (a0:ir) (k:Int×Unit->Option ρ):Option ρ:=
 br ((a0.epoch==0)&&((a0.holder==0)&&((a0.ends==0)&&true))) (k (0,())) ((qU a0).bind fun y1=>br (!y1.1) (k (0,())) (k ((IntKind.wrap .i64 (a0.ends+3)),())))
def xH (a0:ir):=Hb a0 some
theorem afQ {ρ:Type} (a0:_) (k:_->Option ρ):Hb a0 k=(xH a0).bind k:=by
 simp only [xH,Hb,dZ,ah,ae]
abbrev P7:eG:=eJ [.ty (.st .lease)] [.i .i64] fun x=>xH x.1
theorem aax:eh Tryz.prog 59 P7:=
 dY (Λ:=en []) (fn:=Tryz.f59) eo acJ dT (by kernel_rfl) (ej (by kernel_rfl:_= []) dU) (by kernel_rfl) (fun x=>xH x.1)
  (fun x=>ak (by kernel_rfl) (afQ x.1 _)) fun _ _ h=>h
abbrev akp:List (Nat×eG):= [(95,sf),(57,lI),(135,jU)]
theorem acK:ef Tryz.prog (ek akp):=dS vG <| dS mB <| dS j9 <| dX _
def Hc {ρ:Type} (a0:dV) (a1:Int) (k:dV×Int×Unit->Option ρ):Option ρ:=
 (fP a0).bind fun y1=>(gZ a0).bind fun y2=>br (!y2.1) (k (y1.1,1,())) ((fp a1 0 (IntKind.wrap .i64 (999 - a0.now))).bind fun y3=>br (!y3.1) (k (y1.1,1,())) (k ((⟨(IntKind.wrap .i64 (y1.1.now+a1)),y1.1.servers,y1.1.sides,y1.1.master,y1.1.masterUp,y1.1.lease,y1.1.places⟩:dV),0,())))
def A4 (a0:dV) (a1:Int):=Hc a0 a1 some
theorem afR {ρ:Type} (a0 a1:_) (k:_->Option ρ):Hc a0 a1 k=(A4 a0 a1).bind k:=by
 simp only [A4,Hc,dZ,ah,ae]
abbrev aay:eG:=eJ [.ty (.st .cluster), .ty (.i .i64)] [.st .cluster, .i .i64] fun x=>A4 x.1 x.2.1
theorem akq:eh Tryz.prog 188 aay:=
 dY (Λ:=en []) (fn:=Tryz.f188) eo acK dT (by kernel_rfl) (ej (by kernel_rfl:_= []) dU) (by kernel_rfl) (fun x=>A4 x.1 x.2.1)
  (fun x=>ak (by kernel_rfl) (afR x.1 x.2.1 _)) fun _ _ h=>h
abbrev afS:List (Nat×eG):= [(142,Jv)]
theorem Xu:ef Tryz.prog (ek afS):=dS PQ <| dX _
def DV {ρ:Type} (a0:ei) (k:dW×Bool×Unit->Option ρ):Option ρ:=
 (qj a0 (a0.configs.length:Int)).bind fun y1=>k (y1.1,y1.2.1,())
def uA (a0:ei):=DV a0 some
theorem aaz {ρ:Type} (a0:_) (k:_->Option ρ):DV a0 k=(uA a0).bind k:=by
 simp only [uA,DV,ah,ae]
abbrev Sr:eG:=eJ [.ty (.st .masterLog)] [.st .config, .b] fun x=>uA x.1
theorem afT:eh Tryz.prog 242 Sr:=
 dY (Λ:=en []) (fn:=Tryz.f242) eo Xu dT (by kernel_rfl) (ej (by kernel_rfl:_= []) dU) (by kernel_rfl) (fun x=>uA x.1)
  (fun x=>ak (by kernel_rfl) (aaz x.1 _)) fun _ _ h=>h
abbrev acL:List (Nat×eG):= [(138,Iw),(135,jU),(59,P7)]
theorem UQ:ef Tryz.prog (ek acL):=dS Nd <| dS j9 <| dS aax <| dX _
def CE {ρ:Type} (a0:ir) (a1:Int) (k:Bool×Unit->Option ρ):Option ρ:=
 (qU a0).bind fun y1=>br y1.1 ((fp a1 0 999).bind fun y2=>br y2.1 ((xH a0).bind fun y3=>k ((decide (a1≥y3.1)),())) (k (false,()))) (k (false,()))
def oc (a0:ir) (a1:Int):=CE a0 a1 some
theorem Xv {ρ:Type} (a0 a1:_) (k:_->Option ρ):CE a0 a1 k=(oc a0 a1).bind k:=by
 simp only [oc,CE,dZ,ah,ae]
abbrev HJ:eG:=eJ [.ty (.st .lease), .ty (.i .i64)] [.b] fun x=>oc x.1 x.2.1
theorem Oz:eh Tryz.prog 105 HJ:=
 dY (Λ:=en []) (fn:=Tryz.f105) eo UQ dT (by kernel_rfl) (ej (by kernel_rfl:_= []) dU) (by kernel_rfl) (fun x=>oc x.1 x.2.1)
  (fun x=>ak (by kernel_rfl) (Xv x.1 x.2.1 _)) fun _ _ h=>h
abbrev afU:List (Nat×eG):= [(163,Fr),(135,jU)]
theorem Xw:ef Tryz.prog (ek afU):=dS JA <| dS j9 <| dX _
def DW {ρ:Type} (a0:eb) (a1:Int) (k:eb×Bool×Unit->Option ρ):Option ρ:=
 (kK a0).bind fun y1=>(fp a1 1 20).bind fun y2=>br (!y2.1) (k (y1.1,false,())) (br (decide (a0.epoch < 0)) (k (y1.1,false,())) (br (decide (a1<=a0.epoch)) (k (y1.1,false,())) (k ((⟨y1.1.up,y1.1.intact,y1.1.version,a1,y1.1.config,y1.1.first,y1.1.log,y1.1.commit,y1.1.learned⟩:eb),true,()))))
def uB (a0:eb) (a1:Int):=DW a0 a1 some
theorem aaA {ρ:Type} (a0 a1:_) (k:_->Option ρ):DW a0 a1 k=(uB a0 a1).bind k:=by
 simp only [uB,DW,dZ,ah,ae]
abbrev Ss:eG:=eJ [.ty (.st .server), .ty (.i .i64)] [.st .server, .b] fun x=>uB x.1 x.2.1
theorem afV:eh Tryz.prog 275 Ss:=
 dY (Λ:=en []) (fn:=Tryz.f275) eo Xw dT (by kernel_rfl) (ej (by kernel_rfl:_= []) dU) (by kernel_rfl) (fun x=>uB x.1 x.2.1)
  (fun x=>ak (by kernel_rfl) (aaA x.1 x.2.1 _)) fun _ _ h=>h
abbrev OA:List (Nat×eG):= [(95,sf),(60,qT),(57,lI),(135,jU),(199,G8),(258,Gq),(275,Ss)]
theorem IH:ef Tryz.prog (ek OA):=dS vG <| dS u5 <| dS mB <| dS j9 <| dS Mf <| dS Jx <| dS afV <| dX _
abbrev ve:Code:=fm (fo Tryz.f243) 0
abbrev kh:it:=⟨[(1, .cl (.int .i64)),(2, .cl (.int .i64)),(3, .cl (.ptr 0 0)),(6, .cl (.ptr 1 0)),(7, .cl (.ptr 2 0)),(38, .cl (.own 0 (.i .i64))),(39, .cl (.int .i64)),(40, .cl (.int .i64))],[[.int .i64, .ro (.st .server), .ro (.i .i64), .ro (.st .config), .int .i64, .int .i64, .int .i64, .int .i64, .int .i64, .ro (.st .place)],[.int .i64, .em, .em, .em, .int .i64, .int .i64, .int .i64, .int .i64, .int .i64, .em],[.int .i64, .own 1 (.st .server), .own 2 (.i .i64), .own 3 (.st .config), .int .i64, .int .i64, .int .i64, .int .i64, .int .i64, .own 4 (.st .place)]],[.i .i64, .st .server, .i .i64, .st .config, .st .place],0,73⟩
abbrev q7:List (X×it):= [(.ext 0,⟨[(6, .cl (.ptr 0 0)),(7, .cl (.ptr 1 0))],[[.int .i64, .em, .em, .em, .int .i64, .int .i64, .int .i64, .int .i64, .int .i64, .em],[.int .i64, .own 0 (.st .server), .own 1 (.i .i64), .own 2 (.st .config), .int .i64, .int .i64, .int .i64, .int .i64, .int .i64, .own 3 (.st .place)]],[.st .server, .i .i64, .st .config, .st .place],0,73⟩)]
def yJ {ρ:Type} (v6:List Int) (v7:List eb) (v8:List Int) (v9:List dW) (v10:List ey) (v11:Int) (v12:Int) (v13:Int) (v14:Int) (v15:Int) (v16:List eb) (v17:List Int) (v18:List dW) (v19:Int) (v20:Int) (v21:Int) (v22:Int) (v23:Int) (v24:List ey) (v25:Int) (v26:Int) (v27:Int) (v28:Int) (v29:Int) (v30:Int) (v31:Int) (v32:Int) (v33:Int) (v34:Int) (v35:Int) (v36:Int) (fn: ((Int×Int×Unit×Unit×Unit×Unit×Int×Int×Unit)×((Int×(List eb)×(List Int)×(List dW)×Int×Int×Int×Int×Int×(List ey)×Unit)×(Int×Unit×Unit×Unit×Int×Int×Int×Int×Int×Unit×Unit)×(Int×Unit×Unit×Unit×Int×Int×Int×Int×Int×Unit×Unit)×Unit)×((List Int)×(List eb)×(List Int)×(List dW)×(List ey)×Unit))->Option ρ) (fe: ((Unit×Unit×Unit)×((Int×Unit×Unit×Unit×Int×Int×Int×Int×Int×Unit×Unit)×(Int×Unit×Unit×Unit×Int×Int×Int×Int×Int×Unit×Unit)×Unit)×((List eb)×(List Int)×(List dW)×(List ey)×Unit))->Option ρ):Option ρ:=
 br (decide (v14 < v13)) (eg (0<=v14/\v14 < (v6.length:Int)) ((v6[v14.toNat]?).bind fun x37=>eg (0<=x37/\x37 < (v7.length:Int)) ((v7[x37.toNat]?).bind fun x38=>br x38.up ((sd v17 v11 x37).bind fun y39=>br y39.1 (eg (0<=x37/\x37 < (v7.length:Int)) ((v7[x37.toNat]?).bind fun x40=>(v7[x37.toNat]?).bind fun x41=>eg (0+x40.config.replicas.length<=x41.config.replicas.length) ((v7[x37.toNat]?).bind fun x42=>eg (0+x40.config.witnesses.length<=x42.config.witnesses.length) ((v7[x37.toNat]?).bind fun x43=>eg (0+x40.log.length<=x43.log.length) ((v7[x37.toNat]?).bind fun x44=>eg (0+x40.learned.length<=x44.learned.length) ((uB (⟨x40.up,x40.intact,x40.version,x40.epoch,(⟨x40.config.epoch,x40.config.primary,((x41.config.replicas.drop 0).take x40.config.replicas.length),((x42.config.witnesses.drop 0).take x40.config.witnesses.length)⟩:dW),x40.first,((x43.log.drop 0).take x40.log.length),x40.commit,((x44.learned.drop 0).take x40.learned.length)⟩:eb) v12).bind fun y45=>eg (0<=x37/\x37 < (v7.length:Int)) ((v7[x37.toNat]?).bind fun _=>fn ((v11,v12,(),(),(),(),v13,(IntKind.wrap .i64 (v14+1)),()),((v15,v16,v17,v18,v19,v20,v21,v22,v23,v24,()),(v25,(),(),(),v26,v27,v28,v29,v30,(),()),(v31,(),(),(),v32,v33,v34,v35,v36,(),()),()),(v6,(v7.set x37.toNat y45.1),v8,v9,v10,()))) none) none) none) none) none) none) (fn ((v11,v12,(),(),(),(),v13,(IntKind.wrap .i64 (v14+1)),()),((v15,v16,v17,v18,v19,v20,v21,v22,v23,v24,()),(v25,(),(),(),v26,v27,v28,v29,v30,(),()),(v31,(),(),(),v32,v33,v34,v35,v36,(),()),()),(v6,v7,v8,v9,v10,())))) (fn ((v11,v12,(),(),(),(),v13,(IntKind.wrap .i64 (v14+1)),()),((v15,v16,v17,v18,v19,v20,v21,v22,v23,v24,()),(v25,(),(),(),v26,v27,v28,v29,v30,(),()),(v31,(),(),(),v32,v33,v34,v35,v36,(),()),()),(v6,v7,v8,v9,v10,())))) none) none) (fe (((),(),()),((v25,(),(),(),v26,v27,v28,v29,v30,(),()),(v31,(),(),(),v32,v33,v34,v35,v36,(),()),()),(v7,v8,v9,v10,())))
abbrev tQ {ρ:Type} (s:kh.D) (fn:kh.D->Option ρ) (fe:eX.D q7->Option ρ):Option ρ:=yJ s.2.2.1 s.2.2.2.1 s.2.2.2.2.1 s.2.2.2.2.2.1 s.2.2.2.2.2.2.1 s.1.1 s.1.2.1 s.1.2.2.2.2.2.2.1 s.1.2.2.2.2.2.2.2.1 s.2.1.1.1 s.2.1.1.2.1 s.2.1.1.2.2.1 s.2.1.1.2.2.2.1 s.2.1.1.2.2.2.2.1 s.2.1.1.2.2.2.2.2.1 s.2.1.1.2.2.2.2.2.2.1 s.2.1.1.2.2.2.2.2.2.2.1 s.2.1.1.2.2.2.2.2.2.2.2.1 s.2.1.1.2.2.2.2.2.2.2.2.2.1 s.2.1.2.1.1 s.2.1.2.1.2.2.2.2.1 s.2.1.2.1.2.2.2.2.2.1 s.2.1.2.1.2.2.2.2.2.2.1 s.2.1.2.1.2.2.2.2.2.2.2.1 s.2.1.2.1.2.2.2.2.2.2.2.2.1 s.2.1.2.2.1.1 s.2.1.2.2.1.2.2.2.2.1 s.2.1.2.2.1.2.2.2.2.2.1 s.2.1.2.2.1.2.2.2.2.2.2.1 s.2.1.2.2.1.2.2.2.2.2.2.2.1 s.2.1.2.2.1.2.2.2.2.2.2.2.2.1 fn fe
def lE (s:kh.D):Option (kh.D⊕eX.D q7):=tQ s (fun s=>some (.inl s)) (fun e=>some (.inr e))
def AB:kh.D->Option (eX.D q7):=mw lE
theorem Su {ρ:Type} (s:kh.D) (fn:_->Option ρ) (fe:_):tQ s fn fe=(lE s).bind (Sum.elim fn fe):=by
 simp only [lE,tQ,yJ,dZ,ea,an,ah,ae,aA,aB]
abbrev Ky:fO:=fR [] [1,2,3,6,7,38,39,40] kh q7 AB
theorem P8 (s:kh.D):iz Θ (ek OA) (en []) ve (kh.mk' s) (fM [1,2,3,6,7,38,39,40] [6,7] fun x S=>some (x,S))=(lE s).bind (Sum.elim (fun s'=>some (.nor,kh.mk' s')) fun e=>some (eX.e q7 e)):=
 ak (by kernel_rfl) (Su s _ _)
theorem P9:fk Tryz.prog ve Ky:=eA eo IH dT (by kernel_rfl) (fV (by kernel_rfl:_= []) dU) [] [1,2,3,6,7,38,39,40] [6,7] kh q7 (by kernel_rfl) lE P8 AB (ju lE) (ev lE)
def CF {ρ:Type} (a0:dV) (a1:Int) (a2:Int) (k:dV×Unit->Option ρ):Option ρ:=
 (fP a0).bind fun y1=>(gx a0.master).bind fun y2=>(gZ a0).bind fun y3=>br (!y3.1) (k (y1.1,())) (br (!y2.2.1) (k (y1.1,())) ((fp a2 1 (a0.master.configs.length:Int)).bind fun y4=>br (!y4.1) (k (y1.1,())) ((rG y2.1).bind fun y5=>(AB ((a1,a2,(),(),(),(),(y5.1.length:Int),0,()),((a0.now,a0.servers,a0.sides,a0.master.configs,a0.master.activated,a0.masterUp,a0.lease.epoch,a0.lease.holder,a0.lease.ends,a0.places,()),(0,(),(),(),0,0,0,0,0,(),()),(y1.1.now,(),(),(),y1.1.master.activated,y1.1.masterUp,y1.1.lease.epoch,y1.1.lease.holder,y1.1.lease.ends,(),()),()),(y5.1,y1.1.servers,y1.1.sides,y1.1.master.configs,y1.1.places,()))).bind fun e48=>k ((⟨e48.2.1.2.1.1,e48.2.2.1,e48.2.2.2.1,(⟨e48.2.2.2.2.1,e48.2.1.2.1.2.2.2.2.1⟩:ei),e48.2.1.2.1.2.2.2.2.2.1,(⟨e48.2.1.2.1.2.2.2.2.2.2.1,e48.2.1.2.1.2.2.2.2.2.2.2.1,e48.2.1.2.1.2.2.2.2.2.2.2.2.1⟩:ir),e48.2.2.2.2.2.1⟩:dV),()))))
def sn (a0:dV) (a1:Int) (a2:Int):=CF a0 a1 a2 some
theorem Xx {ρ:Type} (a0 a1 a2:_) (k:_->Option ρ):CF a0 a1 a2 k=(sn a0 a1 a2).bind k:=by
 simp only [sn,CF,dZ,ah,ae]
abbrev OB:eG:=eJ [.ty (.st .cluster), .ty (.i .i64), .ty (.i .i64)] [.st .cluster] fun x=>sn x.1 x.2.1 x.2.2.1
theorem acM:eh Tryz.prog 243 OB:=
 dY (Λ:=en [(fC ve,Ky)]) (fn:=Tryz.f243) eo IH dT (by kernel_rfl) (ej (by kernel_rfl:_= [ve]) (eu (q:=fC ve) rfl P9 fun _ _ _=>by kernel_rfl)) (by kernel_rfl) (fun x=>sn x.1 x.2.1 x.2.2.1)
  (fun x=>ak (by kernel_rfl) (Xx x.1 x.2.1 x.2.2.1 _)) fun _ _ h=>h
abbrev akr:List (Nat×eG):= [(258,Gq)]
theorem acN:ef Tryz.prog (ek akr):=dS Jx <| dX _
def Eo {ρ:Type} (a0:dV) (a1:Int) (a2:Int) (a3:Int) (k:Bool×Unit->Option ρ):Option ρ:=
 eg (0<=a2) ((a0.servers[a2.toNat]?).bind fun x1=>br x1.up ((sd a0.sides a1 a2).bind fun y2=>br y2.1 (k ((x1.config.epoch==a3),())) (k (false,()))) (k (false,()))) none
def xI (a0:dV) (a1:Int) (a2:Int) (a3:Int):=Eo a0 a1 a2 a3 some
theorem afW {ρ:Type} (a0 a1 a2 a3:_) (k:_->Option ρ):Eo a0 a1 a2 a3 k=(xI a0 a1 a2 a3).bind k:=by
 simp only [xI,Eo,dZ,ea,an,ah,ae]
abbrev Qa:eG:=eJ [.ty (.st .cluster), .ty (.i .i64), .ty (.i .i64), .ty (.i .i64)] [.b] fun x=>xI x.1 x.2.1 x.2.2.1 x.2.2.2.1
theorem aaB:eh Tryz.prog 302 Qa:=
 dY (Λ:=en []) (fn:=Tryz.f302) eo acN dT (by kernel_rfl) (ej (by kernel_rfl:_= []) dU) (by kernel_rfl) (fun x=>xI x.1 x.2.1 x.2.2.1 x.2.2.2.1)
  (fun x=>ak (by kernel_rfl) (afW x.1 x.2.1 x.2.2.1 x.2.2.2.1 _)) fun _ _ h=>h
abbrev Sv:List (Nat×eG):= [(60,qT),(156,vF),(302,Qa)]
theorem Kz:ef Tryz.prog (ek Sv):=dS u5 <| dS zQ <| dS aaB <| dX _
abbrev xJ:Code:=fm (fo Tryz.f301) 0
abbrev lr:it:=⟨[(1, .cl (.int .i64)),(2, .cl (.ptr 0 0)),(5, .cl (.own 0 (.i .i64))),(6, .cl (.ptr 1 0)),(27, .cl (.own 1 (.i .i64))),(28, .cl (.int .i64)),(29, .cl (.int .i64))],[[.int .i64, .ro (.st .server), .ro (.i .i64), .ro (.st .config), .int .i64, .int .i64, .int .i64, .int .i64, .int .i64, .ro (.st .place)],[.int .i64, .int .i64, .own 1 (.i .i64), .own 2 (.i .i64)]],[.i .i64, .i .i64, .i .i64],0,45⟩
abbrev tR:List (X×it):= [(.ext 0,⟨[(5, .cl (.own 0 (.i .i64)))],[],[.i .i64],0,45⟩)]
def AD {ρ:Type} (v3:List Int) (v4:List Int) (v5:List Int) (v6:Int) (v7:Int) (v8:Int) (v9:Int) (v10:List eb) (v11:List Int) (v12:List dW) (v13:Int) (v14:Int) (v15:Int) (v16:Int) (v17:Int) (v18:List ey) (v19:Int) (v20:Int) (fn: ((Int×Unit×Unit×Unit×Unit×Int×Int×Unit)×((Int×(List eb)×(List Int)×(List dW)×Int×Int×Int×Int×Int×(List ey)×Unit)×(Int×Int×Unit×Unit×Unit)×Unit)×((List Int)×(List Int)×(List Int)×Unit))->Option ρ) (fe: ((Unit×Unit)×(Unit)×((List Int)×Unit))->Option ρ):Option ρ:=
 br (decide (v8 < v7)) (eg (0<=v8/\v8 < (v4.length:Int)) ((v4[v8.toNat]?).bind fun x21=>(xI (⟨v9,v10,v11,(⟨v12,v13⟩:ei),v14,(⟨v15,v16,v17⟩:ir),v18⟩:dV) v6 x21 v19).bind fun y22=>br y22.1 (eg ((v3++([x21]:List Int)).length*8<=2 ^ 40) (fn ((v6,(),(),(),(),v7,(IntKind.wrap .i64 (v8+1)),()),((v9,v10,v11,v12,v13,v14,v15,v16,v17,v18,()),(v19,v20,(),(),()),()),((v3++([x21]:List Int)),v4,v5,()))) none) (fn ((v6,(),(),(),(),v7,(IntKind.wrap .i64 (v8+1)),()),((v9,v10,v11,v12,v13,v14,v15,v16,v17,v18,()),(v19,v20,(),(),()),()),(v3,v4,v5,())))) none) (fe (((),()),(()),(v3,())))
abbrev vf {ρ:Type} (s:lr.D) (fn:lr.D->Option ρ) (fe:eX.D tR->Option ρ):Option ρ:=AD s.2.2.1 s.2.2.2.1 s.2.2.2.2.1 s.1.1 s.1.2.2.2.2.2.1 s.1.2.2.2.2.2.2.1 s.2.1.1.1 s.2.1.1.2.1 s.2.1.1.2.2.1 s.2.1.1.2.2.2.1 s.2.1.1.2.2.2.2.1 s.2.1.1.2.2.2.2.2.1 s.2.1.1.2.2.2.2.2.2.1 s.2.1.1.2.2.2.2.2.2.2.1 s.2.1.1.2.2.2.2.2.2.2.2.1 s.2.1.1.2.2.2.2.2.2.2.2.2.1 s.2.1.2.1.1 s.2.1.2.1.2.1 fn fe
def md (s:lr.D):Option (lr.D⊕eX.D tR):=vf s (fun s=>some (.inl s)) (fun e=>some (.inr e))
def CG:lr.D->Option (eX.D tR):=mw md
theorem UR {ρ:Type} (s:lr.D) (fn:_->Option ρ) (fe:_):vf s fn fe=(md s).bind (Sum.elim fn fe):=by
 simp only [md,vf,AD,dZ,ea,an,ah,ae,aA,aB]
abbrev Mn:fO:=fR [] [1,2,5,6,27,28,29] lr tR CG
theorem Sw (s:lr.D):iz Θ (ek Sv) (en []) xJ (lr.mk' s) (fM [1,2,5,6,27,28,29] [5] fun x S=>some (x,S))=(md s).bind (Sum.elim (fun s'=>some (.nor,lr.mk' s')) fun e=>some (eX.e tR e)):=
 ak (by kernel_rfl) (UR s _ _)
theorem Sx:fk Tryz.prog xJ Mn:=eA eo Kz dT (by kernel_rfl) (fV (by kernel_rfl:_= []) dU) [] [1,2,5,6,27,28,29] [5] lr tR (by kernel_rfl) md Sw CG (ju md) (ev md)
def DX {ρ:Type} (a0:dV) (a1:Int) (k: (List Int)×Unit->Option ρ):Option ρ:=
 (gx a0.master).bind fun y1=>br (!y1.2.1) (k (([]:List Int),())) ((iR a0 a1).bind fun y2=>br (!y2.1) (k (([]:List Int),())) ((CG ((a1,(),(),(),(),(y1.1.replicas.length:Int),0,()),((a0.now,a0.servers,a0.sides,a0.master.configs,a0.master.activated,a0.masterUp,a0.lease.epoch,a0.lease.holder,a0.lease.ends,a0.places,()),(y1.1.epoch,y1.1.primary,(),(),()),()),(([]:List Int),y1.1.replicas,y1.1.witnesses,()))).bind fun e23=>k (e23.2.2.1,())))
def uC (a0:dV) (a1:Int):=DX a0 a1 some
theorem aaC {ρ:Type} (a0 a1:_) (k:_->Option ρ):DX a0 a1 k=(uC a0 a1).bind k:=by
 simp only [uC,DX,dZ,ah,ae]
abbrev Sy:eG:=eJ [.ty (.st .cluster), .ty (.i .i64)] [.ls (.i .i64)] fun x=>uC x.1 x.2.1
theorem afX:eh Tryz.prog 301 Sy:=
 dY (Λ:=en [(fC xJ,Mn)]) (fn:=Tryz.f301) eo Kz dT (by kernel_rfl) (ej (by kernel_rfl:_= [xJ]) (eu (q:=fC xJ) rfl Sx fun _ _ _=>by kernel_rfl)) (by kernel_rfl) (fun x=>uC x.1 x.2.1)
  (fun x=>ak (by kernel_rfl) (aaC x.1 x.2.1 _)) fun _ _ h=>h
abbrev Sz:List (Nat×eG):= [(301,Sy)]
theorem KA:ef Tryz.prog (ek Sz):=dS afX <| dX _
abbrev xK:Code:=fm (fo Tryz.f276) 0
abbrev lu:it:=⟨[(2, .cl (.ptr 0 0)),(5, .cl (.int .i64)),(10, .cl (.own 0 (.i .i64))),(11, .cl (.int .i64)),(12, .cl (.int .i64))],[[.int .i64, .ro (.st .server), .ro (.i .i64), .ro (.st .config), .int .i64, .int .i64, .int .i64, .int .i64, .int .i64, .ro (.st .place)]],[.i .i64],0,38⟩
abbrev tS:List (X×it):= [(.ext 0,⟨[(5, .cl (.int .i64))],[],[],0,38⟩)]
def AE {ρ:Type} (v2:List Int) (v3:Int) (v4:Int) (v5:Int) (v6:Int) (v7:List eb) (v8:List Int) (v9:List dW) (v10:Int) (v11:Int) (v12:Int) (v13:Int) (v14:Int) (v15:List ey) (fn: ((Unit×Int×Unit×Int×Int×Unit)×((Int×(List eb)×(List Int)×(List dW)×Int×Int×Int×Int×Int×(List ey)×Unit)×Unit)×((List Int)×Unit))->Option ρ) (fe: ((Int×Unit)×(Unit)×(Unit))->Option ρ):Option ρ:=
 br (decide (v5 < v4)) (eg (0<=v5/\v5 < (v2.length:Int)) ((v2[v5.toNat]?).bind fun x16=>br (decide (v3 < 0)) (fn (((),x16,(),v4,(IntKind.wrap .i64 (v5+1)),()),((v6,v7,v8,v9,v10,v11,v12,v13,v14,v15,()),()),(v2,()))) (eg (0<=x16) ((v7[x16.toNat]?).bind fun x17=>eg (0<=v3) ((v7[v3.toNat]?).bind fun x18=>br (decide ((x17.log.length:Int) > (x18.log.length:Int))) (fn (((),x16,(),v4,(IntKind.wrap .i64 (v5+1)),()),((v6,v7,v8,v9,v10,v11,v12,v13,v14,v15,()),()),(v2,()))) (fn (((),v3,(),v4,(IntKind.wrap .i64 (v5+1)),()),((v6,v7,v8,v9,v10,v11,v12,v13,v14,v15,()),()),(v2,())))) none) none)) none) (fe ((v3,()),(()),(())))
abbrev vg {ρ:Type} (s:lu.D) (fn:lu.D->Option ρ) (fe:eX.D tS->Option ρ):Option ρ:=AE s.2.2.1 s.1.2.1 s.1.2.2.2.1 s.1.2.2.2.2.1 s.2.1.1.1 s.2.1.1.2.1 s.2.1.1.2.2.1 s.2.1.1.2.2.2.1 s.2.1.1.2.2.2.2.1 s.2.1.1.2.2.2.2.2.1 s.2.1.1.2.2.2.2.2.2.1 s.2.1.1.2.2.2.2.2.2.2.1 s.2.1.1.2.2.2.2.2.2.2.2.1 s.2.1.1.2.2.2.2.2.2.2.2.2.1 fn fe
def me (s:lu.D):Option (lu.D⊕eX.D tS):=vg s (fun s=>some (.inl s)) (fun e=>some (.inr e))
def CH:lu.D->Option (eX.D tS):=mw me
theorem US {ρ:Type} (s:lu.D) (fn:_->Option ρ) (fe:_):vg s fn fe=(me s).bind (Sum.elim fn fe):=by
 simp only [me,vg,AE,dZ,ea,an,ah,ae,aA,aB]
abbrev Mo:fO:=fR [] [2,5,10,11,12] lu tS CH
theorem SA (s:lu.D):iz Θ (ek Sz) (en []) xK (lu.mk' s) (fM [2,5,10,11,12] [5] fun x S=>some (x,S))=(me s).bind (Sum.elim (fun s'=>some (.nor,lu.mk' s')) fun e=>some (eX.e tS e)):=
 ak (by kernel_rfl) (US s _ _)
theorem SB:fk Tryz.prog xK Mo:=eA eo KA dT (by kernel_rfl) (fV (by kernel_rfl:_= []) dU) [] [2,5,10,11,12] [5] lu tS (by kernel_rfl) me SA CH (ju me) (ev me)
def DY {ρ:Type} (a0:dV) (a1:Int) (k:Int×Unit->Option ρ):Option ρ:=
 (uC a0 a1).bind fun y1=>(CH (((),(-1),(),(y1.1.length:Int),0,()),((a0.now,a0.servers,a0.sides,a0.master.configs,a0.master.activated,a0.masterUp,a0.lease.epoch,a0.lease.holder,a0.lease.ends,a0.places,()),()),(y1.1,()))).bind fun e19=>k (e19.1.1,())
def uD (a0:dV) (a1:Int):=DY a0 a1 some
theorem aaD {ρ:Type} (a0 a1:_) (k:_->Option ρ):DY a0 a1 k=(uD a0 a1).bind k:=by
 simp only [uD,DY,ah,ae]
abbrev SC:eG:=eJ [.ty (.st .cluster), .ty (.i .i64)] [.i .i64] fun x=>uD x.1 x.2.1
theorem afY:eh Tryz.prog 276 SC:=
 dY (Λ:=en [(fC xK,Mo)]) (fn:=Tryz.f276) eo KA dT (by kernel_rfl) (ej (by kernel_rfl:_= [xK]) (eu (q:=fC xK) rfl SB fun _ _ _=>by kernel_rfl)) (by kernel_rfl) (fun x=>uD x.1 x.2.1)
  (fun x=>ak (by kernel_rfl) (aaD x.1 x.2.1 _)) fun _ _ h=>h
abbrev Xy:List (Nat×eG):= [(135,jU),(80,qq)]
theorem Qb:ef Tryz.prog (ek Xy):=dS j9 <| dS tL <| dX _
def yK {ρ:Type} (a0:eb) (k: (List ed)×Unit->Option ρ):Option ρ:=
 br (decide (a0.first < 0)) (k (([]:List ed),())) ((fp a0.commit a0.first (IntKind.wrap .i64 (a0.first+(a0.log.length:Int)))).bind fun y1=>br (!y1.1) (k (([]:List ed),())) (eg (0<=(0:Int)/\(0:Int)<=(IntKind.wrap .i64 (a0.commit - a0.first))/\(IntKind.wrap .i64 (a0.commit - a0.first))<=(a0.log.length:Int)) ((iI ((a0.log.drop (0:Int).toNat).take ((IntKind.wrap .i64 (a0.commit - a0.first)).toNat - (0:Int).toNat))).bind fun y2=>k (y2.1,())) none))
def o7 (a0:eb):=yK a0 some
theorem SD {ρ:Type} (a0:_) (k:_->Option ρ):yK a0 k=(o7 a0).bind k:=by
 simp only [o7,yK,dZ,ea,an,ah,ae]
abbrev KB:eG:=eJ [.ty (.st .server)] [.ls (.st .entry)] fun x=>o7 x.1
theorem Xz:eh Tryz.prog 174 KB:=
 dY (Λ:=en []) (fn:=Tryz.f174) eo Qb dT (by kernel_rfl) (ej (by kernel_rfl:_= []) dU) (by kernel_rfl) (fun x=>o7 x.1)
  (fun x=>ak (by kernel_rfl) (SD x.1 _)) fun _ _ h=>h
abbrev aiB:List (Nat×eG):= [(66,xq)]
theorem aaE:ef Tryz.prog (ek aiB):=dS Bn <| dX _
def Fv {ρ:Type} (a0:eb) (a1:Int) (k:Bool×Unit->Option ρ):Option ρ:=
 (kC a0.config.replicas a1).bind fun y1=>k (y1.1,())
def xL (a0:eb) (a1:Int):=Fv a0 a1 some
theorem acO {ρ:Type} (a0 a1:_) (k:_->Option ρ):Fv a0 a1 k=(xL a0 a1).bind k:=by
 simp only [xL,Fv,ah,ae]
abbrev V6:eG:=eJ [.ty (.st .server), .ty (.i .i64)] [.b] fun x=>xL x.1 x.2.1
theorem aiC:eh Tryz.prog 175 V6:=
 dY (Λ:=en []) (fn:=Tryz.f175) eo aaE dT (by kernel_rfl) (ej (by kernel_rfl:_= []) dU) (by kernel_rfl) (fun x=>xL x.1 x.2.1)
  (fun x=>ak (by kernel_rfl) (acO x.1 x.2.1 _)) fun _ _ h=>h
abbrev XA:List (Nat×eG):= [(174,KB),(175,V6),(80,qq)]
theorem Qc:ef Tryz.prog (ek XA):=dS Xz <| dS aiC <| dS tL <| dX _
def yL {ρ:Type} (a0:eb) (a1:Int) (k: (List ed)×Unit->Option ρ):Option ρ:=
 (o7 a0).bind fun y1=>(xL a0 a1).bind fun y2=>br y2.1 (br (decide ((y1.1.length:Int) > (a0.learned.length:Int))) (k (y1.1,())) ((iI a0.learned).bind fun y3=>k (y3.1,()))) ((iI a0.learned).bind fun y4=>k (y4.1,()))
def ny (a0:eb) (a1:Int):=yL a0 a1 some
theorem SE {ρ:Type} (a0 a1:_) (k:_->Option ρ):yL a0 a1 k=(ny a0 a1).bind k:=by
 simp only [ny,yL,dZ,ah,ae]
abbrev KC:eG:=eJ [.ty (.st .server), .ty (.i .i64)] [.ls (.st .entry)] fun x=>ny x.1 x.2.1
theorem XB:eh Tryz.prog 106 KC:=
 dY (Λ:=en []) (fn:=Tryz.f106) eo Qc dT (by kernel_rfl) (ej (by kernel_rfl:_= []) dU) (by kernel_rfl) (fun x=>ny x.1 x.2.1)
  (fun x=>ak (by kernel_rfl) (SE x.1 x.2.1 _)) fun _ _ h=>h
abbrev UT:List (Nat×eG):= []
theorem NH:ef Tryz.prog (ek UT):=dX _
def wt {ρ:Type} (a1:Int) (k: (List ed)×Unit->Option ρ):Option ρ:=
 br (decide (a1 < 0)) (none) (br (decide ((IntKind.wrap .i64 (a1 - (IntKind.wrap .i64 (0 - 0)))) > 0)) (eg ((0:Int)=0/\(0:Int)=0) (eg (0 < (IntKind.wrap .i64 (a1 - (IntKind.wrap .i64 (0 - 0))))/\(IntKind.wrap .i64 (a1 - (IntKind.wrap .i64 (0 - 0))))*((56:Nat):Int)<=2 ^ 40) (eg (0<=(0:Int)/\(0:Int)<=(0:Int)/\(0:Int)<=(((IntKind.wrap .i64 (a1 - (IntKind.wrap .i64 (0 - 0)))).toNat:Nat):Int)) (eg ((0+(0:Int).toNat)=0/\((0:Int).toNat - (0:Int).toNat)<=(List.replicate (IntKind.wrap .i64 (a1 - (IntKind.wrap .i64 (0 - 0)))).toNat (⟨0,(⟨0,0,0,0,0,0⟩:Op)⟩:ed)).length) (k (((List.replicate (IntKind.wrap .i64 (a1 - (IntKind.wrap .i64 (0 - 0)))).toNat (⟨0,(⟨0,0,0,0,0,0⟩:Op)⟩:ed)).take ((0:Int).toNat - (0:Int).toNat)),())) none) none) none) none) (k (([]:List ed),())))
def nT (a1:Int):=wt a1 some
theorem Qd {ρ:Type} (a1:_) (k:_->Option ρ):wt a1 k=(nT a1).bind k:=by
 simp only [nT,wt,dZ,ea,an,ae]
abbrev II:eG:=eJ [.nl, .ty (.i .i64)] [.ls (.st .entry)] fun x=>nT x.2.1
theorem UU:eh Tryz.prog 321 II:=
 dY (Λ:=en []) (fn:=Tryz.f321) eo NH dT (by kernel_rfl) (ej (by kernel_rfl:_= []) dU) (by kernel_rfl) (fun x=>nT x.2.1)
  (fun x=>ak (by kernel_rfl) (Qd x.2.1 _)) fun _ _ h=>h
abbrev EF:List (Nat×eG):= [(321,II)]
theorem A5:ef Tryz.prog (ek EF):=dS UU <| dX _
abbrev rK:Code:=fm (fo Tryz.f317) 0
abbrev qv:Code:=fm (fo Tryz.f317) 1
abbrev i9:it:=⟨[(0, .cl (.ro (.ls (.st .entry)))),(3, .cl (.int .i64)),(9, .cl (.ro (.ls (.st .entry)))),(10, .cl (.int .i64)),(11, .cl (.int .i64))],[],[],0,36⟩
abbrev oQ:List (X×it):= [(.ext 0,⟨[(0, .cl (.ro (.ls (.st .entry)))),(3, .cl (.int .i64))],[],[],0,36⟩)]
def uE {ρ:Type} (v1:List (List ed)) (v2:Int) (v3:List (List ed)) (v4:Int) (v5:Int) (fn: (((List (List ed))×Int×(List (List ed))×Int×Int×Unit)×(Unit)×(Unit))->Option ρ) (fe: (((List (List ed))×Int×Unit)×(Unit)×(Unit))->Option ρ):Option ρ:=
 br (decide (v5 < v4)) (eg (0<=v5) ((v3[v5.toNat]?).bind fun x6=>br (decide ((IntKind.wrap .i64 (v2+(x6.length:Int))) < 0)) (none) (fn ((v1,(IntKind.wrap .i64 (v2+(x6.length:Int))),v3,v4,(IntKind.wrap .i64 (v5+1)),()),(()),(())))) none) (fe ((v1,v2,()),(()),(())))
abbrev qw {ρ:Type} (s:i9.D) (fn:i9.D->Option ρ) (fe:eX.D oQ->Option ρ):Option ρ:=uE s.1.1 s.1.2.1 s.1.2.2.1 s.1.2.2.2.1 s.1.2.2.2.2.1 fn fe
def jR (s:i9.D):Option (i9.D⊕eX.D oQ):=qw s (fun s=>some (.inl s)) (fun e=>some (.inr e))
def wu:i9.D->Option (eX.D oQ):=mw jR
theorem NI {ρ:Type} (s:i9.D) (fn:_->Option ρ) (fe:_):qw s fn fe=(jR s).bind (Sum.elim fn fe):=by
 simp only [jR,qw,uE,dZ,ea,an,ah,ae,aA,aB]
abbrev Hd:fO:=fR [] [0,3,9,10,11] i9 oQ wu
theorem Mp (s:i9.D):iz Θ (ek EF) (en []) rK (i9.mk' s) (fM [0,3,9,10,11] [0,3] fun x S=>some (x,S))=(jR s).bind (Sum.elim (fun s'=>some (.nor,i9.mk' s')) fun e=>some (eX.e oQ e)):=
 ak (by kernel_rfl) (NI s _ _)
theorem Mq:fk Tryz.prog rK Hd:=eA eo A5 dT (by kernel_rfl) (fV (by kernel_rfl:_= []) dU) [] [0,3,9,10,11] [0,3] i9 oQ (by kernel_rfl) jR Mp wu (ju jR) (ev jR)
abbrev iJ:it:=⟨[(6, .cl (.own 0 (.st .entry))),(25, .cl (.ro (.ls (.st .entry)))),(26, .cl (.int .i64)),(27, .cl (.int .i64))],[],[.st .entry],0,36⟩
abbrev nU:List (X×it):= [(.ext 2,⟨[(6, .cl (.own 0 (.st .entry)))],[],[.st .entry],0,36⟩)]
def sO {ρ:Type} (v9:List ed) (v10:List (List ed)) (v11:Int) (v12:Int) (fn: ((Unit×(List (List ed))×Int×Int×Unit)×(Unit)×((List ed)×Unit))->Option ρ) (fe: ((Unit×Unit)×(Unit)×((List ed)×Unit))->Option ρ):Option ρ:=
 br (decide (v12 < v11)) (eg (0<=v12) ((v10[v12.toNat]?).bind fun x13=>eg ((v9++x13).length*56<=2 ^ 40) (fn (((),v10,v11,(IntKind.wrap .i64 (v12+1)),()),(()),((v9++x13),()))) none) none) (fe (((),()),(()),(v9,())))
abbrev pf {ρ:Type} (s:iJ.D) (fn:iJ.D->Option ρ) (fe:eX.D nU->Option ρ):Option ρ:=sO s.2.2.1 s.1.2.1 s.1.2.2.1 s.1.2.2.2.1 fn fe
def jg (s:iJ.D):Option (iJ.D⊕eX.D nU):=pf s (fun s=>some (.inl s)) (fun e=>some (.inr e))
def uF:iJ.D->Option (eX.D nU):=mw jg
theorem Mr {ρ:Type} (s:iJ.D) (fn:_->Option ρ) (fe:_):pf s fn fe=(jg s).bind (Sum.elim fn fe):=by
 simp only [jg,pf,sO,dZ,ea,an,ah,ae,aA,aB]
abbrev Gr:fO:=fR [] [6,25,26,27] iJ nU uF
theorem KU (s:iJ.D):iz Θ (ek EF) (en []) qv (iJ.mk' s) (fM [6,25,26,27] [6] fun x S=>some (x,S))=(jg s).bind (Sum.elim (fun s'=>some (.nor,iJ.mk' s')) fun e=>some (eX.e nU e)):=
 ak (by kernel_rfl) (Mr s _ _)
theorem KV:fk Tryz.prog qv Gr:=eA eo A5 dT (by kernel_rfl) (fV (by kernel_rfl:_= []) dU) [] [6,25,26,27] [6] iJ nU (by kernel_rfl) jg KU uF (ju jg) (ev jg)
def yM {ρ:Type} (a0:List (List ed)) (k: (List ed)×Unit->Option ρ):Option ρ:=
 (wu ((a0,0,a0,(a0.length:Int),0,()),(()),(()))).bind fun e7=>(nT e7.1.2.1).bind fun y8=>(uF (((),e7.1.1,(e7.1.1.length:Int),0,()),(()),(y8.1,()))).bind fun e14=>k (e14.2.2.1,())
def nA (a0:List (List ed)):=yM a0 some
theorem SF {ρ:Type} (a0:_) (k:_->Option ρ):yM a0 k=(nA a0).bind k:=by
 simp only [nA,yM,ah,ae]
abbrev KD:eG:=eJ [.ty (.ls (.ls (.st .entry)))] [.ls (.st .entry)] fun x=>nA x.1
theorem XC:eh Tryz.prog 317 KD:=
 dY (Λ:=en [(fC rK,Hd),(fC qv,Gr)]) (fn:=Tryz.f317) eo A5 dT (by kernel_rfl) (ej (by kernel_rfl:_= [rK,qv]) (H2 (eu (q:=fC rK) rfl Mq fun _ _ _=>by kernel_rfl) (eu (q:=fC qv) rfl KV fun _ _ _=>by kernel_rfl))) (by kernel_rfl) (fun x=>nA x.1)
  (fun x=>ak (by kernel_rfl) (SF x.1 _)) fun _ _ h=>h
abbrev Ms:List (Nat×eG):= []
theorem He:ef Tryz.prog (ek Ms):=dX _
abbrev tT:Code:=fm (fo Tryz.f318) 0
abbrev jO:it:=⟨[(0, .cl (.ro (.st .entry))),(1, .cl (.ro (.st .entry))),(12, .cl (.int .i64)),(13, .cl (.int .i64))],[],[],0,26⟩
abbrev pY:List (X×it):= [(.ret,⟨[(4, .cl (.bl))],[],[],0,26⟩),(.ext 0,⟨[(4, .cl (.dead))],[],[],0,26⟩)]
def wv {ρ:Type} (v1:List ed) (v2:List ed) (v3:Int) (v4:Int) (fn: (((List ed)×(List ed)×Int×Int×Unit)×(Unit)×(Unit))->Option ρ) (fe: ((Bool×Unit)×(Unit)×(Unit))⊕((Unit×Unit)×(Unit)×(Unit))->Option ρ):Option ρ:=
 br (decide (v4 < v3)) (eg (0<=v4) ((v1[v4.toNat]?).bind fun x5=>eg (0<=v4) ((v2[v4.toNat]?).bind fun x6=>br (!((x5.epoch==x6.epoch)&&((x5.op.client==x6.op.client)&&((x5.op.seq==x6.op.seq)&&((x5.op.kind==x6.op.kind)&&((x5.op.object==x6.op.object)&&((x5.op.old==x6.op.old)&&((x5.op.value==x6.op.value)&&true)))))))) (fe (.inl ((false,()),(()),(())))) (fn ((v1,v2,v3,(IntKind.wrap .i64 (v4+1)),()),(()),(())))) none) none) (fe (.inr (((),()),(()),(()))))
abbrev rL {ρ:Type} (s:jO.D) (fn:jO.D->Option ρ) (fe:eX.D pY->Option ρ):Option ρ:=wv s.1.1 s.1.2.1 s.1.2.2.1 s.1.2.2.2.1 fn fe
def kA (s:jO.D):Option (jO.D⊕eX.D pY):=rL s (fun s=>some (.inl s)) (fun e=>some (.inr e))
def tU:jO.D->Option (eX.D pY):=mw kA
theorem Qe {ρ:Type} (s:jO.D) (fn:_->Option ρ) (fe:_):rL s fn fe=(kA s).bind (Sum.elim fn fe):=by
 simp only [kA,rL,wv,dZ,ea,an,ah,ae,aA,aB]
abbrev IJ:fO:=fR [] [0,1,12,13] jO pY tU
theorem NJ (s:jO.D):iz Θ (ek Ms) (en []) tT (jO.mk' s) (fM [0,1,12,13] [4] fun x S=>some (x,S))=(kA s).bind (Sum.elim (fun s'=>some (.nor,jO.mk' s')) fun e=>some (eX.e pY e)):=
 ak (by kernel_rfl) (Qe s _ _)
theorem NK:fk Tryz.prog tT IJ:=eA eo He dT (by kernel_rfl) (fV (by kernel_rfl:_= []) dU) [] [0,1,12,13] [4] jO pY (by kernel_rfl) kA NJ tU (ju kA) (ev kA)
def AF {ρ:Type} (a0:List ed) (a1:List ed) (k:Bool×Unit->Option ρ):Option ρ:=
 br (!((a0.length:Int)==(a1.length:Int))) (k (false,())) ((tU ((a0,a1,(a0.length:Int),0,()),(()),(()))).bind fun e7=>Sum.elim (fun e7_=>k (e7_.1.1,())) (fun _=>k (true,())) e7)
def oE (a0:List ed) (a1:List ed):=AF a0 a1 some
theorem UV {ρ:Type} (a0 a1:_) (k:_->Option ρ):AF a0 a1 k=(oE a0 a1).bind k:=by
 simp only [oE,AF,dZ,fU,ah,ae]
abbrev Mt:eG:=eJ [.ty (.ls (.st .entry)), .ty (.ls (.st .entry))] [.b] fun x=>oE x.1 x.2.1
theorem aaF:eh Tryz.prog 318 Mt:=
 dY (Λ:=en [(fC tT,IJ)]) (fn:=Tryz.f318) eo He dT (by kernel_rfl) (ej (by kernel_rfl:_= [tT]) (eu (q:=fC tT) rfl NK fun _ _ _=>by kernel_rfl)) (by kernel_rfl) (fun x=>oE x.1 x.2.1)
  (fun x=>ak (by kernel_rfl) (UV x.1 x.2.1 _)) fun _ _ h=>h
abbrev aks:List (Nat×eG):= [(179,Nf),(213,aag),(317,KD),(318,Mt)]
theorem acP:ef Tryz.prog (ek aks):=dS RS <| dS aiw <| dS XC <| dS aaF <| dX _
def Hf {ρ:Type} (a0:List ed) (a1:Int) (a2:List ed) (k: (List ed)×Bool×Unit->Option ρ):Option ρ:=
 (sM a0).bind fun y1=>br (!y1.1) (k (([]:List ed),false,())) ((Ct a1 a2).bind fun y2=>br (!y2.1) (k (([]:List ed),false,())) (br (decide (a1 > (a0.length:Int))) (k (([]:List ed),false,())) (eg (0<=(if (IntKind.wrap .i64 ((a0.length:Int) - a1)) < (a2.length:Int) then (IntKind.wrap .i64 ((a0.length:Int) - a1)) else (a2.length:Int))/\(if (IntKind.wrap .i64 ((a0.length:Int) - a1)) < (a2.length:Int) then (IntKind.wrap .i64 ((a0.length:Int) - a1)) else (a2.length:Int))<=(a2.length:Int)/\(a2.length:Int)<=(a2.length:Int)) ((nA ([a0,((a2.drop (if (IntKind.wrap .i64 ((a0.length:Int) - a1)) < (a2.length:Int) then (IntKind.wrap .i64 ((a0.length:Int) - a1)) else (a2.length:Int)).toNat).take ((a2.length:Int).toNat - (if (IntKind.wrap .i64 ((a0.length:Int) - a1)) < (a2.length:Int) then (IntKind.wrap .i64 ((a0.length:Int) - a1)) else (a2.length:Int)).toNat))]:List (List ed))).bind fun y3=>eg (0<=a1/\a1<=(IntKind.wrap .i64 (a1+(if (IntKind.wrap .i64 ((a0.length:Int) - a1)) < (a2.length:Int) then (IntKind.wrap .i64 ((a0.length:Int) - a1)) else (a2.length:Int))))/\(IntKind.wrap .i64 (a1+(if (IntKind.wrap .i64 ((a0.length:Int) - a1)) < (a2.length:Int) then (IntKind.wrap .i64 ((a0.length:Int) - a1)) else (a2.length:Int))))<=(a0.length:Int)) (eg (0<=(0:Int)/\(0:Int)<=(if (IntKind.wrap .i64 ((a0.length:Int) - a1)) < (a2.length:Int) then (IntKind.wrap .i64 ((a0.length:Int) - a1)) else (a2.length:Int))/\(if (IntKind.wrap .i64 ((a0.length:Int) - a1)) < (a2.length:Int) then (IntKind.wrap .i64 ((a0.length:Int) - a1)) else (a2.length:Int))<=(a2.length:Int)) ((oE ((a0.drop a1.toNat).take ((IntKind.wrap .i64 (a1+(if (IntKind.wrap .i64 ((a0.length:Int) - a1)) < (a2.length:Int) then (IntKind.wrap .i64 ((a0.length:Int) - a1)) else (a2.length:Int)))).toNat - a1.toNat)) ((a2.drop (0:Int).toNat).take ((if (IntKind.wrap .i64 ((a0.length:Int) - a1)) < (a2.length:Int) then (IntKind.wrap .i64 ((a0.length:Int) - a1)) else (a2.length:Int)).toNat - (0:Int).toNat))).bind fun y4=>br (!y4.1) (k (([]:List ed),false,())) ((sM y3.1).bind fun y5=>br (!y5.1) (k (([]:List ed),false,())) (k (y3.1,true,())))) none) none) none)))
def A6 (a0:List ed) (a1:Int) (a2:List ed):=Hf a0 a1 a2 some
theorem afZ {ρ:Type} (a0 a1 a2:_) (k:_->Option ρ):Hf a0 a1 a2 k=(A6 a0 a1 a2).bind k:=by
 simp only [A6,Hf,dZ,ea,an,ah,ae]
abbrev aaG:eG:=eJ [.ty (.ls (.st .entry)), .ty (.i .i64), .ty (.ls (.st .entry))] [.ls (.st .entry), .b] fun x=>A6 x.1 x.2.1 x.2.2.1
theorem akt:eh Tryz.prog 303 aaG:=
 dY (Λ:=en []) (fn:=Tryz.f303) eo acP dT (by kernel_rfl) (ej (by kernel_rfl:_= []) dU) (by kernel_rfl) (fun x=>A6 x.1 x.2.1 x.2.2.1)
  (fun x=>ak (by kernel_rfl) (afZ x.1 x.2.1 x.2.2.1 _)) fun _ _ h=>h
abbrev JG:List (Nat×eG):= [(60,qT),(156,vF),(302,Qa),(258,Gq),(106,KC),(303,aaG)]
theorem EG:ef Tryz.prog (ek JG):=dS u5 <| dS zQ <| dS aaB <| dS Jx <| dS XB <| dS akt <| dX _
abbrev tV:Code:=fm (fo Tryz.f277) 0
abbrev vh:Code:=fm tV 0
abbrev ki:it:=⟨[(1, .cl (.int .i64)),(2, .cl (.ptr 0 0)),(6, .cl (.ptr 1 0)),(8, .cl (.own 0 (.st .entry))),(9, .cl (.bl)),(12, .cl (.ptr 2 0)),(33, .cl (.own 1 (.i .i64))),(34, .cl (.int .i64)),(35, .cl (.int .i64)),(52, .cl (.ro (.st .server))),(53, .cl (.int .i64)),(54, .cl (.int .i64))],[[.int .i64, .ro (.st .server), .ro (.i .i64), .ro (.st .config), .int .i64, .int .i64, .int .i64, .int .i64, .int .i64, .ro (.st .place)],[.int .i64, .int .i64, .own 2 (.i .i64), .own 1 (.i .i64)],[.bl, .bl, .int .i64, .int .i64, .int .i64, .int .i64, .ro (.i .i64), .ro (.i .i64), .int .i64, .ro (.st .entry), .int .i64, .ro (.st .entry)]],[.st .entry, .i .i64, .i .i64],0,99⟩
abbrev q8:List (X×it):= [(.ext 2,⟨[(1, .cl (.int .i64)),(2, .cl (.ptr 0 0)),(6, .cl (.ptr 1 0)),(8, .cl (.own 0 (.st .entry))),(9, .cl (.bl)),(33, .cl (.own 1 (.i .i64))),(34, .cl (.int .i64)),(35, .cl (.int .i64))],[[.int .i64, .ro (.st .server), .ro (.i .i64), .ro (.st .config), .int .i64, .int .i64, .int .i64, .int .i64, .int .i64, .ro (.st .place)],[.int .i64, .int .i64, .own 2 (.i .i64), .own 1 (.i .i64)]],[.st .entry, .i .i64, .i .i64],0,99⟩)]
def yN {ρ:Type} (v25:List ed) (v26:List Int) (v27:List Int) (v28:Int) (v29:Bool) (v30:Int) (v31:Int) (v32:List eb) (v33:Int) (v34:Int) (v35:Int) (v36:List eb) (v37:List Int) (v38:List dW) (v39:Int) (v40:Int) (v41:Int) (v42:Int) (v43:Int) (v44:List ey) (v45:Int) (v46:Int) (v47:Bool) (v48:Bool) (v49:Int) (v50:Int) (v51:Int) (v52:Int) (v53:List Int) (v54:List Int) (v55:Int) (v56:List ed) (v57:Int) (v58:List ed) (fn: ((Int×Unit×Unit×Unit×Bool×Unit×Unit×Int×Int×(List eb)×Int×Int×Unit)×((Int×(List eb)×(List Int)×(List dW)×Int×Int×Int×Int×Int×(List ey)×Unit)×(Int×Int×Unit×Unit×Unit)×(Bool×Bool×Int×Int×Int×Int×(List Int)×(List Int)×Int×(List ed)×Int×(List ed)×Unit)×Unit)×((List ed)×(List Int)×(List Int)×Unit))->Option ρ) (fe: ((Int×Unit×Unit×Unit×Bool×Unit×Int×Int×Unit)×((Int×(List eb)×(List Int)×(List dW)×Int×Int×Int×Int×Int×(List ey)×Unit)×(Int×Int×Unit×Unit×Unit)×Unit)×((List ed)×(List Int)×(List Int)×Unit))->Option ρ):Option ρ:=
 br (decide (v34 < v33)) (eg (0<=v34) ((v32[v34.toNat]?).bind fun x59=>br (!x59.up) (fn ((v28,(),(),(),v29,(),(),v30,v31,v32,v33,(IntKind.wrap .i64 (v34+1)),()),((v35,v36,v37,v38,v39,v40,v41,v42,v43,v44,()),(v45,v46,(),(),()),(v47,v48,v49,v50,v51,v52,v53,v54,v55,v56,v57,v58,()),()),(v25,v26,v27,()))) ((sd v37 v28 v34).bind fun y60=>br (!y60.1) (fn ((v28,(),(),(),v29,(),(),v30,v31,v32,v33,(IntKind.wrap .i64 (v34+1)),()),((v35,v36,v37,v38,v39,v40,v41,v42,v43,v44,()),(v45,v46,(),(),()),(v47,v48,v49,v50,v51,v52,v53,v54,v55,v56,v57,v58,()),()),(v25,v26,v27,()))) ((ny x59 v34).bind fun y61=>(A6 y61.1 v55 v56).bind fun y62=>br y62.2.1 (br (!v29) (fn ((v28,(),(),(),true,(),(),v30,v31,v32,v33,(IntKind.wrap .i64 (v34+1)),()),((v35,v36,v37,v38,v39,v40,v41,v42,v43,v44,()),(v45,v46,(),(),()),(v47,v48,v49,v50,v51,v52,v53,v54,v55,v56,v57,v58,()),()),(y62.1,v26,v27,()))) (br (decide ((y62.1.length:Int) > (v25.length:Int))) (fn ((v28,(),(),(),true,(),(),v30,v31,v32,v33,(IntKind.wrap .i64 (v34+1)),()),((v35,v36,v37,v38,v39,v40,v41,v42,v43,v44,()),(v45,v46,(),(),()),(v47,v48,v49,v50,v51,v52,v53,v54,v55,v56,v57,v58,()),()),(y62.1,v26,v27,()))) (fn ((v28,(),(),(),v29,(),(),v30,v31,v32,v33,(IntKind.wrap .i64 (v34+1)),()),((v35,v36,v37,v38,v39,v40,v41,v42,v43,v44,()),(v45,v46,(),(),()),(v47,v48,v49,v50,v51,v52,v53,v54,v55,v56,v57,v58,()),()),(v25,v26,v27,()))))) (fn ((v28,(),(),(),v29,(),(),v30,v31,v32,v33,(IntKind.wrap .i64 (v34+1)),()),((v35,v36,v37,v38,v39,v40,v41,v42,v43,v44,()),(v45,v46,(),(),()),(v47,v48,v49,v50,v51,v52,v53,v54,v55,v56,v57,v58,()),()),(v25,v26,v27,())))))) none) (fe ((v28,(),(),(),v29,(),v30,v31,()),((v35,v36,v37,v38,v39,v40,v41,v42,v43,v44,()),(v45,v46,(),(),()),()),(v25,v26,v27,())))
abbrev tW {ρ:Type} (s:ki.D) (fn:ki.D->Option ρ) (fe:eX.D q8->Option ρ):Option ρ:=yN s.2.2.1 s.2.2.2.1 s.2.2.2.2.1 s.1.1 s.1.2.2.2.2.1 s.1.2.2.2.2.2.2.2.1 s.1.2.2.2.2.2.2.2.2.1 s.1.2.2.2.2.2.2.2.2.2.1 s.1.2.2.2.2.2.2.2.2.2.2.1 s.1.2.2.2.2.2.2.2.2.2.2.2.1 s.2.1.1.1 s.2.1.1.2.1 s.2.1.1.2.2.1 s.2.1.1.2.2.2.1 s.2.1.1.2.2.2.2.1 s.2.1.1.2.2.2.2.2.1 s.2.1.1.2.2.2.2.2.2.1 s.2.1.1.2.2.2.2.2.2.2.1 s.2.1.1.2.2.2.2.2.2.2.2.1 s.2.1.1.2.2.2.2.2.2.2.2.2.1 s.2.1.2.1.1 s.2.1.2.1.2.1 s.2.1.2.2.1.1 s.2.1.2.2.1.2.1 s.2.1.2.2.1.2.2.1 s.2.1.2.2.1.2.2.2.1 s.2.1.2.2.1.2.2.2.2.1 s.2.1.2.2.1.2.2.2.2.2.1 s.2.1.2.2.1.2.2.2.2.2.2.1 s.2.1.2.2.1.2.2.2.2.2.2.2.1 s.2.1.2.2.1.2.2.2.2.2.2.2.2.1 s.2.1.2.2.1.2.2.2.2.2.2.2.2.2.1 s.2.1.2.2.1.2.2.2.2.2.2.2.2.2.2.1 s.2.1.2.2.1.2.2.2.2.2.2.2.2.2.2.2.1 fn fe
def lF (s:ki.D):Option (ki.D⊕eX.D q8):=tW s (fun s=>some (.inl s)) (fun e=>some (.inr e))
def AG:ki.D->Option (eX.D q8):=mw lF
theorem SG {ρ:Type} (s:ki.D) (fn:_->Option ρ) (fe:_):tW s fn fe=(lF s).bind (Sum.elim fn fe):=by
 simp only [lF,tW,yN,dZ,ea,an,ah,ae,aA,aB]
abbrev KE:fO:=fR [] [1,2,6,8,9,12,33,34,35,52,53,54] ki q8 AG
theorem Qf (s:ki.D):iz Θ (ek JG) (en []) vh (ki.mk' s) (fM [1,2,6,8,9,12,33,34,35,52,53,54] [1,2,6,8,9,33,34,35] fun x S=>some (x,S))=(lF s).bind (Sum.elim (fun s'=>some (.nor,ki.mk' s')) fun e=>some (eX.e q8 e)):=
 ak (by kernel_rfl) (SG s _ _)
theorem Qg:fk Tryz.prog vh KE:=eA eo EG dT (by kernel_rfl) (fV (by kernel_rfl:_= []) dU) [] [1,2,6,8,9,12,33,34,35,52,53,54] [1,2,6,8,9,33,34,35] ki q8 (by kernel_rfl) lF Qf AG (ju lF) (ev lF)
abbrev lw:it:=⟨[(1, .cl (.int .i64)),(2, .cl (.ptr 0 0)),(6, .cl (.ptr 1 0)),(8, .cl (.own 0 (.st .entry))),(9, .cl (.bl)),(33, .cl (.own 1 (.i .i64))),(34, .cl (.int .i64)),(35, .cl (.int .i64))],[[.int .i64, .ro (.st .server), .ro (.i .i64), .ro (.st .config), .int .i64, .int .i64, .int .i64, .int .i64, .int .i64, .ro (.st .place)],[.int .i64, .int .i64, .own 2 (.i .i64), .own 1 (.i .i64)]],[.st .entry, .i .i64, .i .i64],0,99⟩
abbrev tX:List (X×it):= [(.ext 0,⟨[(8, .cl (.own 0 (.st .entry))),(9, .cl (.bl))],[],[.st .entry],0,99⟩)]
def AH {ρ:Type} (v3:List ed) (v4:List Int) (v5:List Int) (v6:Int) (v7:Bool) (v8:Int) (v9:Int) (v10:Int) (v11:List eb) (v12:List Int) (v13:List dW) (v14:Int) (v15:Int) (v16:Int) (v17:Int) (v18:Int) (v19:List ey) (v20:Int) (v21:Int) (fn: ((Int×Unit×Unit×Unit×Bool×Unit×Int×Int×Unit)×((Int×(List eb)×(List Int)×(List dW)×Int×Int×Int×Int×Int×(List ey)×Unit)×(Int×Int×Unit×Unit×Unit)×Unit)×((List ed)×(List Int)×(List Int)×Unit))->Option ρ) (fe: ((Unit×Bool×Unit)×(Unit)×((List ed)×Unit))->Option ρ):Option ρ:=
 br (decide (v9 < v8)) (eg (0<=v9/\v9 < (v4.length:Int)) ((v4[v9.toNat]?).bind fun x22=>(xI (⟨v10,v11,v12,(⟨v13,v14⟩:ei),v15,(⟨v16,v17,v18⟩:ir),v19⟩:dV) v6 x22 v20).bind fun y23=>br (!y23.1) (fn ((v6,(),(),(),v7,(),v8,(IntKind.wrap .i64 (v9+1)),()),((v10,v11,v12,v13,v14,v15,v16,v17,v18,v19,()),(v20,v21,(),(),()),()),(v3,v4,v5,()))) (eg (0<=x22) ((v11[x22.toNat]?).bind fun x24=>(AG ((v6,(),(),(),v7,(),(),v8,v9,v11,(v11.length:Int),0,()),((v10,v11,v12,v13,v14,v15,v16,v17,v18,v19,()),(v20,v21,(),(),()),(x24.up,x24.intact,x24.version,x24.epoch,x24.config.epoch,x24.config.primary,x24.config.replicas,x24.config.witnesses,x24.first,x24.log,x24.commit,x24.learned,()),()),(v3,v4,v5,()))).bind fun e63=>fn ((e63.1.1,(),(),(),e63.1.2.2.2.2.1,(),e63.1.2.2.2.2.2.2.1,(IntKind.wrap .i64 (e63.1.2.2.2.2.2.2.2.1+1)),()),((e63.2.1.1.1,e63.2.1.1.2.1,e63.2.1.1.2.2.1,e63.2.1.1.2.2.2.1,e63.2.1.1.2.2.2.2.1,e63.2.1.1.2.2.2.2.2.1,e63.2.1.1.2.2.2.2.2.2.1,e63.2.1.1.2.2.2.2.2.2.2.1,e63.2.1.1.2.2.2.2.2.2.2.2.1,e63.2.1.1.2.2.2.2.2.2.2.2.2.1,()),(e63.2.1.2.1.1,e63.2.1.2.1.2.1,(),(),()),()),(e63.2.2.1,e63.2.2.2.1,e63.2.2.2.2.1,()))) none)) none) (fe (((),v7,()),(()),(v3,())))
abbrev vi {ρ:Type} (s:lw.D) (fn:lw.D->Option ρ) (fe:eX.D tX->Option ρ):Option ρ:=AH s.2.2.1 s.2.2.2.1 s.2.2.2.2.1 s.1.1 s.1.2.2.2.2.1 s.1.2.2.2.2.2.2.1 s.1.2.2.2.2.2.2.2.1 s.2.1.1.1 s.2.1.1.2.1 s.2.1.1.2.2.1 s.2.1.1.2.2.2.1 s.2.1.1.2.2.2.2.1 s.2.1.1.2.2.2.2.2.1 s.2.1.1.2.2.2.2.2.2.1 s.2.1.1.2.2.2.2.2.2.2.1 s.2.1.1.2.2.2.2.2.2.2.2.1 s.2.1.1.2.2.2.2.2.2.2.2.2.1 s.2.1.2.1.1 s.2.1.2.1.2.1 fn fe
def mf (s:lw.D):Option (lw.D⊕eX.D tX):=vi s (fun s=>some (.inl s)) (fun e=>some (.inr e))
def CI:lw.D->Option (eX.D tX):=mw mf
theorem UW {ρ:Type} (s:lw.D) (fn:_->Option ρ) (fe:_):vi s fn fe=(mf s).bind (Sum.elim fn fe):=by
 simp only [mf,vi,AH,dZ,ea,an,ah,ae,aA,aB]
abbrev Mu:fO:=fR [] [1,2,6,8,9,33,34,35] lw tX CI
theorem SH (s:lw.D):iz Θ (ek JG) (en [(fC vh,KE)]) tV (lw.mk' s) (fM [1,2,6,8,9,33,34,35] [8,9] fun x S=>some (x,S))=(mf s).bind (Sum.elim (fun s'=>some (.nor,lw.mk' s')) fun e=>some (eX.e tX e)):=
 ak (by kernel_rfl) (UW s _ _)
theorem SJ:fk Tryz.prog tV Mu:=eA eo EG dT (by kernel_rfl) (fV (by kernel_rfl:_= [vh]) (eu (q:=fC vh) rfl Qg fun _ _ _=>by kernel_rfl)) [] [1,2,6,8,9,33,34,35] [8,9] lw tX (by kernel_rfl) mf SH CI (ju mf) (ev mf)
def DZ {ρ:Type} (a0:dV) (a1:Int) (k: (List ed)×Bool×Unit->Option ρ):Option ρ:=
 (gx a0.master).bind fun y1=>br (!y1.2.1) (k (([]:List ed),false,())) ((iR a0 a1).bind fun y2=>br (!y2.1) (k (([]:List ed),false,())) ((CI ((a1,(),(),(),false,(),(y1.1.witnesses.length:Int),0,()),((a0.now,a0.servers,a0.sides,a0.master.configs,a0.master.activated,a0.masterUp,a0.lease.epoch,a0.lease.holder,a0.lease.ends,a0.places,()),(y1.1.epoch,y1.1.primary,(),(),()),()),(([]:List ed),y1.1.witnesses,y1.1.replicas,()))).bind fun e64=>br (!e64.1.2.1) (k (([]:List ed),false,())) (k (e64.2.2.1,true,()))))
def uG (a0:dV) (a1:Int):=DZ a0 a1 some
theorem aaH {ρ:Type} (a0 a1:_) (k:_->Option ρ):DZ a0 a1 k=(uG a0 a1).bind k:=by
 simp only [uG,DZ,dZ,ah,ae]
abbrev SK:eG:=eJ [.ty (.st .cluster), .ty (.i .i64)] [.ls (.st .entry), .b] fun x=>uG x.1 x.2.1
theorem af0:eh Tryz.prog 277 SK:=
 dY (Λ:=en [(fC tV,Mu)]) (fn:=Tryz.f277) eo EG dT (by kernel_rfl) (ej (by kernel_rfl:_= [tV]) (eu (q:=fC tV) rfl SJ fun _ _ _=>by kernel_rfl)) (by kernel_rfl) (fun x=>uG x.1 x.2.1)
  (fun x=>ak (by kernel_rfl) (aaH x.1 x.2.1 _)) fun _ _ h=>h
abbrev aiD:List (Nat×eG):= [(156,vF),(276,SC),(80,qq),(277,SK)]
theorem aaI:ef Tryz.prog (ek aiD):=dS zQ <| dS afY <| dS tL <| dS af0 <| dX _
def Fw {ρ:Type} (a0:dV) (a1:Int) (k: (List ed)×Bool×Unit->Option ρ):Option ρ:=
 (iR a0 a1).bind fun y1=>br (!y1.1) (k (([]:List ed),false,())) (br (a0.master.activated==0) (k (([]:List ed),true,())) ((uD a0 a1).bind fun y2=>br (decide (y2.1≥0)) (eg (0<=y2.1) ((a0.servers[y2.1.toNat]?).bind fun x3=>(iI x3.log).bind fun y4=>k (y4.1,true,())) none) ((uG a0 a1).bind fun y5=>k (y5.1,y5.2.1,()))))
def xM (a0:dV) (a1:Int):=Fw a0 a1 some
theorem acQ {ρ:Type} (a0 a1:_) (k:_->Option ρ):Fw a0 a1 k=(xM a0 a1).bind k:=by
 simp only [xM,Fw,dZ,ea,an,ah,ae]
abbrev V7:eG:=eJ [.ty (.st .cluster), .ty (.i .i64)] [.ls (.st .entry), .b] fun x=>xM x.1 x.2.1
theorem aiE:eh Tryz.prog 244 V7:=
 dY (Λ:=en []) (fn:=Tryz.f244) eo aaI dT (by kernel_rfl) (ej (by kernel_rfl:_= []) dU) (by kernel_rfl) (fun x=>xM x.1 x.2.1)
  (fun x=>ak (by kernel_rfl) (acQ x.1 x.2.1 _)) fun _ _ h=>h
abbrev acR:List (Nat×eG):= [(64,JC)]
theorem UX:ef Tryz.prog (ek acR):=dS P1 <| dX _
def CJ {ρ:Type} (a0:Int) (a1:dV) (k:Bool×Unit->Option ρ):Option ρ:=
 (sg a1 a0).bind fun y1=>k ((!y1.1),())
def so (a0:Int) (a1:dV):=CJ a0 a1 some
theorem XD {ρ:Type} (a0 a1:_) (k:_->Option ρ):CJ a0 a1 k=(so a0 a1).bind k:=by
 simp only [so,CJ,ah,ae]
abbrev OC:eG:=eJ [.ty (.i .i64), .pr (.st .cluster)] [.b] fun x=>so x.1 x.2.1
theorem acS:eh Tryz.prog 245 OC:=
 dY (Λ:=en []) (fn:=Tryz.f245) eo UX dT (by kernel_rfl) (ej (by kernel_rfl:_= []) dU) (by kernel_rfl) (fun x=>so x.1 x.2.1)
  (fun x=>ak (by kernel_rfl) (XD x.1 x.2.1 _)) fun _ _ h=>h
abbrev ub:List (Nat×eG):= [(245,OC)]
theorem rM:ef Tryz.prog (ek ub):=dS acS <| dX _
abbrev jq:Code:=fm (fo Tryz.f143) 0
abbrev fh:it:=⟨[(0, .cl (.ro (.i .i64))),(1, .fn 245 [.pro (.st .cluster)]),(7, .cl (.int .i64)),(8, .cl (.int .i64))],[],[],0,19⟩
abbrev il:List (X×it):= [(.ret,⟨[(4, .cl (.int .i64))],[],[],0,19⟩),(.ext 0,⟨[(4, .cl (.dead))],[],[],0,19⟩)]
def kM {ρ:Type} (v1:List Int) (v2:dV) (v3:Int) (v4:Int) (fn: (((List Int)×(dV×Unit)×Int×Int×Unit)×(Unit)×(Unit))->Option ρ) (fe: ((Int×Unit)×(Unit)×(Unit))⊕((Unit×Unit)×(Unit)×(Unit))->Option ρ):Option ρ:=
 br (decide (v4 < v3)) (eg (0<=v4) ((v1[v4.toNat]?).bind fun x5=>(so x5 v2).bind fun y6=>br y6.1 (fe (.inl ((v4,()),(()),(())))) (fn ((v1,(v2,()),v3,(IntKind.wrap .i64 (v4+1)),()),(()),(())))) none) (fe (.inr (((),()),(()),(()))))
abbrev ja {ρ:Type} (s:fh.D) (fn:fh.D->Option ρ) (fe:eX.D il->Option ρ):Option ρ:=kM s.1.1 s.1.2.1.1 s.1.2.2.1 s.1.2.2.2.1 fn fe
def ft (s:fh.D):Option (fh.D⊕eX.D il):=ja s (fun s=>some (.inl s)) (fun e=>some (.inr e))
def jr:fh.D->Option (eX.D il):=mw ft
theorem Bx {ρ:Type} (s:fh.D) (fn:_->Option ρ) (fe:_):ja s fn fe=(ft s).bind (Sum.elim fn fe):=by
 simp only [ft,ja,kM,dZ,ea,an,ah,ae,aA,aB]
abbrev sE:fO:=fR [] [0,1,7,8] fh il jr
theorem A7 (s:fh.D):iz Θ (ek ub) (en []) jq (fh.mk' s) (fM [0,1,7,8] [4] fun x S=>some (x,S))=(ft s).bind (Sum.elim (fun s'=>some (.nor,fh.mk' s')) fun e=>some (eX.e il e)):=
 ak (by kernel_rfl) (Bx s _ _)
theorem A8:fk Tryz.prog jq sE:=eA eo rM dT (by kernel_rfl) (fV (by kernel_rfl:_= []) dU) [] [0,1,7,8] [4] fh il (by kernel_rfl) ft A7 jr (ju ft) (ev ft)
def lL {ρ:Type} (a0:List Int) (a1_0:dV) (k:Int×Unit->Option ρ):Option ρ:=
 (jr ((a0,(a1_0,()),(a0.length:Int),0,()),(()),(()))).bind fun e7=>Sum.elim (fun e7_=>k (e7_.1.1,())) (fun _=>k ((-1),())) e7
def iM (a0:List Int) (a1_0:dV):=lL a0 a1_0 some
theorem C5 {ρ:Type} (a0 a1_0:_) (k:_->Option ρ):lL a0 a1_0 k=(iM a0 a1_0).bind k:=by
 simp only [iM,lL,fU,ah,ae]
abbrev uc:eG:=eJ [.ty (.ls (.i .i64)), .fn 245 [.st .cluster]] [.i .i64] fun x=>iM x.1 x.2.1.1
theorem Ep:eh Tryz.prog 143 uc:=
 dY (Λ:=en [(fC jq,sE)]) (fn:=Tryz.f143) eo rM dT (by kernel_rfl) (ej (by kernel_rfl:_= [jq]) (eu (q:=fC jq) rfl A8 fun _ _ _=>by kernel_rfl)) (by kernel_rfl) (fun x=>iM x.1 x.2.1.1)
  (fun x=>ak (by kernel_rfl) (C5 x.1 x.2.1.1 _)) fun _ _ h=>h
abbrev CK:List (Nat×eG):= [(143,uc)]
theorem zV:ef Tryz.prog (ek CK):=dS Ep <| dX _
def ko {ρ:Type} (a0:List Int) (a1_0:dV) (k:Bool×Unit->Option ρ):Option ρ:=
 (iM a0 a1_0).bind fun y1=>k ((decide (y1.1≥0)),())
def fK (a0:List Int) (a1_0:dV):=ko a0 a1_0 some
theorem A9 {ρ:Type} (a0 a1_0:_) (k:_->Option ρ):ko a0 a1_0 k=(fK a0 a1_0).bind k:=by
 simp only [fK,ko,ah,ae]
abbrev rN:eG:=eJ [.ty (.ls (.i .i64)), .fn 245 [.st .cluster]] [.b] fun x=>fK x.1 x.2.1.1
theorem CL:eh Tryz.prog 61 rN:=
 dY (Λ:=en []) (fn:=Tryz.f61) eo zV dT (by kernel_rfl) (ej (by kernel_rfl:_= []) dU) (by kernel_rfl) (fun x=>fK x.1 x.2.1.1)
  (fun x=>ak (by kernel_rfl) (A9 x.1 x.2.1.1 _)) fun _ _ h=>h
abbrev acT:List (Nat×eG):= []
theorem UY:ef Tryz.prog (ek acT):=dX _
def CM {ρ:Type} (a0:Op) (k:Bool×Unit->Option ρ):Option ρ:=
 k ((a0.kind==2),())
def vI (a0:Op):=CM a0 some
theorem XE {ρ:Type} (a0:_) (k:_->Option ρ):CM a0 k=(vI a0).bind k:=by
 simp only [vI,CM,ae]
abbrev OD:eG:=eJ [.ty (.st .op)] [.b] fun x=>vI x.1
theorem acU:eh Tryz.prog 222 OD:=
 dY (Λ:=en []) (fn:=Tryz.f222) eo UY dT (by kernel_rfl) (ej (by kernel_rfl:_= []) dU) (by kernel_rfl) (fun x=>vI x.1)
  (fun x=>ak (by kernel_rfl) (XE x.1 _)) fun _ _ h=>h
abbrev SM:List (Nat×eG):= [(222,OD)]
theorem Mv:ef Tryz.prog (ek SM):=dS acU <| dX _
def uH {ρ:Type} (a0:ed) (k:Bool×Unit->Option ρ):Option ρ:=
 (vI a0.op).bind fun y1=>k (y1.1,())
def oS (a0:ed):=uH a0 some
theorem NL {ρ:Type} (a0:_) (k:_->Option ρ):uH a0 k=(oS a0).bind k:=by
 simp only [oS,uH,ah,ae]
abbrev Hg:eG:=eJ [.ty (.st .entry)] [.b] fun x=>oS x.1
theorem SN:eh Tryz.prog 221 Hg:=
 dY (Λ:=en []) (fn:=Tryz.f221) eo Mv dT (by kernel_rfl) (ej (by kernel_rfl:_= []) dU) (by kernel_rfl) (fun x=>oS x.1)
  (fun x=>ak (by kernel_rfl) (NL x.1 _)) fun _ _ h=>h
abbrev pK:List (Nat×eG):= [(221,Hg)]
theorem oF:ef Tryz.prog (ek pK):=dS SN <| dX _
abbrev hZ:Code:=fm (fo Tryz.f262) 0
abbrev eO:it:=⟨[(0, .cl (.ro (.st .entry))),(1, .cl (.fc 221)),(7, .cl (.int .i64)),(8, .cl (.int .i64))],[],[],0,19⟩
abbrev gf:List (X×it):= [(.ret,⟨[(4, .cl (.int .i64))],[],[],0,19⟩),(.ext 0,⟨[(4, .cl (.dead))],[],[],0,19⟩)]
def jb {ρ:Type} (v1:List ed) (v2:Int) (v3:Int) (fn: (((List ed)×Unit×Int×Int×Unit)×(Unit)×(Unit))->Option ρ) (fe: ((Int×Unit)×(Unit)×(Unit))⊕((Unit×Unit)×(Unit)×(Unit))->Option ρ):Option ρ:=
 br (decide (v3 < v2)) (eg (0<=v3) ((v1[v3.toNat]?).bind fun x4=>(oS x4).bind fun y5=>br y5.1 (fe (.inl ((v3,()),(()),(())))) (fn ((v1,(),v2,(IntKind.wrap .i64 (v3+1)),()),(()),(())))) none) (fe (.inr (((),()),(()),(()))))
abbrev gH {ρ:Type} (s:eO.D) (fn:eO.D->Option ρ) (fe:eX.D gf->Option ρ):Option ρ:=jb s.1.1 s.1.2.2.1 s.1.2.2.2.1 fn fe
def eT (s:eO.D):Option (eO.D⊕eX.D gf):=gH s (fun s=>some (.inl s)) (fun e=>some (.inr e))
def ia:eO.D->Option (eX.D gf):=mw eT
theorem wC {ρ:Type} (s:eO.D) (fn:_->Option ρ) (fe:_):gH s fn fe=(eT s).bind (Sum.elim fn fe):=by
 simp only [eT,gH,jb,dZ,ea,an,ah,ae,aA,aB]
abbrev oT:fO:=fR [] [0,1,7,8] eO gf ia
theorem vU (s:eO.D):iz Θ (ek pK) (en []) hZ (eO.mk' s) (fM [0,1,7,8] [4] fun x S=>some (x,S))=(eT s).bind (Sum.elim (fun s'=>some (.nor,eO.mk' s')) fun e=>some (eX.e gf e)):=
 ak (by kernel_rfl) (wC s _ _)
theorem vV:fk Tryz.prog hZ oT:=eA eo oF dT (by kernel_rfl) (fV (by kernel_rfl:_= []) dU) [] [0,1,7,8] [4] eO gf (by kernel_rfl) eT vU ia (ju eT) (ev eT)
def jC {ρ:Type} (a0:List ed) (k:Int×Unit->Option ρ):Option ρ:=
 (ia ((a0,(),(a0.length:Int),0,()),(()),(()))).bind fun e6=>Sum.elim (fun e6_=>k (e6_.1.1,())) (fun _=>k ((-1),())) e6
def gq (a0:List ed):=jC a0 some
theorem yO {ρ:Type} (a0:_) (k:_->Option ρ):jC a0 k=(gq a0).bind k:=by
 simp only [gq,jC,fU,ah,ae]
abbrev pL:eG:=eJ [.ty (.ls (.st .entry)), .fc 221] [.i .i64] fun x=>gq x.1
theorem zW:eh Tryz.prog 262 pL:=
 dY (Λ:=en [(fC hZ,oT)]) (fn:=Tryz.f262) eo oF dT (by kernel_rfl) (ej (by kernel_rfl:_= [hZ]) (eu (q:=fC hZ) rfl vV fun _ _ _=>by kernel_rfl)) (by kernel_rfl) (fun x=>gq x.1)
  (fun x=>ak (by kernel_rfl) (yO x.1 _)) fun _ _ h=>h
abbrev xN:List (Nat×eG):= [(262,pL)]
theorem vj:ef Tryz.prog (ek xN):=dS zW <| dX _
def iV {ρ:Type} (a0:List ed) (k:Bool×Unit->Option ρ):Option ρ:=
 (gq a0).bind fun y1=>k ((decide (y1.1≥0)),())
def fX (a0:List ed):=iV a0 some
theorem vW {ρ:Type} (a0:_) (k:_->Option ρ):iV a0 k=(fX a0).bind k:=by
 simp only [fX,iV,ah,ae]
abbrev oG:eG:=eJ [.ty (.ls (.st .entry)), .fc 221] [.b] fun x=>fX x.1
theorem xO:eh Tryz.prog 220 oG:=
 dY (Λ:=en []) (fn:=Tryz.f220) eo vj dT (by kernel_rfl) (ej (by kernel_rfl:_= []) dU) (by kernel_rfl) (fun x=>fX x.1)
  (fun x=>ak (by kernel_rfl) (vW x.1 _)) fun _ _ h=>h
abbrev aaJ:List (Nat×eG):= [(220,oG)]
theorem SO:ef Tryz.prog (ek aaJ):=dS xO <| dX _
def AI {ρ:Type} (a0:List ed) (k:Bool×Unit->Option ρ):Option ρ:=
 (fX a0).bind fun y1=>k (y1.1,())
def oH (a0:List ed):=AI a0 some
theorem UZ {ρ:Type} (a0:_) (k:_->Option ρ):AI a0 k=(oH a0).bind k:=by
 simp only [oH,AI,ah,ae]
abbrev Gs:eG:=eJ [.ty (.ls (.st .entry))] [.b] fun x=>oH x.1
theorem Mw:eh Tryz.prog 162 Gs:=
 dY (Λ:=en []) (fn:=Tryz.f162) eo SO dT (by kernel_rfl) (ej (by kernel_rfl:_= []) dU) (by kernel_rfl) (fun x=>oH x.1)
  (fun x=>ak (by kernel_rfl) (UZ x.1 _)) fun _ _ h=>h
abbrev acV:List (Nat×eG):= []
theorem U0:ef Tryz.prog (ek acV):=dX _
def CN {ρ:Type} (a0:Int) (a1:dV) (k:Bool×Unit->Option ρ):Option ρ:=
 eg (0<=a0) ((a1.servers[a0.toNat]?).bind fun x1=>k ((x1.version==1),())) none
def vJ (a0:Int) (a1:dV):=CN a0 a1 some
theorem XF {ρ:Type} (a0 a1:_) (k:_->Option ρ):CN a0 a1 k=(vJ a0 a1).bind k:=by
 simp only [vJ,CN,ea,an,ah,ae]
abbrev OE:eG:=eJ [.ty (.i .i64), .pr (.st .cluster)] [.b] fun x=>vJ x.1 x.2.1
theorem acW:eh Tryz.prog 246 OE:=
 dY (Λ:=en []) (fn:=Tryz.f246) eo U0 dT (by kernel_rfl) (ej (by kernel_rfl:_= []) dU) (by kernel_rfl) (fun x=>vJ x.1 x.2.1)
  (fun x=>ak (by kernel_rfl) (XF x.1 x.2.1 _)) fun _ _ h=>h
abbrev ud:List (Nat×eG):= [(246,OE)]
theorem rO:ef Tryz.prog (ek ud):=dS acW <| dX _
abbrev js:Code:=fm (fo Tryz.f143) 0
abbrev fi:it:=⟨[(0, .cl (.ro (.i .i64))),(1, .fn 246 [.pro (.st .cluster)]),(7, .cl (.int .i64)),(8, .cl (.int .i64))],[],[],0,19⟩
abbrev im:List (X×it):= [(.ret,⟨[(4, .cl (.int .i64))],[],[],0,19⟩),(.ext 0,⟨[(4, .cl (.dead))],[],[],0,19⟩)]
def kN {ρ:Type} (v1:List Int) (v2:dV) (v3:Int) (v4:Int) (fn: (((List Int)×(dV×Unit)×Int×Int×Unit)×(Unit)×(Unit))->Option ρ) (fe: ((Int×Unit)×(Unit)×(Unit))⊕((Unit×Unit)×(Unit)×(Unit))->Option ρ):Option ρ:=
 br (decide (v4 < v3)) (eg (0<=v4) ((v1[v4.toNat]?).bind fun x5=>(vJ x5 v2).bind fun y6=>br y6.1 (fe (.inl ((v4,()),(()),(())))) (fn ((v1,(v2,()),v3,(IntKind.wrap .i64 (v4+1)),()),(()),(())))) none) (fe (.inr (((),()),(()),(()))))
abbrev jc {ρ:Type} (s:fi.D) (fn:fi.D->Option ρ) (fe:eX.D im->Option ρ):Option ρ:=kN s.1.1 s.1.2.1.1 s.1.2.2.1 s.1.2.2.2.1 fn fe
def fj (s:fi.D):Option (fi.D⊕eX.D im):=jc s (fun s=>some (.inl s)) (fun e=>some (.inr e))
def jt:fi.D->Option (eX.D im):=mw fj
theorem Bz {ρ:Type} (s:fi.D) (fn:_->Option ρ) (fe:_):jc s fn fe=(fj s).bind (Sum.elim fn fe):=by
 simp only [fj,jc,kN,dZ,ea,an,ah,ae,aA,aB]
abbrev sF:fO:=fR [] [0,1,7,8] fi im jt
theorem Ba (s:fi.D):iz Θ (ek ud) (en []) js (fi.mk' s) (fM [0,1,7,8] [4] fun x S=>some (x,S))=(fj s).bind (Sum.elim (fun s'=>some (.nor,fi.mk' s')) fun e=>some (eX.e im e)):=
 ak (by kernel_rfl) (Bz s _ _)
theorem Bb:fk Tryz.prog js sF:=eA eo rO dT (by kernel_rfl) (fV (by kernel_rfl:_= []) dU) [] [0,1,7,8] [4] fi im (by kernel_rfl) fj Ba jt (ju fj) (ev fj)
def lM {ρ:Type} (a0:List Int) (a1_0:dV) (k:Int×Unit->Option ρ):Option ρ:=
 (jt ((a0,(a1_0,()),(a0.length:Int),0,()),(()),(()))).bind fun e7=>Sum.elim (fun e7_=>k (e7_.1.1,())) (fun _=>k ((-1),())) e7
def iO (a0:List Int) (a1_0:dV):=lM a0 a1_0 some
theorem C6 {ρ:Type} (a0 a1_0:_) (k:_->Option ρ):lM a0 a1_0 k=(iO a0 a1_0).bind k:=by
 simp only [iO,lM,fU,ah,ae]
abbrev ue:eG:=eJ [.ty (.ls (.i .i64)), .fn 246 [.st .cluster]] [.i .i64] fun x=>iO x.1 x.2.1.1
theorem Er:eh Tryz.prog 143 ue:=
 dY (Λ:=en [(fC js,sF)]) (fn:=Tryz.f143) eo rO dT (by kernel_rfl) (ej (by kernel_rfl:_= [js]) (eu (q:=fC js) rfl Bb fun _ _ _=>by kernel_rfl)) (by kernel_rfl) (fun x=>iO x.1 x.2.1.1)
  (fun x=>ak (by kernel_rfl) (C6 x.1 x.2.1.1 _)) fun _ _ h=>h
abbrev CO:List (Nat×eG):= [(143,ue)]
theorem zX:ef Tryz.prog (ek CO):=dS Er <| dX _
def kp {ρ:Type} (a0:List Int) (a1_0:dV) (k:Bool×Unit->Option ρ):Option ρ:=
 (iO a0 a1_0).bind fun y1=>k ((decide (y1.1≥0)),())
def fL (a0:List Int) (a1_0:dV):=kp a0 a1_0 some
theorem Bc {ρ:Type} (a0 a1_0:_) (k:_->Option ρ):kp a0 a1_0 k=(fL a0 a1_0).bind k:=by
 simp only [fL,kp,ah,ae]
abbrev rP:eG:=eJ [.ty (.ls (.i .i64)), .fn 246 [.st .cluster]] [.b] fun x=>fL x.1 x.2.1.1
theorem CP:eh Tryz.prog 61 rP:=
 dY (Λ:=en []) (fn:=Tryz.f61) eo zX dT (by kernel_rfl) (ej (by kernel_rfl:_= []) dU) (by kernel_rfl) (fun x=>fL x.1 x.2.1.1)
  (fun x=>ak (by kernel_rfl) (Bc x.1 x.2.1.1 _)) fun _ _ h=>h
abbrev amF:List (Nat×eG):= [(179,Nf),(80,qq)]
theorem af1:ef Tryz.prog (ek amF):=dS RS <| dS tL <| dX _
def JH {ρ:Type} (a0:List ed) (k:Int×(List ed)×Unit->Option ρ):Option ρ:=
 (sM a0).bind fun y1=>br (!y1.1) (k (0,([]:List ed),())) (eg (0<=(if (IntKind.wrap .i64 ((a0.length:Int) - 3)) > 0 then (IntKind.wrap .i64 ((a0.length:Int) - 3)) else 0)/\(if (IntKind.wrap .i64 ((a0.length:Int) - 3)) > 0 then (IntKind.wrap .i64 ((a0.length:Int) - 3)) else 0)<=(a0.length:Int)/\(a0.length:Int)<=(a0.length:Int)) ((iI ((a0.drop (if (IntKind.wrap .i64 ((a0.length:Int) - 3)) > 0 then (IntKind.wrap .i64 ((a0.length:Int) - 3)) else 0).toNat).take ((a0.length:Int).toNat - (if (IntKind.wrap .i64 ((a0.length:Int) - 3)) > 0 then (IntKind.wrap .i64 ((a0.length:Int) - 3)) else 0).toNat))).bind fun y2=>k ((if (IntKind.wrap .i64 ((a0.length:Int) - 3)) > 0 then (IntKind.wrap .i64 ((a0.length:Int) - 3)) else 0),y2.1,())) none)
def Bp (a0:List ed):=JH a0 some
theorem aiF {ρ:Type} (a0:_) (k:_->Option ρ):JH a0 k=(Bp a0).bind k:=by
 simp only [Bp,JH,dZ,ea,an,ah,ae]
abbrev adT:eG:=eJ [.ty (.ls (.st .entry))] [.i .i64, .ls (.st .entry)] fun x=>Bp x.1
theorem amG:eh Tryz.prog 180 adT:=
 dY (Λ:=en []) (fn:=Tryz.f180) eo af1 dT (by kernel_rfl) (ej (by kernel_rfl:_= []) dU) (by kernel_rfl) (fun x=>Bp x.1)
  (fun x=>ak (by kernel_rfl) (aiF x.1 _)) fun _ _ h=>h
abbrev XG:List (Nat×eG):= [(178,R0),(163,Fr),(179,Nf),(135,jU),(141,G7),(162,Gs),(177,yu),(80,qq),(180,adT)]
theorem Qh:ef Tryz.prog (ek XG):=dS aaf <| dS JA <| dS RS <| dS j9 <| dS Ma <| dS Mw <| dS Cj <| dS tL <| dS amG <| dX _
def yP {ρ:Type} (a0:eb) (a1:dW) (a2:Int) (a3:List ed) (k:eb×Bool×Unit->Option ρ):Option ρ:=
 (Cr a1 a2).bind fun y1=>br (y1.1==0) ((kK a0).bind fun y2=>k (y2.1,false,())) ((sM a3).bind fun y3=>br (!y3.1) ((kK a0).bind fun y4=>k (y4.1,false,())) ((fp a0.version 1 2).bind fun y5=>br (!y5.1) ((kK a0).bind fun y6=>k (y6.1,false,())) ((fp a0.epoch 0 a1.epoch).bind fun y7=>br (!y7.1) ((kK a0).bind fun y8=>k (y8.1,false,())) ((rE a3).bind fun y9=>br (decide (y9.1 > a1.epoch)) ((kK a0).bind fun y10=>k (y10.1,false,())) (br (a0.version==1) ((oH a3).bind fun y11=>br y11.1 ((kK a0).bind fun y12=>k (y12.1,false,())) ((jz a1).bind fun y13=>(iI a3).bind fun y14=>br (y1.1==3) ((Bp a3).bind fun y15=>k ((⟨a0.up,true,a0.version,a1.epoch,y13.1,y15.1,y15.2.1,(a3.length:Int),([]:List ed)⟩:eb),true,())) (k ((⟨a0.up,true,a0.version,a1.epoch,y13.1,0,y14.1,(a3.length:Int),([]:List ed)⟩:eb),true,())))) ((jz a1).bind fun y16=>(iI a3).bind fun y17=>br (y1.1==3) ((Bp a3).bind fun y18=>k ((⟨a0.up,true,a0.version,a1.epoch,y16.1,y18.1,y18.2.1,(a3.length:Int),([]:List ed)⟩:eb),true,())) (k ((⟨a0.up,true,a0.version,a1.epoch,y16.1,0,y17.1,(a3.length:Int),([]:List ed)⟩:eb),true,()))))))))
def o8 (a0:eb) (a1:dW) (a2:Int) (a3:List ed):=yP a0 a1 a2 a3 some
theorem SP {ρ:Type} (a0 a1 a2 a3:_) (k:_->Option ρ):yP a0 a1 a2 a3 k=(o8 a0 a1 a2 a3).bind k:=by
 simp only [o8,yP,dZ,ah,ae]
abbrev KF:eG:=eJ [.ty (.st .server), .ty (.st .config), .ty (.i .i64), .ty (.ls (.st .entry))] [.st .server, .b] fun x=>o8 x.1 x.2.1 x.2.2.1 x.2.2.2.1
theorem XH:eh Tryz.prog 108 KF:=
 dY (Λ:=en []) (fn:=Tryz.f108) eo Qh dT (by kernel_rfl) (ej (by kernel_rfl:_= []) dU) (by kernel_rfl) (fun x=>o8 x.1 x.2.1 x.2.2.1 x.2.2.2.1)
  (fun x=>ak (by kernel_rfl) (SP x.1 x.2.1 x.2.2.1 x.2.2.2.1 _)) fun _ _ h=>h
abbrev U1:List (Nat×eG):= [(165,Fs),(137,zM)]
theorem NM:ef Tryz.prog (ek U1):=dS JB <| dS DM <| dX _
def ww {ρ:Type} (a0:ei) (a1:Int) (k:ei×Bool×Unit->Option ρ):Option ρ:=
 (pj a0).bind fun y1=>(mP a0).bind fun y2=>br (!y2.1) (k (y1.1,false,())) (br (!(a1==(a0.configs.length:Int))) (k (y1.1,false,())) (br (decide (a1<=a0.activated)) (k (y1.1,false,())) (k ((⟨y1.1.configs,a1⟩:ei),true,()))))
def mC (a0:ei) (a1:Int):=ww a0 a1 some
theorem Qi {ρ:Type} (a0 a1:_) (k:_->Option ρ):ww a0 a1 k=(mC a0 a1).bind k:=by
 simp only [mC,ww,dZ,ah,ae]
abbrev IK:eG:=eJ [.ty (.st .masterLog), .ty (.i .i64)] [.st .masterLog, .b] fun x=>mC x.1 x.2.1
theorem U2:eh Tryz.prog 109 IK:=
 dY (Λ:=en []) (fn:=Tryz.f109) eo NM dT (by kernel_rfl) (ej (by kernel_rfl:_= []) dU) (by kernel_rfl) (fun x=>mC x.1 x.2.1)
  (fun x=>ak (by kernel_rfl) (Qi x.1 x.2.1 _)) fun _ _ h=>h
abbrev aaK:List (Nat×eG):= [(242,Sr),(57,lI),(95,sf),(58,DU),(105,HJ),(243,OB),(244,V7),(199,G8),(61,aos (asj 1 245) rN rP),(162,Gs),(108,KF),(109,IK)]
theorem OF:ef Tryz.prog (ek aaK):=dS afT <| dS mB <| dS vG <| dS HI <| dS Oz <| dS acM <| dS aiE <| dS Mf <| dS (aot CL CP) <| dS Mw <| dS XH <| dS U2 <| dX _
abbrev zY:Code:=fm (fo Tryz.f189) 0
abbrev mg:it:=⟨[(2, .cl (.ptr 0 0)),(4, .cl (.ptr 1 0)),(6, .cl (.ptr 2 0)),(7, .cl (.own 0 (.st .entry))),(101, .cl (.own 1 (.i .i64))),(102, .cl (.int .i64)),(103, .cl (.int .i64))],[[.int .i64, .em, .em, .em, .int .i64, .int .i64, .int .i64, .int .i64, .int .i64, .em],[.int .i64, .int .i64, .own 2 (.i .i64), .own 3 (.i .i64)],[.int .i64, .own 4 (.st .server), .own 5 (.i .i64), .own 6 (.st .config), .int .i64, .int .i64, .int .i64, .int .i64, .int .i64, .own 7 (.st .place)]],[.st .entry, .i .i64, .i .i64, .i .i64, .st .server, .i .i64, .st .config, .st .place],0,136⟩
abbrev vK:List (X×it):= [(.ext 1,⟨[(2, .cl (.ptr 0 0)),(4, .cl (.ptr 1 0)),(6, .cl (.ptr 2 0))],[[.int .i64, .em, .em, .em, .int .i64, .int .i64, .int .i64, .int .i64, .int .i64, .em],[.int .i64, .int .i64, .own 0 (.i .i64), .own 1 (.i .i64)],[.int .i64, .own 2 (.st .server), .own 3 (.i .i64), .own 4 (.st .config), .int .i64, .int .i64, .int .i64, .int .i64, .int .i64, .own 5 (.st .place)]],[.i .i64, .i .i64, .st .server, .i .i64, .st .config, .st .place],0,136⟩)]
def CQ {ρ:Type} (v20:List ed) (v21:List Int) (v22:List Int) (v23:List Int) (v24:List eb) (v25:List Int) (v26:List dW) (v27:List ey) (v28:Int) (v29:Int) (v30:Int) (v31:Int) (v32:Int) (v33:Int) (v34:Int) (v35:Int) (v36:Int) (v37:Int) (v38:Int) (v39:Int) (v40:Int) (v41:Int) (v42:Int) (v43:Int) (fn: ((Unit×Unit×Unit×Unit×Unit×Int×Int×Unit)×((Int×Unit×Unit×Unit×Int×Int×Int×Int×Int×Unit×Unit)×(Int×Int×Unit×Unit×Unit)×(Int×Unit×Unit×Unit×Int×Int×Int×Int×Int×Unit×Unit)×Unit)×((List ed)×(List Int)×(List Int)×(List Int)×(List eb)×(List Int)×(List dW)×(List ey)×Unit))->Option ρ) (fe: ((Unit×Unit×Unit×Unit)×((Int×Unit×Unit×Unit×Int×Int×Int×Int×Int×Unit×Unit)×(Int×Int×Unit×Unit×Unit)×(Int×Unit×Unit×Unit×Int×Int×Int×Int×Int×Unit×Unit)×Unit)×((List Int)×(List Int)×(List eb)×(List Int)×(List dW)×(List ey)×Unit))->Option ρ):Option ρ:=
 br (decide (v29 < v28)) (eg (0<=v29/\v29 < (v21.length:Int)) ((v21[v29.toNat]?).bind fun x44=>eg (0<=x44/\x44 < (v24.length:Int)) ((v24[x44.toNat]?).bind fun x45=>(v24[x44.toNat]?).bind fun x46=>eg (0+x45.config.replicas.length<=x46.config.replicas.length) ((v24[x44.toNat]?).bind fun x47=>eg (0+x45.config.witnesses.length<=x47.config.witnesses.length) ((v24[x44.toNat]?).bind fun x48=>eg (0+x45.log.length<=x48.log.length) ((v24[x44.toNat]?).bind fun x49=>eg (0+x45.learned.length<=x49.learned.length) ((o8 (⟨x45.up,x45.intact,x45.version,x45.epoch,(⟨x45.config.epoch,x45.config.primary,((x46.config.replicas.drop 0).take x45.config.replicas.length),((x47.config.witnesses.drop 0).take x45.config.witnesses.length)⟩:dW),x45.first,((x48.log.drop 0).take x45.log.length),x45.commit,((x49.learned.drop 0).take x45.learned.length)⟩:eb) (⟨v36,v37,v22,v23⟩:dW) x44 v20).bind fun y50=>eg (0<=x44/\x44 < (v24.length:Int)) ((v24[x44.toNat]?).bind fun _=>fn (((),(),(),(),(),v28,(IntKind.wrap .i64 (v29+1)),()),((v30,(),(),(),v31,v32,v33,v34,v35,(),()),(v36,v37,(),(),()),(v38,(),(),(),v39,v40,v41,v42,v43,(),()),()),(v20,v21,v22,v23,(v24.set x44.toNat y50.1),v25,v26,v27,()))) none) none) none) none) none) none) none) (fe (((),(),(),()),((v30,(),(),(),v31,v32,v33,v34,v35,(),()),(v36,v37,(),(),()),(v38,(),(),(),v39,v40,v41,v42,v43,(),()),()),(v22,v23,v24,v25,v26,v27,())))
abbrev xP {ρ:Type} (s:mg.D) (fn:mg.D->Option ρ) (fe:eX.D vK->Option ρ):Option ρ:=CQ s.2.2.1 s.2.2.2.1 s.2.2.2.2.1 s.2.2.2.2.2.1 s.2.2.2.2.2.2.1 s.2.2.2.2.2.2.2.1 s.2.2.2.2.2.2.2.2.1 s.2.2.2.2.2.2.2.2.2.1 s.1.2.2.2.2.2.1 s.1.2.2.2.2.2.2.1 s.2.1.1.1 s.2.1.1.2.2.2.2.1 s.2.1.1.2.2.2.2.2.1 s.2.1.1.2.2.2.2.2.2.1 s.2.1.1.2.2.2.2.2.2.2.1 s.2.1.1.2.2.2.2.2.2.2.2.1 s.2.1.2.1.1 s.2.1.2.1.2.1 s.2.1.2.2.1.1 s.2.1.2.2.1.2.2.2.2.1 s.2.1.2.2.1.2.2.2.2.2.1 s.2.1.2.2.1.2.2.2.2.2.2.1 s.2.1.2.2.1.2.2.2.2.2.2.2.1 s.2.1.2.2.1.2.2.2.2.2.2.2.2.1 fn fe
def mS (s:mg.D):Option (mg.D⊕eX.D vK):=xP s (fun s=>some (.inl s)) (fun e=>some (.inr e))
def zZ:mg.D->Option (eX.D vK):=mw mS
theorem XI {ρ:Type} (s:mg.D) (fn:_->Option ρ) (fe:_):xP s fn fe=(mS s).bind (Sum.elim fn fe):=by
 simp only [mS,xP,CQ,dZ,ea,an,ah,ae,aA,aB]
abbrev OG:fO:=fR [] [2,4,6,7,101,102,103] mg vK zZ
theorem U3 (s:mg.D):iz Θ (ek aaK) (en []) zY (mg.mk' s) (fM [2,4,6,7,101,102,103] [2,4,6] fun x S=>some (x,S))=(mS s).bind (Sum.elim (fun s'=>some (.nor,mg.mk' s')) fun e=>some (eX.e vK e)):=
 ak (by kernel_rfl) (XI s _ _)
theorem U4:fk Tryz.prog zY OG:=eA eo OF dT (by kernel_rfl) (fV (by kernel_rfl:_= []) dU) [] [2,4,6,7,101,102,103] [2,4,6] mg vK (by kernel_rfl) mS U3 zZ (ju mS) (ev mS)
def Hh {ρ:Type} (a0:dV) (k:dV×Int×Unit->Option ρ):Option ρ:=
 (uA a0.master).bind fun y1=>(gZ a0).bind fun y2=>br (!y2.1) ((fP a0).bind fun y3=>k (y3.1,1,())) (br (!y1.2.1) ((fP a0).bind fun y4=>k (y4.1,1,())) (br (decide (y1.1.epoch<=a0.master.activated)) ((fP a0).bind fun y5=>k (y5.1,1,())) ((mR a0).bind fun y6=>br (!y6.1) ((fP a0).bind fun y7=>k (y7.1,8,())) (eg (0<=y1.1.primary) ((a0.servers[y1.1.primary.toNat]?).bind fun x8=>br (!x8.up) ((fP a0).bind fun y9=>k (y9.1,2,())) (eg (0<=y1.1.primary) ((a0.sides[y1.1.primary.toNat]?).bind fun x10=>br (!(x10==0)) ((fP a0).bind fun y11=>k (y11.1,10,())) ((oc a0.lease a0.now).bind fun y12=>br (!y12.1) ((fP a0).bind fun y13=>k (y13.1,7,())) ((sn a0 y1.1.primary y1.1.epoch).bind fun y14=>(xM y14.1 y1.1.primary).bind fun y15=>br (!y15.2.1) (k (y14.1,9,())) ((rG y1.1).bind fun y16=>(fK y16.1 y14.1).bind fun y17=>br y17.1 (k (y14.1,10,())) ((oH y15.1).bind fun y18=>br y18.1 ((fL y16.1 y14.1).bind fun y19=>br y19.1 (k (y14.1,6,())) ((zZ (((),(),(),(),(),(y16.1.length:Int),0,()),((0,(),(),(),0,0,0,0,0,(),()),(y1.1.epoch,y1.1.primary,(),(),()),(y14.1.now,(),(),(),y14.1.master.activated,y14.1.masterUp,y14.1.lease.epoch,y14.1.lease.holder,y14.1.lease.ends,(),()),()),(y15.1,y16.1,y1.1.replicas,y1.1.witnesses,y14.1.servers,y14.1.sides,y14.1.master.configs,y14.1.places,()))).bind fun e53=>(mC (⟨e53.2.2.2.2.2.2.1,e53.2.1.2.2.1.2.2.2.2.1⟩:ei) e53.2.1.2.1.1).bind fun y54=>k ((⟨e53.2.1.2.2.1.1,e53.2.2.2.2.1,e53.2.2.2.2.2.1,y54.1,e53.2.1.2.2.1.2.2.2.2.2.1,(⟨0,0,0⟩:ir),e53.2.2.2.2.2.2.2.1⟩:dV),0,()))) ((zZ (((),(),(),(),(),(y16.1.length:Int),0,()),((0,(),(),(),0,0,0,0,0,(),()),(y1.1.epoch,y1.1.primary,(),(),()),(y14.1.now,(),(),(),y14.1.master.activated,y14.1.masterUp,y14.1.lease.epoch,y14.1.lease.holder,y14.1.lease.ends,(),()),()),(y15.1,y16.1,y1.1.replicas,y1.1.witnesses,y14.1.servers,y14.1.sides,y14.1.master.configs,y14.1.places,()))).bind fun e88=>(mC (⟨e88.2.2.2.2.2.2.1,e88.2.1.2.2.1.2.2.2.2.1⟩:ei) e88.2.1.2.1.1).bind fun y89=>k ((⟨e88.2.1.2.2.1.1,e88.2.2.2.2.1,e88.2.2.2.2.2.1,y89.1,e88.2.1.2.2.1.2.2.2.2.2.1,(⟨0,0,0⟩:ir),e88.2.2.2.2.2.2.2.1⟩:dV),0,()))))))) none)) none))))
def xQ (a0:dV):=Hh a0 some
theorem af2 {ρ:Type} (a0:_) (k:_->Option ρ):Hh a0 k=(xQ a0).bind k:=by
 simp only [xQ,Hh,dZ,ea,an,ah,ae]
abbrev aaL:eG:=eJ [.ty (.st .cluster)] [.st .cluster, .i .i64] fun x=>xQ x.1
theorem aku:eh Tryz.prog 189 aaL:=
 dY (Λ:=en [(fC zY,OG)]) (fn:=Tryz.f189) eo OF dT (by kernel_rfl) (ej (by kernel_rfl:_= [zY]) (eu (q:=fC zY) rfl U4 fun _ _ _=>by kernel_rfl)) (by kernel_rfl) (fun x=>xQ x.1)
  (fun x=>ak (by kernel_rfl) (af2 x.1 _)) fun _ _ h=>h
abbrev aoK:List (Nat×eG):= [(156,vF)]
theorem aiG:ef Tryz.prog (ek aoK):=dS zQ <| dX _
def Nh {ρ:Type} (a0:dV) (a1:Int) (k:Int×Unit->Option ρ):Option ρ:=
 (iR a0 a1).bind fun y1=>br (!y1.1) (k (1,())) (eg (0<=a1) ((a0.servers[a1.toNat]?).bind fun x2=>br (!x2.up) (k (2,())) (k (0,()))) none)
def IL (a0:dV) (a1:Int):=Nh a0 a1 some
theorem akv {ρ:Type} (a0 a1:_) (k:_->Option ρ):Nh a0 a1 k=(IL a0 a1).bind k:=by
 simp only [IL,Nh,dZ,ea,an,ah,ae]
abbrev aiH:eG:=eJ [.ty (.st .cluster), .ty (.i .i64)] [.i .i64] fun x=>IL x.1 x.2.1
theorem aoL:eh Tryz.prog 247 aiH:=
 dY (Λ:=en []) (fn:=Tryz.f247) eo aiG dT (by kernel_rfl) (ej (by kernel_rfl:_= []) dU) (by kernel_rfl) (fun x=>IL x.1 x.2.1)
  (fun x=>ak (by kernel_rfl) (akv x.1 x.2.1 _)) fun _ _ h=>h
abbrev af3:List (Nat×eG):= [(138,Iw),(135,jU),(105,HJ)]
theorem XJ:ef Tryz.prog (ek af3):=dS Nd <| dS j9 <| dS Oz <| dX _
def D0 {ρ:Type} (a0:ir) (a1:Int) (a2:Int) (a3:Int) (a4:Int) (k:ir×Bool×Unit->Option ρ):Option ρ:=
 br (a0.epoch==a1) ((qU a0).bind fun y1=>br (!y1.1) (k (a0,false,())) ((fp a1 1 20).bind fun y2=>br (!y2.1) (k (a0,false,())) ((fp a2 0 4).bind fun y3=>br (!y3.1) (k (a0,false,())) ((fp a3 0 999).bind fun y4=>br (!y4.1) (k (a0,false,())) ((fp a4 1 50).bind fun y5=>br (!y5.1) (k (a0,false,())) (br (!(a0.holder==a2)) ((oc a0 a3).bind fun y6=>br (!y6.1) (k (a0,false,())) (br (a0.holder==a2) (k ((⟨a1,a2,(if a0.ends > (IntKind.wrap .i64 (a3+a4)) then a0.ends else (IntKind.wrap .i64 (a3+a4)))⟩:ir),true,())) (k ((⟨a1,a2,(IntKind.wrap .i64 (a3+a4))⟩:ir),true,())))) (br (a0.holder==a2) (k ((⟨a1,a2,(if a0.ends > (IntKind.wrap .i64 (a3+a4)) then a0.ends else (IntKind.wrap .i64 (a3+a4)))⟩:ir),true,())) (k ((⟨a1,a2,(IntKind.wrap .i64 (a3+a4))⟩:ir),true,()))))))))) ((qU a0).bind fun y7=>br (!y7.1) (k (a0,false,())) ((fp a1 1 20).bind fun y8=>br (!y8.1) (k (a0,false,())) ((fp a2 0 4).bind fun y9=>br (!y9.1) (k (a0,false,())) ((fp a3 0 999).bind fun y10=>br (!y10.1) (k (a0,false,())) ((fp a4 1 50).bind fun y11=>br (!y11.1) (k (a0,false,())) (br (!false) ((oc a0 a3).bind fun y12=>br (!y12.1) (k (a0,false,())) (k ((⟨a1,a2,(IntKind.wrap .i64 (a3+a4))⟩:ir),true,()))) (k ((⟨a1,a2,(IntKind.wrap .i64 (a3+a4))⟩:ir),true,()))))))))
def uI (a0:ir) (a1:Int) (a2:Int) (a3:Int) (a4:Int):=D0 a0 a1 a2 a3 a4 some
theorem aaM {ρ:Type} (a0 a1 a2 a3 a4:_) (k:_->Option ρ):D0 a0 a1 a2 a3 a4 k=(uI a0 a1 a2 a3 a4).bind k:=by
 simp only [uI,D0,dZ,ah,ae]
abbrev SQ:eG:=eJ [.ty (.st .lease), .ty (.i .i64), .ty (.i .i64), .ty (.i .i64), .ty (.i .i64)] [.st .lease, .b] fun x=>uI x.1 x.2.1 x.2.2.1 x.2.2.2.1 x.2.2.2.2.1
theorem af4:eh Tryz.prog 248 SQ:=
 dY (Λ:=en []) (fn:=Tryz.f248) eo XJ dT (by kernel_rfl) (ej (by kernel_rfl:_= []) dU) (by kernel_rfl) (fun x=>uI x.1 x.2.1 x.2.2.1 x.2.2.2.1 x.2.2.2.2.1)
  (fun x=>ak (by kernel_rfl) (aaM x.1 x.2.1 x.2.2.1 x.2.2.2.1 x.2.2.2.2.1 _)) fun _ _ h=>h
abbrev af5:List (Nat×eG):= [(95,sf),(247,aiH),(198,HG),(58,DU),(248,SQ)]
theorem XK:ef Tryz.prog (ek af5):=dS vG <| dS aoL <| dS Oq <| dS HI <| dS af4 <| dX _
def D3 {ρ:Type} (a0:dV) (a1:Int) (a2:Int) (k:dV×Int×Unit->Option ρ):Option ρ:=
 (fP a0).bind fun y1=>(IL a0 a1).bind fun y2=>br (!(y2.1==0)) (k (y1.1,y2.1,())) ((ma a0 a1).bind fun y3=>br (!y3.1) (k (y1.1,3,())) ((mR a0).bind fun y4=>br (!y4.1) (k (y1.1,8,())) (eg (0<=a1) ((a0.sides[a1.toNat]?).bind fun x5=>br (!(x5==0)) (k (y1.1,8,())) (eg (0<=a1) ((a0.servers[a1.toNat]?).bind fun x6=>br (decide ((a0.master.configs.length:Int) > x6.config.epoch)) (k (y1.1,11,())) (eg (0<=a1) ((a0.servers[a1.toNat]?).bind fun x7=>(uI a0.lease x7.config.epoch a1 a0.now a2).bind fun y8=>br (!y8.2.1) (k (y1.1,7,())) (k ((⟨y1.1.now,y1.1.servers,y1.1.sides,y1.1.master,y1.1.masterUp,y8.1,y1.1.places⟩:dV),0,()))) none)) none)) none)))
def rQ (a0:dV) (a1:Int) (a2:Int):=D3 a0 a1 a2 some
theorem aaN {ρ:Type} (a0 a1 a2:_) (k:_->Option ρ):D3 a0 a1 a2 k=(rQ a0 a1 a2).bind k:=by
 simp only [rQ,D3,dZ,ea,an,ah,ae]
abbrev SR:eG:=eJ [.ty (.st .cluster), .ty (.i .i64), .ty (.i .i64)] [.st .cluster, .i .i64] fun x=>rQ x.1 x.2.1 x.2.2.1
theorem af6:eh Tryz.prog 190 SR:=
 dY (Λ:=en []) (fn:=Tryz.f190) eo XK dT (by kernel_rfl) (ej (by kernel_rfl:_= []) dU) (by kernel_rfl) (fun x=>rQ x.1 x.2.1 x.2.2.1)
  (fun x=>ak (by kernel_rfl) (aaN x.1 x.2.1 x.2.2.1 _)) fun _ _ h=>h
abbrev acX:List (Nat×eG):= [(57,lI),(95,sf),(135,jU),(112,Mg),(186,So),(187,Oy),(59,P7),(188,aay),(189,aaL),(190,SR)]
theorem U5:ef Tryz.prog (ek acX):=dS mB <| dS vG <| dS j9 <| dS V2 <| dS afP <| dS acI <| dS aax <| dS akq <| dS aku <| dS af6 <| dX _
def CS {ρ:Type} (a0:dV) (a1:Int) (a2:Int) (k:dV×Int×Unit->Option ρ):Option ρ:=
 (gZ a0).bind fun y1=>br (!y1.1) ((fP a0).bind fun y2=>k (y2.1,1,())) ((fp a2 1 50).bind fun y3=>br (!y3.1) ((fP a0).bind fun y4=>k (y4.1,1,())) ((rI a0).bind fun y5=>br y5.1 ((fP a0).bind fun y6=>k (y6.1,0,())) ((uz a0 a1 0).bind fun y7=>br (!y7.2.1) ((fP a0).bind fun y8=>k (y8.1,10,())) ((sk a0 y7.1).bind fun y9=>br (y9.2.1==0) ((xH y9.1.lease).bind fun y10=>(A4 y9.1 (if (IntKind.wrap .i64 (y10.1 - y9.1.now)) > 0 then (IntKind.wrap .i64 (y10.1 - y9.1.now)) else 0)).bind fun y11=>br (!(y11.2.1==0)) ((fP a0).bind fun y12=>k (y12.1,y11.2.1,())) ((xQ y11.1).bind fun y13=>br (!(y13.2.1==0)) (k (y13.1,y13.2.1,())) ((rQ y13.1 y7.1.primary a2).bind fun y14=>k (y14.1,y14.2.1,())))) (br (!(y9.2.1==0)) ((fP a0).bind fun y15=>k (y15.1,y9.2.1,())) ((xQ y9.1).bind fun y16=>br (!(y16.2.1==0)) (k (y16.1,y16.2.1,())) ((rQ y16.1 y7.1.primary a2).bind fun y17=>k (y17.1,y17.2.1,()))))))))
def sq (a0:dV) (a1:Int) (a2:Int):=CS a0 a1 a2 some
theorem XL {ρ:Type} (a0 a1 a2:_) (k:_->Option ρ):CS a0 a1 a2 k=(sq a0 a1 a2).bind k:=by
 simp only [sq,CS,dZ,ah,ae]
abbrev OH:eG:=eJ [.ty (.st .cluster), .ty (.i .i64), .ty (.i .i64)] [.st .cluster, .i .i64] fun x=>sq x.1 x.2.1 x.2.2.1
theorem acY:eh Tryz.prog 113 OH:=
 dY (Λ:=en []) (fn:=Tryz.f113) eo U5 dT (by kernel_rfl) (ej (by kernel_rfl:_= []) dU) (by kernel_rfl) (fun x=>sq x.1 x.2.1 x.2.2.1)
  (fun x=>ak (by kernel_rfl) (XL x.1 x.2.1 x.2.2.1 _)) fun _ _ h=>h
abbrev Mx:List (Nat×eG):= [(112,Mg),(113,OH)]
theorem IM:ef Tryz.prog (ek Mx):=dS V2 <| dS acY <| dX _
def qz {ρ:Type} (a0:dV) (a1:Int) (k:Int×Unit->Option ρ):Option ρ:=
 (rI a0).bind fun y1=>br y1.1 (k (0,())) ((sq a0 a1 50).bind fun y2=>(rI y2.1).bind fun y3=>br y3.1 (k (1,())) (k ((-1),())))
def lx (a0:dV) (a1:Int):=qz a0 a1 some
theorem JI {ρ:Type} (a0 a1:_) (k:_->Option ρ):qz a0 a1 k=(lx a0 a1).bind k:=by
 simp only [lx,qz,dZ,ah,ae]
abbrev Es:eG:=eJ [.ty (.st .cluster), .ty (.i .i64)] [.i .i64] fun x=>lx x.1 x.2.1
theorem My:eh Tryz.prog 36 Es:=
 dY (Λ:=en []) (fn:=Tryz.f36) eo IM dT (by kernel_rfl) (ej (by kernel_rfl:_= []) dU) (by kernel_rfl) (fun x=>lx x.1 x.2.1)
  (fun x=>ak (by kernel_rfl) (JI x.1 x.2.1 _)) fun _ _ h=>h
abbrev aiI:List (Nat×eG):= []
theorem V8:ef Tryz.prog (ek aiI):=dX _
abbrev Gt:Code:=fm (fo Tryz.f19) 0
abbrev qx:it:=⟨[(0, .cl (.ro (.i .i64))),(1, .cl (.ro (.i .i64))),(5, .cl (.int .i64))],[],[],0,26⟩
abbrev Dp:List (X×it):= [(.ret,⟨[(4, .cl (.bl))],[],[],0,26⟩),(.ext 0,⟨[(4, .cl (.dead))],[],[],0,26⟩)]
def V9 {ρ:Type} (v1:List Int) (v2:List Int) (v3:Int) (fn: (((List Int)×(List Int)×Int×Unit)×(Unit)×(Unit))->Option ρ) (fe: ((Bool×Unit)×(Unit)×(Unit))⊕((Unit×Unit)×(Unit)×(Unit))->Option ρ):Option ρ:=
 br (decide (v3 < (v1.length:Int))) (eg (0<=v3) ((v1[v3.toNat]?).bind fun x4=>eg (0<=v3) ((v2[v3.toNat]?).bind fun x5=>br (!(x4==x5)) (fe (.inl ((false,()),(()),(())))) (fn ((v1,v2,(IntKind.wrap .i64 (v3+1)),()),(()),(())))) none) none) (fe (.inr (((),()),(()),(()))))
abbrev Mz {ρ:Type} (s:qx.D) (fn:qx.D->Option ρ) (fe:eX.D Dp->Option ρ):Option ρ:=V9 s.1.1 s.1.2.1 s.1.2.2.1 fn fe
def xR (s:qx.D):Option (qx.D⊕eX.D Dp):=Mz s (fun s=>some (.inl s)) (fun e=>some (.inr e))
def Qj:qx.D->Option (eX.D Dp):=mw xR
theorem af7 {ρ:Type} (s:qx.D) (fn:_->Option ρ) (fe:_):Mz s fn fe=(xR s).bind (Sum.elim fn fe):=by
 simp only [xR,Mz,V9,dZ,ea,an,ah,ae,aA,aB]
abbrev aaO:fO:=fR [] [0,1,5] qx Dp Qj
theorem acZ (s:qx.D):iz Θ (ek aiI) (en []) Gt (qx.mk' s) (fM [0,1,5] [4] fun x S=>some (x,S))=(xR s).bind (Sum.elim (fun s'=>some (.nor,qx.mk' s')) fun e=>some (eX.e Dp e)):=
 ak (by kernel_rfl) (af7 s _ _)
theorem ac0:fk Tryz.prog Gt aaO:=eA eo V8 dT (by kernel_rfl) (fV (by kernel_rfl:_= []) dU) [] [0,1,5] [4] qx Dp (by kernel_rfl) xR acZ Qj (ju xR) (ev xR)
def U6 {ρ:Type} (a0:List Int) (a1:List Int) (k:Bool×Unit->Option ρ):Option ρ:=
 br (!((a0.length:Int)==(a1.length:Int))) (k (false,())) ((Qj ((a0,a1,0,()),(()),(()))).bind fun e6=>Sum.elim (fun e6_=>k (e6_.1.1,())) (fun _=>k (true,())) e6)
def CT (a0:List Int) (a1:List Int):=U6 a0 a1 some
theorem akw {ρ:Type} (a0 a1:_) (k:_->Option ρ):U6 a0 a1 k=(CT a0 a1).bind k:=by
 simp only [CT,U6,dZ,fU,ah,ae]
abbrev aaP:eG:=eJ [.ty (.ls (.i .i64)), .ty (.ls (.i .i64))] [.b] fun x=>CT x.1 x.2.1
theorem aiJ:eh Tryz.prog 19 aaP:=
 dY (Λ:=en [(fC Gt,aaO)]) (fn:=Tryz.f19) eo V8 dT (by kernel_rfl) (ej (by kernel_rfl:_= [Gt]) (eu (q:=fC Gt) rfl ac0 fun _ _ _=>by kernel_rfl)) (by kernel_rfl) (fun x=>CT x.1 x.2.1)
  (fun x=>ak (by kernel_rfl) (akw x.1 x.2.1 _)) fun _ _ h=>h
abbrev akx:List (Nat×eG):= [(19,aaP)]
theorem ac1:ef Tryz.prog (ek akx):=dS aiJ <| dX _
def Hi {ρ:Type} (a0:dW) (a1:dW) (k:Bool×Unit->Option ρ):Option ρ:=
 br (!(a0.epoch==a1.epoch)) (k (false,())) (br (!(a0.primary==a1.primary)) (k (false,())) ((CT a0.replicas a1.replicas).bind fun y1=>br (!y1.1) (k (false,())) ((CT a0.witnesses a1.witnesses).bind fun y2=>br (!y2.1) (k (false,())) (k (true,())))))
def uJ (a0:dW) (a1:dW):=Hi a0 a1 some
theorem af8 {ρ:Type} (a0 a1:_) (k:_->Option ρ):Hi a0 a1 k=(uJ a0 a1).bind k:=by
 simp only [uJ,Hi,dZ,ah,ae]
abbrev Qk:eG:=eJ [.ty (.st .config), .ty (.st .config)] [.b] fun x=>uJ x.1 x.2.1
theorem aaQ:eh Tryz.prog 215 Qk:=
 dY (Λ:=en []) (fn:=Tryz.f215) eo ac1 dT (by kernel_rfl) (ej (by kernel_rfl:_= []) dU) (by kernel_rfl) (fun x=>uJ x.1 x.2.1)
  (fun x=>ak (by kernel_rfl) (af8 x.1 x.2.1 _)) fun _ _ h=>h
abbrev arG:List (Nat×eG):= []
theorem amH:ef Tryz.prog (ek arG):=dX _
def X7 {ρ:Type} (a0:Op) (a1:Op) (k:Bool×Unit->Option ρ):Option ρ:=
 br (!(a0.client==a1.client)) (k (false,())) (br (!(a0.seq==a1.seq)) (k (false,())) (br (!(a0.kind==a1.kind)) (k (false,())) (br (!(a0.object==a1.object)) (k (false,())) (br (!(a0.old==a1.old)) (k (false,())) (br (!(a0.value==a1.value)) (k (false,())) (k (true,())))))))
def Ql (a0:Op) (a1:Op):=X7 a0 a1 some
theorem aoM {ρ:Type} (a0 a1:_) (k:_->Option ρ):X7 a0 a1 k=(Ql a0 a1).bind k:=by
 simp only [Ql,X7,dZ,ae]
abbrev aoN:eG:=eJ [.ty (.st .op), .ty (.st .op)] [.b] fun x=>Ql x.1 x.2.1
theorem arH:eh Tryz.prog 153 aoN:=
 dY (Λ:=en []) (fn:=Tryz.f153) eo amH dT (by kernel_rfl) (ej (by kernel_rfl:_= []) dU) (by kernel_rfl) (fun x=>Ql x.1 x.2.1)
  (fun x=>ak (by kernel_rfl) (aoM x.1 x.2.1 _)) fun _ _ h=>h
abbrev amI:List (Nat×eG):= [(153,aoN)]
theorem af9:ef Tryz.prog (ek amI):=dS arH <| dX _
def JJ {ρ:Type} (a0:ed) (a1:ed) (k:Bool×Unit->Option ρ):Option ρ:=
 br (!(a0.epoch==a1.epoch)) (k (false,())) ((Ql a0.op a1.op).bind fun y1=>br (!y1.1) (k (false,())) (k (true,())))
def Bq (a0:ed) (a1:ed):=JJ a0 a1 some
theorem aiK {ρ:Type} (a0 a1:_) (k:_->Option ρ):JJ a0 a1 k=(Bq a0 a1).bind k:=by
 simp only [Bq,JJ,dZ,ah,ae]
abbrev adU:eG:=eJ [.ty (.st .entry), .ty (.st .entry)] [.b] fun x=>Bq x.1 x.2.1
theorem amJ:eh Tryz.prog 81 adU:=
 dY (Λ:=en []) (fn:=Tryz.f81) eo af9 dT (by kernel_rfl) (ej (by kernel_rfl:_= []) dU) (by kernel_rfl) (fun x=>Bq x.1 x.2.1)
  (fun x=>ak (by kernel_rfl) (aiK x.1 x.2.1 _)) fun _ _ h=>h
abbrev aaR:List (Nat×eG):= [(81,adU)]
theorem OI:ef Tryz.prog (ek aaR):=dS amJ <| dX _
abbrev CU:Code:=fm (fo Tryz.f25) 0
abbrev nj:it:=⟨[(0, .cl (.ro (.st .entry))),(1, .cl (.ro (.st .entry))),(5, .cl (.int .i64))],[],[],0,27⟩
abbrev yQ:List (X×it):= [(.ret,⟨[(4, .cl (.bl))],[],[],0,27⟩),(.ext 0,⟨[(4, .cl (.dead))],[],[],0,27⟩)]
def OJ {ρ:Type} (v1:List ed) (v2:List ed) (v3:Int) (fn: (((List ed)×(List ed)×Int×Unit)×(Unit)×(Unit))->Option ρ) (fe: ((Bool×Unit)×(Unit)×(Unit))⊕((Unit×Unit)×(Unit)×(Unit))->Option ρ):Option ρ:=
 br (decide (v3 < (v1.length:Int))) (eg (0<=v3) ((v1[v3.toNat]?).bind fun x4=>eg (0<=v3) ((v2[v3.toNat]?).bind fun x5=>(Bq x4 x5).bind fun y6=>br (!y6.1) (fe (.inl ((false,()),(()),(())))) (fn ((v1,v2,(IntKind.wrap .i64 (v3+1)),()),(()),(())))) none) none) (fe (.inr (((),()),(()),(()))))
abbrev HK {ρ:Type} (s:nj.D) (fn:nj.D->Option ρ) (fe:eX.D yQ->Option ρ):Option ρ:=OJ s.1.1 s.1.2.1 s.1.2.2.1 fn fe
def rR (s:nj.D):Option (nj.D⊕eX.D yQ):=HK s (fun s=>some (.inl s)) (fun e=>some (.inr e))
def JK:nj.D->Option (eX.D yQ):=mw rR
theorem aaS {ρ:Type} (s:nj.D) (fn:_->Option ρ) (fe:_):HK s fn fe=(rR s).bind (Sum.elim fn fe):=by
 simp only [rR,HK,OJ,dZ,ea,an,ah,ae,aA,aB]
abbrev ST:fO:=fR [] [0,1,5] nj yQ JK
theorem XM (s:nj.D):iz Θ (ek aaR) (en []) CU (nj.mk' s) (fM [0,1,5] [4] fun x S=>some (x,S))=(rR s).bind (Sum.elim (fun s'=>some (.nor,nj.mk' s')) fun e=>some (eX.e yQ e)):=
 ak (by kernel_rfl) (aaS s _ _)
theorem XN:fk Tryz.prog CU ST:=eA eo OI dT (by kernel_rfl) (fV (by kernel_rfl:_= []) dU) [] [0,1,5] [4] nj yQ (by kernel_rfl) rR XM JK (ju rR) (ev rR)
def MA {ρ:Type} (a0:List ed) (a1:List ed) (k:Bool×Unit->Option ρ):Option ρ:=
 br (!((a0.length:Int)==(a1.length:Int))) (k (false,())) ((JK ((a0,a1,0,()),(()),(()))).bind fun e7=>Sum.elim (fun e7_=>k (e7_.1.1,())) (fun _=>k (true,())) e7)
def xS (a0:List ed) (a1:List ed):=MA a0 a1 some
theorem aga {ρ:Type} (a0 a1:_) (k:_->Option ρ):MA a0 a1 k=(xS a0 a1).bind k:=by
 simp only [xS,MA,dZ,fU,ah,ae]
abbrev aaT:eG:=eJ [.ty (.ls (.st .entry)), .ty (.ls (.st .entry))] [.b] fun x=>xS x.1 x.2.1
theorem aky:eh Tryz.prog 25 aaT:=
 dY (Λ:=en [(fC CU,ST)]) (fn:=Tryz.f25) eo OI dT (by kernel_rfl) (ej (by kernel_rfl:_= [CU]) (eu (q:=fC CU) rfl XN fun _ _ _=>by kernel_rfl)) (by kernel_rfl) (fun x=>xS x.1 x.2.1)
  (fun x=>ak (by kernel_rfl) (aga x.1 x.2.1 _)) fun _ _ h=>h
abbrev akz:List (Nat×eG):= [(215,Qk),(25,aaT)]
theorem ac2:ef Tryz.prog (ek akz):=dS aaQ <| dS aky <| dX _
def Hj {ρ:Type} (a0:eb) (a1:eb) (k:Bool×Unit->Option ρ):Option ρ:=
 br (!(a0.up==a1.up)) (k (false,())) (br (!(a0.intact==a1.intact)) (k (false,())) (br (!(a0.version==a1.version)) (k (false,())) (br (!(a0.epoch==a1.epoch)) (k (false,())) ((uJ a0.config a1.config).bind fun y1=>br (!y1.1) (k (false,())) (br (!(a0.first==a1.first)) (k (false,())) ((xS a0.log a1.log).bind fun y2=>br (!y2.1) (k (false,())) (br (!(a0.commit==a1.commit)) (k (false,())) ((xS a0.learned a1.learned).bind fun y3=>br (!y3.1) (k (false,())) (k (true,()))))))))))
def xT (a0:eb) (a1:eb):=Hj a0 a1 some
theorem agb {ρ:Type} (a0 a1:_) (k:_->Option ρ):Hj a0 a1 k=(xT a0 a1).bind k:=by
 simp only [xT,Hj,dZ,ah,ae]
abbrev aaU:eG:=eJ [.ty (.st .server), .ty (.st .server)] [.b] fun x=>xT x.1 x.2.1
theorem akA:eh Tryz.prog 145 aaU:=
 dY (Λ:=en []) (fn:=Tryz.f145) eo ac2 dT (by kernel_rfl) (ej (by kernel_rfl:_= []) dU) (by kernel_rfl) (fun x=>xT x.1 x.2.1)
  (fun x=>ak (by kernel_rfl) (agb x.1 x.2.1 _)) fun _ _ h=>h
abbrev Wa:List (Nat×eG):= [(145,aaU)]
theorem MB:ef Tryz.prog (ek Wa):=dS akA <| dX _
abbrev z4:Code:=fm (fo Tryz.f67) 0
abbrev mh:it:=⟨[(0, .cl (.ro (.st .server))),(1, .cl (.ro (.st .server))),(5, .cl (.int .i64))],[],[],0,27⟩
abbrev vL:List (X×it):= [(.ret,⟨[(4, .cl (.bl))],[],[],0,27⟩),(.ext 0,⟨[(4, .cl (.dead))],[],[],0,27⟩)]
def MC {ρ:Type} (v1:List eb) (v2:List eb) (v3:Int) (fn: (((List eb)×(List eb)×Int×Unit)×(Unit)×(Unit))->Option ρ) (fe: ((Bool×Unit)×(Unit)×(Unit))⊕((Unit×Unit)×(Unit)×(Unit))->Option ρ):Option ρ:=
 br (decide (v3 < (v1.length:Int))) (eg (0<=v3) ((v1[v3.toNat]?).bind fun x4=>eg (0<=v3) ((v2[v3.toNat]?).bind fun x5=>(xT x4 x5).bind fun y6=>br (!y6.1) (fe (.inl ((false,()),(()),(())))) (fn ((v1,v2,(IntKind.wrap .i64 (v3+1)),()),(()),(())))) none) none) (fe (.inr (((),()),(()),(()))))
abbrev Gu {ρ:Type} (s:mh.D) (fn:mh.D->Option ρ) (fe:eX.D vL->Option ρ):Option ρ:=MC s.1.1 s.1.2.1 s.1.2.2.1 fn fe
def pM (s:mh.D):Option (mh.D⊕eX.D vL):=Gu s (fun s=>some (.inl s)) (fun e=>some (.inr e))
def HL:mh.D->Option (eX.D vL):=mw pM
theorem XO {ρ:Type} (s:mh.D) (fn:_->Option ρ) (fe:_):Gu s fn fe=(pM s).bind (Sum.elim fn fe):=by
 simp only [pM,Gu,MC,dZ,ea,an,ah,ae,aA,aB]
abbrev OK:fO:=fR [] [0,1,5] mh vL HL
theorem U7 (s:mh.D):iz Θ (ek Wa) (en []) z4 (mh.mk' s) (fM [0,1,5] [4] fun x S=>some (x,S))=(pM s).bind (Sum.elim (fun s'=>some (.nor,mh.mk' s')) fun e=>some (eX.e vL e)):=
 ak (by kernel_rfl) (XO s _ _)
theorem U8:fk Tryz.prog z4 OK:=eA eo MB dT (by kernel_rfl) (fV (by kernel_rfl:_= []) dU) [] [0,1,5] [4] mh vL (by kernel_rfl) pM U7 HL (ju pM) (ev pM)
def JL {ρ:Type} (a0:List eb) (a1:List eb) (k:Bool×Unit->Option ρ):Option ρ:=
 br (!((a0.length:Int)==(a1.length:Int))) (k (false,())) ((HL ((a0,a1,0,()),(()),(()))).bind fun e7=>Sum.elim (fun e7_=>k (e7_.1.1,())) (fun _=>k (true,())) e7)
def xU (a0:List eb) (a1:List eb):=JL a0 a1 some
theorem ac3 {ρ:Type} (a0 a1:_) (k:_->Option ρ):JL a0 a1 k=(xU a0 a1).bind k:=by
 simp only [xU,JL,dZ,fU,ah,ae]
abbrev Wb:eG:=eJ [.ty (.ls (.st .server)), .ty (.ls (.st .server))] [.b] fun x=>xU x.1 x.2.1
theorem aiL:eh Tryz.prog 67 Wb:=
 dY (Λ:=en [(fC z4,OK)]) (fn:=Tryz.f67) eo MB dT (by kernel_rfl) (ej (by kernel_rfl:_= [z4]) (eu (q:=fC z4) rfl U8 fun _ _ _=>by kernel_rfl)) (by kernel_rfl) (fun x=>xU x.1 x.2.1)
  (fun x=>ak (by kernel_rfl) (ac3 x.1 x.2.1 _)) fun _ _ h=>h
abbrev Wc:List (Nat×eG):= [(215,Qk)]
theorem MD:ef Tryz.prog (ek Wc):=dS aaQ <| dX _
abbrev z5:Code:=fm (fo Tryz.f146) 0
abbrev mi:it:=⟨[(0, .cl (.ro (.st .config))),(1, .cl (.ro (.st .config))),(5, .cl (.int .i64))],[],[],0,27⟩
abbrev vM:List (X×it):= [(.ret,⟨[(4, .cl (.bl))],[],[],0,27⟩),(.ext 0,⟨[(4, .cl (.dead))],[],[],0,27⟩)]
def ME {ρ:Type} (v1:List dW) (v2:List dW) (v3:Int) (fn: (((List dW)×(List dW)×Int×Unit)×(Unit)×(Unit))->Option ρ) (fe: ((Bool×Unit)×(Unit)×(Unit))⊕((Unit×Unit)×(Unit)×(Unit))->Option ρ):Option ρ:=
 br (decide (v3 < (v1.length:Int))) (eg (0<=v3) ((v1[v3.toNat]?).bind fun x4=>eg (0<=v3) ((v2[v3.toNat]?).bind fun x5=>(uJ x4 x5).bind fun y6=>br (!y6.1) (fe (.inl ((false,()),(()),(())))) (fn ((v1,v2,(IntKind.wrap .i64 (v3+1)),()),(()),(())))) none) none) (fe (.inr (((),()),(()),(()))))
abbrev Gv {ρ:Type} (s:mi.D) (fn:mi.D->Option ρ) (fe:eX.D vM->Option ρ):Option ρ:=ME s.1.1 s.1.2.1 s.1.2.2.1 fn fe
def pN (s:mi.D):Option (mi.D⊕eX.D vM):=Gv s (fun s=>some (.inl s)) (fun e=>some (.inr e))
def HM:mi.D->Option (eX.D vM):=mw pN
theorem XP {ρ:Type} (s:mi.D) (fn:_->Option ρ) (fe:_):Gv s fn fe=(pN s).bind (Sum.elim fn fe):=by
 simp only [pN,Gv,ME,dZ,ea,an,ah,ae,aA,aB]
abbrev OL:fO:=fR [] [0,1,5] mi vM HM
theorem U9 (s:mi.D):iz Θ (ek Wc) (en []) z5 (mi.mk' s) (fM [0,1,5] [4] fun x S=>some (x,S))=(pN s).bind (Sum.elim (fun s'=>some (.nor,mi.mk' s')) fun e=>some (eX.e vM e)):=
 ak (by kernel_rfl) (XP s _ _)
theorem Va:fk Tryz.prog z5 OL:=eA eo MD dT (by kernel_rfl) (fV (by kernel_rfl:_= []) dU) [] [0,1,5] [4] mi vM (by kernel_rfl) pN U9 HM (ju pN) (ev pN)
def JM {ρ:Type} (a0:List dW) (a1:List dW) (k:Bool×Unit->Option ρ):Option ρ:=
 br (!((a0.length:Int)==(a1.length:Int))) (k (false,())) ((HM ((a0,a1,0,()),(()),(()))).bind fun e7=>Sum.elim (fun e7_=>k (e7_.1.1,())) (fun _=>k (true,())) e7)
def xV (a0:List dW) (a1:List dW):=JM a0 a1 some
theorem ac4 {ρ:Type} (a0 a1:_) (k:_->Option ρ):JM a0 a1 k=(xV a0 a1).bind k:=by
 simp only [xV,JM,dZ,fU,ah,ae]
abbrev Wd:eG:=eJ [.ty (.ls (.st .config)), .ty (.ls (.st .config))] [.b] fun x=>xV x.1 x.2.1
theorem aiM:eh Tryz.prog 146 Wd:=
 dY (Λ:=en [(fC z5,OL)]) (fn:=Tryz.f146) eo MD dT (by kernel_rfl) (ej (by kernel_rfl:_= [z5]) (eu (q:=fC z5) rfl Va fun _ _ _=>by kernel_rfl)) (by kernel_rfl) (fun x=>xV x.1 x.2.1)
  (fun x=>ak (by kernel_rfl) (ac4 x.1 x.2.1 _)) fun _ _ h=>h
abbrev ac5:List (Nat×eG):= [(146,Wd)]
theorem Vb:ef Tryz.prog (ek ac5):=dS aiM <| dX _
def CV {ρ:Type} (a0:ei) (a1:ei) (k:Bool×Unit->Option ρ):Option ρ:=
 (xV a0.configs a1.configs).bind fun y1=>br (!y1.1) (k (false,())) (br (!(a0.activated==a1.activated)) (k (false,())) (k (true,())))
def sr (a0:ei) (a1:ei):=CV a0 a1 some
theorem XQ {ρ:Type} (a0 a1:_) (k:_->Option ρ):CV a0 a1 k=(sr a0 a1).bind k:=by
 simp only [sr,CV,dZ,ah,ae]
abbrev OM:eG:=eJ [.ty (.st .masterLog), .ty (.st .masterLog)] [.b] fun x=>sr x.1 x.2.1
theorem ac6:eh Tryz.prog 68 OM:=
 dY (Λ:=en []) (fn:=Tryz.f68) eo Vb dT (by kernel_rfl) (ej (by kernel_rfl:_= []) dU) (by kernel_rfl) (fun x=>sr x.1 x.2.1)
  (fun x=>ak (by kernel_rfl) (XQ x.1 x.2.1 _)) fun _ _ h=>h
abbrev amK:List (Nat×eG):= []
theorem agc:ef Tryz.prog (ek amK):=dX _
def JN {ρ:Type} (a0:ir) (a1:ir) (k:Bool×Unit->Option ρ):Option ρ:=
 br (!(a0.epoch==a1.epoch)) (k (false,())) (br (!(a0.holder==a1.holder)) (k (false,())) (br (!(a0.ends==a1.ends)) (k (false,())) (k (true,()))))
def Dq (a0:ir) (a1:ir):=JN a0 a1 some
theorem aiN {ρ:Type} (a0 a1:_) (k:_->Option ρ):JN a0 a1 k=(Dq a0 a1).bind k:=by
 simp only [Dq,JN,dZ,ae]
abbrev adV:eG:=eJ [.ty (.st .lease), .ty (.st .lease)] [.b] fun x=>Dq x.1 x.2.1
theorem amL:eh Tryz.prog 69 adV:=
 dY (Λ:=en []) (fn:=Tryz.f69) eo agc dT (by kernel_rfl) (ej (by kernel_rfl:_= []) dU) (by kernel_rfl) (fun x=>Dq x.1 x.2.1)
  (fun x=>ak (by kernel_rfl) (aiN x.1 x.2.1 _)) fun _ _ h=>h
abbrev amM:List (Nat×eG):= []
theorem agd:ef Tryz.prog (ek amM):=dX _
def JO {ρ:Type} (a0:ey) (a1:ey) (k:Bool×Unit->Option ρ):Option ρ:=
 br (!(a0.rack==a1.rack)) (k (false,())) (br (!(a0.capacity==a1.capacity)) (k (false,())) (br (!(a0.load==a1.load)) (k (false,())) (k (true,()))))
def Br (a0:ey) (a1:ey):=JO a0 a1 some
theorem aiO {ρ:Type} (a0 a1:_) (k:_->Option ρ):JO a0 a1 k=(Br a0 a1).bind k:=by
 simp only [Br,JO,dZ,ae]
abbrev adW:eG:=eJ [.ty (.st .place), .ty (.st .place)] [.b] fun x=>Br x.1 x.2.1
theorem amN:eh Tryz.prog 147 adW:=
 dY (Λ:=en []) (fn:=Tryz.f147) eo agd dT (by kernel_rfl) (ej (by kernel_rfl:_= []) dU) (by kernel_rfl) (fun x=>Br x.1 x.2.1)
  (fun x=>ak (by kernel_rfl) (aiO x.1 x.2.1 _)) fun _ _ h=>h
abbrev aaV:List (Nat×eG):= [(147,adW)]
theorem OO:ef Tryz.prog (ek aaV):=dS amN <| dX _
abbrev CW:Code:=fm (fo Tryz.f70) 0
abbrev nk:it:=⟨[(0, .cl (.ro (.st .place))),(1, .cl (.ro (.st .place))),(5, .cl (.int .i64))],[],[],0,27⟩
abbrev yR:List (X×it):= [(.ret,⟨[(4, .cl (.bl))],[],[],0,27⟩),(.ext 0,⟨[(4, .cl (.dead))],[],[],0,27⟩)]
def OP {ρ:Type} (v1:List ey) (v2:List ey) (v3:Int) (fn: (((List ey)×(List ey)×Int×Unit)×(Unit)×(Unit))->Option ρ) (fe: ((Bool×Unit)×(Unit)×(Unit))⊕((Unit×Unit)×(Unit)×(Unit))->Option ρ):Option ρ:=
 br (decide (v3 < (v1.length:Int))) (eg (0<=v3) ((v1[v3.toNat]?).bind fun x4=>eg (0<=v3) ((v2[v3.toNat]?).bind fun x5=>(Br x4 x5).bind fun y6=>br (!y6.1) (fe (.inl ((false,()),(()),(())))) (fn ((v1,v2,(IntKind.wrap .i64 (v3+1)),()),(()),(())))) none) none) (fe (.inr (((),()),(()),(()))))
abbrev HN {ρ:Type} (s:nk.D) (fn:nk.D->Option ρ) (fe:eX.D yR->Option ρ):Option ρ:=OP s.1.1 s.1.2.1 s.1.2.2.1 fn fe
def rS (s:nk.D):Option (nk.D⊕eX.D yR):=HN s (fun s=>some (.inl s)) (fun e=>some (.inr e))
def JP:nk.D->Option (eX.D yR):=mw rS
theorem aaW {ρ:Type} (s:nk.D) (fn:_->Option ρ) (fe:_):HN s fn fe=(rS s).bind (Sum.elim fn fe):=by
 simp only [rS,HN,OP,dZ,ea,an,ah,ae,aA,aB]
abbrev SU:fO:=fR [] [0,1,5] nk yR JP
theorem XR (s:nk.D):iz Θ (ek aaV) (en []) CW (nk.mk' s) (fM [0,1,5] [4] fun x S=>some (x,S))=(rS s).bind (Sum.elim (fun s'=>some (.nor,nk.mk' s')) fun e=>some (eX.e yR e)):=
 ak (by kernel_rfl) (aaW s _ _)
theorem XS:fk Tryz.prog CW SU:=eA eo OO dT (by kernel_rfl) (fV (by kernel_rfl:_= []) dU) [] [0,1,5] [4] nk yR (by kernel_rfl) rS XR JP (ju rS) (ev rS)
def MF {ρ:Type} (a0:List ey) (a1:List ey) (k:Bool×Unit->Option ρ):Option ρ:=
 br (!((a0.length:Int)==(a1.length:Int))) (k (false,())) ((JP ((a0,a1,0,()),(()),(()))).bind fun e7=>Sum.elim (fun e7_=>k (e7_.1.1,())) (fun _=>k (true,())) e7)
def Bd (a0:List ey) (a1:List ey):=MF a0 a1 some
theorem age {ρ:Type} (a0 a1:_) (k:_->Option ρ):MF a0 a1 k=(Bd a0 a1).bind k:=by
 simp only [Bd,MF,dZ,fU,ah,ae]
abbrev aaX:eG:=eJ [.ty (.ls (.st .place)), .ty (.ls (.st .place))] [.b] fun x=>Bd x.1 x.2.1
theorem akB:eh Tryz.prog 70 aaX:=
 dY (Λ:=en [(fC CW,SU)]) (fn:=Tryz.f70) eo OO dT (by kernel_rfl) (ej (by kernel_rfl:_= [CW]) (eu (q:=fC CW) rfl XS fun _ _ _=>by kernel_rfl)) (by kernel_rfl) (fun x=>Bd x.1 x.2.1)
  (fun x=>ak (by kernel_rfl) (age x.1 x.2.1 _)) fun _ _ h=>h
abbrev aiP:List (Nat×eG):= [(67,Wb),(19,aaP),(68,OM),(69,adV),(70,aaX)]
theorem aaY:ef Tryz.prog (ek aiP):=dS aiL <| dS aiJ <| dS ac6 <| dS amL <| dS akB <| dX _
def Fx {ρ:Type} (a0:dV) (a1:dV) (k:Bool×Unit->Option ρ):Option ρ:=
 br (!(a0.now==a1.now)) (k (false,())) ((xU a0.servers a1.servers).bind fun y1=>br (!y1.1) (k (false,())) ((CT a0.sides a1.sides).bind fun y2=>br (!y2.1) (k (false,())) ((sr a0.master a1.master).bind fun y3=>br (!y3.1) (k (false,())) (br (!(a0.masterUp==a1.masterUp)) (k (false,())) ((Dq a0.lease a1.lease).bind fun y4=>br (!y4.1) (k (false,())) ((Bd a0.places a1.places).bind fun y5=>br (!y5.1) (k (false,())) (k (true,()))))))))
def xW (a0:dV) (a1:dV):=Fx a0 a1 some
theorem ac7 {ρ:Type} (a0 a1:_) (k:_->Option ρ):Fx a0 a1 k=(xW a0 a1).bind k:=by
 simp only [xW,Fx,dZ,ah,ae]
abbrev We:eG:=eJ [.ty (.st .cluster), .ty (.st .cluster)] [.b] fun x=>xW x.1 x.2.1
theorem aiQ:eh Tryz.prog 16 We:=
 dY (Λ:=en []) (fn:=Tryz.f16) eo aaY dT (by kernel_rfl) (ej (by kernel_rfl:_= []) dU) (by kernel_rfl) (fun x=>xW x.1 x.2.1)
  (fun x=>ak (by kernel_rfl) (ac7 x.1 x.2.1 _)) fun _ _ h=>h
abbrev Fy:List (Nat×eG):= [(12,VE),(14,VL),(35,Ed),(36,Es),(16,We)]
theorem Dr:ef Tryz.prog (ek Fy):=dS ahL <| dS ahU <| dS LZ <| dS My <| dS aiQ <| dX _
def mo {ρ:Type} (a0:dV) (a1:Int) (k:Bool×Unit->Option ρ):Option ρ:=
 (pn a0 1048576).bind fun y1=>br (decide (y1.1 < 0)) (k (true,())) ((rh a0).bind fun y2=>(ld y2.1 a1).bind fun y3=>(rh a0).bind fun y4=>(lx y4.1 a1).bind fun y5=>br (!(y5.1==y3.1)) (k (false,())) ((rh a0).bind fun y6=>(xW y4.1 y6.1).bind fun y7=>br (!y7.1) (k (false,())) (k (true,()))))
def ji (a0:dV) (a1:Int):=mo a0 a1 some
theorem Et {ρ:Type} (a0 a1:_) (k:_->Option ρ):mo a0 a1 k=(ji a0 a1).bind k:=by
 simp only [ji,mo,dZ,ah,ae]
abbrev Fz:eG:=eJ [.ty (.st .cluster), .ty (.i .i64)] [.b] fun x=>ji x.1 x.2.1
theorem FA:eh Tryz.prog 9 Fz:=
 dY (Λ:=en []) (fn:=Tryz.f9) eo Dr dT (by kernel_rfl) (ej (by kernel_rfl:_= []) dU) (by kernel_rfl) (fun x=>ji x.1 x.2.1)
  (fun x=>ak (by kernel_rfl) (Et x.1 x.2.1 _)) fun _ _ h=>h
end
end Go.Proofs.YtkcgfceffffmoaaGreat.En
