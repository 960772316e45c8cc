/- Printed by a program: the walk. -/
import Derived.Test.YtkcgfceffffmoaaGreatZB1
namespace Go.Proofs.YtkcgfceffffmoaaGreat.En
open Go
noncomputable section
abbrev IY:List (Nat×bm):= []
theorem Aa:ar Tryz.prog (aL IY):=ak _
noncomputable abbrev qA:Code:=cb (b8 Tryz.f22) 0
abbrev fM:ep:=⟨[(0, .cl (.ro (.i .i64))),(1, .cl (.int .i64)),(5, .cl (.int .i64))],[],[],0,21⟩
abbrev lM:List (X×ep):= [(.ret,⟨[(1, .cl (.int .i64)),(4, .cl (.int .i64))],[],[],0,21⟩),(.ext 0,⟨[(1, .cl (.int .i64)),(4, .cl (.dead))],[],[],0,21⟩)]
def mo {ρ:Type} (v1:List Int) (v2:Int) (v3:Int) (fn: (((List Int)×Int×Int×Unit)×(Unit)×(Unit))→Option ρ) (fe: ((Int×Int×Unit)×(Unit)×(Unit))⊕((Int×Unit×Unit)×(Unit)×(Unit))→Option ρ):Option ρ:=
 br (decide (v3 < (v1.length:Int))) (aq (0≤v3) ((v1[v3.toNat]?).bind fun x4=>br (!(x4==v2)) (fe (.inl ((v2,(-1),()),(()),(())))) (fn ((v1,(IntKind.wrap .i64 (v2+1)),(IntKind.wrap .i64 (v3+1)),()),(()),(())))) none) (fe (.inr ((v2,(),()),(()),(()))))
def gM (s:fM.D):Option (fM.D⊕bh.D lM):=mo s.1.1 s.1.2.1 s.1.2.2.1 (fun s=>some (.inl s)) (fun e=>some (.inr e))
def vX:fM.D→Option (bh.D lM):=jB gM
theorem IZ {ρ:Type} (s:fM.D) (fn:fM.D→Option ρ) (fe:bh.D lM→Option ρ):mo s.1.1 s.1.2.1 s.1.2.2.1 fn fe=(gM s).bind (Sum.elim fn fe):=by
 simp only [gM,mo,am,ap,Option.bind_none,Option.bind_assoc,Option.bind_some,Sum.elim_inl,Sum.elim_inr]
abbrev CM:cU:=dh [] [0,1,5] fM lM vX
theorem Gi (s:fM.D):ev Θ (aL IY) (aK []) qA (fM.mk' s) (c6 [0,1,5] [1,4] fun x S=>some (x,S))=(gM s).bind (Sum.elim (fun s'=>some (.nor,fM.mk' s')) fun e=>some (bh.e lM e)):=
 Eq.trans (by kernel_rfl:_=mo s.1.1 s.1.2.1 s.1.2.2.1 (fun s'=>some (.nor,fM.mk' s')) (fun e=>some (bh.e lM e))) (IZ s _ _)
theorem Gj:b7 Tryz.prog qA CM:=ba aM Aa af (by kernel_rfl) (dp (by kernel_rfl:_= []) ah) [] [0,1,5] [1,4] fM lM (by kernel_rfl) gM Gi vX (f9 gM) (aO gM)
def ud {ρ:Type} (a0:List Int) (a1:Int) (k:Int×Unit→Option ρ):Option ρ:=
 (vX ((a0,a1,0,()),(()),(()))).bind fun e5=>Sum.elim (fun e5_=>k (e5_.1.2.1,())) (fun e5_=>k (e5_.1.1,())) e5
def ju (a0:List Int) (a1:Int):Option (Int×Unit):=ud a0 a1 some
theorem MQ {ρ:Type} (a0:List Int) (a1:Int) (k:Int×Unit→Option ρ):ud a0 a1 k=(ju a0 a1).bind k:=by
 simp only [ju,ud,bR,Option.bind_assoc,Option.bind_some]
abbrev vY:bm:=bD [.ty (.ls (.i .i64)), .ty (.i .i64)] [.i .i64] fun x=>ju x.1 x.2.1
theorem A8:aA Tryz.prog 22 vY:=
 al (Λ:=aK [(ce qA,CM)]) (fn:=Tryz.f22) aM Aa af (by kernel_rfl) (aG (by kernel_rfl:_= [qA]) (aN (q:=ce qA) rfl Gj fun _ _ _=>by kernel_rfl)) (by kernel_rfl) (fun x=>ju x.1 x.2.1)
  (fun x=>Eq.trans (by kernel_rfl:_=ud x.1 x.2.1 (fun y=>ret (aD [.i .i64] y) fun v g=>some (v,g))) (MQ x.1 x.2.1 _)) fun _ _ h=>h
abbrev CN:List (Nat×bm):= []
theorem wL:ar Tryz.prog (aL CN):=ak _
noncomputable abbrev nV:Code:=cb (b8 Tryz.f27) 0
abbrev ef:ep:=⟨[(0, .cl (.ro (.st .entry))),(1, .cl (.int .i64)),(5, .cl (.int .i64))],[],[],0,82⟩
abbrev jv:List (X×ep):= [(.ret,⟨[(1, .cl (.int .i64)),(4, .cl (.int .i64))],[],[],0,82⟩),(.ext 0,⟨[(1, .cl (.int .i64)),(4, .cl (.dead))],[],[],0,82⟩)]
def jK {ρ:Type} (v1:List az) (v2:Int) (v3:Int) (fn: (((List az)×Int×Int×Unit)×(Unit)×(Unit))→Option ρ) (fe: ((Int×Int×Unit)×(Unit)×(Unit))⊕((Int×Unit×Unit)×(Unit)×(Unit))→Option ρ):Option ρ:=
 br (decide (v3 < (v1.length:Int))) (aq (0≤v3) ((v1[v3.toNat]?).bind fun x4=>br (!(x4.epoch==v2)) (fe (.inl ((v2,(-1),()),(()),(())))) (aq (0≤v3) ((v1[v3.toNat]?).bind fun x5=>br (!(x5.op.client==(IntKind.wrap .i64 (v2+1)))) (fe (.inl (((IntKind.wrap .i64 (v2+1)),(-1),()),(()),(())))) (aq (0≤v3) ((v1[v3.toNat]?).bind fun x6=>br (!(x6.op.seq==(IntKind.wrap .i64 ((IntKind.wrap .i64 (v2+1))+1)))) (fe (.inl (((IntKind.wrap .i64 ((IntKind.wrap .i64 (v2+1))+1)),(-1),()),(()),(())))) (aq (0≤v3) ((v1[v3.toNat]?).bind fun x7=>br (!(x7.op.kind==(IntKind.wrap .i64 ((IntKind.wrap .i64 ((IntKind.wrap .i64 (v2+1))+1))+1)))) (fe (.inl (((IntKind.wrap .i64 ((IntKind.wrap .i64 ((IntKind.wrap .i64 (v2+1))+1))+1)),(-1),()),(()),(())))) (aq (0≤v3) ((v1[v3.toNat]?).bind fun x8=>br (!(x8.op.object==(IntKind.wrap .i64 ((IntKind.wrap .i64 ((IntKind.wrap .i64 ((IntKind.wrap .i64 (v2+1))+1))+1))+1)))) (fe (.inl (((IntKind.wrap .i64 ((IntKind.wrap .i64 ((IntKind.wrap .i64 ((IntKind.wrap .i64 (v2+1))+1))+1))+1)),(-1),()),(()),(())))) (aq (0≤v3) ((v1[v3.toNat]?).bind fun x9=>br (!(x9.op.old==(IntKind.wrap .i64 ((IntKind.wrap .i64 ((IntKind.wrap .i64 ((IntKind.wrap .i64 ((IntKind.wrap .i64 (v2+1))+1))+1))+1))+1)))) (fe (.inl (((IntKind.wrap .i64 ((IntKind.wrap .i64 ((IntKind.wrap .i64 ((IntKind.wrap .i64 ((IntKind.wrap .i64 (v2+1))+1))+1))+1))+1)),(-1),()),(()),(())))) (aq (0≤v3) ((v1[v3.toNat]?).bind fun x10=>br (!(x10.op.value==(IntKind.wrap .i64 ((IntKind.wrap .i64 ((IntKind.wrap .i64 ((IntKind.wrap .i64 ((IntKind.wrap .i64 ((IntKind.wrap .i64 (v2+1))+1))+1))+1))+1))+1)))) (fe (.inl (((IntKind.wrap .i64 ((IntKind.wrap .i64 ((IntKind.wrap .i64 ((IntKind.wrap .i64 ((IntKind.wrap .i64 ((IntKind.wrap .i64 (v2+1))+1))+1))+1))+1))+1)),(-1),()),(()),(())))) (fn ((v1,(IntKind.wrap .i64 ((IntKind.wrap .i64 ((IntKind.wrap .i64 ((IntKind.wrap .i64 ((IntKind.wrap .i64 ((IntKind.wrap .i64 ((IntKind.wrap .i64 (v2+1))+1))+1))+1))+1))+1))+1)),(IntKind.wrap .i64 (v3+1)),()),(()),(())))) none)) none)) none)) none)) none)) none)) none) (fe (.inr ((v2,(),()),(()),(()))))
def eU (s:ef.D):Option (ef.D⊕bh.D jv):=jK s.1.1 s.1.2.1 s.1.2.2.1 (fun s=>some (.inl s)) (fun e=>some (.inr e))
def tu:ef.D→Option (bh.D jv):=jB eU
theorem Em {ρ:Type} (s:ef.D) (fn:ef.D→Option ρ) (fe:bh.D jv→Option ρ):jK s.1.1 s.1.2.1 s.1.2.2.1 fn fe=(eU s).bind (Sum.elim fn fe):=by
 simp only [eU,jK,am,ap,Option.bind_none,Option.bind_assoc,Option.bind_some,Sum.elim_inl,Sum.elim_inr]
abbrev yn:cU:=dh [] [0,1,5] ef jv tu
theorem CO (s:ef.D):ev Θ (aL CN) (aK []) nV (ef.mk' s) (c6 [0,1,5] [1,4] fun x S=>some (x,S))=(eU s).bind (Sum.elim (fun s'=>some (.nor,ef.mk' s')) fun e=>some (bh.e jv e)):=
 Eq.trans (by kernel_rfl:_=jK s.1.1 s.1.2.1 s.1.2.2.1 (fun s'=>some (.nor,ef.mk' s')) (fun e=>some (bh.e jv e))) (Em s _ _)
theorem CP:b7 Tryz.prog nV yn:=ba aM wL af (by kernel_rfl) (dp (by kernel_rfl:_= []) ah) [] [0,1,5] [1,4] ef jv (by kernel_rfl) eU CO tu (f9 eU) (aO eU)
def rl {ρ:Type} (a0:List az) (a1:Int) (k:Int×Unit→Option ρ):Option ρ:=
 (tu ((a0,a1,0,()),(()),(()))).bind fun e11=>Sum.elim (fun e11_=>k (e11_.1.2.1,())) (fun e11_=>k (e11_.1.1,())) e11
def ka (a0:List az) (a1:Int):Option (Int×Unit):=rl a0 a1 some
theorem I0 {ρ:Type} (a0:List az) (a1:Int) (k:Int×Unit→Option ρ):rl a0 a1 k=(ka a0 a1).bind k:=by
 simp only [ka,rl,bR,Option.bind_assoc,Option.bind_some]
abbrev CQ:bm:=bD [.ty (.ls (.st .entry)), .ty (.i .i64)] [.i .i64] fun x=>ka x.1 x.2.1
theorem MR:aA Tryz.prog 27 CQ:=
 al (Λ:=aK [(ce nV,yn)]) (fn:=Tryz.f27) aM wL af (by kernel_rfl) (aG (by kernel_rfl:_= [nV]) (aN (q:=ce nV) rfl CP fun _ _ _=>by kernel_rfl)) (by kernel_rfl) (fun x=>ka x.1 x.2.1)
  (fun x=>Eq.trans (by kernel_rfl:_=rl x.1 x.2.1 (fun y=>ret (aD [.i .i64] y) fun v g=>some (v,g))) (I0 x.1 x.2.1 _)) fun _ _ h=>h
abbrev Ab:List (Nat×bm):= [(22,vY),(27,CQ)]
theorem vt:ar Tryz.prog (aL Ab):=ae A8 <| ae MR <| ak _
noncomputable abbrev ma:Code:=cb (b8 Tryz.f85) 0
abbrev dD:ep:=⟨[(0, .cl (.ro (.st .server))),(1, .cl (.int .i64)),(5, .cl (.int .i64))],[],[],0,129⟩
abbrev ip:List (X×ep):= [(.ret,⟨[(1, .cl (.int .i64)),(4, .cl (.int .i64))],[],[],0,129⟩),(.ext 0,⟨[(1, .cl (.int .i64)),(4, .cl (.dead))],[],[],0,129⟩)]
def iY {ρ:Type} (v1:List aj) (v2:Int) (v3:Int) (fn: (((List aj)×Int×Int×Unit)×(Unit)×(Unit))→Option ρ) (fe: ((Int×Int×Unit)×(Unit)×(Unit))⊕((Int×Unit×Unit)×(Unit)×(Unit))→Option ρ):Option ρ:=
 br (decide (v3 < (v1.length:Int))) (aq (0≤v3) ((v1[v3.toNat]?).bind fun x4=>br (!(x4.up==((Int.tmod v2 3)==0))) (fe (.inl ((v2,(-1),()),(()),(())))) (aq (0≤v3) ((v1[v3.toNat]?).bind fun x5=>br (!(x5.intact==((Int.tmod (IntKind.wrap .i64 (v2+1)) 3)==0))) (fe (.inl (((IntKind.wrap .i64 (v2+1)),(-1),()),(()),(())))) (aq (0≤v3) ((v1[v3.toNat]?).bind fun x6=>br (!(x6.version==(IntKind.wrap .i64 ((IntKind.wrap .i64 (v2+1))+1)))) (fe (.inl (((IntKind.wrap .i64 ((IntKind.wrap .i64 (v2+1))+1)),(-1),()),(()),(())))) (aq (0≤v3) ((v1[v3.toNat]?).bind fun x7=>br (!(x7.epoch==(IntKind.wrap .i64 ((IntKind.wrap .i64 ((IntKind.wrap .i64 (v2+1))+1))+1)))) (fe (.inl (((IntKind.wrap .i64 ((IntKind.wrap .i64 ((IntKind.wrap .i64 (v2+1))+1))+1)),(-1),()),(()),(())))) (aq (0≤v3) ((v1[v3.toNat]?).bind fun x8=>br (!(x8.config.epoch==(IntKind.wrap .i64 ((IntKind.wrap .i64 ((IntKind.wrap .i64 ((IntKind.wrap .i64 (v2+1))+1))+1))+1)))) (fe (.inl (((IntKind.wrap .i64 ((IntKind.wrap .i64 ((IntKind.wrap .i64 ((IntKind.wrap .i64 (v2+1))+1))+1))+1)),(-1),()),(()),(())))) (aq (0≤v3) ((v1[v3.toNat]?).bind fun x9=>br (!(x9.config.primary==(IntKind.wrap .i64 ((IntKind.wrap .i64 ((IntKind.wrap .i64 ((IntKind.wrap .i64 ((IntKind.wrap .i64 (v2+1))+1))+1))+1))+1)))) (fe (.inl (((IntKind.wrap .i64 ((IntKind.wrap .i64 ((IntKind.wrap .i64 ((IntKind.wrap .i64 ((IntKind.wrap .i64 (v2+1))+1))+1))+1))+1)),(-1),()),(()),(())))) (aq (0≤v3) ((v1[v3.toNat]?).bind fun x10=>(ju x10.config.replicas (IntKind.wrap .i64 ((IntKind.wrap .i64 ((IntKind.wrap .i64 ((IntKind.wrap .i64 ((IntKind.wrap .i64 ((IntKind.wrap .i64 (v2+1))+1))+1))+1))+1))+1))).bind fun y11=>br (decide (y11.1 < 0)) (fe (.inl ((y11.1,(-1),()),(()),(())))) (aq (0≤v3) ((v1[v3.toNat]?).bind fun x12=>(ju x12.config.witnesses y11.1).bind fun y13=>br (decide (y13.1 < 0)) (fe (.inl ((y13.1,(-1),()),(()),(())))) (aq (0≤v3) ((v1[v3.toNat]?).bind fun x14=>br (!(x14.first==y13.1)) (fe (.inl ((y13.1,(-1),()),(()),(())))) (aq (0≤v3) ((v1[v3.toNat]?).bind fun x15=>(ka x15.log (IntKind.wrap .i64 (y13.1+1))).bind fun y16=>br (decide (y16.1 < 0)) (fe (.inl ((y16.1,(-1),()),(()),(())))) (aq (0≤v3) ((v1[v3.toNat]?).bind fun x17=>br (!(x17.commit==y16.1)) (fe (.inl ((y16.1,(-1),()),(()),(())))) (aq (0≤v3) ((v1[v3.toNat]?).bind fun x18=>(ka x18.learned (IntKind.wrap .i64 (y16.1+1))).bind fun y19=>br (decide (y19.1 < 0)) (fe (.inl ((y19.1,(-1),()),(()),(())))) (fn ((v1,y19.1,(IntKind.wrap .i64 (v3+1)),()),(()),(())))) none)) none)) none)) none)) none)) none)) none)) none)) none)) none)) none)) none) (fe (.inr ((v2,(),()),(()),(()))))
def en (s:dD.D):Option (dD.D⊕bh.D ip):=iY s.1.1 s.1.2.1 s.1.2.2.1 (fun s=>some (.inl s)) (fun e=>some (.inr e))
def rS:dD.D→Option (bh.D ip):=jB en
theorem CS {ρ:Type} (s:dD.D) (fn:dD.D→Option ρ) (fe:bh.D ip→Option ρ):iY s.1.1 s.1.2.1 s.1.2.2.1 fn fe=(en s).bind (Sum.elim fn fe):=by
 simp only [en,iY,am,ap,Option.bind_none,Option.bind_assoc,Option.bind_some,Sum.elim_inl,Sum.elim_inr]
abbrev wM:cU:=dh [] [0,1,5] dD ip rS
theorem A9 (s:dD.D):ev Θ (aL Ab) (aK []) ma (dD.mk' s) (c6 [0,1,5] [1,4] fun x S=>some (x,S))=(en s).bind (Sum.elim (fun s'=>some (.nor,dD.mk' s')) fun e=>some (bh.e ip e)):=
 Eq.trans (by kernel_rfl:_=iY s.1.1 s.1.2.1 s.1.2.2.1 (fun s'=>some (.nor,dD.mk' s')) (fun e=>some (bh.e ip e))) (CS s _ _)
theorem Ba:b7 Tryz.prog ma wM:=ba aM vt af (by kernel_rfl) (dp (by kernel_rfl:_= []) ah) [] [0,1,5] [1,4] dD ip (by kernel_rfl) en A9 rS (f9 en) (aO en)
def qB {ρ:Type} (a0:List aj) (a1:Int) (k:Int×Unit→Option ρ):Option ρ:=
 (rS ((a0,a1,0,()),(()),(()))).bind fun e20=>Sum.elim (fun e20_=>k (e20_.1.2.1,())) (fun e20_=>k (e20_.1.1,())) e20
def kr (a0:List aj) (a1:Int):Option (Int×Unit):=qB a0 a1 some
theorem Gk {ρ:Type} (a0:List aj) (a1:Int) (k:Int×Unit→Option ρ):qB a0 a1 k=(kr a0 a1).bind k:=by
 simp only [kr,qB,bR,Option.bind_assoc,Option.bind_some]
abbrev Ad:bm:=bD [.ty (.ls (.st .server)), .ty (.i .i64)] [.i .i64] fun x=>kr x.1 x.2.1
theorem Ki:aA Tryz.prog 85 Ad:=
 al (Λ:=aK [(ce ma,wM)]) (fn:=Tryz.f85) aM vt af (by kernel_rfl) (aG (by kernel_rfl:_= [ma]) (aN (q:=ce ma) rfl Ba fun _ _ _=>by kernel_rfl)) (by kernel_rfl) (fun x=>kr x.1 x.2.1)
  (fun x=>Eq.trans (by kernel_rfl:_=qB x.1 x.2.1 (fun y=>ret (aD [.i .i64] y) fun v g=>some (v,g))) (Gk x.1 x.2.1 _)) fun _ _ h=>h
abbrev Ae:List (Nat×bm):= [(22,vY)]
theorem vu:ar Tryz.prog (aL Ae):=ae A8 <| ak _
noncomputable abbrev mb:Code:=cb (b8 Tryz.f157) 0
abbrev dE:ep:=⟨[(0, .cl (.ro (.st .config))),(1, .cl (.int .i64)),(5, .cl (.int .i64))],[],[],0,49⟩
abbrev iq:List (X×ep):= [(.ret,⟨[(1, .cl (.int .i64)),(4, .cl (.int .i64))],[],[],0,49⟩),(.ext 0,⟨[(1, .cl (.int .i64)),(4, .cl (.dead))],[],[],0,49⟩)]
def iZ {ρ:Type} (v1:List ai) (v2:Int) (v3:Int) (fn: (((List ai)×Int×Int×Unit)×(Unit)×(Unit))→Option ρ) (fe: ((Int×Int×Unit)×(Unit)×(Unit))⊕((Int×Unit×Unit)×(Unit)×(Unit))→Option ρ):Option ρ:=
 br (decide (v3 < (v1.length:Int))) (aq (0≤v3) ((v1[v3.toNat]?).bind fun x4=>br (!(x4.epoch==v2)) (fe (.inl ((v2,(-1),()),(()),(())))) (aq (0≤v3) ((v1[v3.toNat]?).bind fun x5=>br (!(x5.primary==(IntKind.wrap .i64 (v2+1)))) (fe (.inl (((IntKind.wrap .i64 (v2+1)),(-1),()),(()),(())))) (aq (0≤v3) ((v1[v3.toNat]?).bind fun x6=>(ju x6.replicas (IntKind.wrap .i64 ((IntKind.wrap .i64 (v2+1))+1))).bind fun y7=>br (decide (y7.1 < 0)) (fe (.inl ((y7.1,(-1),()),(()),(())))) (aq (0≤v3) ((v1[v3.toNat]?).bind fun x8=>(ju x8.witnesses y7.1).bind fun y9=>br (decide (y9.1 < 0)) (fe (.inl ((y9.1,(-1),()),(()),(())))) (fn ((v1,y9.1,(IntKind.wrap .i64 (v3+1)),()),(()),(())))) none)) none)) none)) none) (fe (.inr ((v2,(),()),(()),(()))))
def eo (s:dE.D):Option (dE.D⊕bh.D iq):=iZ s.1.1 s.1.2.1 s.1.2.2.1 (fun s=>some (.inl s)) (fun e=>some (.inr e))
def rT:dE.D→Option (bh.D iq):=jB eo
theorem CT {ρ:Type} (s:dE.D) (fn:dE.D→Option ρ) (fe:bh.D iq→Option ρ):iZ s.1.1 s.1.2.1 s.1.2.2.1 fn fe=(eo s).bind (Sum.elim fn fe):=by
 simp only [eo,iZ,am,ap,Option.bind_none,Option.bind_assoc,Option.bind_some,Sum.elim_inl,Sum.elim_inr]
abbrev wN:cU:=dh [] [0,1,5] dE iq rT
theorem Bb (s:dE.D):ev Θ (aL Ae) (aK []) mb (dE.mk' s) (c6 [0,1,5] [1,4] fun x S=>some (x,S))=(eo s).bind (Sum.elim (fun s'=>some (.nor,dE.mk' s')) fun e=>some (bh.e iq e)):=
 Eq.trans (by kernel_rfl:_=iZ s.1.1 s.1.2.1 s.1.2.2.1 (fun s'=>some (.nor,dE.mk' s')) (fun e=>some (bh.e iq e))) (CT s _ _)
theorem Bc:b7 Tryz.prog mb wN:=ba aM vu af (by kernel_rfl) (dp (by kernel_rfl:_= []) ah) [] [0,1,5] [1,4] dE iq (by kernel_rfl) eo Bb rT (f9 eo) (aO eo)
def qC {ρ:Type} (a0:List ai) (a1:Int) (k:Int×Unit→Option ρ):Option ρ:=
 (rT ((a0,a1,0,()),(()),(()))).bind fun e10=>Sum.elim (fun e10_=>k (e10_.1.2.1,())) (fun e10_=>k (e10_.1.1,())) e10
def kt (a0:List ai) (a1:Int):Option (Int×Unit):=qC a0 a1 some
theorem Gl {ρ:Type} (a0:List ai) (a1:Int) (k:Int×Unit→Option ρ):qC a0 a1 k=(kt a0 a1).bind k:=by
 simp only [kt,qC,bR,Option.bind_assoc,Option.bind_some]
abbrev Af:bm:=bD [.ty (.ls (.st .config)), .ty (.i .i64)] [.i .i64] fun x=>kt x.1 x.2.1
theorem Kj:aA Tryz.prog 157 Af:=
 al (Λ:=aK [(ce mb,wN)]) (fn:=Tryz.f157) aM vu af (by kernel_rfl) (aG (by kernel_rfl:_= [mb]) (aN (q:=ce mb) rfl Bc fun _ _ _=>by kernel_rfl)) (by kernel_rfl) (fun x=>kt x.1 x.2.1)
  (fun x=>Eq.trans (by kernel_rfl:_=qC x.1 x.2.1 (fun y=>ret (aD [.i .i64] y) fun v g=>some (v,g))) (Gl x.1 x.2.1 _)) fun _ _ h=>h
abbrev Gm:List (Nat×bm):= [(157,Af)]
theorem Bd:ar Tryz.prog (aL Gm):=ae Kj <| ak _
def lj {ρ:Type} (a0:an) (a1:Int) (k:Int×Unit→Option ρ):Option ρ:=
 (kt a0.configs a1).bind fun y1=>br (decide (y1.1 < 0)) (k ((-1),())) (k (y1.1,()))
def jL (a0:an) (a1:Int):Option (Int×Unit):=lj a0 a1 some
theorem CU {ρ:Type} (a0:an) (a1:Int) (k:Int×Unit→Option ρ):lj a0 a1 k=(jL a0 a1).bind k:=by
 simp only [jL,lj,am,Option.bind_assoc,Option.bind_some]
abbrev wO:bm:=bD [.ty (.st .masterLog), .ty (.i .i64)] [.i .i64] fun x=>jL x.1 x.2.1
theorem Gn:aA Tryz.prog 86 wO:=
 al (Λ:=aK []) (fn:=Tryz.f86) aM Bd af (by kernel_rfl) (aG (by kernel_rfl:_= []) ah) (by kernel_rfl) (fun x=>jL x.1 x.2.1)
  (fun x=>Eq.trans (by kernel_rfl:_=lj x.1 x.2.1 (fun y=>ret (aD [.i .i64] y) fun v g=>some (v,g))) (CU x.1 x.2.1 _)) fun _ _ h=>h
abbrev CV:List (Nat×bm):= []
theorem wP:ar Tryz.prog (aL CV):=ak _
noncomputable abbrev nW:Code:=cb (b8 Tryz.f87) 0
abbrev eg:ep:=⟨[(0, .cl (.ro (.st .place))),(1, .cl (.int .i64)),(5, .cl (.int .i64))],[],[],0,40⟩
abbrev jw:List (X×ep):= [(.ret,⟨[(1, .cl (.int .i64)),(4, .cl (.int .i64))],[],[],0,40⟩),(.ext 0,⟨[(1, .cl (.int .i64)),(4, .cl (.dead))],[],[],0,40⟩)]
def jM {ρ:Type} (v1:List aU) (v2:Int) (v3:Int) (fn: (((List aU)×Int×Int×Unit)×(Unit)×(Unit))→Option ρ) (fe: ((Int×Int×Unit)×(Unit)×(Unit))⊕((Int×Unit×Unit)×(Unit)×(Unit))→Option ρ):Option ρ:=
 br (decide (v3 < (v1.length:Int))) (aq (0≤v3) ((v1[v3.toNat]?).bind fun x4=>br (!(x4.rack==v2)) (fe (.inl ((v2,(-1),()),(()),(())))) (aq (0≤v3) ((v1[v3.toNat]?).bind fun x5=>br (!(x5.capacity==(IntKind.wrap .i64 (v2+1)))) (fe (.inl (((IntKind.wrap .i64 (v2+1)),(-1),()),(()),(())))) (aq (0≤v3) ((v1[v3.toNat]?).bind fun x6=>br (!(x6.load==(IntKind.wrap .i64 ((IntKind.wrap .i64 (v2+1))+1)))) (fe (.inl (((IntKind.wrap .i64 ((IntKind.wrap .i64 (v2+1))+1)),(-1),()),(()),(())))) (fn ((v1,(IntKind.wrap .i64 ((IntKind.wrap .i64 ((IntKind.wrap .i64 (v2+1))+1))+1)),(IntKind.wrap .i64 (v3+1)),()),(()),(())))) none)) none)) none) (fe (.inr ((v2,(),()),(()),(()))))
def eV (s:eg.D):Option (eg.D⊕bh.D jw):=jM s.1.1 s.1.2.1 s.1.2.2.1 (fun s=>some (.inl s)) (fun e=>some (.inr e))
def tw:eg.D→Option (bh.D jw):=jB eV
theorem Eo {ρ:Type} (s:eg.D) (fn:eg.D→Option ρ) (fe:bh.D jw→Option ρ):jM s.1.1 s.1.2.1 s.1.2.2.1 fn fe=(eV s).bind (Sum.elim fn fe):=by
 simp only [eV,jM,am,ap,Option.bind_none,Option.bind_assoc,Option.bind_some,Sum.elim_inl,Sum.elim_inr]
abbrev yp:cU:=dh [] [0,1,5] eg jw tw
theorem CW (s:eg.D):ev Θ (aL CV) (aK []) nW (eg.mk' s) (c6 [0,1,5] [1,4] fun x S=>some (x,S))=(eV s).bind (Sum.elim (fun s'=>some (.nor,eg.mk' s')) fun e=>some (bh.e jw e)):=
 Eq.trans (by kernel_rfl:_=jM s.1.1 s.1.2.1 s.1.2.2.1 (fun s'=>some (.nor,eg.mk' s')) (fun e=>some (bh.e jw e))) (Eo s _ _)
theorem CX:b7 Tryz.prog nW yp:=ba aM wP af (by kernel_rfl) (dp (by kernel_rfl:_= []) ah) [] [0,1,5] [1,4] eg jw (by kernel_rfl) eV CW tw (f9 eV) (aO eV)
def rm {ρ:Type} (a0:List aU) (a1:Int) (k:Int×Unit→Option ρ):Option ρ:=
 (tw ((a0,a1,0,()),(()),(()))).bind fun e7=>Sum.elim (fun e7_=>k (e7_.1.2.1,())) (fun e7_=>k (e7_.1.1,())) e7
def lN (a0:List aU) (a1:Int):Option (Int×Unit):=rm a0 a1 some
theorem I1 {ρ:Type} (a0:List aU) (a1:Int) (k:Int×Unit→Option ρ):rm a0 a1 k=(lN a0 a1).bind k:=by
 simp only [lN,rm,bR,Option.bind_assoc,Option.bind_some]
abbrev CY:bm:=bD [.ty (.ls (.st .place)), .ty (.i .i64)] [.i .i64] fun x=>lN x.1 x.2.1
theorem MS:aA Tryz.prog 87 CY:=
 al (Λ:=aK [(ce nW,yp)]) (fn:=Tryz.f87) aM wP af (by kernel_rfl) (aG (by kernel_rfl:_= [nW]) (aN (q:=ce nW) rfl CX fun _ _ _=>by kernel_rfl)) (by kernel_rfl) (fun x=>lN x.1 x.2.1)
  (fun x=>Eq.trans (by kernel_rfl:_=rm x.1 x.2.1 (fun y=>ret (aD [.i .i64] y) fun v g=>some (v,g))) (I1 x.1 x.2.1 _)) fun _ _ h=>h
abbrev Kk:List (Nat×bm):= [(85,Ad),(22,vY),(86,wO),(87,CY)]
theorem Ep:ar Tryz.prog (aL Kk):=ae Ki <| ae A8 <| ae Gn <| ae MS <| ak _
def nX {ρ:Type} (a0:ao) (a1:Int) (k:Int×Unit→Option ρ):Option ρ:=
 (kr a0.servers a1).bind fun y1=>br (decide (y1.1 < 0)) (k ((-1),())) ((ju a0.sides y1.1).bind fun y2=>br (decide (y2.1 < 0)) (k ((-1),())) ((jL a0.master y2.1).bind fun y3=>br (decide (y3.1 < 0)) (k ((-1),())) ((lN a0.places y3.1).bind fun y4=>br (decide (y4.1 < 0)) (k ((-1),())) (k (y4.1,())))))
def eW (a0:ao) (a1:Int):Option (Int×Unit):=nX a0 a1 some
theorem Gp {ρ:Type} (a0:ao) (a1:Int) (k:Int×Unit→Option ρ):nX a0 a1 k=(eW a0 a1).bind k:=by
 simp only [eW,nX,am,Option.bind_assoc,Option.bind_some]
abbrev Ag:bm:=bD [.ty (.st .cluster), .ty (.i .i64)] [.i .i64] fun x=>eW x.1 x.2.1
theorem Kl:aA Tryz.prog 30 Ag:=
 al (Λ:=aK []) (fn:=Tryz.f30) aM Ep af (by kernel_rfl) (aG (by kernel_rfl:_= []) ah) (by kernel_rfl) (fun x=>eW x.1 x.2.1)
  (fun x=>Eq.trans (by kernel_rfl:_=nX x.1 x.2.1 (fun y=>ret (aD [.i .i64] y) fun v g=>some (v,g))) (Gp x.1 x.2.1 _)) fun _ _ h=>h
abbrev uD:List (Nat×bm):= [(12,EY),(14,E4),(31,tX),(32,t7),(16,Fl),(oo 20,vr),(30,Ag)]
theorem sC:ar Tryz.prog (aL uD):=ae Od <| ae Om <| ae BZ <| ae CF <| ae Pb <| ae El <| ae Kl <| ak _
def ex {ρ:Type} (a0:ao) (a1:Int) (k:Bool×Unit→Option ρ):Option ρ:=
 (iy a0 1048576).bind fun y1=>br (decide (y1.1 < 0)) (k (true,())) ((gO a0).bind fun y2=>(fB y2.1 a1).bind fun y3=>(gO a0).bind fun y4=>(eA y4.1 a1).bind fun y5=>(eB y5.1 y3.1).bind fun y6=>br (!y6.1) (k (false,())) (br (!(y5.2.1==y3.2.1)) (k (false,())) ((gO a0).bind fun y7=>(eB y4.1 y7.1).bind fun y8=>br (!y8.1) (k (false,())) ((dI y4.1 1).bind fun y9=>aq (y9.1.servers.length=y4.1.servers.length) (aq (y9.1.sides.length=y4.1.sides.length) (aq (y9.1.master.configs.length=y4.1.master.configs.length) (aq (y9.1.places.length=y4.1.places.length) (br (decide (y9.2.1 < 0)) (k (false,())) ((eB y5.1 y3.1).bind fun y10=>br (!y10.1) (k (false,())) (br (!(y5.2.1==y3.2.1)) (k (false,())) ((dI y5.1 1).bind fun y11=>aq (y11.1.servers.length=y5.1.servers.length) (aq (y11.1.sides.length=y5.1.sides.length) (aq (y11.1.master.configs.length=y5.1.master.configs.length) (aq (y11.1.places.length=y5.1.places.length) ((eW (⟨y5.1.now,y11.1.servers,y11.1.sides,(⟨y11.1.master.configs,y5.1.master.activated⟩:an),y5.1.masterUp,y5.1.lease,y11.1.places⟩:ao) 1).bind fun y12=>br (decide (y12.1 < 0)) (k (false,())) (br (!(y12.1==y11.2.1)) (k (false,())) ((gO a0).bind fun y13=>(eA y13.1 a1).bind fun y14=>(eB y14.1 y3.1).bind fun y15=>br (!y15.1) (k (false,())) (br (!(y14.2.1==y3.2.1)) (k (false,())) ((eW (⟨y5.1.now,y11.1.servers,y11.1.sides,(⟨y11.1.master.configs,y5.1.master.activated⟩:an),y5.1.masterUp,y5.1.lease,y11.1.places⟩:ao) 1).bind fun y16=>br (decide (y16.1 < 0)) (k (false,())) (br (!(y16.1==y11.2.1)) (k (false,())) (k (true,())))))))) none) none) none) none)))) none) none) none) none))))
def dJ (a0:ao) (a1:Int):Option (Bool×Unit):=ex a0 a1 some
theorem tz {ρ:Type} (a0:ao) (a1:Int) (k:Bool×Unit→Option ρ):ex a0 a1 k=(dJ a0 a1).bind k:=by
 simp only [dJ,ex,am,ap,Option.bind_none,Option.bind_assoc,Option.bind_some]
abbrev uE:bm:=bD [.ty (.st .cluster), .ty (.i .i64)] [.b] fun x=>dJ x.1 x.2.1
theorem uF:aA Tryz.prog 7 uE:=
 al (Λ:=aK []) (fn:=Tryz.f7) aM sC af (by kernel_rfl) (aG (by kernel_rfl:_= []) ah) (by kernel_rfl) (fun x=>dJ x.1 x.2.1)
  (fun x=>Eq.trans (by kernel_rfl:_=ex x.1 x.2.1 (fun y=>ret (aD [.b] y) fun v g=>some (v,g))) (tz x.1 x.2.1 _)) fun _ _ h=>h
end
end Go.Proofs.YtkcgfceffffmoaaGreat.En
