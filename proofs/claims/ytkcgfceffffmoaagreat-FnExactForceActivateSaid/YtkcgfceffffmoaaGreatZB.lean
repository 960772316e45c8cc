/- Printed by a program: the walk. -/
import Derived.Test.YtkcgfceffffmoaaGreatZB1
namespace Go.Proofs.YtkcgfceffffmoaaGreat.En
open Go
noncomputable section
abbrev KG:List (Nat×bc):= [(95,Df),(103,wM),(104,Dj),(58,Dk),(105,Dl),(106,uC),(94,BG),(107,zW),(108,zX),(109,yj)]
theorem ED:au Tryz.prog (aE KG):=ae OV <| ae Gs <| ae Pb <| ae Pd <| ae Pg <| ae zU <| ae Nu <| ae KD <| ae KF <| ae Im <| al _
def nj {ρ:Type} (a0:aj) (k:aj×Int×Unit→Option ρ):Option ρ:=
 (lX a0).bind fun y1=>(ew a0).bind fun y2=>(jW a0).bind fun y3=>br (!y3.1) (k (y1.1,1,())) (br (decide ((a0.master.configs.length:Int)≥20)) (k (y1.1,1,())) ((og a0).bind fun y4=>br (!y4.1) (k (y1.1,8,())) (br (y2.1==(-1)) (k (y1.1,10,())) ((l4 a0.lease a0.now).bind fun y5=>br (!y5.1) (k (y1.1,7,())) (aq (0≤y2.1) ((a0.servers[y2.1.toNat]?).bind fun x6=>(fM x6 y2.1).bind fun y7=>aq (0≤y2.1) ((a0.servers[y2.1.toNat]?).bind fun x8=>br (x8.version==1) ((gC y7.1).bind fun y9=>br y9.1 (k (y1.1,6,())) ((gU y1.1.master (⟨(IntKind.wrap .i64 ((a0.master.configs.length:Int)+1)),y2.1,([y2.1]:List Int),([]:List Int)⟩:ai)).bind fun y10=>aq (0≤y2.1∧y2.1 < (y1.1.servers.length:Int)) ((y1.1.servers[y2.1.toNat]?).bind fun x11=>(y1.1.servers[y2.1.toNat]?).bind fun x12=>aq (0+x11.config.replicas.length≤x12.config.replicas.length) ((y1.1.servers[y2.1.toNat]?).bind fun x13=>aq (0+x11.config.witnesses.length≤x13.config.witnesses.length) ((y1.1.servers[y2.1.toNat]?).bind fun x14=>aq (0+x11.log.length≤x14.log.length) ((y1.1.servers[y2.1.toNat]?).bind fun x15=>aq (0+x11.learned.length≤x15.learned.length) ((gV (⟨x11.up,x11.intact,x11.version,x11.epoch,(⟨x11.config.epoch,x11.config.primary,((x12.config.replicas.drop 0).take x11.config.replicas.length),((x13.config.witnesses.drop 0).take x11.config.witnesses.length)⟩:ai),x11.first,((x14.log.drop 0).take x11.log.length),x11.commit,((x15.learned.drop 0).take x11.learned.length)⟩:am) (⟨(IntKind.wrap .i64 ((a0.master.configs.length:Int)+1)),y2.1,([y2.1]:List Int),([]:List Int)⟩:ai) y2.1 y7.1).bind fun y16=>aq (0≤y2.1∧y2.1 < (y1.1.servers.length:Int)) ((y1.1.servers[y2.1.toNat]?).bind fun _=>(f9 y10.1 (IntKind.wrap .i64 ((a0.master.configs.length:Int)+1))).bind fun y19=>k ((⟨y1.1.now,(y1.1.servers.set y2.1.toNat y16.1),y1.1.sides,y19.1,y1.1.masterUp,(⟨0,0,0⟩:eg),y1.1.places⟩:aj),0,())) none) none) none) none) none) none)) ((gU y1.1.master (⟨(IntKind.wrap .i64 ((a0.master.configs.length:Int)+1)),y2.1,([y2.1]:List Int),([]:List Int)⟩:ai)).bind fun y20=>aq (0≤y2.1∧y2.1 < (y1.1.servers.length:Int)) ((y1.1.servers[y2.1.toNat]?).bind fun x21=>(y1.1.servers[y2.1.toNat]?).bind fun x22=>aq (0+x21.config.replicas.length≤x22.config.replicas.length) ((y1.1.servers[y2.1.toNat]?).bind fun x23=>aq (0+x21.config.witnesses.length≤x23.config.witnesses.length) ((y1.1.servers[y2.1.toNat]?).bind fun x24=>aq (0+x21.log.length≤x24.log.length) ((y1.1.servers[y2.1.toNat]?).bind fun x25=>aq (0+x21.learned.length≤x25.learned.length) ((gV (⟨x21.up,x21.intact,x21.version,x21.epoch,(⟨x21.config.epoch,x21.config.primary,((x22.config.replicas.drop 0).take x21.config.replicas.length),((x23.config.witnesses.drop 0).take x21.config.witnesses.length)⟩:ai),x21.first,((x24.log.drop 0).take x21.log.length),x21.commit,((x25.learned.drop 0).take x21.learned.length)⟩:am) (⟨(IntKind.wrap .i64 ((a0.master.configs.length:Int)+1)),y2.1,([y2.1]:List Int),([]:List Int)⟩:ai) y2.1 y7.1).bind fun y26=>aq (0≤y2.1∧y2.1 < (y1.1.servers.length:Int)) ((y1.1.servers[y2.1.toNat]?).bind fun _=>(f9 y20.1 (IntKind.wrap .i64 ((a0.master.configs.length:Int)+1))).bind fun y29=>k ((⟨y1.1.now,(y1.1.servers.set y2.1.toNat y26.1),y1.1.sides,y29.1,y1.1.masterUp,(⟨0,0,0⟩:eg),y1.1.places⟩:aj),0,())) none) none) none) none) none) none)) none) none)))))
def gW (a0:aj):Option (aj×Int×Unit):=nj a0 some
theorem GA {ρ:Type} (a0:aj) (k:aj×Int×Unit→Option ρ):nj a0 k=(gW a0).bind k:=by
 simp only [gW,nj,ao,ap,Option.bind_none,Option.bind_assoc,Option.bind_some]
abbrev zY:bc:=bh [.ty (.st .cluster)] [.st .cluster, .i .i64] fun x=>gW x.1
theorem KH:ax Tryz.prog 34 zY:=
 an (Λ:=aF []) (fn:=Tryz.f34) aG ED af (by kernel_rfl) (az (by kernel_rfl:_= []) ah) (by kernel_rfl) (fun x=>gW x.1)
  (fun x=>Eq.trans (by kernel_rfl:_=nj x.1 (fun y=>ret (ay [.st .cluster, .i .i64] y) fun v g=>some (v,g))) (GA x.1 _)) fun _ _ h=>h
abbrev Ux:List (Nat×bc):= []
theorem Jr:au Tryz.prog (aE Ux):=al _
noncomputable abbrev vS:Code:=bV (bT Tryz.f19) 0
abbrev kJ:en:=⟨[(0, .cl (.ro (.i .i64))),(1, .cl (.ro (.i .i64))),(5, .cl (.int .i64))],[],[],0,26⟩
abbrev rM:List (X×en):= [(.ret,⟨[(4, .cl (.bl))],[],[],0,26⟩),(.ext 0,⟨[(4, .cl (.dead))],[],[],0,26⟩)]
def wO {ρ:Type} (v1:List Int) (v2:List Int) (v3:Int) (fn: (((List Int)×(List Int)×Int×Unit)×(Unit)×(Unit))→Option ρ) (fe: ((Bool×Unit)×(Unit)×(Unit))⊕((Unit×Unit)×(Unit)×(Unit))→Option ρ):Option ρ:=
 br (decide (v3 < (v1.length:Int))) (aq (0≤v3) ((v1[v3.toNat]?).bind fun x4=>aq (0≤v3) ((v2[v3.toNat]?).bind fun x5=>br (!(x4==x5)) (fe (.inl ((false,()),(()),(())))) (fn ((v1,v2,(IntKind.wrap .i64 (v3+1)),()),(()),(())))) none) none) (fe (.inr (((),()),(()),(()))))
def pM (s:kJ.D):Option (kJ.D⊕bg.D rM):=wO s.1.1 s.1.2.1 s.1.2.2.1 (fun s=>some (.inl s)) (fun e=>some (.inr e))
def EE:kJ.D→Option (bg.D rM):=ko pM
theorem RV {ρ:Type} (s:kJ.D) (fn:kJ.D→Option ρ) (fe:bg.D rM→Option ρ):wO s.1.1 s.1.2.1 s.1.2.2.1 fn fe=(pM s).bind (Sum.elim fn fe):=by
 simp only [pM,wO,ao,ap,Option.bind_none,Option.bind_assoc,Option.bind_some,Sum.elim_inl,Sum.elim_inr]
abbrev Nv:cW:=df [] [0,1,5] kJ rM EE
theorem Pj (s:kJ.D):ez Θ (aE Ux) (aF []) vS (kJ.mk' s) (cU [0,1,5] [4] fun x S=>some (x,S))=(pM s).bind (Sum.elim (fun s'=>some (.nor,kJ.mk' s')) fun e=>some (bg.e rM e)):=
 Eq.trans (by kernel_rfl:_=wO s.1.1 s.1.2.1 s.1.2.2.1 (fun s'=>some (.nor,kJ.mk' s')) (fun e=>some (bg.e rM e))) (RV s _ _)
theorem Pk:bP Tryz.prog vS Nv:=aW aG Jr af (by kernel_rfl) (dp (by kernel_rfl:_= []) ah) [] [0,1,5] [4] kJ rM (by kernel_rfl) pM Pj EE (gf pM) (aL pM)
def Cv {ρ:Type} (a0:List Int) (a1:List Int) (k:Bool×Unit→Option ρ):Option ρ:=
 br (!((a0.length:Int)==(a1.length:Int))) (k (false,())) ((EE ((a0,a1,0,()),(()),(()))).bind fun e6=>Sum.elim (fun e6_=>k (e6_.1.1,())) (fun _=>k (true,())) e6)
def s4 (a0:List Int) (a1:List Int):Option (Bool×Unit):=Cv a0 a1 some
theorem Wk {ρ:Type} (a0:List Int) (a1:List Int) (k:Bool×Unit→Option ρ):Cv a0 a1 k=(s4 a0 a1).bind k:=by
 simp only [s4,Cv,ao,bR,Option.bind_assoc,Option.bind_some]
abbrev Nw:bc:=bh [.ty (.ls (.i .i64)), .ty (.ls (.i .i64))] [.b] fun x=>s4 x.1 x.2.1
theorem Uy:ax Tryz.prog 19 Nw:=
 an (Λ:=aF [(bU vS,Nv)]) (fn:=Tryz.f19) aG Jr af (by kernel_rfl) (az (by kernel_rfl:_= [vS]) (aK (q:=bU vS) rfl Pk fun _ _ _=>by kernel_rfl)) (by kernel_rfl) (fun x=>s4 x.1 x.2.1)
  (fun x=>Eq.trans (by kernel_rfl:_=Cv x.1 x.2.1 (fun y=>ret (ay [.b] y) fun v g=>some (v,g))) (Wk x.1 x.2.1 _)) fun _ _ h=>h
abbrev Wl:List (Nat×bc):= [(19,Nw)]
theorem Pm:au Tryz.prog (aE Wl):=ae Uy <| al _
def ut {ρ:Type} (a0:ai) (a1:ai) (k:Bool×Unit→Option ρ):Option ρ:=
 br (!(a0.epoch==a1.epoch)) (k (false,())) (br (!(a0.primary==a1.primary)) (k (false,())) ((s4 a0.replicas a1.replicas).bind fun y1=>br (!y1.1) (k (false,())) ((s4 a0.witnesses a1.witnesses).bind fun y2=>br (!y2.1) (k (false,())) (k (true,())))))
def nE (a0:ai) (a1:ai):Option (Bool×Unit):=ut a0 a1 some
theorem RX {ρ:Type} (a0:ai) (a1:ai) (k:Bool×Unit→Option ρ):ut a0 a1 k=(nE a0 a1).bind k:=by
 simp only [nE,ut,ao,Option.bind_assoc,Option.bind_some]
abbrev EF:bc:=bh [.ty (.st .config), .ty (.st .config)] [.b] fun x=>nE x.1 x.2.1
theorem Nx:ax Tryz.prog 215 EF:=
 an (Λ:=aF []) (fn:=Tryz.f215) aG Pm af (by kernel_rfl) (az (by kernel_rfl:_= []) ah) (by kernel_rfl) (fun x=>nE x.1 x.2.1)
  (fun x=>Eq.trans (by kernel_rfl:_=ut x.1 x.2.1 (fun y=>ret (ay [.b] y) fun v g=>some (v,g))) (RX x.1 x.2.1 _)) fun _ _ h=>h
abbrev acR:List (Nat×bc):= []
theorem X8:au Tryz.prog (aE acR):=al _
def GB {ρ:Type} (a0:Op) (a1:Op) (k:Bool×Unit→Option ρ):Option ρ:=
 br (!(a0.client==a1.client)) (k (false,())) (br (!(a0.seq==a1.seq)) (k (false,())) (br (!(a0.kind==a1.kind)) (k (false,())) (br (!(a0.object==a1.object)) (k (false,())) (br (!(a0.old==a1.old)) (k (false,())) (br (!(a0.value==a1.value)) (k (false,())) (k (true,())))))))
def EG (a0:Op) (a1:Op):Option (Bool×Unit):=GB a0 a1 some
theorem Z4 {ρ:Type} (a0:Op) (a1:Op) (k:Bool×Unit→Option ρ):GB a0 a1 k=(EG a0 a1).bind k:=by
 simp only [EG,GB,ao,Option.bind_some]
abbrev Z5:bc:=bh [.ty (.st .op), .ty (.st .op)] [.b] fun x=>EG x.1 x.2.1
theorem acS:ax Tryz.prog 153 Z5:=
 an (Λ:=aF []) (fn:=Tryz.f153) aG X8 af (by kernel_rfl) (az (by kernel_rfl:_= []) ah) (by kernel_rfl) (fun x=>EG x.1 x.2.1)
  (fun x=>Eq.trans (by kernel_rfl:_=GB x.1 x.2.1 (fun y=>ret (ay [.b] y) fun v g=>some (v,g))) (Z4 x.1 x.2.1 _)) fun _ _ h=>h
abbrev X9:List (Nat×bc):= [(153,Z5)]
theorem RY:au Tryz.prog (aE X9):=ae acS <| al _
def vT {ρ:Type} (a0:ar) (a1:ar) (k:Bool×Unit→Option ρ):Option ρ:=
 br (!(a0.epoch==a1.epoch)) (k (false,())) ((EG a0.op a1.op).bind fun y1=>br (!y1.1) (k (false,())) (k (true,())))
def se (a0:ar) (a1:ar):Option (Bool×Unit):=vT a0 a1 some
theorem Uz {ρ:Type} (a0:ar) (a1:ar) (k:Bool×Unit→Option ρ):vT a0 a1 k=(se a0 a1).bind k:=by
 simp only [se,vT,ao,Option.bind_assoc,Option.bind_some]
abbrev Qg:bc:=bh [.ty (.st .entry), .ty (.st .entry)] [.b] fun x=>se x.1 x.2.1
theorem Ya:ax Tryz.prog 81 Qg:=
 an (Λ:=aF []) (fn:=Tryz.f81) aG RY af (by kernel_rfl) (az (by kernel_rfl:_= []) ah) (by kernel_rfl) (fun x=>se x.1 x.2.1)
  (fun x=>Eq.trans (by kernel_rfl:_=vT x.1 x.2.1 (fun y=>ret (ay [.b] y) fun v g=>some (v,g))) (Uz x.1 x.2.1 _)) fun _ _ h=>h
abbrev Ny:List (Nat×bc):= [(81,Qg)]
theorem Dn:au Tryz.prog (aE Ny):=ae Ya <| al _
noncomputable abbrev s5:Code:=bV (bT Tryz.f25) 0
abbrev gD:en:=⟨[(0, .cl (.ro (.st .entry))),(1, .cl (.ro (.st .entry))),(5, .cl (.int .i64))],[],[],0,27⟩
abbrev nF:List (X×en):= [(.ret,⟨[(4, .cl (.bl))],[],[],0,27⟩),(.ext 0,⟨[(4, .cl (.dead))],[],[],0,27⟩)]
def tW {ρ:Type} (v1:List ar) (v2:List ar) (v3:Int) (fn: (((List ar)×(List ar)×Int×Unit)×(Unit)×(Unit))→Option ρ) (fe: ((Bool×Unit)×(Unit)×(Unit))⊕((Unit×Unit)×(Unit)×(Unit))→Option ρ):Option ρ:=
 br (decide (v3 < (v1.length:Int))) (aq (0≤v3) ((v1[v3.toNat]?).bind fun x4=>aq (0≤v3) ((v2[v3.toNat]?).bind fun x5=>(se x4 x5).bind fun y6=>br (!y6.1) (fe (.inl ((false,()),(()),(())))) (fn ((v1,v2,(IntKind.wrap .i64 (v3+1)),()),(()),(())))) none) none) (fe (.inr (((),()),(()),(()))))
def lE (s:gD.D):Option (gD.D⊕bg.D nF):=tW s.1.1 s.1.2.1 s.1.2.2.1 (fun s=>some (.inl s)) (fun e=>some (.inr e))
def zf:gD.D→Option (bg.D nF):=ko lE
theorem Nz {ρ:Type} (s:gD.D) (fn:gD.D→Option ρ) (fe:bg.D nF→Option ρ):tW s.1.1 s.1.2.1 s.1.2.2.1 fn fe=(lE s).bind (Sum.elim fn fe):=by
 simp only [lE,tW,ao,ap,Option.bind_none,Option.bind_assoc,Option.bind_some,Sum.elim_inl,Sum.elim_inr]
abbrev GC:cW:=df [] [0,1,5] gD nF zf
theorem KI (s:gD.D):ez Θ (aE Ny) (aF []) s5 (gD.mk' s) (cU [0,1,5] [4] fun x S=>some (x,S))=(lE s).bind (Sum.elim (fun s'=>some (.nor,gD.mk' s')) fun e=>some (bg.e nF e)):=
 Eq.trans (by kernel_rfl:_=tW s.1.1 s.1.2.1 s.1.2.2.1 (fun s'=>some (.nor,gD.mk' s')) (fun e=>some (bg.e nF e))) (Nz s _ _)
theorem KJ:bP Tryz.prog s5 GC:=aW aG Dn af (by kernel_rfl) (dp (by kernel_rfl:_= []) ah) [] [0,1,5] [4] gD nF (by kernel_rfl) lE KI zf (gf lE) (aL lE)
def wP {ρ:Type} (a0:List ar) (a1:List ar) (k:Bool×Unit→Option ρ):Option ρ:=
 br (!((a0.length:Int)==(a1.length:Int))) (k (false,())) ((zf ((a0,a1,0,()),(()),(()))).bind fun e7=>Sum.elim (fun e7_=>k (e7_.1.1,())) (fun _=>k (true,())) e7)
def pN (a0:List ar) (a1:List ar):Option (Bool×Unit):=wP a0 a1 some
theorem RZ {ρ:Type} (a0:List ar) (a1:List ar) (k:Bool×Unit→Option ρ):wP a0 a1 k=(pN a0 a1).bind k:=by
 simp only [pN,wP,ao,bR,Option.bind_assoc,Option.bind_some]
abbrev NA:bc:=bh [.ty (.ls (.st .entry)), .ty (.ls (.st .entry))] [.b] fun x=>pN x.1 x.2.1
theorem Wm:ax Tryz.prog 25 NA:=
 an (Λ:=aF [(bU s5,GC)]) (fn:=Tryz.f25) aG Dn af (by kernel_rfl) (az (by kernel_rfl:_= [s5]) (aK (q:=bU s5) rfl KJ fun _ _ _=>by kernel_rfl)) (by kernel_rfl) (fun x=>pN x.1 x.2.1)
  (fun x=>Eq.trans (by kernel_rfl:_=wP x.1 x.2.1 (fun y=>ret (ay [.b] y) fun v g=>some (v,g))) (RZ x.1 x.2.1 _)) fun _ _ h=>h
abbrev Wn:List (Nat×bc):= [(215,EF),(25,NA)]
theorem Pn:au Tryz.prog (aE Wn):=ae Nx <| ae Wm <| al _
def uu {ρ:Type} (a0:am) (a1:am) (k:Bool×Unit→Option ρ):Option ρ:=
 br (!(a0.up==a1.up)) (k (false,())) (br (!(a0.intact==a1.intact)) (k (false,())) (br (!(a0.version==a1.version)) (k (false,())) (br (!(a0.epoch==a1.epoch)) (k (false,())) ((nE a0.config a1.config).bind fun y1=>br (!y1.1) (k (false,())) (br (!(a0.first==a1.first)) (k (false,())) ((pN a0.log a1.log).bind fun y2=>br (!y2.1) (k (false,())) (br (!(a0.commit==a1.commit)) (k (false,())) ((pN a0.learned a1.learned).bind fun y3=>br (!y3.1) (k (false,())) (k (true,()))))))))))
def pO (a0:am) (a1:am):Option (Bool×Unit):=uu a0 a1 some
theorem R0 {ρ:Type} (a0:am) (a1:am) (k:Bool×Unit→Option ρ):uu a0 a1 k=(pO a0 a1).bind k:=by
 simp only [pO,uu,ao,Option.bind_assoc,Option.bind_some]
abbrev NB:bc:=bh [.ty (.st .server), .ty (.st .server)] [.b] fun x=>pO x.1 x.2.1
theorem Wo:ax Tryz.prog 145 NB:=
 an (Λ:=aF []) (fn:=Tryz.f145) aG Pn af (by kernel_rfl) (az (by kernel_rfl:_= []) ah) (by kernel_rfl) (fun x=>pO x.1 x.2.1)
  (fun x=>Eq.trans (by kernel_rfl:_=uu x.1 x.2.1 (fun y=>ret (ay [.b] y) fun v g=>some (v,g))) (R0 x.1 x.2.1 _)) fun _ _ h=>h
abbrev Js:List (Nat×bc):= [(145,NB)]
theorem BH:au Tryz.prog (aE Js):=ae Wo <| al _
noncomputable abbrev rj:Code:=bV (bT Tryz.f67) 0
abbrev fE:en:=⟨[(0, .cl (.ro (.st .server))),(1, .cl (.ro (.st .server))),(5, .cl (.int .i64))],[],[],0,27⟩
abbrev l5:List (X×en):= [(.ret,⟨[(4, .cl (.bl))],[],[],0,27⟩),(.ext 0,⟨[(4, .cl (.dead))],[],[],0,27⟩)]
def s6 {ρ:Type} (v1:List am) (v2:List am) (v3:Int) (fn: (((List am)×(List am)×Int×Unit)×(Unit)×(Unit))→Option ρ) (fe: ((Bool×Unit)×(Unit)×(Unit))⊕((Unit×Unit)×(Unit)×(Unit))→Option ρ):Option ρ:=
 br (decide (v3 < (v1.length:Int))) (aq (0≤v3) ((v1[v3.toNat]?).bind fun x4=>aq (0≤v3) ((v2[v3.toNat]?).bind fun x5=>(pO x4 x5).bind fun y6=>br (!y6.1) (fe (.inl ((false,()),(()),(())))) (fn ((v1,v2,(IntKind.wrap .i64 (v3+1)),()),(()),(())))) none) none) (fe (.inr (((),()),(()),(()))))
def jZ (s:fE.D):Option (fE.D⊕bg.D l5):=s6 s.1.1 s.1.2.1 s.1.2.2.1 (fun s=>some (.inl s)) (fun e=>some (.inr e))
def xn:fE.D→Option (bg.D l5):=ko jZ
theorem KK {ρ:Type} (s:fE.D) (fn:fE.D→Option ρ) (fe:bg.D l5→Option ρ):s6 s.1.1 s.1.2.1 s.1.2.2.1 fn fe=(jZ s).bind (Sum.elim fn fe):=by
 simp only [jZ,s6,ao,ap,Option.bind_none,Option.bind_assoc,Option.bind_some,Sum.elim_inl,Sum.elim_inr]
abbrev Dp:cW:=df [] [0,1,5] fE l5 xn
theorem Io (s:fE.D):ez Θ (aE Js) (aF []) rj (fE.mk' s) (cU [0,1,5] [4] fun x S=>some (x,S))=(jZ s).bind (Sum.elim (fun s'=>some (.nor,fE.mk' s')) fun e=>some (bg.e l5 e)):=
 Eq.trans (by kernel_rfl:_=s6 s.1.1 s.1.2.1 s.1.2.2.1 (fun s'=>some (.nor,fE.mk' s')) (fun e=>some (bg.e l5 e))) (KK s _ _)
theorem Ip:bP Tryz.prog rj Dp:=aW aG BH af (by kernel_rfl) (dp (by kernel_rfl:_= []) ah) [] [0,1,5] [4] fE l5 (by kernel_rfl) jZ Io xn (gf jZ) (aL jZ)
def u7 {ρ:Type} (a0:List am) (a1:List am) (k:Bool×Unit→Option ρ):Option ρ:=
 br (!((a0.length:Int)==(a1.length:Int))) (k (false,())) ((xn ((a0,a1,0,()),(()),(()))).bind fun e7=>Sum.elim (fun e7_=>k (e7_.1.1,())) (fun _=>k (true,())) e7)
def pP (a0:List am) (a1:List am):Option (Bool×Unit):=u7 a0 a1 some
theorem Po {ρ:Type} (a0:List am) (a1:List am) (k:Bool×Unit→Option ρ):u7 a0 a1 k=(pP a0 a1).bind k:=by
 simp only [pP,u7,ao,bR,Option.bind_assoc,Option.bind_some]
abbrev Jt:bc:=bh [.ty (.ls (.st .server)), .ty (.ls (.st .server))] [.b] fun x=>pP x.1 x.2.1
theorem UA:ax Tryz.prog 67 Jt:=
 an (Λ:=aF [(bU rj,Dp)]) (fn:=Tryz.f67) aG BH af (by kernel_rfl) (az (by kernel_rfl:_= [rj]) (aK (q:=bU rj) rfl Ip fun _ _ _=>by kernel_rfl)) (by kernel_rfl) (fun x=>pP x.1 x.2.1)
  (fun x=>Eq.trans (by kernel_rfl:_=u7 x.1 x.2.1 (fun y=>ret (ay [.b] y) fun v g=>some (v,g))) (Po x.1 x.2.1 _)) fun _ _ h=>h
abbrev Ju:List (Nat×bc):= [(215,EF)]
theorem BI:au Tryz.prog (aE Ju):=ae Nx <| al _
noncomputable abbrev rk:Code:=bV (bT Tryz.f146) 0
abbrev fF:en:=⟨[(0, .cl (.ro (.st .config))),(1, .cl (.ro (.st .config))),(5, .cl (.int .i64))],[],[],0,27⟩
abbrev l6:List (X×en):= [(.ret,⟨[(4, .cl (.bl))],[],[],0,27⟩),(.ext 0,⟨[(4, .cl (.dead))],[],[],0,27⟩)]
def s7 {ρ:Type} (v1:List ai) (v2:List ai) (v3:Int) (fn: (((List ai)×(List ai)×Int×Unit)×(Unit)×(Unit))→Option ρ) (fe: ((Bool×Unit)×(Unit)×(Unit))⊕((Unit×Unit)×(Unit)×(Unit))→Option ρ):Option ρ:=
 br (decide (v3 < (v1.length:Int))) (aq (0≤v3) ((v1[v3.toNat]?).bind fun x4=>aq (0≤v3) ((v2[v3.toNat]?).bind fun x5=>(nE x4 x5).bind fun y6=>br (!y6.1) (fe (.inl ((false,()),(()),(())))) (fn ((v1,v2,(IntKind.wrap .i64 (v3+1)),()),(()),(())))) none) none) (fe (.inr (((),()),(()),(()))))
def j4 (s:fF.D):Option (fF.D⊕bg.D l6):=s7 s.1.1 s.1.2.1 s.1.2.2.1 (fun s=>some (.inl s)) (fun e=>some (.inr e))
def xp:fF.D→Option (bg.D l6):=ko j4
theorem KL {ρ:Type} (s:fF.D) (fn:fF.D→Option ρ) (fe:bg.D l6→Option ρ):s7 s.1.1 s.1.2.1 s.1.2.2.1 fn fe=(j4 s).bind (Sum.elim fn fe):=by
 simp only [j4,s7,ao,ap,Option.bind_none,Option.bind_assoc,Option.bind_some,Sum.elim_inl,Sum.elim_inr]
abbrev Dq:cW:=df [] [0,1,5] fF l6 xp
theorem Iq (s:fF.D):ez Θ (aE Ju) (aF []) rk (fF.mk' s) (cU [0,1,5] [4] fun x S=>some (x,S))=(j4 s).bind (Sum.elim (fun s'=>some (.nor,fF.mk' s')) fun e=>some (bg.e l6 e)):=
 Eq.trans (by kernel_rfl:_=s7 s.1.1 s.1.2.1 s.1.2.2.1 (fun s'=>some (.nor,fF.mk' s')) (fun e=>some (bg.e l6 e))) (KL s _ _)
theorem Ir:bP Tryz.prog rk Dq:=aW aG BI af (by kernel_rfl) (dp (by kernel_rfl:_= []) ah) [] [0,1,5] [4] fF l6 (by kernel_rfl) j4 Iq xp (gf j4) (aL j4)
def u9 {ρ:Type} (a0:List ai) (a1:List ai) (k:Bool×Unit→Option ρ):Option ρ:=
 br (!((a0.length:Int)==(a1.length:Int))) (k (false,())) ((xp ((a0,a1,0,()),(()),(()))).bind fun e7=>Sum.elim (fun e7_=>k (e7_.1.1,())) (fun _=>k (true,())) e7)
def pQ (a0:List ai) (a1:List ai):Option (Bool×Unit):=u9 a0 a1 some
theorem Pp {ρ:Type} (a0:List ai) (a1:List ai) (k:Bool×Unit→Option ρ):u9 a0 a1 k=(pQ a0 a1).bind k:=by
 simp only [pQ,u9,ao,bR,Option.bind_assoc,Option.bind_some]
abbrev Jv:bc:=bh [.ty (.ls (.st .config)), .ty (.ls (.st .config))] [.b] fun x=>pQ x.1 x.2.1
theorem UB:ax Tryz.prog 146 Jv:=
 an (Λ:=aF [(bU rk,Dq)]) (fn:=Tryz.f146) aG BI af (by kernel_rfl) (az (by kernel_rfl:_= [rk]) (aK (q:=bU rk) rfl Ir fun _ _ _=>by kernel_rfl)) (by kernel_rfl) (fun x=>pQ x.1 x.2.1)
  (fun x=>Eq.trans (by kernel_rfl:_=u9 x.1 x.2.1 (fun y=>ret (ay [.b] y) fun v g=>some (v,g))) (Pp x.1 x.2.1 _)) fun _ _ h=>h
abbrev Pq:List (Nat×bc):= [(146,Jv)]
theorem It:au Tryz.prog (aE Pq):=ae UB <| al _
def pR {ρ:Type} (a0:ak) (a1:ak) (k:Bool×Unit→Option ρ):Option ρ:=
 (pQ a0.configs a1.configs).bind fun y1=>br (!y1.1) (k (false,())) (br (!(a0.activated==a1.activated)) (k (false,())) (k (true,())))
def l7 (a0:ak) (a1:ak):Option (Bool×Unit):=pR a0 a1 some
theorem KM {ρ:Type} (a0:ak) (a1:ak) (k:Bool×Unit→Option ρ):pR a0 a1 k=(l7 a0 a1).bind k:=by
 simp only [l7,pR,ao,Option.bind_assoc,Option.bind_some]
abbrev Dr:bc:=bh [.ty (.st .masterLog), .ty (.st .masterLog)] [.b] fun x=>l7 x.1 x.2.1
theorem Pr:ax Tryz.prog 68 Dr:=
 an (Λ:=aF []) (fn:=Tryz.f68) aG It af (by kernel_rfl) (az (by kernel_rfl:_= []) ah) (by kernel_rfl) (fun x=>l7 x.1 x.2.1)
  (fun x=>Eq.trans (by kernel_rfl:_=pR x.1 x.2.1 (fun y=>ret (ay [.b] y) fun v g=>some (v,g))) (KM x.1 x.2.1 _)) fun _ _ h=>h
abbrev Yb:List (Nat×bc):= []
theorem R1:au Tryz.prog (aE Yb):=al _
def vU {ρ:Type} (a0:eg) (a1:eg) (k:Bool×Unit→Option ρ):Option ρ:=
 br (!(a0.epoch==a1.epoch)) (k (false,())) (br (!(a0.holder==a1.holder)) (k (false,())) (br (!(a0.ends==a1.ends)) (k (false,())) (k (true,()))))
def tQ (a0:eg) (a1:eg):Option (Bool×Unit):=vU a0 a1 some
theorem UC {ρ:Type} (a0:eg) (a1:eg) (k:Bool×Unit→Option ρ):vU a0 a1 k=(tQ a0 a1).bind k:=by
 simp only [tQ,vU,ao,Option.bind_some]
abbrev Qh:bc:=bh [.ty (.st .lease), .ty (.st .lease)] [.b] fun x=>tQ x.1 x.2.1
theorem Yc:ax Tryz.prog 69 Qh:=
 an (Λ:=aF []) (fn:=Tryz.f69) aG R1 af (by kernel_rfl) (az (by kernel_rfl:_= []) ah) (by kernel_rfl) (fun x=>tQ x.1 x.2.1)
  (fun x=>Eq.trans (by kernel_rfl:_=vU x.1 x.2.1 (fun y=>ret (ay [.b] y) fun v g=>some (v,g))) (UC x.1 x.2.1 _)) fun _ _ h=>h
abbrev Yd:List (Nat×bc):= []
theorem R2:au Tryz.prog (aE Yd):=al _
def vV {ρ:Type} (a0:aU) (a1:aU) (k:Bool×Unit→Option ρ):Option ρ:=
 br (!(a0.rack==a1.rack)) (k (false,())) (br (!(a0.capacity==a1.capacity)) (k (false,())) (br (!(a0.load==a1.load)) (k (false,())) (k (true,()))))
def sf (a0:aU) (a1:aU):Option (Bool×Unit):=vV a0 a1 some
theorem UD {ρ:Type} (a0:aU) (a1:aU) (k:Bool×Unit→Option ρ):vV a0 a1 k=(sf a0 a1).bind k:=by
 simp only [sf,vV,ao,Option.bind_some]
abbrev Qi:bc:=bh [.ty (.st .place), .ty (.st .place)] [.b] fun x=>sf x.1 x.2.1
theorem Ye:ax Tryz.prog 147 Qi:=
 an (Λ:=aF []) (fn:=Tryz.f147) aG R2 af (by kernel_rfl) (az (by kernel_rfl:_= []) ah) (by kernel_rfl) (fun x=>sf x.1 x.2.1)
  (fun x=>Eq.trans (by kernel_rfl:_=vV x.1 x.2.1 (fun y=>ret (ay [.b] y) fun v g=>some (v,g))) (UD x.1 x.2.1 _)) fun _ _ h=>h
abbrev NC:List (Nat×bc):= [(147,Qi)]
theorem Ds:au Tryz.prog (aE NC):=ae Ye <| al _
noncomputable abbrev s8:Code:=bV (bT Tryz.f70) 0
abbrev gE:en:=⟨[(0, .cl (.ro (.st .place))),(1, .cl (.ro (.st .place))),(5, .cl (.int .i64))],[],[],0,27⟩
abbrev nG:List (X×en):= [(.ret,⟨[(4, .cl (.bl))],[],[],0,27⟩),(.ext 0,⟨[(4, .cl (.dead))],[],[],0,27⟩)]
def tX {ρ:Type} (v1:List aU) (v2:List aU) (v3:Int) (fn: (((List aU)×(List aU)×Int×Unit)×(Unit)×(Unit))→Option ρ) (fe: ((Bool×Unit)×(Unit)×(Unit))⊕((Unit×Unit)×(Unit)×(Unit))→Option ρ):Option ρ:=
 br (decide (v3 < (v1.length:Int))) (aq (0≤v3) ((v1[v3.toNat]?).bind fun x4=>aq (0≤v3) ((v2[v3.toNat]?).bind fun x5=>(sf x4 x5).bind fun y6=>br (!y6.1) (fe (.inl ((false,()),(()),(())))) (fn ((v1,v2,(IntKind.wrap .i64 (v3+1)),()),(()),(())))) none) none) (fe (.inr (((),()),(()),(()))))
def lF (s:gE.D):Option (gE.D⊕bg.D nG):=tX s.1.1 s.1.2.1 s.1.2.2.1 (fun s=>some (.inl s)) (fun e=>some (.inr e))
def zg:gE.D→Option (bg.D nG):=ko lF
theorem ND {ρ:Type} (s:gE.D) (fn:gE.D→Option ρ) (fe:bg.D nG→Option ρ):tX s.1.1 s.1.2.1 s.1.2.2.1 fn fe=(lF s).bind (Sum.elim fn fe):=by
 simp only [lF,tX,ao,ap,Option.bind_none,Option.bind_assoc,Option.bind_some,Sum.elim_inl,Sum.elim_inr]
abbrev GD:cW:=df [] [0,1,5] gE nG zg
theorem KN (s:gE.D):ez Θ (aE NC) (aF []) s8 (gE.mk' s) (cU [0,1,5] [4] fun x S=>some (x,S))=(lF s).bind (Sum.elim (fun s'=>some (.nor,gE.mk' s')) fun e=>some (bg.e nG e)):=
 Eq.trans (by kernel_rfl:_=tX s.1.1 s.1.2.1 s.1.2.2.1 (fun s'=>some (.nor,gE.mk' s')) (fun e=>some (bg.e nG e))) (ND s _ _)
theorem KO:bP Tryz.prog s8 GD:=aW aG Ds af (by kernel_rfl) (dp (by kernel_rfl:_= []) ah) [] [0,1,5] [4] gE nG (by kernel_rfl) lF KN zg (gf lF) (aL lF)
def wQ {ρ:Type} (a0:List aU) (a1:List aU) (k:Bool×Unit→Option ρ):Option ρ:=
 br (!((a0.length:Int)==(a1.length:Int))) (k (false,())) ((zg ((a0,a1,0,()),(()),(()))).bind fun e7=>Sum.elim (fun e7_=>k (e7_.1.1,())) (fun _=>k (true,())) e7)
def rN (a0:List aU) (a1:List aU):Option (Bool×Unit):=wQ a0 a1 some
theorem R3 {ρ:Type} (a0:List aU) (a1:List aU) (k:Bool×Unit→Option ρ):wQ a0 a1 k=(rN a0 a1).bind k:=by
 simp only [rN,wQ,ao,bR,Option.bind_assoc,Option.bind_some]
abbrev NE:bc:=bh [.ty (.ls (.st .place)), .ty (.ls (.st .place))] [.b] fun x=>rN x.1 x.2.1
theorem Wp:ax Tryz.prog 70 NE:=
 an (Λ:=aF [(bU s8,GD)]) (fn:=Tryz.f70) aG Ds af (by kernel_rfl) (az (by kernel_rfl:_= [s8]) (aK (q:=bU s8) rfl KO fun _ _ _=>by kernel_rfl)) (by kernel_rfl) (fun x=>rN x.1 x.2.1)
  (fun x=>Eq.trans (by kernel_rfl:_=wQ x.1 x.2.1 (fun y=>ret (ay [.b] y) fun v g=>some (v,g))) (R3 x.1 x.2.1 _)) fun _ _ h=>h
abbrev UE:List (Nat×bc):= [(67,Jt),(19,Nw),(68,Dr),(69,Qh),(70,NE)]
theorem NF:au Tryz.prog (aE UE):=ae UA <| ae Uy <| ae Pr <| ae Yc <| ae Wp <| al _
def s9 {ρ:Type} (a0:aj) (a1:aj) (k:Bool×Unit→Option ρ):Option ρ:=
 br (!(a0.now==a1.now)) (k (false,())) ((pP a0.servers a1.servers).bind fun y1=>br (!y1.1) (k (false,())) ((s4 a0.sides a1.sides).bind fun y2=>br (!y2.1) (k (false,())) ((l7 a0.master a1.master).bind fun y3=>br (!y3.1) (k (false,())) (br (!(a0.masterUp==a1.masterUp)) (k (false,())) ((tQ a0.lease a1.lease).bind fun y4=>br (!y4.1) (k (false,())) ((rN a0.places a1.places).bind fun y5=>br (!y5.1) (k (false,())) (k (true,()))))))))
def fi (a0:aj) (a1:aj):Option (Bool×Unit):=s9 a0 a1 some
theorem Ps {ρ:Type} (a0:aj) (a1:aj) (k:Bool×Unit→Option ρ):s9 a0 a1 k=(fi a0 a1).bind k:=by
 simp only [fi,s9,ao,Option.bind_assoc,Option.bind_some]
abbrev Jw:bc:=bh [.ty (.st .cluster), .ty (.st .cluster)] [.b] fun x=>fi x.1 x.2.1
theorem UF:ax Tryz.prog 16 Jw:=
 an (Λ:=aF []) (fn:=Tryz.f16) aG NF af (by kernel_rfl) (az (by kernel_rfl:_= []) ah) (by kernel_rfl) (fun x=>fi x.1 x.2.1)
  (fun x=>Eq.trans (by kernel_rfl:_=s9 x.1 x.2.1 (fun y=>ret (ay [.b] y) fun v g=>some (v,g))) (Ps x.1 x.2.1 _)) fun _ _ h=>h
abbrev Dt:List (Nat×bc):= []
theorem yk:au Tryz.prog (aE Dt):=al _
noncomputable abbrev n0:Code:=bV (bT Tryz.f21) 0
abbrev dZ:en:=⟨[(0, .cl (.own 0 (.i .i64))),(1, .cl (.int .i64)),(5, .cl (.int .i64))],[],[.i .i64],1,19⟩
abbrev jo:List (X×en):= [(.ext 0,⟨[(1, .cl (.int .i64))],[],[.i .i64],1,19⟩)]
def kb {ρ:Type} (v1:List Int) (v2:Int) (v3:Int) (fn: ((Unit×Int×Int×Unit)×(Unit)×((List Int)×Unit))→Option ρ) (fe: ((Int×Unit)×(Unit)×((List Int)×Unit))→Option ρ):Option ρ:=
 br (decide (v3 < (v1.length:Int))) (aq (0≤v3∧v3 < (v1.length:Int)) ((v1[v3.toNat]?).bind fun _=>fn (((),(IntKind.wrap .i64 (v2+1)),(IntKind.wrap .i64 (v3+1)),()),(()),((v1.set v3.toNat v2),()))) none) (fe ((v2,()),(()),(v1,())))
def eR (s:dZ.D):Option (dZ.D⊕bg.D jo):=kb s.2.2.1 s.1.2.1 s.1.2.2.1 (fun s=>some (.inl s)) (fun e=>some (.inr e))
def uD:dZ.D→Option (bg.D jo):=ko eR
theorem GF {ρ:Type} (s:dZ.D) (fn:dZ.D→Option ρ) (fe:bg.D jo→Option ρ):kb s.2.2.1 s.1.2.1 s.1.2.2.1 fn fe=(eR s).bind (Sum.elim fn fe):=by
 simp only [eR,kb,ao,ap,Option.bind_none,Option.bind_assoc,Option.bind_some,Sum.elim_inl,Sum.elim_inr]
abbrev zZ:cW:=df [] [0,1,5] dZ jo uD
theorem EH (s:dZ.D):ez Θ (aE Dt) (aF []) n0 (dZ.mk' s) (cU [0,1,5] [1] fun x S=>some (x,S))=(eR s).bind (Sum.elim (fun s'=>some (.nor,dZ.mk' s')) fun e=>some (bg.e jo e)):=
 Eq.trans (by kernel_rfl:_=kb s.2.2.1 s.1.2.1 s.1.2.2.1 (fun s'=>some (.nor,dZ.mk' s')) (fun e=>some (bg.e jo e))) (GF s _ _)
theorem EI:bP Tryz.prog n0 zZ:=aW aG yk af (by kernel_rfl) (dp (by kernel_rfl:_= []) ah) [] [0,1,5] [1] dZ jo (by kernel_rfl) eR EH uD (gf eR) (aL eR)
def ta {ρ:Type} (a0:List Int) (a1:Int) (k: (List Int)×Int×Unit→Option ρ):Option ρ:=
 (uD (((),a1,0,()),(()),(a0,()))).bind fun e6=>k (e6.2.2.1,e6.1.1,())
def fG (a0:List Int) (a1:Int):Option ((List Int)×Int×Unit):=ta a0 a1 some
theorem KP {ρ:Type} (a0:List Int) (a1:Int) (k: (List Int)×Int×Unit→Option ρ):ta a0 a1 k=(fG a0 a1).bind k:=by
 simp only [fG,ta,Option.bind_assoc,Option.bind_some]
abbrev tY:bc:=Oh (.i .i64) [.ty (.i .i64)] [.i .i64] fun l x=>fG l x.1
theorem xq:ax Tryz.prog (qx 21) tY:=
 wr (Λ:=aF [(bU n0,zZ)]) (fn:=Tryz.f21) aG yk af (by kernel_rfl) (az (by kernel_rfl:_= [n0]) (aK (q:=bU n0) rfl EI fun _ _ _=>by kernel_rfl)) (by kernel_rfl) (fun l x=>fG l x.1)
  (fun l x=>Eq.trans (by kernel_rfl:_=ta l x.1 (fun y=>Og (.i .i64) [.i .i64] y fun v g=>some (v,g))) (KP l x.1 _)) fun _ _ _ h=>h
abbrev z0:List (Nat×bc):= []
theorem vW:au Tryz.prog (aE z0):=al _
noncomputable abbrev lG:Code:=bV (bT Tryz.f26) 0
abbrev dv:en:=⟨[(0, .cl (.own 0 (.st .entry))),(1, .cl (.int .i64)),(5, .cl (.int .i64))],[],[.st .entry],1,68⟩
abbrev gF:List (X×en):= [(.ext 0,⟨[(1, .cl (.int .i64))],[],[.st .entry],1,68⟩)]
def ip {ρ:Type} (v1:List ar) (v2:Int) (v3:Int) (fn: ((Unit×Int×Int×Unit)×(Unit)×((List ar)×Unit))→Option ρ) (fe: ((Int×Unit)×(Unit)×((List ar)×Unit))→Option ρ):Option ρ:=
 br (decide (v3 < (v1.length:Int))) (aq (0≤v3∧v3 < (v1.length:Int)) ((v1[v3.toNat]?).bind fun x4=>let z5:=v1.set v3.toNat (⟨v2,x4.op⟩:ar); aq (0≤v3∧v3 < (z5.length:Int)) ((z5[v3.toNat]?).bind fun x6=>let z7:=z5.set v3.toNat (⟨x6.epoch,(⟨(IntKind.wrap .i64 (v2+1)),x6.op.seq,x6.op.kind,x6.op.object,x6.op.old,x6.op.value⟩:Op)⟩:ar); aq (0≤v3∧v3 < (z7.length:Int)) ((z7[v3.toNat]?).bind fun x8=>let z9:=z7.set v3.toNat (⟨x8.epoch,(⟨x8.op.client,(IntKind.wrap .i64 ((IntKind.wrap .i64 (v2+1))+1)),x8.op.kind,x8.op.object,x8.op.old,x8.op.value⟩:Op)⟩:ar); aq (0≤v3∧v3 < (z9.length:Int)) ((z9[v3.toNat]?).bind fun x10=>let z11:=z9.set v3.toNat (⟨x10.epoch,(⟨x10.op.client,x10.op.seq,(IntKind.wrap .i64 ((IntKind.wrap .i64 ((IntKind.wrap .i64 (v2+1))+1))+1)),x10.op.object,x10.op.old,x10.op.value⟩:Op)⟩:ar); aq (0≤v3∧v3 < (z11.length:Int)) ((z11[v3.toNat]?).bind fun x12=>let z13:=z11.set v3.toNat (⟨x12.epoch,(⟨x12.op.client,x12.op.seq,x12.op.kind,(IntKind.wrap .i64 ((IntKind.wrap .i64 ((IntKind.wrap .i64 ((IntKind.wrap .i64 (v2+1))+1))+1))+1)),x12.op.old,x12.op.value⟩:Op)⟩:ar); aq (0≤v3∧v3 < (z13.length:Int)) ((z13[v3.toNat]?).bind fun x14=>let z15:=z13.set v3.toNat (⟨x14.epoch,(⟨x14.op.client,x14.op.seq,x14.op.kind,x14.op.object,(IntKind.wrap .i64 ((IntKind.wrap .i64 ((IntKind.wrap .i64 ((IntKind.wrap .i64 ((IntKind.wrap .i64 (v2+1))+1))+1))+1))+1)),x14.op.value⟩:Op)⟩:ar); aq (0≤v3∧v3 < (z15.length:Int)) ((z15[v3.toNat]?).bind fun x16=>fn (((),(IntKind.wrap .i64 ((IntKind.wrap .i64 ((IntKind.wrap .i64 ((IntKind.wrap .i64 ((IntKind.wrap .i64 ((IntKind.wrap .i64 ((IntKind.wrap .i64 (v2+1))+1))+1))+1))+1))+1))+1)),(IntKind.wrap .i64 (v3+1)),()),(()),((z15.set v3.toNat (⟨x16.epoch,(⟨x16.op.client,x16.op.seq,x16.op.kind,x16.op.object,x16.op.old,(IntKind.wrap .i64 ((IntKind.wrap .i64 ((IntKind.wrap .i64 ((IntKind.wrap .i64 ((IntKind.wrap .i64 ((IntKind.wrap .i64 (v2+1))+1))+1))+1))+1))+1))⟩:Op)⟩:ar)),()))) none) none) none) none) none) none) none) (fe ((v2,()),(()),(v1,())))
def dQ (s:dv.D):Option (dv.D⊕bg.D gF):=ip s.2.2.1 s.1.2.1 s.1.2.2.1 (fun s=>some (.inl s)) (fun e=>some (.inr e))
def tb:dv.D→Option (bg.D gF):=ko dQ
theorem CM {ρ:Type} (s:dv.D) (fn:dv.D→Option ρ) (fe:bg.D gF→Option ρ):ip s.2.2.1 s.1.2.1 s.1.2.2.1 fn fe=(dQ s).bind (Sum.elim fn fe):=by
 simp only [dQ,ip,ao,ap,Option.bind_none,Option.bind_assoc,Option.bind_some,Sum.elim_inl,Sum.elim_inr]
abbrev wR:cW:=df [] [0,1,5] dv gF tb
theorem BJ (s:dv.D):ez Θ (aE z0) (aF []) lG (dv.mk' s) (cU [0,1,5] [1] fun x S=>some (x,S))=(dQ s).bind (Sum.elim (fun s'=>some (.nor,dv.mk' s')) fun e=>some (bg.e gF e)):=
 Eq.trans (by kernel_rfl:_=ip s.2.2.1 s.1.2.1 s.1.2.2.1 (fun s'=>some (.nor,dv.mk' s')) (fun e=>some (bg.e gF e))) (CM s _ _)
theorem BK:bP Tryz.prog lG wR:=aW aG vW af (by kernel_rfl) (dp (by kernel_rfl:_= []) ah) [] [0,1,5] [1] dv gF (by kernel_rfl) dQ BJ tb (gf dQ) (aL dQ)
def qm {ρ:Type} (a0:List ar) (a1:Int) (k: (List ar)×Int×Unit→Option ρ):Option ρ:=
 (tb (((),a1,0,()),(()),(a0,()))).bind fun e18=>k (e18.2.2.1,e18.1.1,())
def gX (a0:List ar) (a1:Int):Option ((List ar)×Int×Unit):=qm a0 a1 some
theorem GG {ρ:Type} (a0:List ar) (a1:Int) (k: (List ar)×Int×Unit→Option ρ):qm a0 a1 k=(gX a0 a1).bind k:=by
 simp only [gX,qm,Option.bind_assoc,Option.bind_some]
abbrev z6:bc:=Oh (.st .entry) [.ty (.i .i64)] [.i .i64] fun l x=>gX l x.1
theorem KQ:ax Tryz.prog (qx 26) z6:=
 wr (Λ:=aF [(bU lG,wR)]) (fn:=Tryz.f26) aG vW af (by kernel_rfl) (az (by kernel_rfl:_= [lG]) (aK (q:=bU lG) rfl BK fun _ _ _=>by kernel_rfl)) (by kernel_rfl) (fun l x=>gX l x.1)
  (fun l x=>Eq.trans (by kernel_rfl:_=qm l x.1 (fun y=>Og (.st .entry) [.i .i64] y fun v g=>some (v,g))) (GG l x.1 _)) fun _ _ _ h=>h
abbrev yl:List (Nat×bc):= [(qx 21,tY),(qx 26,z6)]
theorem uS:au Tryz.prog (aE yl):=ae xq <| ae KQ <| al _
noncomputable abbrev kK:Code:=bV (bT Tryz.f76) 0
abbrev c9:en:=⟨[(0, .cl (.own 0 (.st .server))),(1, .cl (.int .i64)),(5, .cl (.int .i64))],[],[.st .server],1,105⟩
abbrev fT:List (X×en):= [(.ext 0,⟨[(1, .cl (.int .i64))],[],[.st .server],1,105⟩)]
def gM {ρ:Type} (v1:List am) (v2:Int) (v3:Int) (fn: ((Unit×Int×Int×Unit)×(Unit)×((List am)×Unit))→Option ρ) (fe: ((Int×Unit)×(Unit)×((List am)×Unit))→Option ρ):Option ρ:=
 br (decide (v3 < (v1.length:Int))) (aq (0≤v3∧v3 < (v1.length:Int)) ((v1[v3.toNat]?).bind fun x4=>let z5:=v1.set v3.toNat (⟨((Int.tmod v2 3)==0),x4.intact,x4.version,x4.epoch,x4.config,x4.first,x4.log,x4.commit,x4.learned⟩:am); aq (0≤v3∧v3 < (z5.length:Int)) ((z5[v3.toNat]?).bind fun x6=>let z7:=z5.set v3.toNat (⟨x6.up,((Int.tmod (IntKind.wrap .i64 (v2+1)) 3)==0),x6.version,x6.epoch,x6.config,x6.first,x6.log,x6.commit,x6.learned⟩:am); aq (0≤v3∧v3 < (z7.length:Int)) ((z7[v3.toNat]?).bind fun x8=>let z9:=z7.set v3.toNat (⟨x8.up,x8.intact,(IntKind.wrap .i64 ((IntKind.wrap .i64 (v2+1))+1)),x8.epoch,x8.config,x8.first,x8.log,x8.commit,x8.learned⟩:am); aq (0≤v3∧v3 < (z9.length:Int)) ((z9[v3.toNat]?).bind fun x10=>let z11:=z9.set v3.toNat (⟨x10.up,x10.intact,x10.version,(IntKind.wrap .i64 ((IntKind.wrap .i64 ((IntKind.wrap .i64 (v2+1))+1))+1)),x10.config,x10.first,x10.log,x10.commit,x10.learned⟩:am); aq (0≤v3∧v3 < (z11.length:Int)) ((z11[v3.toNat]?).bind fun x12=>let z13:=z11.set v3.toNat (⟨x12.up,x12.intact,x12.version,x12.epoch,(⟨(IntKind.wrap .i64 ((IntKind.wrap .i64 ((IntKind.wrap .i64 ((IntKind.wrap .i64 (v2+1))+1))+1))+1)),x12.config.primary,x12.config.replicas,x12.config.witnesses⟩:ai),x12.first,x12.log,x12.commit,x12.learned⟩:am); aq (0≤v3∧v3 < (z13.length:Int)) ((z13[v3.toNat]?).bind fun x14=>let z15:=z13.set v3.toNat (⟨x14.up,x14.intact,x14.version,x14.epoch,(⟨x14.config.epoch,(IntKind.wrap .i64 ((IntKind.wrap .i64 ((IntKind.wrap .i64 ((IntKind.wrap .i64 ((IntKind.wrap .i64 (v2+1))+1))+1))+1))+1)),x14.config.replicas,x14.config.witnesses⟩:ai),x14.first,x14.log,x14.commit,x14.learned⟩:am); aq (0≤v3∧v3 < (z15.length:Int)) ((z15[v3.toNat]?).bind fun x16=>(z15[v3.toNat]?).bind fun x17=>aq ((0:Nat)=0∧x16.config.replicas.length=x17.config.replicas.length) ((fG x17.config.replicas (IntKind.wrap .i64 ((IntKind.wrap .i64 ((IntKind.wrap .i64 ((IntKind.wrap .i64 ((IntKind.wrap .i64 ((IntKind.wrap .i64 (v2+1))+1))+1))+1))+1))+1))).bind fun y18=>aq (y18.1.length=x17.config.replicas.length) (let z19:=z15.set v3.toNat (⟨x17.up,x17.intact,x17.version,x17.epoch,(⟨x17.config.epoch,x17.config.primary,y18.1,x17.config.witnesses⟩:ai),x17.first,x17.log,x17.commit,x17.learned⟩:am); aq (0≤v3∧v3 < (z19.length:Int)) ((z19[v3.toNat]?).bind fun x20=>(z19[v3.toNat]?).bind fun x21=>aq ((0:Nat)=0∧x20.config.witnesses.length=x21.config.witnesses.length) ((fG x21.config.witnesses y18.2.1).bind fun y22=>aq (y22.1.length=x21.config.witnesses.length) (let z23:=z19.set v3.toNat (⟨x21.up,x21.intact,x21.version,x21.epoch,(⟨x21.config.epoch,x21.config.primary,x21.config.replicas,y22.1⟩:ai),x21.first,x21.log,x21.commit,x21.learned⟩:am); aq (0≤v3∧v3 < (z23.length:Int)) ((z23[v3.toNat]?).bind fun x24=>let z25:=z23.set v3.toNat (⟨x24.up,x24.intact,x24.version,x24.epoch,x24.config,y22.2.1,x24.log,x24.commit,x24.learned⟩:am); aq (0≤v3∧v3 < (z25.length:Int)) ((z25[v3.toNat]?).bind fun x26=>(z25[v3.toNat]?).bind fun x27=>aq ((0:Nat)=0∧x26.log.length=x27.log.length) ((gX x27.log (IntKind.wrap .i64 (y22.2.1+1))).bind fun y28=>aq (y28.1.length=x27.log.length) (let z29:=z25.set v3.toNat (⟨x27.up,x27.intact,x27.version,x27.epoch,x27.config,x27.first,y28.1,x27.commit,x27.learned⟩:am); aq (0≤v3∧v3 < (z29.length:Int)) ((z29[v3.toNat]?).bind fun x30=>let z31:=z29.set v3.toNat (⟨x30.up,x30.intact,x30.version,x30.epoch,x30.config,x30.first,x30.log,y28.2.1,x30.learned⟩:am); aq (0≤v3∧v3 < (z31.length:Int)) ((z31[v3.toNat]?).bind fun x32=>(z31[v3.toNat]?).bind fun x33=>aq ((0:Nat)=0∧x32.learned.length=x33.learned.length) ((gX x33.learned (IntKind.wrap .i64 (y28.2.1+1))).bind fun y34=>aq (y34.1.length=x33.learned.length) (fn (((),y34.2.1,(IntKind.wrap .i64 (v3+1)),()),(()),((z31.set v3.toNat (⟨x33.up,x33.intact,x33.version,x33.epoch,x33.config,x33.first,x33.log,x33.commit,y34.1⟩:am)),()))) none) none) none) none) none) none) none) none) none) none) none) none) none) none) none) none) none) none) none) none) (fe ((v2,()),(()),(v1,())))
def dz (s:c9.D):Option (c9.D⊕bg.D fT):=gM s.2.2.1 s.1.2.1 s.1.2.2.1 (fun s=>some (.inl s)) (fun e=>some (.inr e))
def rO:c9.D→Option (bg.D fT):=ko dz
theorem BL {ρ:Type} (s:c9.D) (fn:c9.D→Option ρ) (fe:bg.D fT→Option ρ):gM s.2.2.1 s.1.2.1 s.1.2.2.1 fn fe=(dz s).bind (Sum.elim fn fe):=by
 simp only [dz,gM,ao,ap,Option.bind_none,Option.bind_assoc,Option.bind_some,Sum.elim_inl,Sum.elim_inr]
abbrev vX:cW:=df [] [0,1,5] c9 fT rO
theorem Ay (s:c9.D):ez Θ (aE yl) (aF []) kK (c9.mk' s) (cU [0,1,5] [1] fun x S=>some (x,S))=(dz s).bind (Sum.elim (fun s'=>some (.nor,c9.mk' s')) fun e=>some (bg.e fT e)):=
 Eq.trans (by kernel_rfl:_=gM s.2.2.1 s.1.2.1 s.1.2.2.1 (fun s'=>some (.nor,c9.mk' s')) (fun e=>some (bg.e fT e))) (BL s _ _)
theorem Az:bP Tryz.prog kK vX:=aW aG uS af (by kernel_rfl) (dp (by kernel_rfl:_= []) ah) [] [0,1,5] [1] c9 fT (by kernel_rfl) dz Ay rO (gf dz) (aL dz)
def oD {ρ:Type} (a0:List am) (a1:Int) (k: (List am)×Int×Unit→Option ρ):Option ρ:=
 (rO (((),a1,0,()),(()),(a0,()))).bind fun e36=>k (e36.2.2.1,e36.1.1,())
def iq (a0:List am) (a1:Int):Option ((List am)×Int×Unit):=oD a0 a1 some
theorem EJ {ρ:Type} (a0:List am) (a1:Int) (k: (List am)×Int×Unit→Option ρ):oD a0 a1 k=(iq a0 a1).bind k:=by
 simp only [iq,oD,Option.bind_assoc,Option.bind_some]
abbrev ym:bc:=Oh (.st .server) [.ty (.i .i64)] [.i .i64] fun l x=>iq l x.1
theorem Iu:ax Tryz.prog (qx 76) ym:=
 wr (Λ:=aF [(bU kK,vX)]) (fn:=Tryz.f76) aG uS af (by kernel_rfl) (az (by kernel_rfl:_= [kK]) (aK (q:=bU kK) rfl Az fun _ _ _=>by kernel_rfl)) (by kernel_rfl) (fun l x=>iq l x.1)
  (fun l x=>Eq.trans (by kernel_rfl:_=oD l x.1 (fun y=>Og (.st .server) [.i .i64] y fun v g=>some (v,g))) (EJ l x.1 _)) fun _ _ _ h=>h
abbrev yn:List (Nat×bc):= [(qx 21,tY)]
theorem uT:au Tryz.prog (aE yn):=ae xq <| al _
noncomputable abbrev kL:Code:=bV (bT Tryz.f152) 0
abbrev da:en:=⟨[(0, .cl (.own 0 (.st .config))),(1, .cl (.int .i64)),(5, .cl (.int .i64))],[],[.st .config],1,41⟩
abbrev fU:List (X×en):= [(.ext 0,⟨[(1, .cl (.int .i64))],[],[.st .config],1,41⟩)]
def gO {ρ:Type} (v1:List ai) (v2:Int) (v3:Int) (fn: ((Unit×Int×Int×Unit)×(Unit)×((List ai)×Unit))→Option ρ) (fe: ((Int×Unit)×(Unit)×((List ai)×Unit))→Option ρ):Option ρ:=
 br (decide (v3 < (v1.length:Int))) (aq (0≤v3∧v3 < (v1.length:Int)) ((v1[v3.toNat]?).bind fun x4=>let z5:=v1.set v3.toNat (⟨v2,x4.primary,x4.replicas,x4.witnesses⟩:ai); aq (0≤v3∧v3 < (z5.length:Int)) ((z5[v3.toNat]?).bind fun x6=>let z7:=z5.set v3.toNat (⟨x6.epoch,(IntKind.wrap .i64 (v2+1)),x6.replicas,x6.witnesses⟩:ai); aq (0≤v3∧v3 < (z7.length:Int)) ((z7[v3.toNat]?).bind fun x8=>(z7[v3.toNat]?).bind fun x9=>aq ((0:Nat)=0∧x8.replicas.length=x9.replicas.length) ((fG x9.replicas (IntKind.wrap .i64 ((IntKind.wrap .i64 (v2+1))+1))).bind fun y10=>aq (y10.1.length=x9.replicas.length) (let z11:=z7.set v3.toNat (⟨x9.epoch,x9.primary,y10.1,x9.witnesses⟩:ai); aq (0≤v3∧v3 < (z11.length:Int)) ((z11[v3.toNat]?).bind fun x12=>(z11[v3.toNat]?).bind fun x13=>aq ((0:Nat)=0∧x12.witnesses.length=x13.witnesses.length) ((fG x13.witnesses y10.2.1).bind fun y14=>aq (y14.1.length=x13.witnesses.length) (fn (((),y14.2.1,(IntKind.wrap .i64 (v3+1)),()),(()),((z11.set v3.toNat (⟨x13.epoch,x13.primary,x13.replicas,y14.1⟩:ai)),()))) none) none) none) none) none) none) none) none) (fe ((v2,()),(()),(v1,())))
def dA (s:da.D):Option (da.D⊕bg.D fU):=gO s.2.2.1 s.1.2.1 s.1.2.2.1 (fun s=>some (.inl s)) (fun e=>some (.inr e))
def rP:da.D→Option (bg.D fU):=ko dA
theorem BM {ρ:Type} (s:da.D) (fn:da.D→Option ρ) (fe:bg.D fU→Option ρ):gO s.2.2.1 s.1.2.1 s.1.2.2.1 fn fe=(dA s).bind (Sum.elim fn fe):=by
 simp only [dA,gO,ao,ap,Option.bind_none,Option.bind_assoc,Option.bind_some,Sum.elim_inl,Sum.elim_inr]
abbrev vY:cW:=df [] [0,1,5] da fU rP
theorem AA (s:da.D):ez Θ (aE yn) (aF []) kL (da.mk' s) (cU [0,1,5] [1] fun x S=>some (x,S))=(dA s).bind (Sum.elim (fun s'=>some (.nor,da.mk' s')) fun e=>some (bg.e fU e)):=
 Eq.trans (by kernel_rfl:_=gO s.2.2.1 s.1.2.1 s.1.2.2.1 (fun s'=>some (.nor,da.mk' s')) (fun e=>some (bg.e fU e))) (BM s _ _)
theorem AB:bP Tryz.prog kL vY:=aW aG uT af (by kernel_rfl) (dp (by kernel_rfl:_= []) ah) [] [0,1,5] [1] da fU (by kernel_rfl) dA AA rP (gf dA) (aL dA)
def oE {ρ:Type} (a0:List ai) (a1:Int) (k: (List ai)×Int×Unit→Option ρ):Option ρ:=
 (rP (((),a1,0,()),(()),(a0,()))).bind fun e16=>k (e16.2.2.1,e16.1.1,())
def ir (a0:List ai) (a1:Int):Option ((List ai)×Int×Unit):=oE a0 a1 some
theorem EK {ρ:Type} (a0:List ai) (a1:Int) (k: (List ai)×Int×Unit→Option ρ):oE a0 a1 k=(ir a0 a1).bind k:=by
 simp only [ir,oE,Option.bind_assoc,Option.bind_some]
abbrev yp:bc:=Oh (.st .config) [.ty (.i .i64)] [.i .i64] fun l x=>ir l x.1
theorem Iv:ax Tryz.prog (qx 152) yp:=
 wr (Λ:=aF [(bU kL,vY)]) (fn:=Tryz.f152) aG uT af (by kernel_rfl) (az (by kernel_rfl:_= [kL]) (aK (q:=bU kL) rfl AB fun _ _ _=>by kernel_rfl)) (by kernel_rfl) (fun l x=>ir l x.1)
  (fun l x=>Eq.trans (by kernel_rfl:_=oE l x.1 (fun y=>Og (.st .config) [.i .i64] y fun v g=>some (v,g))) (EK l x.1 _)) fun _ _ _ h=>h
abbrev EL:List (Nat×bc):= [(qx 152,yp)]
theorem AD:au Tryz.prog (aE EL):=ae Iv <| al _
def jC {ρ:Type} (a0:ak) (a1:Int) (k:ak×Int×Unit→Option ρ):Option ρ:=
 (ir a0.configs a1).bind fun y1=>aq (y1.1.length=a0.configs.length) (k ((⟨y1.1,a0.activated⟩:ak),y1.2.1,())) none
def it (a0:ak) (a1:Int):Option (ak×Int×Unit):=jC a0 a1 some
theorem BN {ρ:Type} (a0:ak) (a1:Int) (k:ak×Int×Unit→Option ρ):jC a0 a1 k=(it a0 a1).bind k:=by
 simp only [it,jC,ap,Option.bind_none,Option.bind_assoc,Option.bind_some]
abbrev vZ:bc:=abq (.st .masterLog) [.ty (.i .i64)] [.i .i64] fun l x=>it l x.1
theorem EM:ax Tryz.prog (qx 77) vZ:=
 W3 (Λ:=aF []) (fn:=Tryz.f77) aG AD af (by kernel_rfl) (az (by kernel_rfl:_= []) ah) (by kernel_rfl) (fun l x=>it l x.1)
  (fun l x=>Eq.trans (by kernel_rfl:_=jC l x.1 (fun y=>abp (.st .masterLog) [.i .i64] y fun v g=>some (v,g))) (BN l x.1 _)) fun _ _ _ h=>h
abbrev z8:List (Nat×bc):= []
theorem wb:au Tryz.prog (aE z8):=al _
noncomputable abbrev lH:Code:=bV (bT Tryz.f78) 0
abbrev dw:en:=⟨[(0, .cl (.own 0 (.st .place))),(1, .cl (.int .i64)),(5, .cl (.int .i64))],[],[.st .place],1,34⟩
abbrev gG:List (X×en):= [(.ext 0,⟨[(1, .cl (.int .i64))],[],[.st .place],1,34⟩)]
def iu {ρ:Type} (v1:List aU) (v2:Int) (v3:Int) (fn: ((Unit×Int×Int×Unit)×(Unit)×((List aU)×Unit))→Option ρ) (fe: ((Int×Unit)×(Unit)×((List aU)×Unit))→Option ρ):Option ρ:=
 br (decide (v3 < (v1.length:Int))) (aq (0≤v3∧v3 < (v1.length:Int)) ((v1[v3.toNat]?).bind fun x4=>let z5:=v1.set v3.toNat (⟨v2,x4.capacity,x4.load⟩:aU); aq (0≤v3∧v3 < (z5.length:Int)) ((z5[v3.toNat]?).bind fun x6=>let z7:=z5.set v3.toNat (⟨x6.rack,(IntKind.wrap .i64 (v2+1)),x6.load⟩:aU); aq (0≤v3∧v3 < (z7.length:Int)) ((z7[v3.toNat]?).bind fun x8=>fn (((),(IntKind.wrap .i64 ((IntKind.wrap .i64 ((IntKind.wrap .i64 (v2+1))+1))+1)),(IntKind.wrap .i64 (v3+1)),()),(()),((z7.set v3.toNat (⟨x8.rack,x8.capacity,(IntKind.wrap .i64 ((IntKind.wrap .i64 (v2+1))+1))⟩:aU)),()))) none) none) none) (fe ((v2,()),(()),(v1,())))
def dR (s:dw.D):Option (dw.D⊕bg.D gG):=iu s.2.2.1 s.1.2.1 s.1.2.2.1 (fun s=>some (.inl s)) (fun e=>some (.inr e))
def tc:dw.D→Option (bg.D gG):=ko dR
theorem CN {ρ:Type} (s:dw.D) (fn:dw.D→Option ρ) (fe:bg.D gG→Option ρ):iu s.2.2.1 s.1.2.1 s.1.2.2.1 fn fe=(dR s).bind (Sum.elim fn fe):=by
 simp only [dR,iu,ao,ap,Option.bind_none,Option.bind_assoc,Option.bind_some,Sum.elim_inl,Sum.elim_inr]
abbrev wT:cW:=df [] [0,1,5] dw gG tc
theorem BO (s:dw.D):ez Θ (aE z8) (aF []) lH (dw.mk' s) (cU [0,1,5] [1] fun x S=>some (x,S))=(dR s).bind (Sum.elim (fun s'=>some (.nor,dw.mk' s')) fun e=>some (bg.e gG e)):=
 Eq.trans (by kernel_rfl:_=iu s.2.2.1 s.1.2.1 s.1.2.2.1 (fun s'=>some (.nor,dw.mk' s')) (fun e=>some (bg.e gG e))) (CN s _ _)
theorem BP:bP Tryz.prog lH wT:=aW aG wb af (by kernel_rfl) (dp (by kernel_rfl:_= []) ah) [] [0,1,5] [1] dw gG (by kernel_rfl) dR BO tc (gf dR) (aL dR)
def qn {ρ:Type} (a0:List aU) (a1:Int) (k: (List aU)×Int×Unit→Option ρ):Option ρ:=
 (tc (((),a1,0,()),(()),(a0,()))).bind fun e10=>k (e10.2.2.1,e10.1.1,())
def jq (a0:List aU) (a1:Int):Option ((List aU)×Int×Unit):=qn a0 a1 some
theorem GH {ρ:Type} (a0:List aU) (a1:Int) (k: (List aU)×Int×Unit→Option ρ):qn a0 a1 k=(jq a0 a1).bind k:=by
 simp only [jq,qn,Option.bind_assoc,Option.bind_some]
abbrev Aa:bc:=Oh (.st .place) [.ty (.i .i64)] [.i .i64] fun l x=>jq l x.1
theorem KR:ax Tryz.prog (qx 78) Aa:=
 wr (Λ:=aF [(bU lH,wT)]) (fn:=Tryz.f78) aG wb af (by kernel_rfl) (az (by kernel_rfl:_= [lH]) (aK (q:=bU lH) rfl BP fun _ _ _=>by kernel_rfl)) (by kernel_rfl) (fun l x=>jq l x.1)
  (fun l x=>Eq.trans (by kernel_rfl:_=qn l x.1 (fun y=>Og (.st .place) [.i .i64] y fun v g=>some (v,g))) (GH l x.1 _)) fun _ _ _ h=>h
abbrev Iw:List (Nat×bc):= [(qx 76,ym),(qx 21,tY),(qx 77,vZ),(qx 78,Aa)]
theorem CO:au Tryz.prog (aE Iw):=ae Iu <| ae xq <| ae EM <| ae KR <| al _
def lI {ρ:Type} (a0:aj) (a1:Int) (k:aj×Int×Unit→Option ρ):Option ρ:=
 (iq a0.servers a1).bind fun y1=>aq (y1.1.length=a0.servers.length) ((fG a0.sides y1.2.1).bind fun y2=>aq (y2.1.length=a0.sides.length) ((it a0.master y2.2.1).bind fun y3=>aq (y3.1.configs.length=a0.master.configs.length) ((jq a0.places y3.2.1).bind fun y4=>aq (y4.1.length=a0.places.length) (k ((⟨a0.now,y1.1,y2.1,(⟨y3.1.configs,a0.master.activated⟩:ak),a0.masterUp,a0.lease,y4.1⟩:aj),y4.2.1,())) none) none) none) none
def dN (a0:aj) (a1:Int):Option (aj×Int×Unit):=lI a0 a1 some
theorem EN {ρ:Type} (a0:aj) (a1:Int) (k:aj×Int×Unit→Option ρ):lI a0 a1 k=(dN a0 a1).bind k:=by
 simp only [dN,lI,ap,Option.bind_none,Option.bind_assoc,Option.bind_some]
abbrev yq:bc:=abq (.st .cluster) [.ty (.i .i64)] [.i .i64] fun l x=>dN l x.1
theorem Ix:ax Tryz.prog (qx 20) yq:=
 W3 (Λ:=aF []) (fn:=Tryz.f20) aG CO af (by kernel_rfl) (az (by kernel_rfl:_= []) ah) (by kernel_rfl) (fun l x=>dN l x.1)
  (fun l x=>Eq.trans (by kernel_rfl:_=lI l x.1 (fun y=>abp (.st .cluster) [.i .i64] y fun v g=>some (v,g))) (EN l x.1 _)) fun _ _ _ h=>h
abbrev NG:List (Nat×bc):= []
theorem Du:au Tryz.prog (aE NG):=al _
noncomputable abbrev td:Code:=bV (bT Tryz.f22) 0
abbrev gH:en:=⟨[(0, .cl (.ro (.i .i64))),(1, .cl (.int .i64)),(5, .cl (.int .i64))],[],[],0,21⟩
abbrev nH:List (X×en):= [(.ret,⟨[(1, .cl (.int .i64)),(4, .cl (.int .i64))],[],[],0,21⟩),(.ext 0,⟨[(1, .cl (.int .i64)),(4, .cl (.dead))],[],[],0,21⟩)]
def ol {ρ:Type} (v1:List Int) (v2:Int) (v3:Int) (fn: (((List Int)×Int×Int×Unit)×(Unit)×(Unit))→Option ρ) (fe: ((Int×Int×Unit)×(Unit)×(Unit))⊕((Int×Unit×Unit)×(Unit)×(Unit))→Option ρ):Option ρ:=
 br (decide (v3 < (v1.length:Int))) (aq (0≤v3) ((v1[v3.toNat]?).bind fun x4=>br (!(x4==v2)) (fe (.inl ((v2,(-1),()),(()),(())))) (fn ((v1,(IntKind.wrap .i64 (v2+1)),(IntKind.wrap .i64 (v3+1)),()),(()),(())))) none) (fe (.inr ((v2,(),()),(()),(()))))
def iI (s:gH.D):Option (gH.D⊕bg.D nH):=ol s.1.1 s.1.2.1 s.1.2.2.1 (fun s=>some (.inl s)) (fun e=>some (.inr e))
def zh:gH.D→Option (bg.D nH):=ko iI
theorem NH {ρ:Type} (s:gH.D) (fn:gH.D→Option ρ) (fe:bg.D nH→Option ρ):ol s.1.1 s.1.2.1 s.1.2.2.1 fn fe=(iI s).bind (Sum.elim fn fe):=by
 simp only [iI,ol,ao,ap,Option.bind_none,Option.bind_assoc,Option.bind_some,Sum.elim_inl,Sum.elim_inr]
abbrev GI:cW:=df [] [0,1,5] gH nH zh
theorem KS (s:gH.D):ez Θ (aE NG) (aF []) td (gH.mk' s) (cU [0,1,5] [1,4] fun x S=>some (x,S))=(iI s).bind (Sum.elim (fun s'=>some (.nor,gH.mk' s')) fun e=>some (bg.e nH e)):=
 Eq.trans (by kernel_rfl:_=ol s.1.1 s.1.2.1 s.1.2.2.1 (fun s'=>some (.nor,gH.mk' s')) (fun e=>some (bg.e nH e))) (NH s _ _)
theorem KT:bP Tryz.prog td GI:=aW aG Du af (by kernel_rfl) (dp (by kernel_rfl:_= []) ah) [] [0,1,5] [1,4] gH nH (by kernel_rfl) iI KS zh (gf iI) (aL iI)
def wU {ρ:Type} (a0:List Int) (a1:Int) (k:Int×Unit→Option ρ):Option ρ:=
 (zh ((a0,a1,0,()),(()),(()))).bind fun e5=>Sum.elim (fun e5_=>k (e5_.1.2.1,())) (fun e5_=>k (e5_.1.1,())) e5
def kM (a0:List Int) (a1:Int):Option (Int×Unit):=wU a0 a1 some
theorem R4 {ρ:Type} (a0:List Int) (a1:Int) (k:Int×Unit→Option ρ):wU a0 a1 k=(kM a0 a1).bind k:=by
 simp only [kM,wU,bR,Option.bind_assoc,Option.bind_some]
abbrev zi:bc:=bh [.ty (.ls (.i .i64)), .ty (.i .i64)] [.i .i64] fun x=>kM x.1 x.2.1
theorem EO:ax Tryz.prog 22 zi:=
 an (Λ:=aF [(bU td,GI)]) (fn:=Tryz.f22) aG Du af (by kernel_rfl) (az (by kernel_rfl:_= [td]) (aK (q:=bU td) rfl KT fun _ _ _=>by kernel_rfl)) (by kernel_rfl) (fun x=>kM x.1 x.2.1)
  (fun x=>Eq.trans (by kernel_rfl:_=wU x.1 x.2.1 (fun y=>ret (ay [.i .i64] y) fun v g=>some (v,g))) (R4 x.1 x.2.1 _)) fun _ _ h=>h
abbrev GJ:List (Nat×bc):= []
theorem Ab:au Tryz.prog (aE GJ):=al _
noncomputable abbrev pS:Code:=bV (bT Tryz.f27) 0
abbrev eM:en:=⟨[(0, .cl (.ro (.st .entry))),(1, .cl (.int .i64)),(5, .cl (.int .i64))],[],[],0,82⟩
abbrev kN:List (X×en):= [(.ret,⟨[(1, .cl (.int .i64)),(4, .cl (.int .i64))],[],[],0,82⟩),(.ext 0,⟨[(1, .cl (.int .i64)),(4, .cl (.dead))],[],[],0,82⟩)]
def lc {ρ:Type} (v1:List ar) (v2:Int) (v3:Int) (fn: (((List ar)×Int×Int×Unit)×(Unit)×(Unit))→Option ρ) (fe: ((Int×Int×Unit)×(Unit)×(Unit))⊕((Int×Unit×Unit)×(Unit)×(Unit))→Option ρ):Option ρ:=
 br (decide (v3 < (v1.length:Int))) (aq (0≤v3) ((v1[v3.toNat]?).bind fun x4=>br (!(x4.epoch==v2)) (fe (.inl ((v2,(-1),()),(()),(())))) (aq (0≤v3) ((v1[v3.toNat]?).bind fun x5=>br (!(x5.op.client==(IntKind.wrap .i64 (v2+1)))) (fe (.inl (((IntKind.wrap .i64 (v2+1)),(-1),()),(()),(())))) (aq (0≤v3) ((v1[v3.toNat]?).bind fun x6=>br (!(x6.op.seq==(IntKind.wrap .i64 ((IntKind.wrap .i64 (v2+1))+1)))) (fe (.inl (((IntKind.wrap .i64 ((IntKind.wrap .i64 (v2+1))+1)),(-1),()),(()),(())))) (aq (0≤v3) ((v1[v3.toNat]?).bind fun x7=>br (!(x7.op.kind==(IntKind.wrap .i64 ((IntKind.wrap .i64 ((IntKind.wrap .i64 (v2+1))+1))+1)))) (fe (.inl (((IntKind.wrap .i64 ((IntKind.wrap .i64 ((IntKind.wrap .i64 (v2+1))+1))+1)),(-1),()),(()),(())))) (aq (0≤v3) ((v1[v3.toNat]?).bind fun x8=>br (!(x8.op.object==(IntKind.wrap .i64 ((IntKind.wrap .i64 ((IntKind.wrap .i64 ((IntKind.wrap .i64 (v2+1))+1))+1))+1)))) (fe (.inl (((IntKind.wrap .i64 ((IntKind.wrap .i64 ((IntKind.wrap .i64 ((IntKind.wrap .i64 (v2+1))+1))+1))+1)),(-1),()),(()),(())))) (aq (0≤v3) ((v1[v3.toNat]?).bind fun x9=>br (!(x9.op.old==(IntKind.wrap .i64 ((IntKind.wrap .i64 ((IntKind.wrap .i64 ((IntKind.wrap .i64 ((IntKind.wrap .i64 (v2+1))+1))+1))+1))+1)))) (fe (.inl (((IntKind.wrap .i64 ((IntKind.wrap .i64 ((IntKind.wrap .i64 ((IntKind.wrap .i64 ((IntKind.wrap .i64 (v2+1))+1))+1))+1))+1)),(-1),()),(()),(())))) (aq (0≤v3) ((v1[v3.toNat]?).bind fun x10=>br (!(x10.op.value==(IntKind.wrap .i64 ((IntKind.wrap .i64 ((IntKind.wrap .i64 ((IntKind.wrap .i64 ((IntKind.wrap .i64 ((IntKind.wrap .i64 (v2+1))+1))+1))+1))+1))+1)))) (fe (.inl (((IntKind.wrap .i64 ((IntKind.wrap .i64 ((IntKind.wrap .i64 ((IntKind.wrap .i64 ((IntKind.wrap .i64 ((IntKind.wrap .i64 (v2+1))+1))+1))+1))+1))+1)),(-1),()),(()),(())))) (fn ((v1,(IntKind.wrap .i64 ((IntKind.wrap .i64 ((IntKind.wrap .i64 ((IntKind.wrap .i64 ((IntKind.wrap .i64 ((IntKind.wrap .i64 ((IntKind.wrap .i64 (v2+1))+1))+1))+1))+1))+1))+1)),(IntKind.wrap .i64 (v3+1)),()),(()),(())))) none)) none)) none)) none)) none)) none)) none) (fe (.inr ((v2,(),()),(()),(()))))
def fH (s:eM.D):Option (eM.D⊕bg.D kN):=lc s.1.1 s.1.2.1 s.1.2.2.1 (fun s=>some (.inl s)) (fun e=>some (.inr e))
def wc:eM.D→Option (bg.D kN):=ko fH
theorem Iy {ρ:Type} (s:eM.D) (fn:eM.D→Option ρ) (fe:bg.D kN→Option ρ):lc s.1.1 s.1.2.1 s.1.2.2.1 fn fe=(fH s).bind (Sum.elim fn fe):=by
 simp only [fH,lc,ao,ap,Option.bind_none,Option.bind_assoc,Option.bind_some,Sum.elim_inl,Sum.elim_inr]
abbrev BQ:cW:=df [] [0,1,5] eM kN wc
theorem GK (s:eM.D):ez Θ (aE GJ) (aF []) pS (eM.mk' s) (cU [0,1,5] [1,4] fun x S=>some (x,S))=(fH s).bind (Sum.elim (fun s'=>some (.nor,eM.mk' s')) fun e=>some (bg.e kN e)):=
 Eq.trans (by kernel_rfl:_=lc s.1.1 s.1.2.1 s.1.2.2.1 (fun s'=>some (.nor,eM.mk' s')) (fun e=>some (bg.e kN e))) (Iy s _ _)
theorem GL:bP Tryz.prog pS BQ:=aW aG Ab af (by kernel_rfl) (dp (by kernel_rfl:_= []) ah) [] [0,1,5] [1,4] eM kN (by kernel_rfl) fH GK wc (gf fH) (aL fH)
def tZ {ρ:Type} (a0:List ar) (a1:Int) (k:Int×Unit→Option ρ):Option ρ:=
 (wc ((a0,a1,0,()),(()),(()))).bind fun e11=>Sum.elim (fun e11_=>k (e11_.1.2.1,())) (fun e11_=>k (e11_.1.1,())) e11
def lJ (a0:List ar) (a1:Int):Option (Int×Unit):=tZ a0 a1 some
theorem NI {ρ:Type} (a0:List ar) (a1:Int) (k:Int×Unit→Option ρ):tZ a0 a1 k=(lJ a0 a1).bind k:=by
 simp only [lJ,tZ,bR,Option.bind_assoc,Option.bind_some]
abbrev GM:bc:=bh [.ty (.ls (.st .entry)), .ty (.i .i64)] [.i .i64] fun x=>lJ x.1 x.2.1
theorem R5:ax Tryz.prog 27 GM:=
 an (Λ:=aF [(bU pS,BQ)]) (fn:=Tryz.f27) aG Ab af (by kernel_rfl) (az (by kernel_rfl:_= [pS]) (aK (q:=bU pS) rfl GL fun _ _ _=>by kernel_rfl)) (by kernel_rfl) (fun x=>lJ x.1 x.2.1)
  (fun x=>Eq.trans (by kernel_rfl:_=tZ x.1 x.2.1 (fun y=>ret (ay [.i .i64] y) fun v g=>some (v,g))) (NI x.1 x.2.1 _)) fun _ _ h=>h
abbrev Dv:List (Nat×bc):= [(22,zi),(27,GM)]
theorem yr:au Tryz.prog (aE Dv):=ae EO <| ae R5 <| al _
noncomputable abbrev n5:Code:=bV (bT Tryz.f85) 0
abbrev ea:en:=⟨[(0, .cl (.ro (.st .server))),(1, .cl (.int .i64)),(5, .cl (.int .i64))],[],[],0,129⟩
abbrev jr:List (X×en):= [(.ret,⟨[(1, .cl (.int .i64)),(4, .cl (.int .i64))],[],[],0,129⟩),(.ext 0,⟨[(1, .cl (.int .i64)),(4, .cl (.dead))],[],[],0,129⟩)]
def ke {ρ:Type} (v1:List am) (v2:Int) (v3:Int) (fn: (((List am)×Int×Int×Unit)×(Unit)×(Unit))→Option ρ) (fe: ((Int×Int×Unit)×(Unit)×(Unit))⊕((Int×Unit×Unit)×(Unit)×(Unit))→Option ρ):Option ρ:=
 br (decide (v3 < (v1.length:Int))) (aq (0≤v3) ((v1[v3.toNat]?).bind fun x4=>br (!(x4.up==((Int.tmod v2 3)==0))) (fe (.inl ((v2,(-1),()),(()),(())))) (aq (0≤v3) ((v1[v3.toNat]?).bind fun x5=>br (!(x5.intact==((Int.tmod (IntKind.wrap .i64 (v2+1)) 3)==0))) (fe (.inl (((IntKind.wrap .i64 (v2+1)),(-1),()),(()),(())))) (aq (0≤v3) ((v1[v3.toNat]?).bind fun x6=>br (!(x6.version==(IntKind.wrap .i64 ((IntKind.wrap .i64 (v2+1))+1)))) (fe (.inl (((IntKind.wrap .i64 ((IntKind.wrap .i64 (v2+1))+1)),(-1),()),(()),(())))) (aq (0≤v3) ((v1[v3.toNat]?).bind fun x7=>br (!(x7.epoch==(IntKind.wrap .i64 ((IntKind.wrap .i64 ((IntKind.wrap .i64 (v2+1))+1))+1)))) (fe (.inl (((IntKind.wrap .i64 ((IntKind.wrap .i64 ((IntKind.wrap .i64 (v2+1))+1))+1)),(-1),()),(()),(())))) (aq (0≤v3) ((v1[v3.toNat]?).bind fun x8=>br (!(x8.config.epoch==(IntKind.wrap .i64 ((IntKind.wrap .i64 ((IntKind.wrap .i64 ((IntKind.wrap .i64 (v2+1))+1))+1))+1)))) (fe (.inl (((IntKind.wrap .i64 ((IntKind.wrap .i64 ((IntKind.wrap .i64 ((IntKind.wrap .i64 (v2+1))+1))+1))+1)),(-1),()),(()),(())))) (aq (0≤v3) ((v1[v3.toNat]?).bind fun x9=>br (!(x9.config.primary==(IntKind.wrap .i64 ((IntKind.wrap .i64 ((IntKind.wrap .i64 ((IntKind.wrap .i64 ((IntKind.wrap .i64 (v2+1))+1))+1))+1))+1)))) (fe (.inl (((IntKind.wrap .i64 ((IntKind.wrap .i64 ((IntKind.wrap .i64 ((IntKind.wrap .i64 ((IntKind.wrap .i64 (v2+1))+1))+1))+1))+1)),(-1),()),(()),(())))) (aq (0≤v3) ((v1[v3.toNat]?).bind fun x10=>(kM x10.config.replicas (IntKind.wrap .i64 ((IntKind.wrap .i64 ((IntKind.wrap .i64 ((IntKind.wrap .i64 ((IntKind.wrap .i64 ((IntKind.wrap .i64 (v2+1))+1))+1))+1))+1))+1))).bind fun y11=>br (decide (y11.1 < 0)) (fe (.inl ((y11.1,(-1),()),(()),(())))) (aq (0≤v3) ((v1[v3.toNat]?).bind fun x12=>(kM x12.config.witnesses y11.1).bind fun y13=>br (decide (y13.1 < 0)) (fe (.inl ((y13.1,(-1),()),(()),(())))) (aq (0≤v3) ((v1[v3.toNat]?).bind fun x14=>br (!(x14.first==y13.1)) (fe (.inl ((y13.1,(-1),()),(()),(())))) (aq (0≤v3) ((v1[v3.toNat]?).bind fun x15=>(lJ x15.log (IntKind.wrap .i64 (y13.1+1))).bind fun y16=>br (decide (y16.1 < 0)) (fe (.inl ((y16.1,(-1),()),(()),(())))) (aq (0≤v3) ((v1[v3.toNat]?).bind fun x17=>br (!(x17.commit==y16.1)) (fe (.inl ((y16.1,(-1),()),(()),(())))) (aq (0≤v3) ((v1[v3.toNat]?).bind fun x18=>(lJ x18.learned (IntKind.wrap .i64 (y16.1+1))).bind fun y19=>br (decide (y19.1 < 0)) (fe (.inl ((y19.1,(-1),()),(()),(())))) (fn ((v1,y19.1,(IntKind.wrap .i64 (v3+1)),()),(()),(())))) none)) none)) none)) none)) none)) none)) none)) none)) none)) none)) none)) none) (fe (.inr ((v2,(),()),(()),(()))))
def eS (s:ea.D):Option (ea.D⊕bg.D jr):=ke s.1.1 s.1.2.1 s.1.2.2.1 (fun s=>some (.inl s)) (fun e=>some (.inr e))
def uE:ea.D→Option (bg.D jr):=ko eS
theorem GN {ρ:Type} (s:ea.D) (fn:ea.D→Option ρ) (fe:bg.D jr→Option ρ):ke s.1.1 s.1.2.1 s.1.2.2.1 fn fe=(eS s).bind (Sum.elim fn fe):=by
 simp only [eS,ke,ao,ap,Option.bind_none,Option.bind_assoc,Option.bind_some,Sum.elim_inl,Sum.elim_inr]
abbrev Ad:cW:=df [] [0,1,5] ea jr uE
theorem EP (s:ea.D):ez Θ (aE Dv) (aF []) n5 (ea.mk' s) (cU [0,1,5] [1,4] fun x S=>some (x,S))=(eS s).bind (Sum.elim (fun s'=>some (.nor,ea.mk' s')) fun e=>some (bg.e jr e)):=
 Eq.trans (by kernel_rfl:_=ke s.1.1 s.1.2.1 s.1.2.2.1 (fun s'=>some (.nor,ea.mk' s')) (fun e=>some (bg.e jr e))) (GN s _ _)
theorem ES:bP Tryz.prog n5 Ad:=aW aG yr af (by kernel_rfl) (dp (by kernel_rfl:_= []) ah) [] [0,1,5] [1,4] ea jr (by kernel_rfl) eS EP uE (gf eS) (aL eS)
def te {ρ:Type} (a0:List am) (a1:Int) (k:Int×Unit→Option ρ):Option ρ:=
 (uE ((a0,a1,0,()),(()),(()))).bind fun e20=>Sum.elim (fun e20_=>k (e20_.1.2.1,())) (fun e20_=>k (e20_.1.1,())) e20
def l8 (a0:List am) (a1:Int):Option (Int×Unit):=te a0 a1 some
theorem KU {ρ:Type} (a0:List am) (a1:Int) (k:Int×Unit→Option ρ):te a0 a1 k=(l8 a0 a1).bind k:=by
 simp only [l8,te,bR,Option.bind_assoc,Option.bind_some]
abbrev Dw:bc:=bh [.ty (.ls (.st .server)), .ty (.i .i64)] [.i .i64] fun x=>l8 x.1 x.2.1
theorem Pt:ax Tryz.prog 85 Dw:=
 an (Λ:=aF [(bU n5,Ad)]) (fn:=Tryz.f85) aG yr af (by kernel_rfl) (az (by kernel_rfl:_= [n5]) (aK (q:=bU n5) rfl ES fun _ _ _=>by kernel_rfl)) (by kernel_rfl) (fun x=>l8 x.1 x.2.1)
  (fun x=>Eq.trans (by kernel_rfl:_=te x.1 x.2.1 (fun y=>ret (ay [.i .i64] y) fun v g=>some (v,g))) (KU x.1 x.2.1 _)) fun _ _ h=>h
abbrev Dx:List (Nat×bc):= [(22,zi)]
theorem yt:au Tryz.prog (aE Dx):=ae EO <| al _
noncomputable abbrev n6:Code:=bV (bT Tryz.f157) 0
abbrev eb:en:=⟨[(0, .cl (.ro (.st .config))),(1, .cl (.int .i64)),(5, .cl (.int .i64))],[],[],0,49⟩
abbrev js:List (X×en):= [(.ret,⟨[(1, .cl (.int .i64)),(4, .cl (.int .i64))],[],[],0,49⟩),(.ext 0,⟨[(1, .cl (.int .i64)),(4, .cl (.dead))],[],[],0,49⟩)]
def kf {ρ:Type} (v1:List ai) (v2:Int) (v3:Int) (fn: (((List ai)×Int×Int×Unit)×(Unit)×(Unit))→Option ρ) (fe: ((Int×Int×Unit)×(Unit)×(Unit))⊕((Int×Unit×Unit)×(Unit)×(Unit))→Option ρ):Option ρ:=
 br (decide (v3 < (v1.length:Int))) (aq (0≤v3) ((v1[v3.toNat]?).bind fun x4=>br (!(x4.epoch==v2)) (fe (.inl ((v2,(-1),()),(()),(())))) (aq (0≤v3) ((v1[v3.toNat]?).bind fun x5=>br (!(x5.primary==(IntKind.wrap .i64 (v2+1)))) (fe (.inl (((IntKind.wrap .i64 (v2+1)),(-1),()),(()),(())))) (aq (0≤v3) ((v1[v3.toNat]?).bind fun x6=>(kM x6.replicas (IntKind.wrap .i64 ((IntKind.wrap .i64 (v2+1))+1))).bind fun y7=>br (decide (y7.1 < 0)) (fe (.inl ((y7.1,(-1),()),(()),(())))) (aq (0≤v3) ((v1[v3.toNat]?).bind fun x8=>(kM x8.witnesses y7.1).bind fun y9=>br (decide (y9.1 < 0)) (fe (.inl ((y9.1,(-1),()),(()),(())))) (fn ((v1,y9.1,(IntKind.wrap .i64 (v3+1)),()),(()),(())))) none)) none)) none)) none) (fe (.inr ((v2,(),()),(()),(()))))
def eT (s:eb.D):Option (eb.D⊕bg.D js):=kf s.1.1 s.1.2.1 s.1.2.2.1 (fun s=>some (.inl s)) (fun e=>some (.inr e))
def uF:eb.D→Option (bg.D js):=ko eT
theorem GO {ρ:Type} (s:eb.D) (fn:eb.D→Option ρ) (fe:bg.D js→Option ρ):kf s.1.1 s.1.2.1 s.1.2.2.1 fn fe=(eT s).bind (Sum.elim fn fe):=by
 simp only [eT,kf,ao,ap,Option.bind_none,Option.bind_assoc,Option.bind_some,Sum.elim_inl,Sum.elim_inr]
abbrev Ae:cW:=df [] [0,1,5] eb js uF
theorem ET (s:eb.D):ez Θ (aE Dx) (aF []) n6 (eb.mk' s) (cU [0,1,5] [1,4] fun x S=>some (x,S))=(eT s).bind (Sum.elim (fun s'=>some (.nor,eb.mk' s')) fun e=>some (bg.e js e)):=
 Eq.trans (by kernel_rfl:_=kf s.1.1 s.1.2.1 s.1.2.2.1 (fun s'=>some (.nor,eb.mk' s')) (fun e=>some (bg.e js e))) (GO s _ _)
theorem EU:bP Tryz.prog n6 Ae:=aW aG yt af (by kernel_rfl) (dp (by kernel_rfl:_= []) ah) [] [0,1,5] [1,4] eb js (by kernel_rfl) eT ET uF (gf eT) (aL eT)
def tf {ρ:Type} (a0:List ai) (a1:Int) (k:Int×Unit→Option ρ):Option ρ:=
 (uF ((a0,a1,0,()),(()),(()))).bind fun e10=>Sum.elim (fun e10_=>k (e10_.1.2.1,())) (fun e10_=>k (e10_.1.1,())) e10
def l9 (a0:List ai) (a1:Int):Option (Int×Unit):=tf a0 a1 some
theorem KV {ρ:Type} (a0:List ai) (a1:Int) (k:Int×Unit→Option ρ):tf a0 a1 k=(l9 a0 a1).bind k:=by
 simp only [l9,tf,bR,Option.bind_assoc,Option.bind_some]
abbrev Dy:bc:=bh [.ty (.ls (.st .config)), .ty (.i .i64)] [.i .i64] fun x=>l9 x.1 x.2.1
theorem Pu:ax Tryz.prog 157 Dy:=
 an (Λ:=aF [(bU n6,Ae)]) (fn:=Tryz.f157) aG yt af (by kernel_rfl) (az (by kernel_rfl:_= [n6]) (aK (q:=bU n6) rfl EU fun _ _ _=>by kernel_rfl)) (by kernel_rfl) (fun x=>l9 x.1 x.2.1)
  (fun x=>Eq.trans (by kernel_rfl:_=tf x.1 x.2.1 (fun y=>ret (ay [.i .i64] y) fun v g=>some (v,g))) (KV x.1 x.2.1 _)) fun _ _ h=>h
abbrev KW:List (Nat×bc):= [(157,Dy)]
theorem EV:au Tryz.prog (aE KW):=ae Pu <| al _
def nk {ρ:Type} (a0:ak) (a1:Int) (k:Int×Unit→Option ρ):Option ρ:=
 (l9 a0.configs a1).bind fun y1=>br (decide (y1.1 < 0)) (k ((-1),())) (k (y1.1,()))
def ld (a0:ak) (a1:Int):Option (Int×Unit):=nk a0 a1 some
theorem GP {ρ:Type} (a0:ak) (a1:Int) (k:Int×Unit→Option ρ):nk a0 a1 k=(ld a0 a1).bind k:=by
 simp only [ld,nk,ao,Option.bind_assoc,Option.bind_some]
abbrev Af:bc:=bh [.ty (.st .masterLog), .ty (.i .i64)] [.i .i64] fun x=>ld x.1 x.2.1
theorem KX:ax Tryz.prog 86 Af:=
 an (Λ:=aF []) (fn:=Tryz.f86) aG EV af (by kernel_rfl) (az (by kernel_rfl:_= []) ah) (by kernel_rfl) (fun x=>ld x.1 x.2.1)
  (fun x=>Eq.trans (by kernel_rfl:_=nk x.1 x.2.1 (fun y=>ret (ay [.i .i64] y) fun v g=>some (v,g))) (GP x.1 x.2.1 _)) fun _ _ h=>h
abbrev GQ:List (Nat×bc):= []
theorem Ag:au Tryz.prog (aE GQ):=al _
noncomputable abbrev pT:Code:=bV (bT Tryz.f87) 0
abbrev eN:en:=⟨[(0, .cl (.ro (.st .place))),(1, .cl (.int .i64)),(5, .cl (.int .i64))],[],[],0,40⟩
abbrev kO:List (X×en):= [(.ret,⟨[(1, .cl (.int .i64)),(4, .cl (.int .i64))],[],[],0,40⟩),(.ext 0,⟨[(1, .cl (.int .i64)),(4, .cl (.dead))],[],[],0,40⟩)]
def lf {ρ:Type} (v1:List aU) (v2:Int) (v3:Int) (fn: (((List aU)×Int×Int×Unit)×(Unit)×(Unit))→Option ρ) (fe: ((Int×Int×Unit)×(Unit)×(Unit))⊕((Int×Unit×Unit)×(Unit)×(Unit))→Option ρ):Option ρ:=
 br (decide (v3 < (v1.length:Int))) (aq (0≤v3) ((v1[v3.toNat]?).bind fun x4=>br (!(x4.rack==v2)) (fe (.inl ((v2,(-1),()),(()),(())))) (aq (0≤v3) ((v1[v3.toNat]?).bind fun x5=>br (!(x5.capacity==(IntKind.wrap .i64 (v2+1)))) (fe (.inl (((IntKind.wrap .i64 (v2+1)),(-1),()),(()),(())))) (aq (0≤v3) ((v1[v3.toNat]?).bind fun x6=>br (!(x6.load==(IntKind.wrap .i64 ((IntKind.wrap .i64 (v2+1))+1)))) (fe (.inl (((IntKind.wrap .i64 ((IntKind.wrap .i64 (v2+1))+1)),(-1),()),(()),(())))) (fn ((v1,(IntKind.wrap .i64 ((IntKind.wrap .i64 ((IntKind.wrap .i64 (v2+1))+1))+1)),(IntKind.wrap .i64 (v3+1)),()),(()),(())))) none)) none)) none) (fe (.inr ((v2,(),()),(()),(()))))
def fI (s:eN.D):Option (eN.D⊕bg.D kO):=lf s.1.1 s.1.2.1 s.1.2.2.1 (fun s=>some (.inl s)) (fun e=>some (.inr e))
def wd:eN.D→Option (bg.D kO):=ko fI
theorem Iz {ρ:Type} (s:eN.D) (fn:eN.D→Option ρ) (fe:bg.D kO→Option ρ):lf s.1.1 s.1.2.1 s.1.2.2.1 fn fe=(fI s).bind (Sum.elim fn fe):=by
 simp only [fI,lf,ao,ap,Option.bind_none,Option.bind_assoc,Option.bind_some,Sum.elim_inl,Sum.elim_inr]
abbrev BR:cW:=df [] [0,1,5] eN kO wd
theorem GR (s:eN.D):ez Θ (aE GQ) (aF []) pT (eN.mk' s) (cU [0,1,5] [1,4] fun x S=>some (x,S))=(fI s).bind (Sum.elim (fun s'=>some (.nor,eN.mk' s')) fun e=>some (bg.e kO e)):=
 Eq.trans (by kernel_rfl:_=lf s.1.1 s.1.2.1 s.1.2.2.1 (fun s'=>some (.nor,eN.mk' s')) (fun e=>some (bg.e kO e))) (Iz s _ _)
theorem GS:bP Tryz.prog pT BR:=aW aG Ag af (by kernel_rfl) (dp (by kernel_rfl:_= []) ah) [] [0,1,5] [1,4] eN kO (by kernel_rfl) fI GR wd (gf fI) (aL fI)
def t4 {ρ:Type} (a0:List aU) (a1:Int) (k:Int×Unit→Option ρ):Option ρ:=
 (wd ((a0,a1,0,()),(()),(()))).bind fun e7=>Sum.elim (fun e7_=>k (e7_.1.2.1,())) (fun e7_=>k (e7_.1.1,())) e7
def nI (a0:List aU) (a1:Int):Option (Int×Unit):=t4 a0 a1 some
theorem NJ {ρ:Type} (a0:List aU) (a1:Int) (k:Int×Unit→Option ρ):t4 a0 a1 k=(nI a0 a1).bind k:=by
 simp only [nI,t4,bR,Option.bind_assoc,Option.bind_some]
abbrev GU:bc:=bh [.ty (.ls (.st .place)), .ty (.i .i64)] [.i .i64] fun x=>nI x.1 x.2.1
theorem R6:ax Tryz.prog 87 GU:=
 an (Λ:=aF [(bU pT,BR)]) (fn:=Tryz.f87) aG Ag af (by kernel_rfl) (az (by kernel_rfl:_= [pT]) (aK (q:=bU pT) rfl GS fun _ _ _=>by kernel_rfl)) (by kernel_rfl) (fun x=>nI x.1 x.2.1)
  (fun x=>Eq.trans (by kernel_rfl:_=t4 x.1 x.2.1 (fun y=>ret (ay [.i .i64] y) fun v g=>some (v,g))) (NJ x.1 x.2.1 _)) fun _ _ h=>h
abbrev Pv:List (Nat×bc):= [(85,Dw),(22,zi),(86,Af),(87,GU)]
theorem IA:au Tryz.prog (aE Pv):=ae Pt <| ae EO <| ae KX <| ae R6 <| al _
def pU {ρ:Type} (a0:aj) (a1:Int) (k:Int×Unit→Option ρ):Option ρ:=
 (l8 a0.servers a1).bind fun y1=>br (decide (y1.1 < 0)) (k ((-1),())) ((kM a0.sides y1.1).bind fun y2=>br (decide (y2.1 < 0)) (k ((-1),())) ((ld a0.master y2.1).bind fun y3=>br (decide (y3.1 < 0)) (k ((-1),())) ((nI a0.places y3.1).bind fun y4=>br (decide (y4.1 < 0)) (k ((-1),())) (k (y4.1,())))))
def eU (a0:aj) (a1:Int):Option (Int×Unit):=pU a0 a1 some
theorem KY {ρ:Type} (a0:aj) (a1:Int) (k:Int×Unit→Option ρ):pU a0 a1 k=(eU a0 a1).bind k:=by
 simp only [eU,pU,ao,Option.bind_assoc,Option.bind_some]
abbrev Dz:bc:=bh [.ty (.st .cluster), .ty (.i .i64)] [.i .i64] fun x=>eU x.1 x.2.1
theorem Pw:ax Tryz.prog 30 Dz:=
 an (Λ:=aF []) (fn:=Tryz.f30) aG IA af (by kernel_rfl) (az (by kernel_rfl:_= []) ah) (by kernel_rfl) (fun x=>eU x.1 x.2.1)
  (fun x=>Eq.trans (by kernel_rfl:_=pU x.1 x.2.1 (fun y=>ret (ay [.i .i64] y) fun v g=>some (v,g))) (KY x.1 x.2.1 _)) fun _ _ h=>h
abbrev zj:List (Nat×bc):= [(12,I8),(14,Je),(33,zI),(34,zY),(16,Jw),(qx 20,yq),(30,Dz)]
theorem wi:au Tryz.prog (aE zj):=ae TL <| ae TV <| ae Kd <| ae KH <| ae UF <| ae Ix <| ae Pw <| al _
def ga {ρ:Type} (a0:aj) (k:Bool×Unit→Option ρ):Option ρ:=
 (jM a0 1048576).bind fun y1=>br (decide (y1.1 < 0)) (k (true,())) ((iJ a0).bind fun y2=>(jh y2.1).bind fun y3=>(iJ a0).bind fun y4=>(gW y4.1).bind fun y5=>(fi y5.1 y3.1).bind fun y6=>br (!y6.1) (k (false,())) (br (!(y5.2.1==y3.2.1)) (k (false,())) ((iJ a0).bind fun y7=>(fi y4.1 y7.1).bind fun y8=>br (!y8.1) (k (false,())) ((dN y4.1 1).bind fun y9=>aq (y9.1.servers.length=y4.1.servers.length) (aq (y9.1.sides.length=y4.1.sides.length) (aq (y9.1.master.configs.length=y4.1.master.configs.length) (aq (y9.1.places.length=y4.1.places.length) (br (decide (y9.2.1 < 0)) (k (false,())) ((fi y5.1 y3.1).bind fun y10=>br (!y10.1) (k (false,())) (br (!(y5.2.1==y3.2.1)) (k (false,())) ((dN y5.1 1).bind fun y11=>aq (y11.1.servers.length=y5.1.servers.length) (aq (y11.1.sides.length=y5.1.sides.length) (aq (y11.1.master.configs.length=y5.1.master.configs.length) (aq (y11.1.places.length=y5.1.places.length) ((eU (⟨y5.1.now,y11.1.servers,y11.1.sides,(⟨y11.1.master.configs,y5.1.master.activated⟩:ak),y5.1.masterUp,y5.1.lease,y11.1.places⟩:aj) 1).bind fun y12=>br (decide (y12.1 < 0)) (k (false,())) (br (!(y12.1==y11.2.1)) (k (false,())) ((iJ a0).bind fun y13=>(gW y13.1).bind fun y14=>(fi y14.1 y3.1).bind fun y15=>br (!y15.1) (k (false,())) (br (!(y14.2.1==y3.2.1)) (k (false,())) ((eU (⟨y5.1.now,y11.1.servers,y11.1.sides,(⟨y11.1.master.configs,y5.1.master.activated⟩:ak),y5.1.masterUp,y5.1.lease,y11.1.places⟩:aj) 1).bind fun y16=>br (decide (y16.1 < 0)) (k (false,())) (br (!(y16.1==y11.2.1)) (k (false,())) (k (true,())))))))) none) none) none) none)))) none) none) none) none))))
def eX (a0:aj):Option (Bool×Unit):=ga a0 some
theorem xt {ρ:Type} (a0:aj) (k:Bool×Unit→Option ρ):ga a0 k=(eX a0).bind k:=by
 simp only [eX,ga,ao,ap,Option.bind_none,Option.bind_assoc,Option.bind_some]
abbrev zk:bc:=bh [.ty (.st .cluster)] [.b] fun x=>eX x.1
theorem zl:ax Tryz.prog 8 zk:=
 an (Λ:=aF []) (fn:=Tryz.f8) aG wi af (by kernel_rfl) (az (by kernel_rfl:_= []) ah) (by kernel_rfl) (fun x=>eX x.1)
  (fun x=>Eq.trans (by kernel_rfl:_=ga x.1 (fun y=>ret (ay [.b] y) fun v g=>some (v,g))) (xt x.1 _)) fun _ _ h=>h
end
end Go.Proofs.YtkcgfceffffmoaaGreat.En
