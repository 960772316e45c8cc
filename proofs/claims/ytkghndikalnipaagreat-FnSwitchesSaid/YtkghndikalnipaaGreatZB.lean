/- Printed by a program: the walk. -/
import Derived.Test.YtkghndikalnipaaGreatZB1
set_option linter.unusedSimpArgs false
set_option linter.unusedVariables false
namespace Go.Proofs.YtkghndikalnipaaGreat.En
open Go.IntKind renaming wrap→aeq
open Go
noncomputable section
def Fo(a0:List Int)(a1_0:qh):Option (Bool×Unit):=
 (Gz a0 a1_0).bind λy1=>some ((decide (y1.1≥0)),())
def Lw[dE] :=Fg 68 Tryz.f68 [.ty (.ls (.i .i64)),.fn 112 UC] [.b] (λx=>Fo x.1 x.2.1.1) [MO] [] (by kernel_rfl) λx=>by simp only[Fo,tm];kernel_rfl
def Jq(a0:qk)(a1:nG)(a2:Int)(a3:List rp):Option (qk×Bool×Unit):=
 (I0 a1 a2).bind λy1=>br (y1.1==0) ((Gi a0).bind λy2=>some (y2.1,false,())) ((Jg a3).bind λy3=>br (!y3.1) ((Gi a0).bind λy4=>some (y4.1,false,())) ((ET a0.version 1 2).bind λy5=>br (!y5.1) ((Gi a0).bind λy6=>some (y6.1,false,())) ((ET a0.epoch 0 a1.epoch).bind λy7=>br (!y7.1) ((Gi a0).bind λy8=>some (y8.1,false,())) ((JO a3).bind λy9=>br (decide (y9.1>a1.epoch)) ((Gi a0).bind λy10=>some (y10.1,false,())) (let j18:Option (qk×Bool×Unit):=(Gh a1).bind λy13=>(FS a3).bind λy14=>br (y1.1==3) ((Nu a3).bind λy15=>some ((⟨a0.up,true,a0.version,a1.epoch,y13.1,y15.1,y15.2.1,(a3.length:Int),([]:List rp)⟩:qk),true,())) (some ((⟨a0.up,true,a0.version,a1.epoch,y13.1,0,y14.1,(a3.length:Int),([]:List rp)⟩:qk),true,()));br (a0.version==1) ((I1 a3).bind λy11=>br y11.1 ((Gi a0).bind λy12=>some (y12.1,false,())) (j18)) (j18))))))
def Tl[dE] :=Fg 113 Tryz.f113 acv Y6 (λx=>Jq x.1 x.2.1 x.2.2.1 x.2.2.2.1) [P3,Ni,RI,G0,P5,P4,Lr,I8,VS] [] (by kernel_rfl) λx=>by simp only[Jq,tm];kernel_rfl
def IY(a0:jZ)(a1:Int):Option (jZ×Bool×Unit):=
 (Jh a0).bind λy1=>(HM a0).bind λy2=>br (!y2.1) (some (y1.1,false,())) (br (!(a1==(a0.configs.length:Int))) (some (y1.1,false,())) (br (decide (a1<=a0.activated)) (some (y1.1,false,())) (some ((⟨y1.1.configs,a1⟩:jZ),true,()))))
def Sa[dE] :=Fg 114 Tryz.f114 YW Y5 (λx=>IY x.1 x.2.1) [Po,Mq] [] (by kernel_rfl) λx=>by simp only[IY,tm];kernel_rfl
abbrev Q0:LX:=⟨⟨[Mc,Qg,VY,S9,(101,.cl (.own 1 (.i .i64))),(102,.cl (.int .i64)),(103,.cl (.int .i64))],[K5,aaQ,[.int .i64,.own 4 (.st .server),.own 5 (.i .i64),.own 6 (.st .config),.int .i64,.int .i64,.int .i64,.int .i64,.int .i64,.own 7 (.st .place)]],[.st .entry,.i .i64,.i .i64,.i .i64,.st .server,.i .i64,.st .config,.st .place],0,136⟩,[(.ext 1,⟨[Mc,Qg,VY],[K5,aaS,Vv],[.i .i64,.i .i64,.st .server,.i .i64,.st .config,.st .place],0,136⟩)],[],[2,4,6,7,101,102,103],[2,4,6]⟩
def Jz(s: (Unit×Unit×Unit×Unit×Unit×Int×Int×Unit)×(LL×Sv×LL×Unit)×List rp×List Int×List Int×List Int×List qk×List Int×List nG×List uQ×Unit):Q0.R:=
 br (decide (s.1.2.2.2.2.2.2.1<s.1.2.2.2.2.2.1)) (iteP (0<=s.1.2.2.2.2.2.2.1/\s.1.2.2.2.2.2.2.1<(s.2.2.2.1.length:Int)) ((s.2.2.2.1[s.1.2.2.2.2.2.2.1.toNat]?).bind λx44=>iteP (0<=x44/\x44<(s.2.2.2.2.2.2.1.length:Int)) ((s.2.2.2.2.2.2.1[x44.toNat]?).bind λx45=>(s.2.2.2.2.2.2.1[x44.toNat]?).bind λx46=>iteP (0+x45.config.replicas.length<=x46.config.replicas.length) ((s.2.2.2.2.2.2.1[x44.toNat]?).bind λx47=>iteP (0+x45.config.witnesses.length<=x47.config.witnesses.length) ((s.2.2.2.2.2.2.1[x44.toNat]?).bind λx48=>iteP (0+x45.log.length<=x48.log.length) ((s.2.2.2.2.2.2.1[x44.toNat]?).bind λx49=>iteP (0+x45.learned.length<=x49.learned.length) ((Jq (⟨x45.up,x45.intact,x45.version,x45.epoch,(⟨x45.config.epoch,x45.config.primary,((x46.config.replicas.drop 0).take x45.config.replicas.length),((x47.config.witnesses.drop 0).take x45.config.witnesses.length)⟩:nG),x45.first,((x48.log.drop 0).take x45.log.length),x45.commit,((x49.learned.drop 0).take x45.learned.length)⟩:qk) (⟨s.2.1.2.1.1,s.2.1.2.1.2.1,s.2.2.2.2.1,s.2.2.2.2.2.1⟩:nG) x44 s.2.2.1).bind λy50=>iteP (0<=x44/\x44<(s.2.2.2.2.2.2.1.length:Int)) ((s.2.2.2.2.2.2.1[x44.toNat]?).bind λ_=>some (.inl (((),(),(),(),(),s.1.2.2.2.2.2.1,(aeq .i64 (s.1.2.2.2.2.2.2.1+1)),()),s.2.1,s.2.2.1,s.2.2.2.1,s.2.2.2.2.1,s.2.2.2.2.2.1,(s.2.2.2.2.2.2.1.set x44.toNat y50.1),s.2.2.2.2.2.2.2))) none) none) none) none) none) none) none) (some (.inr (((),(),(),()),s.2.1,s.2.2.2.2)))
def QV:=ny Jz
def Vw[dE] :=H5 Tryz.f33 [0] Q0 Jz [Tl] [] (by kernel_rfl) λs=>by simp only[Jz,tm];kernel_rfl
def Nw(a0:qh):Option (qh×Int×Unit):=
 (Lc a0.master).bind λy1=>(Gg a0).bind λy2=>br (!y2.1) ((FD a0).bind λy3=>some (y3.1,1,())) (br (!y1.2.1) ((FD a0).bind λy4=>some (y4.1,1,())) (br (decide (y1.1.epoch<=a0.master.activated)) ((FD a0).bind λy5=>some (y5.1,1,())) ((HN a0).bind λy6=>br (!y6.1) ((FD a0).bind λy7=>some (y7.1,8,())) (iteP (0<=y1.1.primary) ((a0.servers[y1.1.primary.toNat]?).bind λx8=>br (!x8.up) ((FD a0).bind λy9=>some (y9.1,2,())) (iteP (0<=y1.1.primary) ((a0.sides[y1.1.primary.toNat]?).bind λx10=>br (!(x10==0)) ((FD a0).bind λy11=>some (y11.1,10,())) ((Hn a0.lease a0.now).bind λy12=>br (!y12.1) ((FD a0).bind λy13=>some (y13.1,7,())) ((Ho a0 y1.1.primary y1.1.epoch).bind λy14=>(I9 y14.1 y1.1.primary).bind λy15=>br (!y15.2.1) (some (y14.1,9,())) ((Iu y1.1).bind λy16=>(Fn y16.1 y14.1).bind λy17=>br y17.1 (some (y14.1,10,())) ((I1 y15.1).bind λy18=>let j55:Option (qh×Int×Unit):=(QV (((),(),(),(),(),(y16.1.length:Int),0,()),((0,(),(),(),0,0,0,0,0,(),()),(y1.1.epoch,y1.1.primary,(),(),()),(y14.1.now,(),(),(),y14.1.master.activated,y14.1.masterUp,y14.1.lease.epoch,y14.1.lease.holder,y14.1.lease.ends,(),()),()),y15.1,y16.1,y1.1.replicas,y1.1.witnesses,y14.1.servers,y14.1.sides,y14.1.master.configs,y14.1.places,())).bind λe53=>(IY (⟨e53.2.2.2.2.2.2.1,e53.2.1.2.2.1.2.2.2.2.1⟩:jZ) e53.2.1.2.1.1).bind λy54=>some ((⟨e53.2.1.2.2.1.1,e53.2.2.2.2.1,e53.2.2.2.2.2.1,y54.1,e53.2.1.2.2.1.2.2.2.2.2.1,(⟨0,0,0⟩:uN),e53.2.2.2.2.2.2.2.1⟩:qh),0,());br y18.1 ((Fo y16.1 y14.1).bind λy19=>br y19.1 (some (y14.1,6,())) (j55)) (j55)))))) none)) none))))
def X1[dE] :=Fg 33 Tryz.f33 Ss OE (λx=>Nw x.1) [Wf,I7,JE,Ov,U7,U9,Xb,MJ,(DM 1 110 Lu Lw rfl),P4,Sa] [Vw] (by kernel_rfl) λx=>by simp only[Nw,tm];kernel_rfl
def Js(a0:qh)(a1:Int):Option (qh×Int×Unit):=
 (JL a0 a1).bind λy1=>br (!(y1.1==0)) ((FD a0).bind λy2=>some (y2.1,y1.1,())) ((E0 a0.master).bind λy3=>(Ig a0 y3.1.primary).bind λy4=>(Ko (⟨y4.1.now,y4.1.servers,y4.1.sides,y4.1.master,y4.1.masterUp,(⟨0,0,0⟩:uN),y4.1.places⟩:qh) (⟨(aeq .i64 (y3.1.epoch+1)),a1,y3.1.replicas,y3.1.witnesses⟩:nG)).bind λy5=>(Nw y5.1).bind λy6=>some (y6.1,y6.2.1,()))
def Tn[dE] :=Fg 22 Tryz.f22 Kl OE (λx=>Js x.1 x.2.1) [P2,JE,HF,Tg,U8,X1] [] (by kernel_rfl) λx=>by simp only[Js,tm];kernel_rfl
def HG(a0:qk)(a1:qk):Option (Bool×Unit):=
 br (a0.up==a1.up) (br (a0.intact==a1.intact) (br (a0.version==a1.version) (br (a0.epoch==a1.epoch) ((GF a0.config a1.config).bind λy1=>br y1.1 (br (a0.first==a1.first) ((Ht a0.log a1.log).bind λy2=>br y2.1 (br (a0.commit==a1.commit) ((Ht a0.learned a1.learned).bind λy3=>some (y3.1,())) (some (false,()))) (some (false,()))) (some (false,()))) (some (false,()))) (some (false,()))) (some (false,()))) (some (false,()))) (some (false,()))
def QN[dE] :=Fg 62 Tryz.f62 [.ty (.st .server),.ty (.st .server)] [.b] (λx=>HG x.1 x.2.1) [JU,Qa] [] (by kernel_rfl) λx=>by simp only[HG,tm];kernel_rfl
abbrev Hc:LX:=⟨⟨[(1,.cl (.ro (.st .server))),(2,.cl (.fc 62)),(15,.cl (.ro (.st .server))),(16,.cl (.int .i64)),(17,.cl (.int .i64))],[],[],0,32⟩,[(.ret,⟨[(6,.cl (.bl))],[],[],0,32⟩),(.ext 0,⟨[aaB],[],[],0,32⟩)],[],[1,2,15,16,17],[6]⟩
def FA(s: (List qk×Unit×List qk×Int×Int×Unit)×Unit×Unit):Hc.R:=
 br (decide (s.1.2.2.2.2.1<s.1.2.2.2.1)) (iteP (0<=s.1.2.2.2.2.1) ((s.1.2.2.1[s.1.2.2.2.2.1.toNat]?).bind λx5=>iteP (0<=s.1.2.2.2.2.1) ((s.1.1[s.1.2.2.2.2.1.toNat]?).bind λx6=>(HG x5 x6).bind λy7=>br (!y7.1) (some (.inr (.inl ((false,()),(()),(()))))) (some (.inl ((s.1.1,(),s.1.2.2.1,s.1.2.2.2.1,(aeq .i64 (s.1.2.2.2.2.1+1)),()),(()),(()))))) none) none) (some (.inr (.inr (((),()),(()),(())))))
def JF:=ny FA
def JG[dE] :=H5 Tryz.f61 [0] Hc FA [QN] [] (by kernel_rfl) λs=>by simp only[FA,tm];kernel_rfl
def FL(a0:List qk)(a1:List qk):Option (Bool×Unit):=
 br (!((a0.length:Int)==(a1.length:Int))) (some (false,())) ((JF ((a1,(),a0,(a0.length:Int),0,()),(()),(()))).bind λe8=>Sum.elim (λe8_0=>some e8_0.1) (λ_=>some (true,())) e8)
def JY[dE] :=Fg 61 Tryz.f61 [.ty (.ls (.st .server)),.ty (.ls (.st .server)),.fc 62] [.b] (λx=>FL x.1 x.2.1) [] [JG] (by kernel_rfl) λx=>by simp only[FL,tm];kernel_rfl
abbrev HQ:LX:=⟨⟨[(1,.cl (.ro (.st .config))),(2,.cl (.fc 19)),(15,.cl (.ro (.st .config))),(16,.cl (.int .i64)),(17,.cl (.int .i64))],[],[],0,32⟩,[(.ret,⟨[(6,.cl (.bl))],[],[],0,32⟩),(.ext 0,⟨[aaB],[],[],0,32⟩)],[],[1,2,15,16,17],[6]⟩
def FT(s: (List nG×Unit×List nG×Int×Int×Unit)×Unit×Unit):HQ.R:=
 br (decide (s.1.2.2.2.2.1<s.1.2.2.2.1)) (iteP (0<=s.1.2.2.2.2.1) ((s.1.2.2.1[s.1.2.2.2.2.1.toNat]?).bind λx5=>iteP (0<=s.1.2.2.2.2.1) ((s.1.1[s.1.2.2.2.2.1.toNat]?).bind λx6=>(GF x5 x6).bind λy7=>br (!y7.1) (some (.inr (.inl ((false,()),(()),(()))))) (some (.inl ((s.1.1,(),s.1.2.2.1,s.1.2.2.2.1,(aeq .i64 (s.1.2.2.2.2.1+1)),()),(()),(()))))) none) none) (some (.inr (.inr (((),()),(()),(())))))
def KF:=ny FT
def KH[dE] :=H5 Tryz.f177 [0] HQ FT [JU] [] (by kernel_rfl) λs=>by simp only[FT,tm];kernel_rfl
def F2(a0:List nG)(a1:List nG):Option (Bool×Unit):=
 br (!((a0.length:Int)==(a1.length:Int))) (some (false,())) ((KF ((a1,(),a0,(a0.length:Int),0,()),(()),(()))).bind λe8=>Sum.elim (λe8_0=>some e8_0.1) (λ_=>some (true,())) e8)
def K3[dE] :=Fg 177 Tryz.f177 [.ty (.ls (.st .config)),.ty (.ls (.st .config)),.fc 19] [.b] (λx=>F2 x.1 x.2.1) [] [KH] (by kernel_rfl) λx=>by simp only[F2,tm];kernel_rfl
def Ir(a0:jZ)(a1:jZ):Option (Bool×Unit):=
 br (a0.activated==a1.activated) ((F2 a0.configs a1.configs).bind λy1=>some (y1.1,())) (some (false,()))
def RH[dE] :=Fg 64 Tryz.f64 [.ty (.st .masterLog),.ty (.st .masterLog)] [.b] (λx=>Ir x.1 x.2.1) [K3] [] (by kernel_rfl) λx=>by simp only[Ir,tm];kernel_rfl
abbrev Pd:LX:=⟨⟨[SY,(1,.cl (.ro (.st .place))),Qi,aaG],[],[],0,26⟩,[(.ret,⟨[S4],[],[],0,26⟩),(.ext 0,⟨[Oo],[],[],0,26⟩)],[],[0,1,12,13],[4]⟩
def J8(s: (List uQ×List uQ×Int×Int×Unit)×Unit×Unit):Pd.R:=
 br (decide (s.1.2.2.2.1<s.1.2.2.1)) (iteP (0<=s.1.2.2.2.1) ((s.1.1[s.1.2.2.2.1.toNat]?).bind λx5=>iteP (0<=s.1.2.2.2.1) ((s.1.2.1[s.1.2.2.2.1.toNat]?).bind λx6=>br (!((x5.rack==x6.rack)&&((x5.capacity==x6.capacity)&&((x5.load==x6.load)&&true)))) (some (.inr (.inl ((false,()),(()),(()))))) (some (.inl ((s.1.1,s.1.2.1,s.1.2.2.1,(aeq .i64 (s.1.2.2.2.1+1)),()),(()),(()))))) none) none) (some (.inr (.inr (((),()),(()),(())))))
def Sr:=ny J8
def SG[dE] :=H5 Tryz.f65 [0] Pd J8 [] [] (by kernel_rfl) λs=>by simp only[J8,tm];kernel_rfl
def JS(a0:List uQ)(a1:List uQ):Option (Bool×Unit):=
 br (!((a0.length:Int)==(a1.length:Int))) (some (false,())) ((Sr ((a0,a1,(a0.length:Int),0,()),(()),(()))).bind λe7=>Sum.elim (λe7_0=>some e7_0.1) (λ_=>some (true,())) e7)
def Ur[dE] :=Fg 65 Tryz.f65 [.ty (.ls (.st .place)),.ty (.ls (.st .place))] [.b] (λx=>JS x.1 x.2.1) [] [SG] (by kernel_rfl) λx=>by simp only[JS,tm];kernel_rfl
def Jp(a0:qh)(a1:qh):Option (Bool×Unit):=
 br (a0.now==a1.now) ((FL a0.servers a1.servers).bind λy1=>br y1.1 ((Jk a0.sides a1.sides).bind λy2=>br y2.1 ((Ir a0.master a1.master).bind λy3=>br y3.1 (br (a0.masterUp==a1.masterUp) (br ((a0.lease.epoch==a1.lease.epoch)&&((a0.lease.holder==a1.lease.holder)&&((a0.lease.ends==a1.lease.ends)&&true))) ((JS a0.places a1.places).bind λy4=>some (y4.1,())) (some (false,()))) (some (false,()))) (some (false,()))) (some (false,()))) (some (false,()))) (some (false,()))
def Tj[dE] :=Fg 11 Tryz.f11 [.ty (.st .cluster),.ty (.st .cluster)] [.b] (λx=>Jp x.1 x.2.1) [JY,RS,RH,Ur] [] (by kernel_rfl) λx=>by simp only[Jp,tm];kernel_rfl
def JM(a0:qh)(a1:Int):Option (Int×Unit):=
 (FU a0 a1).bind λy1=>br (!y1.1) (some (0,())) (iteP (0<=a1) ((a0.servers[a1.toNat]?).bind λx2=>iteP (0<=a1) ((a0.servers[a1.toNat]?).bind λx3=>some ((aeq .i64 ((x2.log.length:Int)-x3.commit)),())) none) none)
def Ua[dE] :=Fg 99 Tryz.f99 Kl JJ (λx=>JM x.1 x.2.1) [Ms] [] (by kernel_rfl) λx=>by simp only[JM,tm];kernel_rfl
def Kq(a0:qh)(a1:Int):Option ((List Int)×Unit):=
 (JL a0 a1).bind λy1=>br (!(y1.1==0)) (some (([]:List Int),())) ((E0 a0.master).bind λy2=>(JM a0 y2.1.primary).bind λy3=>(Iu y2.1).bind λy4=>some (([y3.1,(aeq .i64 (y2.1.epoch+1)),(y4.1.length:Int)]:List Int),()))
def Va[dE] :=Fg 27 Tryz.f27 Kl K4 (λx=>Kq x.1 x.2.1) [P2,HF,Ua,MJ] [] (by kernel_rfl) λx=>by simp only[Kq,tm];kernel_rfl
def JQ(a0:qh)(a1:Int):Option (Int×Unit):=
 (FZ a0 a1).bind λy1=>br (!y1.1) (some (0,())) (iteP (0<=a1) ((a0.servers[a1.toNat]?).bind λx2=>iteP (0<=a1) ((a0.servers[a1.toNat]?).bind λx3=>some ((aeq .i64 ((x2.log.length:Int)-x3.commit)),())) none) none)
def Uj[dE] :=Fg 100 Tryz.f100 Kl JJ (λx=>JQ x.1 x.2.1) [Lt] [] (by kernel_rfl) λx=>by simp only[JQ,tm];kernel_rfl
def Ky(a0:qh)(a1:Int):Option ((List Int)×Unit):=
 (G6 a0 a1).bind λy1=>br (!(y1.1==0)) (some (([]:List Int),())) ((EF a0.master).bind λy2=>(JQ a0 y2.1.primary).bind λy3=>(Fd y2.1).bind λy4=>some (([y3.1,(aeq .i64 (y2.1.epoch+1)),(y4.1.length:Int)]:List Int),()))
def Vi[dE] :=Fg 28 Tryz.f28 Kl K4 (λx=>Ky x.1 x.2.1) [P7,Gf,Uj,Jb] [] (by kernel_rfl) λx=>by simp only[Ky,tm];kernel_rfl
abbrev R3:LX:=⟨⟨[OD,QX,Nm],[],[],0,26⟩,[(.ret,⟨[S4],[],[],0,26⟩),(.ext 0,⟨[Oo],[],[],0,26⟩)],[],[0,1,5],[4]⟩
def M9(s:acM×Unit×Unit):R3.R:=
 br (decide (s.1.2.2.1<(s.1.1.length:Int))) (iteP (0<=s.1.2.2.1) ((s.1.1[s.1.2.2.1.toNat]?).bind λx4=>iteP (0<=s.1.2.2.1) ((s.1.2.1[s.1.2.2.1.toNat]?).bind λx5=>br (!(x4==x5)) (some (.inr (.inl ((false,()),(()),(()))))) (some (.inl ((s.1.1,s.1.2.1,(aeq .i64 (s.1.2.2.1+1)),()),(()),(()))))) none) none) (some (.inr (.inr (((),()),(()),(())))))
def WF:=ny M9
def WP[dE] :=H5 Tryz.f26 [0] R3 M9 [] [] (by kernel_rfl) λs=>by simp only[M9,tm];kernel_rfl
def NL(a0:List Int)(a1:List Int):Option (Bool×Unit):=
 br (!((a0.length:Int)==(a1.length:Int))) (some (false,())) ((WF ((a0,a1,0,()),(()),(()))).bind λe6=>Sum.elim (λe6_0=>some e6_0.1) (λ_=>some (true,())) e6)
def Yj[dE] :=Fg 26 Tryz.f26 Vq [.b] (λx=>NL x.1 x.2.1) [] [WP] (by kernel_rfl) λx=>by simp only[NL,tm];kernel_rfl
abbrev O5:LX:=⟨⟨[Qk,aaE,Nm],[],[],0,30⟩,[(.ext 0,⟨[Nm],[],[],0,30⟩)],[],[0,1,5],[5]⟩
def LP(s:acP×Unit×Unit):O5.R:=
 br (decide (s.1.2.2.1<(s.1.1.length:Int))) (br (decide (s.1.2.2.1<(s.1.2.1.length:Int))) (iteP (0<=s.1.2.2.1) ((s.1.1[s.1.2.2.1.toNat]?).bind λx4=>iteP (0<=s.1.2.2.1) ((s.1.2.1[s.1.2.2.1.toNat]?).bind λx5=>br ((x4.epoch==x5.epoch)&&((x4.op.client==x5.op.client)&&((x4.op.seq==x5.op.seq)&&((x4.op.kind==x5.op.kind)&&((x4.op.object==x5.op.object)&&((x4.op.old==x5.op.old)&&((x4.op.value==x5.op.value)&&true))))))) (some (.inl ((s.1.1,s.1.2.1,(aeq .i64 (s.1.2.2.1+1)),()),(()),(())))) (some (.inr (s.1.2.2,(()),(()))))) none) none) (some (.inr (s.1.2.2,(()),(()))))) (some (.inr (s.1.2.2,(()),(()))))
def Sl:=ny LP
def Sy[dE] :=H5 Tryz.f102 [0] O5 LP [] [] (by kernel_rfl) λs=>by simp only[LP,tm];kernel_rfl
def Lb(a0:List rp)(a1:List rp):Option (Int×Unit):=
 (Sl ((a0,a1,0,()),(()),(()))).bind λe6=>some e6.1
def TY[dE] :=Fg 102 Tryz.f102 YX JJ (λx=>Lb x.1 x.2.1) [] [Sy] (by kernel_rfl) λx=>by simp only[Lb,tm];kernel_rfl
def Nx(a0:List rp)(a1:List rp):Option (Bool×Unit):=
 (Lb a0 a1).bind λy1=>some ((y1.1==(a0.length:Int)),())
def X2[dE] :=Fg 30 Tryz.f30 YX [.b] (λx=>Nx x.1 x.2.1) [TY] [] (by kernel_rfl) λx=>by simp only[Nx,tm];kernel_rfl
def Nh[dE](a0:Hd):Option (Bool×Unit):=
 (Z8 a0).bind λy1=>br y1.1 (some (true,())) ((HH a0).bind λy2=>(Js y2.1 y2.2.1).bind λy3=>(FP y2.1 y2.2.1).bind λy4=>br (!(y3.2.1==y4.2.1)) (some (false,())) ((Jp y3.1 y4.1).bind λy5=>br (!y5.1) (some (false,())) ((JL y2.1 y2.2.1).bind λy6=>(G6 y2.1 y2.2.1).bind λy7=>br (!(y6.1==y7.1)) (some (false,())) ((Kq y2.1 y2.2.1).bind λy8=>(Ky y2.1 y2.2.1).bind λy9=>(NL y8.1 y9.1).bind λy10=>br (!y10.1) (some (false,())) (br (!(y3.2.1==0)) (some (true,())) ((EF y2.1.master).bind λy11=>(HY y3.1).bind λy12=>br (y12.1==y2.2.1) (iteP (0<=y11.1.primary/\y11.1.primary<(y2.1.servers.length:Int)) ((y2.1.servers[y11.1.primary.toNat]?).bind λx13=>(y2.1.servers[y11.1.primary.toNat]?).bind λx14=>iteP (0+x13.config.replicas.length<=x14.config.replicas.length) ((y2.1.servers[y11.1.primary.toNat]?).bind λx15=>iteP (0+x13.config.witnesses.length<=x15.config.witnesses.length) ((y2.1.servers[y11.1.primary.toNat]?).bind λx16=>iteP (0+x13.log.length<=x16.log.length) ((y2.1.servers[y11.1.primary.toNat]?).bind λx17=>iteP (0+x13.learned.length<=x17.learned.length) ((Fl (⟨x13.up,x13.intact,x13.version,x13.epoch,(⟨x13.config.epoch,x13.config.primary,((x14.config.replicas.drop 0).take x13.config.replicas.length),((x15.config.witnesses.drop 0).take x13.config.witnesses.length)⟩:nG),x13.first,((x16.log.drop 0).take x13.log.length),x13.commit,((x17.learned.drop 0).take x13.learned.length)⟩:qk)).bind λy18=>iteP (0<=y2.2.1/\y2.2.1<(y3.1.servers.length:Int)) ((y3.1.servers[y2.2.1.toNat]?).bind λx19=>(y3.1.servers[y2.2.1.toNat]?).bind λx20=>iteP (0+x19.log.length<=x20.log.length) ((Nx y18.1 ((x20.log.drop 0).take x19.log.length)).bind λy21=>br y21.1 (iteP (0<=y2.2.1/\y2.2.1<(y3.1.servers.length:Int)) ((y3.1.servers[y2.2.1.toNat]?).bind λx22=>iteP (0<=y11.1.primary/\y11.1.primary<(y2.1.servers.length:Int)) ((y2.1.servers[y11.1.primary.toNat]?).bind λx23=>some ((decide (((x22.log.length:Nat):Int)≥((x23.log.length:Nat):Int))),())) none) none) (some (false,()))) none) none) none) none) none) none) none) (some (false,()))))))))
def WB[dE] :=Fg 4 Tryz.f4 [.ty (.h)] [.b] (λx=>Nh x.1) [adR,QP,Tn,PA,Tj,P2,P7,Va,Vi,Yj,Gf,OT,Jv,X2] [] (by kernel_rfl) λx=>by simp only[Nh,tm];kernel_rfl
end
end Go.Proofs.YtkghndikalnipaaGreat.En
