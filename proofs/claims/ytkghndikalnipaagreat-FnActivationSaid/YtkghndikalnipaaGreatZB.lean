/- Printed by a program: the walk. -/
import Derived.Test.YtkghndikalnipaaGreatZB1
set_option linter.unusedSimpArgs false
set_option linter.unusedVariables false
namespace Go.Proofs.YtkghndikalnipaaGreat.En
open Go
noncomputable section
def JF(a0:kB)(a1:om):Option (kB×Bool×Unit):=
 (Jv a0).bind λy1=>(H2 a0).bind λy2=>br (!y2.1) (some (y1.1,false,())) ((G0 a1).bind λy3=>br (!y3.1) (some (y1.1,false,())) (br (!(a1.epoch==(IntKind.wrap .i64 ((a0.configs.length:Int)+1)))) (some (y1.1,false,())) ((GF a1).bind λy4=>iteP ((y1.1.configs++([y4.1]:List om)).length*64<=2 ^ 40) (some ((⟨(y1.1.configs++([y4.1]:List om)),y1.1.activated⟩:kB),true,())) none)))
def TE[dL] :=FB 123 Tryz.f123 acC Zb (λx=>JF x.1 x.2.1) [PJ,MJ,JJ,LK] [] (by kernel_rfl) λx=>by simp only[JF,tm];kernel_rfl
def KJ(a0:qN)(a1:om):Option (qN×Int×Unit):=
 (Gl a0).bind λy1=>(G7 a0).bind λy2=>br (!y2.1) (some (y1.1,1,())) ((JR a0).bind λy3=>br (!y3.1) (some (y1.1,8,())) ((JF a0.master a1).bind λy4=>br (!y4.2.1) (some (y1.1,1,())) (some ((⟨y1.1.now,y1.1.servers,y1.1.sides,y4.1,y1.1.masterUp,y1.1.lease,y1.1.places⟩:qN),0,()))))
def Vu[dL] :=FB 36 Tryz.f36 Y3 P8 (λx=>KJ x.1 x.2.1) [OH,KA,Q9,TE] [] (by kernel_rfl) λx=>by simp only[KJ,tm];kernel_rfl
abbrev Pn:LX:=⟨⟨[QB,aaP,Ob],[],[],0,30⟩,[(.ext 0,⟨[Ob],[],[],0,30⟩)],[],[0,1,5],[5]⟩
def Hu(s:acZ×Unit×Unit):Pn.R:=
 br (decide (s.1.2.2.1< (s.1.1.length:Int))) (br (decide (s.1.2.2.1< (s.1.2.1.length:Int))) (iteP (0<=s.1.2.2.1) ((s.1.1[s.1.2.2.1.toNat]?).bind λx4=>iteP (0<=s.1.2.2.1) ((s.1.2.1[s.1.2.2.1.toNat]?).bind λx5=>br ((x4.epoch==x5.epoch)&&((x4.op.client==x5.op.client)&&((x4.op.seq==x5.op.seq)&&((x4.op.kind==x5.op.kind)&&((x4.op.object==x5.op.object)&&((x4.op.old==x5.op.old)&&((x4.op.value==x5.op.value)&&true))))))) (some (.inl ((s.1.1,s.1.2.1,(IntKind.wrap .i64 (s.1.2.2.1+1)),()),(()),(())))) (some (.inr (s.1.2.2,(()),(()))))) none) none) (some (.inr (s.1.2.2,(()),(()))))) (some (.inr (s.1.2.2,(()),(()))))
def Mq:=md Hu
def SP[dL] :=Ik Tryz.f102 [0] Pn Hu [] [] (by kernel_rfl) λs=>by simp only[Hu,tm];kernel_rfl
def He(a0:List sf)(a1:List sf):Option (Int×Unit):=
 (Mq ((a0,a1,0,()),(()),(()))).bind λe6=>some e6.1
def Qk[dL] :=FB 102 Tryz.f102 Y4 Kk (λx=>He x.1 x.2.1) [] [SP] (by kernel_rfl) λx=>by simp only[He,tm];kernel_rfl
abbrev Po:LX:=⟨⟨[M9,acS,Ot,(27,.cl (.ro (.i .i64))),(28,.cl (.int .i64)),(29,.cl (.int .i64))],[KC],ZT,0,59⟩,[(.ext 0,⟨[Ot],[],[],0,59⟩)],[],[2,5,7,27,28,29],[7]⟩
def H6(s: (Unit×Unit×Int×List Int×Int×Int×Unit)×(NF×Unit)×List sf×Unit):Po.R:=
 br (decide (s.1.2.2.2.2.2.1<s.1.2.2.2.2.1)) (iteP (0<=s.1.2.2.2.2.2.1) ((s.1.2.2.2.1[s.1.2.2.2.2.2.1.toNat]?).bind λx18=>iteP (0<=x18) ((s.2.1.1.2.1[x18.toNat]?).bind λx19=>(He s.2.2.1 x19.learned).bind λy20=>(Jn x19 x18).bind λy21=>br y21.1 ((He s.2.2.1 x19.log).bind λy22=>some (.inl (((),(),(IntKind.wrap .i64 (s.1.2.2.1+(IntKind.wrap .i64 ((s.2.2.1.length:Int)-(if y22.1>y20.1 then y22.1 else y20.1))))),s.1.2.2.2.1,s.1.2.2.2.2.1,(IntKind.wrap .i64 (s.1.2.2.2.2.2.1+1)),()),s.2))) (some (.inl (((),(),(IntKind.wrap .i64 (s.1.2.2.1+(IntKind.wrap .i64 ((s.2.2.1.length:Int)-y20.1)))),s.1.2.2.2.1,s.1.2.2.2.2.1,(IntKind.wrap .i64 (s.1.2.2.2.2.2.1+1)),()),s.2)))) none) none) (some (.inr ((s.1.2.2.1,()),(()),(()))))
def O8:=md H6
def SQ[dL] :=Ik Tryz.f38 [0] Po H6 [Qk,Tb] [] (by kernel_rfl) λs=>by simp only[H6,tm];kernel_rfl
def J4(a0:qN)(a1:om):Option (Int×Unit):=
 (II a0 a1.primary).bind λy1=>(G0 a1).bind λy2=>br (!y2.1) (some ((-1),())) (br (!y1.2.1) (some ((-1),())) ((O8 (((),(),0,a1.replicas,(a1.replicas.length:Int),0,()),((a0.now,a0.servers,a0.sides,a0.master.configs,a0.master.activated,a0.masterUp,a0.lease.epoch,a0.lease.holder,a0.lease.ends,a0.places,()),()),y1.1,())).bind λe25=>some e25.1))
def Ut[dL] :=FB 38 Tryz.f38 Y3 Kk (λx=>J4 x.1 x.2.1) [S9,JJ] [SQ] (by kernel_rfl) λx=>by simp only[J4,tm];kernel_rfl
abbrev Mw:LX:=⟨⟨[M9,Se,acS,Ot,Pj],[KC,[.int .i64,.int .i64,.ro (.i .i64),.ro (.i .i64)]],ZT,0,74⟩,[(.ext 0,⟨[Ot],[],[],0,74⟩)],[],[2,3,5,7,8],[7]⟩
def H8(s: (Unit×Unit×Unit×Int×Int×Unit)×(NF×(Int×Int×List Int×List Int×Unit)×Unit)×List sf×Unit):Mw.R:=
 br (decide (s.1.2.2.2.2.1< (s.2.1.2.1.2.2.1.length:Int))) (iteP (0<=s.1.2.2.2.2.1) ((s.2.1.2.1.2.2.1[s.1.2.2.2.2.1.toNat]?).bind λx21=>iteP (0<=x21) ((s.2.1.1.2.1[x21.toNat]?).bind λx22=>(Gy x22.learned s.2.2.1).bind λy23=>(F8 x22.config x21).bind λy24=>let j29 (p28:Int):Mw.R:=some (.inl (((),(),(),p28,(IntKind.wrap .i64 (s.1.2.2.2.2.1+1)),()),s.2));br (y24.1==1) ((Gy x22.log s.2.2.1).bind λy25=>j29 (IntKind.wrap .i64 ((IntKind.wrap .i64 (s.1.2.2.2.1+(s.2.2.1.length:Int)))-(if y25.1>y23.1 then y25.1 else y23.1)))) (br (y24.1==2) ((Gy x22.log s.2.2.1).bind λy26=>j29 (IntKind.wrap .i64 ((IntKind.wrap .i64 (s.1.2.2.2.1+(s.2.2.1.length:Int)))-(if y26.1>y23.1 then y26.1 else y23.1)))) (j29 (IntKind.wrap .i64 ((IntKind.wrap .i64 (s.1.2.2.2.1+(s.2.2.1.length:Int)))-y23.1))))) none) none) (some (.inr ((s.1.2.2.2.1,()),(()),(()))))
def Pb:=md H8
def SU[dL] :=Ik Tryz.f39 [0] Mw H8 [Qo,N1] [] (by kernel_rfl) λs=>by simp only[H8,tm];kernel_rfl
def Kb(a0:qN)(a1:om):Option (Int×Unit):=
 (Ff a0).bind λy1=>br (!y1.1) (some ((-1),())) ((Fk a1).bind λy2=>br (!y2.1) (some ((-1),())) ((Gp a0 a1.primary).bind λy3=>br (!y3.2.1) (some ((-1),())) ((Pb (((),(),(),0,0,()),((a0.now,a0.servers,a0.sides,a0.master.configs,a0.master.activated,a0.masterUp,a0.lease.epoch,a0.lease.holder,a0.lease.ends,a0.places,()),(a1.epoch,a1.primary,a1.replicas,a1.witnesses,()),()),y3.1,())).bind λe30=>some e30.1)))
def UE[dL] :=FB 39 Tryz.f39 Y3 Kk (λx=>Kb x.1 x.2.1) [Fq,JK,Tg] [SU] (by kernel_rfl) λx=>by simp only[Kb,tm];kernel_rfl
def Ma(a0:List sf)(a1:List sf):Option (Bool×Unit):=
 (He a0 a1).bind λy1=>some ((y1.1==(a0.length:Int)),())
def Yc[dL] :=FB 30 Tryz.f30 Y4 [.b] (λx=>Ma x.1 x.2.1) [Qk] [] (by kernel_rfl) λx=>by simp only[Ma,tm];kernel_rfl
def J2(a0:qQ)(a1:Int):Option (Bool×Unit):=
 (Iv a0 a1).bind λy1=>br y1.1 (br a0.up ((Lu a0.config a1).bind λy2=>br (y2.1==1) (some ((a0.epoch==a0.config.epoch),())) (some (false,()))) (some (false,()))) (some (false,()))
def Ur[dL] :=FB 178 Tryz.f178 VN [.b] (λx=>J2 x.1 x.2.1) [PT,Us] [] (by kernel_rfl) λx=>by simp only[J2,tm];kernel_rfl
def GW(a0:qN)(a1:Int):Option (Bool×Unit):=
 (FK a0 a1).bind λy1=>br y1.1 (iteP (0<=a1) ((a0.servers[a1.toNat]?).bind λx2=>(J2 x2 a1).bind λy3=>some (y3.1,())) none) (some (false,()))
def Vw[dL] :=FB 67 Tryz.f67 M8 [.b] (λx=>GW x.1 x.2.1) [ML,Ur] [] (by kernel_rfl) λx=>by simp only[GW,tm];kernel_rfl
def RS(a0:qN)(a1:Int)(a2:Int):Option (Bool×Unit):=
 iteP (0<=a1) ((a0.servers[a1.toNat]?).bind λx1=>iteP (0<=a2) ((a0.servers[a2.toNat]?).bind λx2=>(IU a0.sides a1 a2).bind λy3=>br y3.1 (br x2.up (br (x2.epoch==x1.epoch) ((Gi x2.config x1.config).bind λy4=>br y4.1 (some ((decide (x2.commit<=(x1.log.length:Int))),())) (some (false,()))) (some (false,()))) (some (false,()))) (some (false,()))) none) none
def abQ[dL] :=FB 71 Tryz.f71 TP [.b] (λx=>RS x.1 x.2.1 x.2.2.1) [PI,Ji] [] (by kernel_rfl) λx=>by simp only[RS,tm];kernel_rfl
def I1(a0:Int)(a1:qN)(a2:om):Option (Bool×Unit):=
 (RS a1 a2.primary a0).bind λy1=>some ((!y1.1),())
def Q5[dL] :=FB 70 Tryz.f70 [.ty (.i .i64),.pr (.st .cluster),.pr (.st .config)] [.b] (λx=>I1 x.1 x.2.1 x.2.2.1) [abQ] [] (by kernel_rfl) λx=>by simp only[I1,tm];kernel_rfl
abbrev HN:LX:=⟨⟨[Pk,(1,.fn 70 [.pro (.st .cluster),.pro (.st .config)]),Ot,Pj],[],[],0,19⟩,[(.ret,⟨[Oq],[],[],0,19⟩),(.ext 0,⟨[Ph],[],[],0,19⟩)],[],[0,1,7,8],[4]⟩
def Fx(s: (List Int×(qN×om×Unit)×Int×Int×Unit)×Unit×Unit):HN.R:=
 br (decide (s.1.2.2.2.1<s.1.2.2.1)) (iteP (0<=s.1.2.2.2.1) ((s.1.1[s.1.2.2.2.1.toNat]?).bind λx6=>(I1 x6 s.1.2.1.1 s.1.2.1.2.1).bind λy7=>br y7.1 (some (.inr (.inl (s.1.2.2.2,(()),(()))))) (some (.inl ((s.1.1,s.1.2.1,s.1.2.2.1,(IntKind.wrap .i64 (s.1.2.2.2.1+1)),()),(()),(()))))) none) (some (.inr (.inr (((),()),(()),(())))))
def GK:=md Fx
def KE[dL] :=Ik Tryz.f179 [0] HN Fx [Q5] [] (by kernel_rfl) λs=>by simp only[Fx,tm];kernel_rfl
def Gf(a0:List Int)(a1_0:qN)(a1_1:om):Option (Int×Unit):=
 (GK ((a0,(a1_0,a1_1,()),(a0.length:Int),0,()),(()),(()))).bind λe8=>Sum.elim (λe8_0=>some e8_0.1) (λ_=>some ((-1),())) e8
def KV[dL] :=FB 179 Tryz.f179 [.ty (.ls (.i .i64)),.fn 70 Zd] Kk (λx=>Gf x.1 x.2.1.1 x.2.1.2.1) [] [KE] (by kernel_rfl) λx=>by simp only[Gf,tm];kernel_rfl
def F4(a0:List Int)(a1_0:qN)(a1_1:om):Option (Bool×Unit):=
 (Gf a0 a1_0 a1_1).bind λy1=>some ((decide (y1.1≥0)),())
def Ki[dL] :=FB 68 Tryz.f68 [.ty (.ls (.i .i64)),.fn 70 Zd] [.b] (λx=>F4 x.1 x.2.1.1 x.2.1.2.1) [KV] [] (by kernel_rfl) λx=>by simp only[F4,tm];kernel_rfl
def Jb(a0:qN):Option (Int×Unit):=
 (FL a0.master).bind λy1=>br (!y1.2.1) (some ((-1),())) ((GW a0 y1.1.primary).bind λy2=>br (!y2.1) (some ((-1),())) (iteP (0<=y1.1.primary) ((a0.servers[y1.1.primary.toNat]?).bind λx3=>br (!(x3.config.epoch==y1.1.epoch)) (some ((-1),())) ((J3 y1.1).bind λy4=>(F4 y4.1 a0 y1.1).bind λy5=>br y5.1 (some ((-1),())) (some (y1.1.primary,())))) none))
def Sz[dL] :=FB 14 Tryz.f14 SN Kk (λx=>Jb x.1) [K5,Vw,Ql,Ki] [] (by kernel_rfl) λx=>by simp only[Jb,tm];kernel_rfl
def Lh(a0:qN):Option (Bool×Unit):=
 (Jb a0).bind λy1=>some ((!(y1.1==(-1))),())
def Xl[dL] :=FB 12 Tryz.f12 SN [.b] (λx=>Lh x.1) [Sz] [] (by kernel_rfl) λx=>by simp only[Lh,tm];kernel_rfl
abbrev OE:LX:=⟨⟨[Pi,(14,.cl (.ptr 1 0)),(16,.cl (.own 0 (.i .i64))),(17,.cl (.row 1 9 7)),(18,.cl (.int .i64))],[XJ,[.int .i64,.int .i64,.own 5 (.i .i64),.own 6 (.i .i64)]],[.i .i64,.st .server,.i .i64,.st .config,.st .place,.i .i64,.i .i64],0,146⟩,[(.ret,⟨[Oz,Pi],[VP],XK,0,146⟩),(.ext 0,⟨[Nr,Pi],[VP],XK,0,146⟩)],[],[4,14,16,17,18],[2,4]⟩
def JW(s: (Unit×Unit×Unit×(Nat×Nat×Nat)×Int×Unit)×(Nh×Sg×Unit)×List Int×List qQ×List Int×List om×List vB×List Int×List Int×Unit):OE.R:=
 br (decide (s.1.2.2.2.2.1< (s.2.2.1.length:Int))) (iteP (0<=s.1.2.2.2.2.1/\s.1.2.2.2.2.1< (s.2.2.1.length:Int)) ((s.2.2.1[s.1.2.2.2.2.1.toNat]?).bind λx32=>iteP (0<=x32/\x32< (s.2.2.2.1.length:Int)) ((s.2.2.2.1[x32.toNat]?).bind λx33=>br (!(x33.epoch==s.2.1.2.1.1)) (some (.inr (.inl ((false,(),()),(s.2.1.1,()),s.2.2.2.1,s.2.2.2.2.1,s.2.2.2.2.2.1,s.2.2.2.2.2.2.1,())))) (br (!(x33.commit==((s.1.2.2.2.1.2.2:Nat):Int))) (some (.inr (.inl ((false,(),()),(s.2.1.1,()),s.2.2.2.1,s.2.2.2.2.1,s.2.2.2.2.2.1,s.2.2.2.2.2.2.1,())))) (iteP (0<=x33.first/\x33.first<=((s.1.2.2.2.1.2.2:Nat):Int)/\((s.1.2.2.2.1.2.2:Nat):Int)<=((s.1.2.2.2.1.2.2:Nat):Int)) ((s.2.2.2.1[x32.toNat]?).bind λx34=>iteP (0+x33.log.length<=x34.log.length) ((s.2.2.2.1[s.1.2.2.2.1.1]?).bind λx35=>iteP ((s.1.2.2.2.1.2.1+x33.first.toNat)+(((s.1.2.2.2.1.2.2:Nat):Int).toNat-x33.first.toNat)<=x35.log.length) ((Ma ((x34.log.drop 0).take x33.log.length) ((x35.log.drop (s.1.2.2.2.1.2.1+x33.first.toNat)).take (((s.1.2.2.2.1.2.2:Nat):Int).toNat-x33.first.toNat))).bind λy36=>br (!y36.1) (some (.inr (.inl ((false,(),()),(s.2.1.1,()),s.2.2.2.1,s.2.2.2.2.1,s.2.2.2.2.2.1,s.2.2.2.2.2.2.1,())))) ((s.2.2.2.1[x32.toNat]?).bind λx37=>iteP (0+x33.config.replicas.length<=x37.config.replicas.length) ((s.2.2.2.1[x32.toNat]?).bind λx38=>iteP (0+x33.config.witnesses.length<=x38.config.witnesses.length) ((Gi (⟨x33.config.epoch,x33.config.primary,((x37.config.replicas.drop 0).take x33.config.replicas.length),((x38.config.witnesses.drop 0).take x33.config.witnesses.length)⟩:om) (⟨s.2.1.2.1.1,s.2.1.2.1.2.1,s.2.2.2.2.2.2.2.1,s.2.2.2.2.2.2.2.2.1⟩:om)).bind λy39=>br (!y39.1) (some (.inr (.inl ((false,(),()),(s.2.1.1,()),s.2.2.2.1,s.2.2.2.2.1,s.2.2.2.2.2.1,s.2.2.2.2.2.2.1,())))) (some (.inl (((),(),(),s.1.2.2.2.1,(IntKind.wrap .i64 (s.1.2.2.2.2.1+1)),()),s.2)))) none) none)) none) none) none))) none) none) (some (.inr (.inr (((),(),()),(s.2.1.1,()),s.2.2.2.1,s.2.2.2.2.1,s.2.2.2.2.2.1,s.2.2.2.2.2.2.1,()))))
def Sc:=md JW
def Su[dL] :=Ik Tryz.f5 [0] OE JW [Yc,Ji] [] (by kernel_rfl) λs=>by simp only[JW,tm];kernel_rfl
def LJ[dL](a0:Hd):Option (Bool×Unit):=
 (aal a0).bind λy1=>br y1.1 (some (true,())) ((J7 a0).bind λy2=>(NM y2.1).bind λy3=>(HQ y2.1).bind λy4=>br (!(y3.2.1==y4.2.1)) (some (false,())) ((Iu y3.1 y4.1).bind λy5=>br (!y5.1) (some (false,())) ((IM a0).bind λy6=>(KJ y6.1 y6.2.1).bind λy7=>(GX y6.1 y6.2.1).bind λy8=>br (!(y7.2.1==y8.2.1)) (some (false,())) ((Iu y7.1 y8.1).bind λy9=>br (!y9.1) (some (false,())) ((J4 y6.1 y6.2.1).bind λy10=>(Kb y6.1 y6.2.1).bind λy11=>br (!(y10.1==y11.1)) (some (false,())) (br (!(y3.2.1==0)) (some (true,())) ((Fm y3.1.master).bind λy12=>(FV y12.1).bind λy13=>iteP (0<=y12.1.primary/\y12.1.primary< (y3.1.servers.length:Int)) ((y3.1.servers[y12.1.primary.toNat]?).bind λx14=>(Sc (((),(),(),(y12.1.primary.toNat,0,x14.log.length),0,()),((y3.1.now,(),(),(),y3.1.master.activated,y3.1.masterUp,y3.1.lease.epoch,y3.1.lease.holder,y3.1.lease.ends,(),()),(y12.1.epoch,y12.1.primary,(),(),()),()),y13.1,y3.1.servers,y3.1.sides,y3.1.master.configs,y3.1.places,y12.1.replicas,y12.1.witnesses,())).bind λe40=>Sum.elim (λe40_0=>some (e40_0.1.1,())) (λe40_1=>(Lh (⟨e40_1.2.1.1.1,e40_1.2.2.1,e40_1.2.2.2.1,(⟨e40_1.2.2.2.2.1,e40_1.2.1.1.2.2.2.2.1⟩:kB),e40_1.2.1.1.2.2.2.2.2.1,(⟨e40_1.2.1.1.2.2.2.2.2.2.1,e40_1.2.1.1.2.2.2.2.2.2.2.1,e40_1.2.1.1.2.2.2.2.2.2.2.2.1⟩:vz),e40_1.2.2.2.2.2.1⟩:qN)).bind λy41=>br y41.1 (some (((e40_1.2.1.1.2.2.2.2.2.2.1==0)&&((e40_1.2.1.1.2.2.2.2.2.2.2.1==0)&&((e40_1.2.1.1.2.2.2.2.2.2.2.2.1==0)&&true))),())) (some (false,()))) e40) none)))))))
def UM[dL] :=FB 5 Tryz.f5 [.ty (.h)] [.b] (λx=>LJ x.1) [adS,Ux,Yb,PL,TC,R3,Vu,KR,Ut,UE,Hm,Jo,Xl] [Su] (by kernel_rfl) λx=>by simp only[LJ,tm];kernel_rfl
end
end Go.Proofs.YtkghndikalnipaaGreat.En
