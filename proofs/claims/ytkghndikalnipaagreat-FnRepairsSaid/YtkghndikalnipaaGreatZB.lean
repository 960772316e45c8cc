/- Printed by a program: the walk. -/
import Derived.Test.YtkghndikalnipaaGreatZB1
set_option linter.unusedSimpArgs false
set_option linter.unusedVariables false
namespace Go.Proofs.YtkghndikalnipaaGreat.En
open Go.IntKind renaming wrap→acK
open Go
noncomputable section
abbrev GY:LX:=⟨⟨[M2,(1,.fn 110 Zj),M3,NC],[],[],0,19⟩,[(.ret,⟨[LP],[],[],0,19⟩),(.ext 0,⟨[MR],[],[],0,19⟩)],[],[0,1,7,8],[4]⟩
def DA(s: (List Int×Zb×Int×Int×Unit)×Unit×Unit):GY.R:=
 br (decide (s.1.2.2.2.1<s.1.2.2.1)) (iteP (0<=s.1.2.2.2.1) ((s.1.1[s.1.2.2.2.1.toNat]?).bind λx5=>(IV x5 s.1.2.1.1).bind λy6=>br y6.1 (some (.inr (.inl (s.1.2.2.2,(()),(()))))) (some (.inl ((s.1.1,s.1.2.1,s.1.2.2.1,(acK .i64 (s.1.2.2.2.1+1)),()),(()),(()))))) none) (some (.inr (.inr (((),()),(()),(())))))
def Fp:=mu DA
def Kk[dp] :=F6 Tryz.f179 [0] GY DA [Tx] [] (by kernel_rfl) λs=>by simp only[DA,tm];kernel_rfl
def EJ(a0:List Int)(a1_0:oZ):Option (Int×Unit):=
 (Fp ((a0,(a1_0,()),(a0.length:Int),0,()),(()),(()))).bind λe7=>Sum.elim (λe7_0=>some e7_0.1) (λ_=>some ((-1),())) e7
def Le[dp] :=Dh 179 Tryz.f179 [.ty (.ls (.i .i64)),.fn 110 RR] Iv (λx=>EJ x.1 x.2.1.1) [] [Kk] (by kernel_rfl) λx=>by simp only[EJ,tm];kernel_rfl
def Dv(a0:List Int)(a1_0:oZ):Option (Bool×Unit):=
 (EJ a0 a1_0).bind λy1=>some ((decide (y1.1≥0)),())
def J1[dp] :=Dh 68 Tryz.f68 [.ty (.ls (.i .i64)),.fn 110 RR] [.b] (λx=>Dv x.1 x.2.1.1) [Le] [] (by kernel_rfl) λx=>by simp only[Dv,tm];kernel_rfl
def KS(a0:Op):Option (Bool×Unit):=
 some ((a0.kind==2),())
def TB[dp] :=Dh 136 Tryz.f136 VI [.b] (λx=>KS x.1) [] [] (by kernel_rfl) λx=>by simp only[KS,tm];kernel_rfl
def H4(a0:pZ):Option (Bool×Unit):=
 (KS a0.op).bind λy1=>some (y1.1,())
def Qt[dp] :=Dh 206 Tryz.f206 [.ty (.st .entry)] [.b] (λx=>H4 x.1) [TB] [] (by kernel_rfl) λx=>by simp only[H4,tm];kernel_rfl
abbrev FO:LX:=⟨⟨[Ly,(1,.cl (.fc 206)),M3,NC],[],[],0,19⟩,[(.ret,⟨[LP],[],[],0,19⟩),(.ext 0,⟨[MR],[],[],0,19⟩)],[],[0,1,7,8],[4]⟩
def Da(s:abi×Unit×Unit):FO.R:=
 br (decide (s.1.2.2.2.1<s.1.2.2.1)) (iteP (0<=s.1.2.2.2.1) ((s.1.1[s.1.2.2.2.1.toNat]?).bind λx4=>(H4 x4).bind λy5=>br y5.1 (some (.inr (.inl (s.1.2.2.2,(()),(()))))) (some (.inl ((s.1.1,(),s.1.2.2.1,(acK .i64 (s.1.2.2.2.1+1)),()),(()),(()))))) none) (some (.inr (.inr (((),()),(()),(())))))
def EA:=mu Da
def IM[dp] :=F6 Tryz.f144 [0] FO Da [Qt] [] (by kernel_rfl) λs=>by simp only[Da,tm];kernel_rfl
def DZ(a0:List pZ):Option (Int×Unit):=
 (EA ((a0,(),(a0.length:Int),0,()),(()),(()))).bind λe6=>Sum.elim (λe6_0=>some e6_0.1) (λ_=>some ((-1),())) e6
def I8[dp] :=Dh 144 Tryz.f144 aa2 Iv (λx=>DZ x.1) [] [IM] (by kernel_rfl) λx=>by simp only[DZ,tm];kernel_rfl
def DP(a0:List pZ):Option (Bool×Unit):=
 (DZ a0).bind λy1=>some ((decide (y1.1≥0)),())
def Ir[dp] :=Dh 205 Tryz.f205 aa2 [.b] (λx=>DP x.1) [I8] [] (by kernel_rfl) λx=>by simp only[DP,tm];kernel_rfl
def Hc(a0:List pZ):Option (Bool×Unit):=
 (DP a0).bind λy1=>some (y1.1,())
def OH[dp] :=Dh 111 Tryz.f111 QD [.b] (λx=>Hc x.1) [Ir] [] (by kernel_rfl) λx=>by simp only[Hc,tm];kernel_rfl
def KQ(a0:Int)(a1:oZ):Option (Bool×Unit):=
 iteP (0<=a0) ((a1.servers[a0.toNat]?).bind λx1=>some ((x1.version==1),())) none
def Tz[dp] :=Dh 112 Tryz.f112 aa1 [.b] (λx=>KQ x.1 x.2.1) [] [] (by kernel_rfl) λx=>by simp only[KQ,tm];kernel_rfl
abbrev GZ:LX:=⟨⟨[M2,(1,.fn 112 Zj),M3,NC],[],[],0,19⟩,[(.ret,⟨[LP],[],[],0,19⟩),(.ext 0,⟨[MR],[],[],0,19⟩)],[],[0,1,7,8],[4]⟩
def Dj(s: (List Int×Zb×Int×Int×Unit)×Unit×Unit):GZ.R:=
 br (decide (s.1.2.2.2.1<s.1.2.2.1)) (iteP (0<=s.1.2.2.2.1) ((s.1.1[s.1.2.2.2.1.toNat]?).bind λx5=>(KQ x5 s.1.2.1.1).bind λy6=>br y6.1 (some (.inr (.inl (s.1.2.2.2,(()),(()))))) (some (.inl ((s.1.1,s.1.2.1,s.1.2.2.1,(acK .i64 (s.1.2.2.2.1+1)),()),(()),(()))))) none) (some (.inr (.inr (((),()),(()),(())))))
def Fq:=mu Dj
def Kl[dp] :=F6 Tryz.f179 [0] GZ Dj [Tz] [] (by kernel_rfl) λs=>by simp only[Dj,tm];kernel_rfl
def EK(a0:List Int)(a1_0:oZ):Option (Int×Unit):=
 (Fq ((a0,(a1_0,()),(a0.length:Int),0,()),(()),(()))).bind λe7=>Sum.elim (λe7_0=>some e7_0.1) (λ_=>some ((-1),())) e7
def Lf[dp] :=Dh 179 Tryz.f179 [.ty (.ls (.i .i64)),.fn 112 RR] Iv (λx=>EK x.1 x.2.1.1) [] [Kl] (by kernel_rfl) λx=>by simp only[EK,tm];kernel_rfl
def Dw(a0:List Int)(a1_0:oZ):Option (Bool×Unit):=
 (EK a0 a1_0).bind λy1=>some ((decide (y1.1≥0)),())
def J2[dp] :=Dh 68 Tryz.f68 [.ty (.ls (.i .i64)),.fn 112 RR] [.b] (λx=>Dw x.1 x.2.1.1) [Lf] [] (by kernel_rfl) λx=>by simp only[Dw,tm];kernel_rfl
def Nc(a0:List pZ):Option (Int×(List pZ)×Unit):=
 (H3 a0).bind λy1=>br (!y1.1) (some (0,([]:List pZ),())) (iteP (0<=(if (acK .i64 ((a0.length:Int)-3))>0 then (acK .i64 ((a0.length:Int)-3)) else 0)/\(if (acK .i64 ((a0.length:Int)-3))>0 then (acK .i64 ((a0.length:Int)-3)) else 0)<=(a0.length:Int)/\(a0.length:Int)<=(a0.length:Int)) ((DW ((a0.drop (if (acK .i64 ((a0.length:Int)-3))>0 then (acK .i64 ((a0.length:Int)-3)) else 0).toNat).take ((a0.length:Int).toNat-(if (acK .i64 ((a0.length:Int)-3))>0 then (acK .i64 ((a0.length:Int)-3)) else 0).toNat))).bind λy2=>some ((if (acK .i64 ((a0.length:Int)-3))>0 then (acK .i64 ((a0.length:Int)-3)) else 0),y2.1,())) none)
def XL[dp] :=Dh 209 Tryz.f209 QD Zd (λx=>Nc x.1) [Qq,Hm] [] (by kernel_rfl) λx=>by simp only[Nc,tm];kernel_rfl
def HF(a0:o4)(a1:mD)(a2:Int)(a3:List pZ):Option (o4×Bool×Unit):=
 (JN a1 a2).bind λy1=>br (y1.1==0) ((EV a0).bind λy2=>some (y2.1,false,())) ((H3 a3).bind λy3=>br (!y3.1) ((EV a0).bind λy4=>some (y4.1,false,())) ((C0 a0.version 1 2).bind λy5=>br (!y5.1) ((EV a0).bind λy6=>some (y6.1,false,())) ((C0 a0.epoch 0 a1.epoch).bind λy7=>br (!y7.1) ((EV a0).bind λy8=>some (y8.1,false,())) ((Ie a3).bind λy9=>br (decide (y9.1>a1.epoch)) ((EV a0).bind λy10=>some (y10.1,false,())) (let j18:Option (o4×Bool×Unit):=(Ey a1).bind λy13=>(DW a3).bind λy14=>br (y1.1==3) ((Nc a3).bind λy15=>some ((⟨a0.up,true,a0.version,a1.epoch,y13.1,y15.1,y15.2.1,(a3.length:Int),([]:List pZ)⟩:o4),true,())) (some ((⟨a0.up,true,a0.version,a1.epoch,y13.1,0,y14.1,(a3.length:Int),([]:List pZ)⟩:o4),true,()));br (a0.version==1) ((Hc a3).bind λy11=>br y11.1 ((EV a0).bind λy12=>some (y12.1,false,())) (j18)) (j18))))))
def RE[dp] :=Dh 113 Tryz.f113 aaU Xk (λx=>HF x.1 x.2.1 x.2.2.1 x.2.2.2.1) [Sr,NZ,Qq,D9,OI,OH,JZ,Hm,XL] [] (by kernel_rfl) λx=>by simp only[HF,tm];kernel_rfl
def G9(a0:jw)(a1:Int):Option (jw×Bool×Unit):=
 (Hx a0).bind λy1=>(F3 a0).bind λy2=>br (!y2.1) (some (y1.1,false,())) (br (!(a1==(a0.configs.length:Int))) (some (y1.1,false,())) (br (decide (a1<=a0.activated)) (some (y1.1,false,())) (some ((⟨y1.1.configs,a1⟩:jw),true,()))))
def QN[dp] :=Dh 114 Tryz.f114 Xd Xj (λx=>G9 x.1 x.2.1) [NY,KT] [] (by kernel_rfl) λx=>by simp only[G9,tm];kernel_rfl
abbrev PH:LX:=⟨⟨[LQ,Rn,Y1,Rs,(101,.cl (.own 1 (.i .i64))),(102,.cl (.int .i64)),(103,.cl (.int .i64))],[Li,Zf,[.int .i64,.own 4 (.st .server),.own 5 (.i .i64),.own 6 (.st .config),.int .i64,.int .i64,.int .i64,.int .i64,.int .i64,.own 7 (.st .place)]],[.st .entry,.i .i64,.i .i64,.i .i64,.st .server,.i .i64,.st .config,.st .place],0,136⟩,[(.ext 1,⟨[LQ,Rn,Y1],[Li,Zh,TW],[.i .i64,.i .i64,.st .server,.i .i64,.st .config,.st .place],0,136⟩)],[],[2,4,6,7,101,102,103],[2,4,6]⟩
def HQ(s: (Unit×Unit×Unit×Unit×Unit×Int×Int×Unit)×(LR×QZ×LR×Unit)×List pZ×List Int×List Int×List Int×List o4×List Int×List mD×List tc×Unit):PH.R:=
 br (decide (s.1.2.2.2.2.2.2.1<s.1.2.2.2.2.2.1)) (iteP (0<=s.1.2.2.2.2.2.2.1/\s.1.2.2.2.2.2.2.1< (s.2.2.2.1.length:Int)) ((s.2.2.2.1[s.1.2.2.2.2.2.2.1.toNat]?).bind λx44=>iteP (0<=x44/\x44< (s.2.2.2.2.2.2.1.length:Int)) ((s.2.2.2.2.2.2.1[x44.toNat]?).bind λx45=>(s.2.2.2.2.2.2.1[x44.toNat]?).bind λx46=>iteP (0+x45.config.replicas.length<=x46.config.replicas.length) ((s.2.2.2.2.2.2.1[x44.toNat]?).bind λx47=>iteP (0+x45.config.witnesses.length<=x47.config.witnesses.length) ((s.2.2.2.2.2.2.1[x44.toNat]?).bind λx48=>iteP (0+x45.log.length<=x48.log.length) ((s.2.2.2.2.2.2.1[x44.toNat]?).bind λx49=>iteP (0+x45.learned.length<=x49.learned.length) ((HF (⟨x45.up,x45.intact,x45.version,x45.epoch,(⟨x45.config.epoch,x45.config.primary,((x46.config.replicas.drop 0).take x45.config.replicas.length),((x47.config.witnesses.drop 0).take x45.config.witnesses.length)⟩:mD),x45.first,((x48.log.drop 0).take x45.log.length),x45.commit,((x49.learned.drop 0).take x45.learned.length)⟩:o4) (⟨s.2.1.2.1.1,s.2.1.2.1.2.1,s.2.2.2.2.1,s.2.2.2.2.2.1⟩:mD) x44 s.2.2.1).bind λy50=>iteP (0<=x44/\x44< (s.2.2.2.2.2.2.1.length:Int)) ((s.2.2.2.2.2.2.1[x44.toNat]?).bind λ_=>some (.inl (((),(),(),(),(),s.1.2.2.2.2.2.1,(acK .i64 (s.1.2.2.2.2.2.2.1+1)),()),s.2.1,s.2.2.1,s.2.2.2.1,s.2.2.2.2.1,s.2.2.2.2.2.1,(s.2.2.2.2.2.2.1.set x44.toNat y50.1),s.2.2.2.2.2.2.2))) none) none) none) none) none) none) none) (some (.inr (((),(),(),()),s.2.1,s.2.2.2.2)))
def Pz:=mu HQ
def TY[dp] :=F6 Tryz.f33 [0] PH HQ [RE] [] (by kernel_rfl) λs=>by simp only[HQ,tm];kernel_rfl
def Ko(a0:oZ):Option (oZ×Int×Unit):=
 (JM a0.master).bind λy1=>(DL a0).bind λy2=>br (!y2.1) ((De a0).bind λy3=>some (y3.1,1,())) (br (!y1.2.1) ((De a0).bind λy4=>some (y4.1,1,())) (br (decide (y1.1.epoch<=a0.master.activated)) ((De a0).bind λy5=>some (y5.1,1,())) ((F4 a0).bind λy6=>br (!y6.1) ((De a0).bind λy7=>some (y7.1,8,())) (iteP (0<=y1.1.primary) ((a0.servers[y1.1.primary.toNat]?).bind λx8=>br (!x8.up) ((De a0).bind λy9=>some (y9.1,2,())) (iteP (0<=y1.1.primary) ((a0.sides[y1.1.primary.toNat]?).bind λx10=>br (!(x10==0)) ((De a0).bind λy11=>some (y11.1,10,())) ((Fz a0.lease a0.now).bind λy12=>br (!y12.1) ((De a0).bind λy13=>some (y13.1,7,())) ((FA a0 y1.1.primary y1.1.epoch).bind λy14=>(Ho y14.1 y1.1.primary).bind λy15=>br (!y15.2.1) (some (y14.1,9,())) ((Ib y1.1).bind λy16=>(Dv y16.1 y14.1).bind λy17=>br y17.1 (some (y14.1,10,())) ((Hc y15.1).bind λy18=>let j55:Option (oZ×Int×Unit):=(Pz (((),(),(),(),(),(y16.1.length:Int),0,()),((0,(),(),(),0,0,0,0,0,(),()),(y1.1.epoch,y1.1.primary,(),(),()),(y14.1.now,(),(),(),y14.1.master.activated,y14.1.masterUp,y14.1.lease.epoch,y14.1.lease.holder,y14.1.lease.ends,(),()),()),y15.1,y16.1,y1.1.replicas,y1.1.witnesses,y14.1.servers,y14.1.sides,y14.1.master.configs,y14.1.places,())).bind λe53=>(G9 (⟨e53.2.2.2.2.2.2.1,e53.2.1.2.2.1.2.2.2.2.1⟩:jw) e53.2.1.2.1.1).bind λy54=>some ((⟨e53.2.1.2.2.1.1,e53.2.2.2.2.1,e53.2.2.2.2.2.1,y54.1,e53.2.1.2.2.1.2.2.2.2.2.1,(⟨0,0,0⟩:s7),e53.2.2.2.2.2.2.2.1⟩:oZ),0,());br y18.1 ((Dw y16.1 y14.1).bind λy19=>br y19.1 (some (y14.1,6,())) (j55)) (j55)))))) none)) none))))
def Wk[dp] :=Dh 33 Tryz.f33 QY M4 (λx=>Ko x.1) [Uz,E4,HX,MW,Pu,TF,Vn,OE,(B3 1 110 J1 J2 rfl),OH,QN] [TY] (by kernel_rfl) λx=>by simp only[Ko,tm];kernel_rfl
def Qk(a0:oZ)(a1:Int):Option (Int×Unit):=
 (Dk a0 a1).bind λy1=>br (!y1.1) (some (1,())) (iteP (0<=a1) ((a0.servers[a1.toNat]?).bind λx2=>br (!x2.up) (some (2,())) (some (0,()))) none)
def YG[dp] :=Dh 163 Tryz.f163 Ki Iv (λx=>Qk x.1 x.2.1) [I4] [] (by kernel_rfl) λx=>by simp only[Qk,tm];kernel_rfl
def JL(a0:s7)(a1:Int)(a2:Int)(a3:Int)(a4:Int):Option (s7×Bool×Unit):=
 br (a0.epoch==a1) ((FM a0).bind λy1=>br (!y1.1) (some (a0,false,())) ((C0 a1 1 20).bind λy2=>br (!y2.1) (some (a0,false,())) ((C0 a2 0 4).bind λy3=>br (!y3.1) (some (a0,false,())) ((C0 a3 0 999).bind λy4=>br (!y4.1) (some (a0,false,())) ((C0 a4 1 50).bind λy5=>br (!y5.1) (some (a0,false,())) (br (!(a0.holder==a2)) ((Fz a0 a3).bind λy6=>br (!y6.1) (some (a0,false,())) (br (a0.holder==a2) (some ((⟨a1,a2,(if a0.ends>(acK .i64 (a3+a4)) then a0.ends else (acK .i64 (a3+a4)))⟩:s7),true,())) (some ((⟨a1,a2,(acK .i64 (a3+a4))⟩:s7),true,())))) (br (a0.holder==a2) (some ((⟨a1,a2,(if a0.ends>(acK .i64 (a3+a4)) then a0.ends else (acK .i64 (a3+a4)))⟩:s7),true,())) (some ((⟨a1,a2,(acK .i64 (a3+a4))⟩:s7),true,()))))))))) ((FM a0).bind λy10=>br (!y10.1) (some (a0,false,())) ((C0 a1 1 20).bind λy11=>br (!y11.1) (some (a0,false,())) ((C0 a2 0 4).bind λy12=>br (!y12.1) (some (a0,false,())) ((C0 a3 0 999).bind λy13=>br (!y13.1) (some (a0,false,())) ((C0 a4 1 50).bind λy14=>br (!y14.1) (some (a0,false,())) (br (!false) ((Fz a0 a3).bind λy15=>br (!y15.1) (some (a0,false,())) (some ((⟨a1,a2,(acK .i64 (a3+a4))⟩:s7),true,()))) (some ((⟨a1,a2,(acK .i64 (a3+a4))⟩:s7),true,()))))))))
def Uy[dp] :=Dh 164 Tryz.f164 aaK [.st .lease,.b] (λx=>JL x.1 x.2.1 x.2.2.1 x.2.2.2.1 x.2.2.2.2.1) [Pm,D9,Pu] [] (by kernel_rfl) λx=>by simp only[JL,tm];kernel_rfl
def IG(a0:oZ)(a1:Int)(a2:Int):Option (oZ×Int×Unit):=
 (De a0).bind λy1=>(Qk a0 a1).bind λy2=>br (!(y2.1==0)) (some (y1.1,y2.1,())) ((Eb a0 a1).bind λy3=>br (!y3.1) (some (y1.1,3,())) ((F4 a0).bind λy4=>br (!y4.1) (some (y1.1,8,())) (iteP (0<=a1) ((a0.sides[a1.toNat]?).bind λx5=>br (!(x5==0)) (some (y1.1,8,())) (iteP (0<=a1) ((a0.servers[a1.toNat]?).bind λx6=>br (decide ((a0.master.configs.length:Int)>x6.config.epoch)) (some (y1.1,11,())) (iteP (0<=a1) ((a0.servers[a1.toNat]?).bind λx7=>(JL a0.lease x7.config.epoch a1 a0.now a2).bind λy8=>br (!y8.2.1) (some (y1.1,7,())) (some ((⟨y1.1.now,y1.1.servers,y1.1.sides,y1.1.master,y1.1.masterUp,y8.1,y1.1.places⟩:oZ),0,()))) none)) none)) none)))
def UA[dp] :=Dh 54 Tryz.f54 P1 M4 (λx=>IG x.1 x.2.1 x.2.2.1) [HX,YG,Pv,MW,Uy] [] (by kernel_rfl) λx=>by simp only[IG,tm];kernel_rfl
def IY(a0:oZ)(a1:Int)(a2:Int):Option (oZ×Int×Unit):=
 (DL a0).bind λy1=>br (!y1.1) ((De a0).bind λy2=>some (y2.1,1,())) ((C0 a2 1 50).bind λy3=>br (!y3.1) ((De a0).bind λy4=>some (y4.1,1,())) ((Ia a0).bind λy5=>br y5.1 ((De a0).bind λy6=>some (y6.1,0,())) ((GG a0 a1 0).bind λy7=>br (!y7.2.1) ((De a0).bind λy8=>some (y8.1,10,())) ((IX a0 y7.1).bind λy9=>br (y9.2.1==0) ((Jr y9.1.lease).bind λy10=>(L6 y9.1 (if (acK .i64 (y10.1-y9.1.now))>0 then (acK .i64 (y10.1-y9.1.now)) else 0)).bind λy11=>br (!(y11.2.1==0)) ((De a0).bind λy26=>some (y26.1,y11.2.1,())) ((Ko y11.1).bind λy27=>br (!(y27.2.1==0)) (some (y27.1,y27.2.1,())) ((IG y27.1 y7.1.primary a2).bind λy28=>some (y28.1,y28.2.1,())))) (br (!(y9.2.1==0)) ((De a0).bind λy29=>some (y29.1,y9.2.1,())) ((Ko y9.1).bind λy30=>br (!(y30.2.1==0)) (some (y30.1,y30.2.1,())) ((IG y30.1 y7.1.primary a2).bind λy31=>some (y31.1,y31.2.1,()))))))))
def TE[dp] :=Dh 9 Tryz.f9 P1 M4 (λx=>IY x.1 x.2.1 x.2.2.1) [E4,HX,D9,Rb,Qr,TD,Ss,Wm,Wk,UA] [] (by kernel_rfl) λx=>by simp only[IY,tm];kernel_rfl
def FY(a0:o4)(a1:o4):Option (Bool×Unit):=
 br (a0.up==a1.up) (br (a0.intact==a1.intact) (br (a0.version==a1.version) (br (a0.epoch==a1.epoch) ((Es a0.config a1.config).bind λy1=>br y1.1 (br (a0.first==a1.first) ((FJ a0.log a1.log).bind λy2=>br y2.1 (br (a0.commit==a1.commit) ((FJ a0.learned a1.learned).bind λy3=>some (y3.1,())) (some (false,()))) (some (false,()))) (some (false,()))) (some (false,()))) (some (false,()))) (some (false,()))) (some (false,()))) (some (false,()))
def Pq[dp] :=Dh 62 Tryz.f62 [.ty (.st .server),.ty (.st .server)] [.b] (λx=>FY x.1 x.2.1) [Hl,OO] [] (by kernel_rfl) λx=>by simp only[FY,tm];kernel_rfl
abbrev Fs:LX:=⟨⟨[(1,.cl (.ro (.st .server))),(2,.cl (.fc 62)),(15,.cl (.ro (.st .server))),Y3,(17,.cl (.int .i64))],[],[],0,32⟩,[(.ret,⟨[(6,.cl (.bl))],[],[],0,32⟩),(.ext 0,⟨[YX],[],[],0,32⟩)],[],[1,2,15,16,17],[6]⟩
def DH(s: (List o4×Unit×List o4×Int×Int×Unit)×Unit×Unit):Fs.R:=
 br (decide (s.1.2.2.2.2.1<s.1.2.2.2.1)) (iteP (0<=s.1.2.2.2.2.1) ((s.1.2.2.1[s.1.2.2.2.2.1.toNat]?).bind λx5=>iteP (0<=s.1.2.2.2.2.1) ((s.1.1[s.1.2.2.2.2.1.toNat]?).bind λx6=>(FY x5 x6).bind λy7=>br (!y7.1) (some (.inr (.inl ((false,()),(()),(()))))) (some (.inl ((s.1.1,(),s.1.2.2.1,s.1.2.2.2.1,(acK .i64 (s.1.2.2.2.2.1+1)),()),(()),(()))))) none) none) (some (.inr (.inr (((),()),(()),(())))))
def HZ:=mu DH
def H0[dp] :=F6 Tryz.f61 [0] Fs DH [Pq] [] (by kernel_rfl) λs=>by simp only[DH,tm];kernel_rfl
def DR(a0:List o4)(a1:List o4):Option (Bool×Unit):=
 br (!((a0.length:Int)==(a1.length:Int))) (some (false,())) ((HZ ((a1,(),a0,(a0.length:Int),0,()),(()),(()))).bind λe8=>Sum.elim (λe8_0=>some e8_0.1) (λ_=>some (true,())) e8)
def Iu[dp] :=Dh 61 Tryz.f61 [.ty (.ls (.st .server)),.ty (.ls (.st .server)),.fc 62] [.b] (λx=>DR x.1 x.2.1) [] [H0] (by kernel_rfl) λx=>by simp only[DR,tm];kernel_rfl
abbrev F7:LX:=⟨⟨[(1,.cl (.ro (.st .config))),(2,.cl (.fc 19)),(15,.cl (.ro (.st .config))),Y3,(17,.cl (.int .i64))],[],[],0,32⟩,[(.ret,⟨[(6,.cl (.bl))],[],[],0,32⟩),(.ext 0,⟨[YX],[],[],0,32⟩)],[],[1,2,15,16,17],[6]⟩
def DX(s: (List mD×Unit×List mD×Int×Int×Unit)×Unit×Unit):F7.R:=
 br (decide (s.1.2.2.2.2.1<s.1.2.2.2.1)) (iteP (0<=s.1.2.2.2.2.1) ((s.1.2.2.1[s.1.2.2.2.2.1.toNat]?).bind λx5=>iteP (0<=s.1.2.2.2.2.1) ((s.1.1[s.1.2.2.2.2.1.toNat]?).bind λx6=>(Es x5 x6).bind λy7=>br (!y7.1) (some (.inr (.inl ((false,()),(()),(()))))) (some (.inl ((s.1.1,(),s.1.2.2.1,s.1.2.2.2.1,(acK .i64 (s.1.2.2.2.2.1+1)),()),(()),(()))))) none) none) (some (.inr (.inr (((),()),(()),(())))))
def Jc:=mu DX
def Je[dp] :=F6 Tryz.f177 [0] F7 DX [Hl] [] (by kernel_rfl) λs=>by simp only[DX,tm];kernel_rfl
def Ea(a0:List mD)(a1:List mD):Option (Bool×Unit):=
 br (!((a0.length:Int)==(a1.length:Int))) (some (false,())) ((Jc ((a1,(),a0,(a0.length:Int),0,()),(()),(()))).bind λe8=>Sum.elim (λe8_0=>some e8_0.1) (λ_=>some (true,())) e8)
def JE[dp] :=Dh 177 Tryz.f177 [.ty (.ls (.st .config)),.ty (.ls (.st .config)),.fc 19] [.b] (λx=>Ea x.1 x.2.1) [] [Je] (by kernel_rfl) λx=>by simp only[Ea,tm];kernel_rfl
def GF(a0:jw)(a1:jw):Option (Bool×Unit):=
 br (a0.activated==a1.activated) ((Ea a0.configs a1.configs).bind λy1=>some (y1.1,())) (some (false,()))
def Qp[dp] :=Dh 64 Tryz.f64 [.ty (.st .masterLog),.ty (.st .masterLog)] [.b] (λx=>GF x.1 x.2.1) [JE] [] (by kernel_rfl) λx=>by simp only[GF,tm];kernel_rfl
abbrev NM:LX:=⟨⟨[OW,(1,.cl (.ro (.st .place))),OX,Y2],[],[],0,26⟩,[(.ret,⟨[SQ],[],[],0,26⟩),(.ext 0,⟨[MR],[],[],0,26⟩)],[],[0,1,12,13],[4]⟩
def IE(s: (List tc×List tc×Int×Int×Unit)×Unit×Unit):NM.R:=
 br (decide (s.1.2.2.2.1<s.1.2.2.1)) (iteP (0<=s.1.2.2.2.1) ((s.1.1[s.1.2.2.2.1.toNat]?).bind λx5=>iteP (0<=s.1.2.2.2.1) ((s.1.2.1[s.1.2.2.2.1.toNat]?).bind λx6=>br (!((x5.rack==x6.rack)&&((x5.capacity==x6.capacity)&&((x5.load==x6.load)&&true)))) (some (.inr (.inl ((false,()),(()),(()))))) (some (.inl ((s.1.1,s.1.2.1,s.1.2.2.1,(acK .i64 (s.1.2.2.2.1+1)),()),(()),(()))))) none) none) (some (.inr (.inr (((),()),(()),(())))))
def QX:=mu IE
def Ra[dp] :=F6 Tryz.f65 [0] NM IE [] [] (by kernel_rfl) λs=>by simp only[IE,tm];kernel_rfl
def Il(a0:List tc)(a1:List tc):Option (Bool×Unit):=
 br (!((a0.length:Int)==(a1.length:Int))) (some (false,())) ((QX ((a0,a1,(a0.length:Int),0,()),(()),(()))).bind λe7=>Sum.elim (λe7_0=>some e7_0.1) (λ_=>some (true,())) e7)
def SH[dp] :=Dh 65 Tryz.f65 [.ty (.ls (.st .place)),.ty (.ls (.st .place))] [.b] (λx=>Il x.1 x.2.1) [] [Ra] (by kernel_rfl) λx=>by simp only[Il,tm];kernel_rfl
def HE(a0:oZ)(a1:oZ):Option (Bool×Unit):=
 br (a0.now==a1.now) ((DR a0.servers a1.servers).bind λy1=>br y1.1 ((HB a0.sides a1.sides).bind λy2=>br y2.1 ((GF a0.master a1.master).bind λy3=>br y3.1 (br (a0.masterUp==a1.masterUp) (br ((a0.lease.epoch==a1.lease.epoch)&&((a0.lease.holder==a1.lease.holder)&&((a0.lease.ends==a1.lease.ends)&&true))) ((Il a0.places a1.places).bind λy4=>some (y4.1,())) (some (false,()))) (some (false,()))) (some (false,()))) (some (false,()))) (some (false,()))) (some (false,()))
def RD[dp] :=Dh 11 Tryz.f11 [.ty (.st .cluster),.ty (.st .cluster)] [.b] (λx=>HE x.1 x.2.1) [Iu,QA,Qp,SH] [] (by kernel_rfl) λx=>by simp only[HE,tm];kernel_rfl
def Hf[dp](a0:Hd):Option (oZ×Int×Int×Unit):=
 (R5 a0).bind λy1=>(Nh y1.1).bind λy2=>iteP (y2.1.length=y1.1.length) ((CT y2.1 5).bind λy3=>iteP (y3.1.length=y2.1.length) ((C4 y3.1 ([0,0,1,2]:List Int)).bind λy4=>iteP (y4.1.length=y3.1.length) (some (y2.2.1,y3.2.1,y4.2.1,())) none) none) none
def QQ[dp] :=Dh 16 Tryz.f16 [.ty (.h)] abm (λx=>Hf x.1) [W9,Vz,Ee,Eg] [] (by kernel_rfl) λx=>by simp only[Hf,tm,-eq_self];kernel_rfl
def MM[dp](a0:Hd):Option (Bool×Unit):=
 (Yv a0).bind λy1=>br y1.1 (some (true,())) ((GL a0).bind λy2=>(IY y2.1 y2.2.1 y2.2.2.1).bind λy3=>(E5 y2.1 y2.2.1 y2.2.2.1).bind λy4=>br (!(y3.2.1==y4.2.1)) (some (false,())) ((HE y3.1 y4.1).bind λy5=>br (!y5.1) (some (false,())) ((Ia y2.1).bind λy6=>(E3 y2.1).bind λy7=>br (!(y6.1==y7.1)) (some (false,())) ((Ge y2.1).bind λy8=>(DE y2.1).bind λy9=>br (!(y8.1==y9.1)) (some (false,())) (let j16:Option (Bool×Unit):=(Hf a0).bind λy11=>(GG y11.1 y11.2.1 y11.2.2.1).bind λy12=>(Fb y11.1 y11.2.1 y11.2.2.1).bind λy13=>br (y12.2.1==y13.2.1) ((Es y12.1 y13.1).bind λy14=>br y14.1 (br (!y12.2.1) (some (true,())) ((EU y12.1).bind λy15=>br y15.1 (some ((y12.1.epoch==(acK .i64 ((y11.1.master.configs.length:Int)+1))),())) (some (false,())))) (some (false,()))) (some (false,()));br (y3.2.1==0) ((Ia y3.1).bind λy10=>br (!y10.1) (some (false,())) (j16)) (j16))))))
def VE[dp] :=Dh 3 Tryz.f3 [.ty (.h)] [.b] (λx=>MM x.1) [acd,Qw,TE,Py,RD,Rb,OK,Nn,Nt,QQ,Qr,N1,Hl,HL] [] (by kernel_rfl) λx=>by simp only[MM,tm];kernel_rfl
end
end Go.Proofs.YtkghndikalnipaaGreat.En
