/- Printed by a program: the walk. -/
import Derived.Test.YtpagmogboinlpaaZTh
namespace Go.Proofs.Ytpagmogboinlpaa.En
open Go
noncomputable section
theorem lg:Try.prog.follows .mixedOrders=true:=by kernel_rfl
abbrev qf:= @DZ _ _ Bk lg
abbrev jg:= @DU _ _ Bk lg
abbrev DW:= @DI _ _ Bk lg
def lO (a0:List fy) (a1:Int):Option (Int×Unit):=
 br (decide ((IntKind.wrap .i64 (a1-(a0.length:Int)))<0)) (some ((-1),())) (some ((IntKind.wrap .i64 (a1-(a0.length:Int))),()))
def xE:=jg 5 Try.f5 [.ty (.ls (.st .mark)), .ty (.i .i64)] [.i .i64] (fun x=>lO x.1 x.2.1) [] [] (by kernel_rfl) fun x=>by simp only[lO,tm]; kernel_rfl
def kC (a0:List dJ) (a1:Int):Option (Int×Unit):=
 br (decide ((IntKind.wrap .i64 (a1-(a0.length:Int)))<0)) (some ((-1),())) (some ((IntKind.wrap .i64 (a1-(a0.length:Int))),()))
def vT:=jg 6 Try.f6 [.ty (.ls (.st .entry)), .ty (.i .i64)] [.i .i64] (fun x=>kC x.1 x.2.1) [] [] (by kernel_rfl) fun x=>by simp only[kC,tm]; kernel_rfl
def sK (a0:Op):Option (Op×Unit):=
 some (a0,())
def zM:=jg 26 Try.f26 [.ty (.st .op)] [.st .op] (fun x=>sK x.1) [] [] (by kernel_rfl) fun x=>by simp only[sK,tm]; kernel_rfl
def nk (a0:fy):Option (fy×Unit):=
 (sK a0.op).bind fun y1=>some ((⟨a0.start,a0.event,a0.read,a0.index,a0.value,y1.1⟩:fy),())
def zN:=jg 18 Try.f18 [.ty (.st .mark)] [.st .mark] (fun x=>nk x.1) [zM] [] (by kernel_rfl) fun x=>by simp only[nk,tm]; kernel_rfl
abbrev oy:LX:=⟨⟨[(0, .cl (.ro (.st .mark))),(3, .cl (.own 0 (.st .mark))),(4, .cl (.int .i64))],[],[.st .mark],0,23⟩,[(.ext 0,⟨[(3, .cl (.own 0 (.st .mark)))],[],[.st .mark],0,23⟩)],[],[0,3,4],[3]⟩
def jC (s: (List fy×Unit×Int×Unit)×Unit×List fy×Unit):oy.R:=
 br (decide (s.1.2.2.1< (s.1.1.length:Int))) (dy (0<=s.1.2.2.1) ((s.1.1[s.1.2.2.1.toNat]?).bind fun x4=>(nk x4).bind fun y5=>dy (0<=s.1.2.2.1/\s.1.2.2.1< (s.2.2.1.length:Int)) ((s.2.2.1[s.1.2.2.1.toNat]?).bind fun _=>some (.inl ((s.1.1,(),(IntKind.wrap .i64 (s.1.2.2.1+1)),()),(()),(s.2.2.1.set s.1.2.2.1.toNat y5.1),()))) none) none) (some (.inr (((),()),(()),s.2.2)))
def uS:=hU jC
def uT:=qf Try.f8 [0] oy jC [zN] [] (by kernel_rfl) fun s=>by simp only[jC,tm]; kernel_rfl
def ik (a0:List fy):Option ((List fy)×Unit):=
 dy (0<=(a0.length:Int)/\(a0.length:Int)=(a0.length:Int)/\(a0.length:Int)*((88:Nat):Int)<=2 ^ 40) ((uS ((a0,(),0,()),(()),(List.replicate (a0.length:Int).toNat (⟨0,0,false,0,0,(⟨0,0,0,0,0,0⟩:Op)⟩:fy)),())).bind fun e8=>some e8.2.2) none
def xF:=jg 8 Try.f8 [.ty (.ls (.st .mark))] [.ls (.st .mark)] (fun x=>ik x.1) [] [uT] (by kernel_rfl) fun x=>by simp only[ik,tm,-eq_self]; kernel_rfl
def lP (a0:dJ):Option (dJ×Unit):=
 (sK a0.op).bind fun y1=>some ((⟨a0.epoch,y1.1⟩:dJ),())
def xG:=jg 19 Try.f19 [.ty (.st .entry)] [.st .entry] (fun x=>lP x.1) [zM] [] (by kernel_rfl) fun x=>by simp only[lP,tm]; kernel_rfl
abbrev nm:LX:=⟨⟨[(0, .cl (.ro (.st .entry))),(3, .cl (.own 0 (.st .entry))),(4, .cl (.int .i64))],[],[.st .entry],0,23⟩,[(.ext 0,⟨[(3, .cl (.own 0 (.st .entry)))],[],[.st .entry],0,23⟩)],[],[0,3,4],[3]⟩
def iR (s: (List dJ×Unit×Int×Unit)×Unit×List dJ×Unit):nm.R:=
 br (decide (s.1.2.2.1< (s.1.1.length:Int))) (dy (0<=s.1.2.2.1) ((s.1.1[s.1.2.2.1.toNat]?).bind fun x4=>(lP x4).bind fun y5=>dy (0<=s.1.2.2.1/\s.1.2.2.1< (s.2.2.1.length:Int)) ((s.2.2.1[s.1.2.2.1.toNat]?).bind fun _=>some (.inl ((s.1.1,(),(IntKind.wrap .i64 (s.1.2.2.1+1)),()),(()),(s.2.2.1.set s.1.2.2.1.toNat y5.1),()))) none) none) (some (.inr (((),()),(()),s.2.2)))
def sL:=hU iR
def sM:=qf Try.f9 [0] nm iR [xG] [] (by kernel_rfl) fun s=>by simp only[iR,tm]; kernel_rfl
def gD (a0:List dJ):Option ((List dJ)×Unit):=
 dy (0<=(a0.length:Int)/\(a0.length:Int)=(a0.length:Int)/\(a0.length:Int)*((56:Nat):Int)<=2 ^ 40) ((sL ((a0,(),0,()),(()),(List.replicate (a0.length:Int).toNat (⟨0,(⟨0,0,0,0,0,0⟩:Op)⟩:dJ)),())).bind fun e8=>some e8.2.2) none
def vU:=jg 9 Try.f9 [.ty (.ls (.st .entry))] [.ls (.st .entry)] (fun x=>gD x.1) [] [sM] (by kernel_rfl) fun x=>by simp only[gD,tm,-eq_self]; kernel_rfl
def fC (a0:Int) (a1:Int) (a2:Int):Option (Bool×Unit):=
 br (decide (a0≥a1)) (some ((decide (a0<=a2)),())) (some (false,()))
def mD:=jg 23 Try.f23 [.ty (.i .i64), .ty (.i .i64), .ty (.i .i64)] [.b] (fun x=>fC x.1 x.2.1 x.2.2.1) [] [] (by kernel_rfl) fun x=>by simp only[fC,tm]; kernel_rfl
def eu (a0:Op):Option (Bool×Unit):=
 (fC a0.client 0 2).bind fun y1=>br (!y1.1) (some (false,())) ((fC a0.seq 1 99).bind fun y2=>br (!y2.1) (some (false,())) ((fC a0.object 0 2).bind fun y3=>br (!y3.1) (some (false,())) ((fC a0.value 0 9).bind fun y4=>br (!y4.1) (some (false,())) (br (a0.kind==1) (br (a0.old==0) (some (true,())) (br (a0.kind==2) ((fC a0.old 0 9).bind fun y5=>some (y5.1,())) (some (false,())))) (br (a0.kind==2) ((fC a0.old 0 9).bind fun y6=>some (y6.1,())) (some (false,())))))))
def oz:=jg 25 Try.f25 [.ty (.st .op)] [.b] (fun x=>eu x.1) [mD] [] (by kernel_rfl) fun x=>by simp only[eu,tm]; kernel_rfl
abbrev rn:LX:=⟨⟨[(0, .cl (.ro (.st .entry))),(3, .cl (.int .i64))],[],[],0,47⟩,[(.ret,⟨[(0, .cl (.ro (.st .entry))),(2, .cl (.bl))],[],[],0,47⟩),(.ext 0,⟨[(0, .cl (.ro (.st .entry))),(2, .cl (.dead))],[],[],0,47⟩)],[],[0,3],[0,2]⟩
def ge (s: (List dJ×Int×Unit)×Unit×Unit):rn.R:=
 br (decide (s.1.2.1< (s.1.1.length:Int))) (dy (0<=s.1.2.1) ((s.1.1[s.1.2.1.toNat]?).bind fun x3=>(fC x3.epoch 1 20).bind fun y4=>br (!y4.1) (some (.inr (.inl ((s.1.1,false,()),(()),(()))))) (dy (0<=s.1.2.1) ((s.1.1[s.1.2.1.toNat]?).bind fun x5=>(eu x5.op).bind fun y6=>br (!y6.1) (some (.inr (.inl ((s.1.1,false,()),(()),(()))))) (br (decide (s.1.2.1>0)) (dy (0<=(IntKind.wrap .i64 (s.1.2.1-1))) ((s.1.1[(IntKind.wrap .i64 (s.1.2.1-1)).toNat]?).bind fun x7=>dy (0<=s.1.2.1) ((s.1.1[s.1.2.1.toNat]?).bind fun x8=>br (decide (x7.epoch>x8.epoch)) (some (.inr (.inl ((s.1.1,false,()),(()),(()))))) (some (.inl ((s.1.1,(IntKind.wrap .i64 (s.1.2.1+1)),()),(()),(()))))) none) none) (some (.inl ((s.1.1,(IntKind.wrap .i64 (s.1.2.1+1)),()),(()),(())))))) none)) none) (some (.inr (.inr ((s.1.1,(),()),(()),(())))))
def ka:=hU ge
def xH:=qf Try.f16 [0] rn ge [mD,oz] [] (by kernel_rfl) fun s=>by simp only[ge,tm]; kernel_rfl
def fj (a0:List dJ):Option (Bool×Unit):=
 (ka ((a0,0,()),(()),(()))).bind fun e9=>Sum.elim (fun e9_0=>some e9_0.1.2) (fun e9_1=>some ((decide ((e9_1.1.1.length:Int)<=16)),())) e9
def sN:=jg 16 Try.f16 [.ty (.ls (.st .entry))] [.b] (fun x=>fj x.1) [] [xH] (by kernel_rfl) fun x=>by simp only[fj,tm]; kernel_rfl
def iT:Option (dx×Unit):=
 some ((⟨([0,0,0]:List Int),([]:List dp)⟩:dx),())
def sO:=jg 50 Try.f50 [] [.st .machine] (fun _=>iT) [] [] (by kernel_rfl) fun x=>by simp only[iT,tm]; kernel_rfl
def lh (a0:dx):Option (dx×Unit):=
 dy ((([]:List Int)++a0.objects).length*8<=2 ^ 40) (dy ((([]:List dp)++a0.sessions).length*32<=2 ^ 40) (some ((⟨(([]:List Int)++a0.objects),(([]:List dp)++a0.sessions)⟩:dx),())) none) none
def zO:=jg 52 Try.f52 [.ty (.st .machine)] [.st .machine] (fun x=>lh x.1) [] [] (by kernel_rfl) fun x=>by simp only[lh,tm]; kernel_rfl
abbrev jh:LX:=⟨⟨[(1, .cl (.ptr 0 0)),(3, .cl (.int .i64))],[[.ro (.i .i64), .ro (.st .session)]],[],0,69⟩,[(.ret,⟨[(1, .cl (.ptr 0 0)),(2, .cl (.bl))],[[.ro (.i .i64), .ro (.st .session)]],[],0,69⟩),(.ext 0,⟨[(1, .cl (.ptr 0 0)),(2, .cl (.dead))],[[.ro (.i .i64), .ro (.st .session)]],[],0,69⟩)],[],[1,3],[1,2]⟩
def dW (s: (Unit×Int×Unit)×((List Int×List dp×Unit)×Unit)×Unit):jh.R:=
 br (decide (s.1.2.1< (s.2.1.1.1.length:Int))) (dy (0<=s.1.2.1) ((s.2.1.1.1[s.1.2.1.toNat]?).bind fun x4=>(fC x4 0 9).bind fun y5=>br (!y5.1) (some (.inr (.inl (((),false,()),s.2.1,(()))))) (some (.inl (((),(IntKind.wrap .i64 (s.1.2.1+1)),()),s.2.1,(()))))) none) (some (.inr (.inr (((),(),()),s.2.1,(())))))
def fD:=hU dW
def mE:=qf Try.f51 [0] jh dW [mD] [] (by kernel_rfl) fun s=>by simp only[dW,tm]; kernel_rfl
abbrev ji:LX:=⟨⟨[(1, .cl (.ptr 0 0)),(4, .cl (.int .i64))],[[.ro (.i .i64), .ro (.st .session)]],[],0,69⟩,[(.ret,⟨[(1, .cl (.ptr 0 0)),(2, .cl (.bl))],[[.ro (.i .i64), .ro (.st .session)]],[],0,69⟩),(.ext 2,⟨[(1, .cl (.ptr 0 0)),(2, .cl (.dead))],[[.ro (.i .i64), .ro (.st .session)]],[],0,69⟩)],[],[1,4],[1,2]⟩
def dX (s: (Unit×Int×Unit)×((List Int×List dp×Unit)×Unit)×Unit):ji.R:=
 br (decide (s.1.2.1< (s.2.1.1.2.1.length:Int))) (dy (0<=s.1.2.1) ((s.2.1.1.2.1[s.1.2.1.toNat]?).bind fun x10=>(fC x10.client 0 2).bind fun y11=>br (!y11.1) (some (.inr (.inl (((),false,()),s.2.1,(()))))) ((fC x10.seq 1 99).bind fun y12=>br (!y12.1) (some (.inr (.inl (((),false,()),s.2.1,(()))))) ((fC x10.result.value 0 9).bind fun y13=>br (!y13.1) (some (.inr (.inl (((),false,()),s.2.1,(()))))) (br (decide (s.1.2.1>0)) (dy (0<=(IntKind.wrap .i64 (s.1.2.1-1))) ((s.2.1.1.2.1[(IntKind.wrap .i64 (s.1.2.1-1)).toNat]?).bind fun x14=>br (decide (x14.client≥x10.client)) (some (.inr (.inl (((),false,()),s.2.1,(()))))) (some (.inl (((),(IntKind.wrap .i64 (s.1.2.1+1)),()),s.2.1,(()))))) none) (some (.inl (((),(IntKind.wrap .i64 (s.1.2.1+1)),()),s.2.1,(())))))))) none) (some (.inr (.inr (((),(),()),s.2.1,(())))))
def fE:=hU dX
def mF:=qf Try.f51 [1] ji dX [mD] [] (by kernel_rfl) fun s=>by simp only[dX,tm]; kernel_rfl
def ej (a0:dx):Option (Bool×Unit):=
 (fD (((),0,()),((a0.objects,a0.sessions,()),()),(()))).bind fun e6=>Sum.elim (fun e6_0=>some e6_0.1.2) (fun e6_1=>(fE (((),0,()),e6_1.2.1,(()))).bind fun e15=>Sum.elim (fun e15_0=>some e15_0.1.2) (fun e15_1=>some (((e15_1.2.1.1.1.length:Int)==3),())) e15) e6
def kb:=jg 51 Try.f51 [.ty (.st .machine)] [.b] (fun x=>ej x.1) [] [mE,mF] (by kernel_rfl) fun x=>by simp only[ej,tm]; kernel_rfl
abbrev l4:LX:=⟨⟨[(1, .cl (.int .i64)),(2, .cl (.ptr 0 0)),(4, .cl (.ptr 1 0)),(6, .cl (.int .i64))],[[.ro (.i .i64), .ro (.st .session)],[.int .i64, .int .i64, .bl, .int .i64]],[],0,28⟩,[(.ret,⟨[(4, .cl (.ptr 0 0)),(5, .cl (.bl))],[[.int .i64, .int .i64, .bl, .int .i64]],[],0,28⟩),(.ext 0,⟨[(4, .cl (.ptr 0 0)),(5, .cl (.dead))],[[.int .i64, .int .i64, .bl, .int .i64]],[],0,28⟩)],[],[1,2,4,6],[4,5]⟩
def eC (s: (Int×Unit×Unit×Int×Unit)×((List Int×List dp×Unit)×(Int×Int×Bool×Int×Unit)×Unit)×Unit):l4.R:=
 br (decide (s.1.2.2.2.1< (s.2.1.1.2.1.length:Int))) (dy (0<=s.1.2.2.2.1) ((s.2.1.1.2.1[s.1.2.2.2.1.toNat]?).bind fun x9=>br (x9.client==s.1.1) (dy (0<=s.1.2.2.2.1) ((s.2.1.1.2.1[s.1.2.2.2.1.toNat]?).bind fun x10=>some (.inr (.inl (((),true,()),((x10.client,x10.seq,x10.result.done,x10.result.value,()),()),(()))))) none) (some (.inl ((s.1.1,(),(),(IntKind.wrap .i64 (s.1.2.2.2.1+1)),()),s.2.1,(()))))) none) (some (.inr (.inr (((),(),()),s.2.1.2,(())))))
def ir:=hU eC
def qA:=qf Try.f53 [0] l4 eC [] [] (by kernel_rfl) fun s=>by simp only[eC,tm]; kernel_rfl
def fA (a0:dx) (a1:Int):Option (dp×Bool×Unit):=
 (ir ((a1,(),(),0,()),((a0.objects,a0.sessions,()),(0,0,false,0,()),()),(()))).bind fun e11=>Sum.elim (fun e11_0=>some ((⟨e11_0.2.1.1.1,e11_0.2.1.1.2.1,(⟨e11_0.2.1.1.2.2.1,e11_0.2.1.1.2.2.2.1⟩:Result)⟩:dp),e11_0.1.2)) (fun _=>some ((⟨0,0,(⟨false,0⟩:Result)⟩:dp),false,())) e11
def uU:=jg 53 Try.f53 [.ty (.st .machine), .ty (.i .i64)] [.st .session, .b] (fun x=>fA x.1 x.2.1) [] [qA] (by kernel_rfl) fun x=>by simp only[fA,tm]; kernel_rfl
abbrev nn:LX:=⟨⟨[(3, .cl (.ptr 0 0)),(4, .cl (.ptr 1 0)),(5, .cl (.ptr 2 0)),(7, .cl (.ptr 3 0)),(9, .cl (.bl)),(11, .cl (.ptr 4 0)),(12, .cl (.int .i64))],[[.int .i64, .int .i64, .int .i64, .int .i64, .int .i64, .int .i64],[.em, .em],[.bl, .int .i64],[.own 0 (.i .i64), .own 1 (.st .session)],[.bl, .int .i64]],[.i .i64, .st .session],0,127⟩,[(.ext 0,⟨[(3, .cl (.ptr 0 0)),(4, .cl (.ptr 1 0)),(5, .cl (.ptr 2 0)),(7, .cl (.ptr 3 0)),(9, .cl (.bl)),(11, .cl (.ptr 4 0)),(12, .cl (.int .i64))],[[.int .i64, .int .i64, .int .i64, .int .i64, .int .i64, .int .i64],[.em, .em],[.bl, .int .i64],[.own 0 (.i .i64), .own 1 (.st .session)],[.bl, .int .i64]],[.i .i64, .st .session],0,127⟩)],[],[3,4,5,7,9,11,12],[3,4,5,7,9,11,12]⟩
def gf (s: (Unit×Unit×Unit×Unit×Bool×Unit×Int×Unit)×((Int×Int×Int×Int×Int×Int×Unit)×(Unit×Unit×Unit)×(Bool×Int×Unit)×(Unit×Unit×Unit)×(Bool×Int×Unit)×Unit)×List Int×List dp×Unit):nn.R:=
 br (decide (s.1.2.2.2.2.2.2.1< (s.2.2.2.1.length:Int))) (dy (0<=s.1.2.2.2.2.2.2.1/\s.1.2.2.2.2.2.2.1< (s.2.2.2.1.length:Int)) ((s.2.2.2.1[s.1.2.2.2.2.2.2.1.toNat]?).bind fun x22=>br (decide (x22.client<s.2.1.1.1)) (some (.inl (((),(),(),(),s.1.2.2.2.2.1,(),(IntKind.wrap .i64 (s.1.2.2.2.2.2.2.1+1)),()),s.2))) (some (.inr s))) none) (some (.inr s))
def kD:=hU gf
def sP:=qf Try.f43 [0] nn gf [] [] (by kernel_rfl) fun s=>by simp only[gf,tm]; kernel_rfl
def iY (a0:dx) (a1:Op):Option (dx×Result×Bool×Unit):=
 (lh a0).bind fun y1=>(ej a0).bind fun y2=>br (!y2.1) (some (y1.1,(⟨false,0⟩:Result),false,())) ((eu a1).bind fun y3=>br (!y3.1) (some (y1.1,(⟨false,0⟩:Result),false,())) ((fA a0 a1.client).bind fun y4=>let j45:Option (dx×Result×Bool×Unit):=let j44:Option (dx×Result×Bool×Unit):=dy (0<=a1.object) ((a0.objects[a1.object.toNat]?).bind fun x5=>br (a1.kind==1) (dy (0<=a1.object/\a1.object< (y1.1.objects.length:Int)) ((y1.1.objects[a1.object.toNat]?).bind fun _=>(kD (((),(),(),(),y4.2.1,(),0,()),((a1.client,a1.seq,a1.kind,a1.object,a1.old,a1.value,()),((),(),()),(false,0,()),((),(),()),(true,x5,()),()),(y1.1.objects.set a1.object.toNat a1.value),y1.1.sessions,())).bind fun e23=>dy (0<=e23.1.2.2.2.2.2.2.1/\e23.1.2.2.2.2.2.2.1<=(e23.2.2.2.1.length:Int)/\(e23.2.2.2.1.length:Int)<=((e23.2.2.2.1.length:Nat):Int)) (br e23.1.2.2.2.2.1 (dy (0<=(IntKind.wrap .i64 (e23.1.2.2.2.2.2.2.1+1))/\(IntKind.wrap .i64 (e23.1.2.2.2.2.2.2.1+1))<=(e23.2.2.2.1.length:Int)/\(e23.2.2.2.1.length:Int)<=((e23.2.2.2.1.length:Nat):Int)) (dy (0<=(0:Int)/\(0:Int)<=e23.1.2.2.2.2.2.2.1/\e23.1.2.2.2.2.2.2.1<=((e23.2.2.2.1.length:Nat):Int)) (dy ((0+(0:Int).toNat)+(e23.1.2.2.2.2.2.2.1.toNat-(0:Int).toNat)<=e23.2.2.2.1.length) (dy ((([]:List dp)++((e23.2.2.2.1.drop (0+(0:Int).toNat)).take (e23.1.2.2.2.2.2.2.1.toNat-(0:Int).toNat))).length*32<=2 ^ 40) (dy (((([]:List dp)++((e23.2.2.2.1.drop (0+(0:Int).toNat)).take (e23.1.2.2.2.2.2.2.1.toNat-(0:Int).toNat)))++([(⟨e23.2.1.1.1,e23.2.1.1.2.1,(⟨e23.2.1.2.2.2.2.1.1,e23.2.1.2.2.2.2.1.2.1⟩:Result)⟩:dp)]:List dp)).length*32<=2 ^ 40) (dy ((0+(IntKind.wrap .i64 (e23.1.2.2.2.2.2.2.1+1)).toNat)+((e23.2.2.2.1.length:Int).toNat-(IntKind.wrap .i64 (e23.1.2.2.2.2.2.2.1+1)).toNat)<=e23.2.2.2.1.length) (dy ((((([]:List dp)++((e23.2.2.2.1.drop (0+(0:Int).toNat)).take (e23.1.2.2.2.2.2.2.1.toNat-(0:Int).toNat)))++([(⟨e23.2.1.1.1,e23.2.1.1.2.1,(⟨e23.2.1.2.2.2.2.1.1,e23.2.1.2.2.2.2.1.2.1⟩:Result)⟩:dp)]:List dp))++((e23.2.2.2.1.drop (0+(IntKind.wrap .i64 (e23.1.2.2.2.2.2.2.1+1)).toNat)).take ((e23.2.2.2.1.length:Int).toNat-(IntKind.wrap .i64 (e23.1.2.2.2.2.2.2.1+1)).toNat))).length*32<=2 ^ 40) (some ((⟨e23.2.2.1,(((([]:List dp)++((e23.2.2.2.1.drop (0+(0:Int).toNat)).take (e23.1.2.2.2.2.2.2.1.toNat-(0:Int).toNat)))++([(⟨e23.2.1.1.1,e23.2.1.1.2.1,(⟨e23.2.1.2.2.2.2.1.1,e23.2.1.2.2.2.2.1.2.1⟩:Result)⟩:dp)]:List dp))++((e23.2.2.2.1.drop (0+(IntKind.wrap .i64 (e23.1.2.2.2.2.2.2.1+1)).toNat)).take ((e23.2.2.2.1.length:Int).toNat-(IntKind.wrap .i64 (e23.1.2.2.2.2.2.2.1+1)).toNat)))⟩:dx),(⟨e23.2.1.2.2.2.2.1.1,e23.2.1.2.2.2.2.1.2.1⟩:Result),true,())) none) none) none) none) none) none) none) (dy (0<=(0:Int)/\(0:Int)<=e23.1.2.2.2.2.2.2.1/\e23.1.2.2.2.2.2.2.1<=((e23.2.2.2.1.length:Nat):Int)) (dy ((0+(0:Int).toNat)+(e23.1.2.2.2.2.2.2.1.toNat-(0:Int).toNat)<=e23.2.2.2.1.length) (dy ((([]:List dp)++((e23.2.2.2.1.drop (0+(0:Int).toNat)).take (e23.1.2.2.2.2.2.2.1.toNat-(0:Int).toNat))).length*32<=2 ^ 40) (dy (((([]:List dp)++((e23.2.2.2.1.drop (0+(0:Int).toNat)).take (e23.1.2.2.2.2.2.2.1.toNat-(0:Int).toNat)))++([(⟨e23.2.1.1.1,e23.2.1.1.2.1,(⟨e23.2.1.2.2.2.2.1.1,e23.2.1.2.2.2.2.1.2.1⟩:Result)⟩:dp)]:List dp)).length*32<=2 ^ 40) (dy ((0+e23.1.2.2.2.2.2.2.1.toNat)+((e23.2.2.2.1.length:Int).toNat-e23.1.2.2.2.2.2.2.1.toNat)<=e23.2.2.2.1.length) (dy ((((([]:List dp)++((e23.2.2.2.1.drop (0+(0:Int).toNat)).take (e23.1.2.2.2.2.2.2.1.toNat-(0:Int).toNat)))++([(⟨e23.2.1.1.1,e23.2.1.1.2.1,(⟨e23.2.1.2.2.2.2.1.1,e23.2.1.2.2.2.2.1.2.1⟩:Result)⟩:dp)]:List dp))++((e23.2.2.2.1.drop (0+e23.1.2.2.2.2.2.2.1.toNat)).take ((e23.2.2.2.1.length:Int).toNat-e23.1.2.2.2.2.2.2.1.toNat))).length*32<=2 ^ 40) (some ((⟨e23.2.2.1,(((([]:List dp)++((e23.2.2.2.1.drop (0+(0:Int).toNat)).take (e23.1.2.2.2.2.2.2.1.toNat-(0:Int).toNat)))++([(⟨e23.2.1.1.1,e23.2.1.1.2.1,(⟨e23.2.1.2.2.2.2.1.1,e23.2.1.2.2.2.2.1.2.1⟩:Result)⟩:dp)]:List dp))++((e23.2.2.2.1.drop (0+e23.1.2.2.2.2.2.2.1.toNat)).take ((e23.2.2.2.1.length:Int).toNat-e23.1.2.2.2.2.2.2.1.toNat)))⟩:dx),(⟨e23.2.1.2.2.2.2.1.1,e23.2.1.2.2.2.2.1.2.1⟩:Result),true,())) none) none) none) none) none) none)) none) none) (let j43 (p26:List Int):Option (dx×Result×Bool×Unit):=(kD (((),(),(),(),y4.2.1,(),0,()),((a1.client,a1.seq,a1.kind,a1.object,a1.old,a1.value,()),((),(),()),(false,0,()),((),(),()),((x5==a1.old),x5,()),()),p26,y1.1.sessions,())).bind fun e42=>dy (0<=e42.1.2.2.2.2.2.2.1/\e42.1.2.2.2.2.2.2.1<=(e42.2.2.2.1.length:Int)/\(e42.2.2.2.1.length:Int)<=((e42.2.2.2.1.length:Nat):Int)) (br e42.1.2.2.2.2.1 (dy (0<=(IntKind.wrap .i64 (e42.1.2.2.2.2.2.2.1+1))/\(IntKind.wrap .i64 (e42.1.2.2.2.2.2.2.1+1))<=(e42.2.2.2.1.length:Int)/\(e42.2.2.2.1.length:Int)<=((e42.2.2.2.1.length:Nat):Int)) (dy (0<=(0:Int)/\(0:Int)<=e42.1.2.2.2.2.2.2.1/\e42.1.2.2.2.2.2.2.1<=((e42.2.2.2.1.length:Nat):Int)) (dy ((0+(0:Int).toNat)+(e42.1.2.2.2.2.2.2.1.toNat-(0:Int).toNat)<=e42.2.2.2.1.length) (dy ((([]:List dp)++((e42.2.2.2.1.drop (0+(0:Int).toNat)).take (e42.1.2.2.2.2.2.2.1.toNat-(0:Int).toNat))).length*32<=2 ^ 40) (dy (((([]:List dp)++((e42.2.2.2.1.drop (0+(0:Int).toNat)).take (e42.1.2.2.2.2.2.2.1.toNat-(0:Int).toNat)))++([(⟨e42.2.1.1.1,e42.2.1.1.2.1,(⟨e42.2.1.2.2.2.2.1.1,e42.2.1.2.2.2.2.1.2.1⟩:Result)⟩:dp)]:List dp)).length*32<=2 ^ 40) (dy ((0+(IntKind.wrap .i64 (e42.1.2.2.2.2.2.2.1+1)).toNat)+((e42.2.2.2.1.length:Int).toNat-(IntKind.wrap .i64 (e42.1.2.2.2.2.2.2.1+1)).toNat)<=e42.2.2.2.1.length) (dy ((((([]:List dp)++((e42.2.2.2.1.drop (0+(0:Int).toNat)).take (e42.1.2.2.2.2.2.2.1.toNat-(0:Int).toNat)))++([(⟨e42.2.1.1.1,e42.2.1.1.2.1,(⟨e42.2.1.2.2.2.2.1.1,e42.2.1.2.2.2.2.1.2.1⟩:Result)⟩:dp)]:List dp))++((e42.2.2.2.1.drop (0+(IntKind.wrap .i64 (e42.1.2.2.2.2.2.2.1+1)).toNat)).take ((e42.2.2.2.1.length:Int).toNat-(IntKind.wrap .i64 (e42.1.2.2.2.2.2.2.1+1)).toNat))).length*32<=2 ^ 40) (some ((⟨e42.2.2.1,(((([]:List dp)++((e42.2.2.2.1.drop (0+(0:Int).toNat)).take (e42.1.2.2.2.2.2.2.1.toNat-(0:Int).toNat)))++([(⟨e42.2.1.1.1,e42.2.1.1.2.1,(⟨e42.2.1.2.2.2.2.1.1,e42.2.1.2.2.2.2.1.2.1⟩:Result)⟩:dp)]:List dp))++((e42.2.2.2.1.drop (0+(IntKind.wrap .i64 (e42.1.2.2.2.2.2.2.1+1)).toNat)).take ((e42.2.2.2.1.length:Int).toNat-(IntKind.wrap .i64 (e42.1.2.2.2.2.2.2.1+1)).toNat)))⟩:dx),(⟨e42.2.1.2.2.2.2.1.1,e42.2.1.2.2.2.2.1.2.1⟩:Result),true,())) none) none) none) none) none) none) none) (dy (0<=(0:Int)/\(0:Int)<=e42.1.2.2.2.2.2.2.1/\e42.1.2.2.2.2.2.2.1<=((e42.2.2.2.1.length:Nat):Int)) (dy ((0+(0:Int).toNat)+(e42.1.2.2.2.2.2.2.1.toNat-(0:Int).toNat)<=e42.2.2.2.1.length) (dy ((([]:List dp)++((e42.2.2.2.1.drop (0+(0:Int).toNat)).take (e42.1.2.2.2.2.2.2.1.toNat-(0:Int).toNat))).length*32<=2 ^ 40) (dy (((([]:List dp)++((e42.2.2.2.1.drop (0+(0:Int).toNat)).take (e42.1.2.2.2.2.2.2.1.toNat-(0:Int).toNat)))++([(⟨e42.2.1.1.1,e42.2.1.1.2.1,(⟨e42.2.1.2.2.2.2.1.1,e42.2.1.2.2.2.2.1.2.1⟩:Result)⟩:dp)]:List dp)).length*32<=2 ^ 40) (dy ((0+e42.1.2.2.2.2.2.2.1.toNat)+((e42.2.2.2.1.length:Int).toNat-e42.1.2.2.2.2.2.2.1.toNat)<=e42.2.2.2.1.length) (dy ((((([]:List dp)++((e42.2.2.2.1.drop (0+(0:Int).toNat)).take (e42.1.2.2.2.2.2.2.1.toNat-(0:Int).toNat)))++([(⟨e42.2.1.1.1,e42.2.1.1.2.1,(⟨e42.2.1.2.2.2.2.1.1,e42.2.1.2.2.2.2.1.2.1⟩:Result)⟩:dp)]:List dp))++((e42.2.2.2.1.drop (0+e42.1.2.2.2.2.2.2.1.toNat)).take ((e42.2.2.2.1.length:Int).toNat-e42.1.2.2.2.2.2.2.1.toNat))).length*32<=2 ^ 40) (some ((⟨e42.2.2.1,(((([]:List dp)++((e42.2.2.2.1.drop (0+(0:Int).toNat)).take (e42.1.2.2.2.2.2.2.1.toNat-(0:Int).toNat)))++([(⟨e42.2.1.1.1,e42.2.1.1.2.1,(⟨e42.2.1.2.2.2.2.1.1,e42.2.1.2.2.2.2.1.2.1⟩:Result)⟩:dp)]:List dp))++((e42.2.2.2.1.drop (0+e42.1.2.2.2.2.2.2.1.toNat)).take ((e42.2.2.2.1.length:Int).toNat-e42.1.2.2.2.2.2.2.1.toNat)))⟩:dx),(⟨e42.2.1.2.2.2.2.1.1,e42.2.1.2.2.2.2.1.2.1⟩:Result),true,())) none) none) none) none) none) none)) none; br (x5==a1.old) (dy (0<=a1.object/\a1.object< (y1.1.objects.length:Int)) ((y1.1.objects[a1.object.toNat]?).bind fun _=>j43 (y1.1.objects.set a1.object.toNat a1.value)) none) (j43 y1.1.objects))) none; br y4.2.1 (br (decide (y4.1.seq>a1.seq)) (some (y1.1,(⟨false,0⟩:Result),false,())) (j44)) (j44); br y4.2.1 (br (y4.1.seq==a1.seq) (some (y1.1,y4.1.result,true,())) (j45)) (j45)))
def rp:=jg 43 Try.f43 [.ty (.st .machine), .ty (.st .op)] [.st .machine, .st .result, .b] (fun x=>iY x.1 x.2.1) [zO,kb,oz,uU] [sP] (by kernel_rfl) fun x=>by simp only[iY,tm]; kernel_rfl
abbrev l5:LX:=⟨⟨[(0, .cl (.ro (.st .entry))),(2, .cl (.ptr 0 0)),(4, .cl (.ptr 1 0)),(5, .cl (.int .i64))],[[.em, .em],[.own 0 (.i .i64), .own 1 (.st .session)]],[.i .i64, .st .session],0,29⟩,[(.ext 0,⟨[(2, .cl (.ptr 0 0)),(4, .cl (.ptr 1 0))],[[.em, .em],[.own 0 (.i .i64), .own 1 (.st .session)]],[.i .i64, .st .session],0,29⟩)],[],[0,2,4,5],[2,4]⟩
def fH (s: (List dJ×Unit×Unit×Int×Unit)×((Unit×Unit×Unit)×(Unit×Unit×Unit)×Unit)×List Int×List dp×Unit):l5.R:=
 br (decide (s.1.2.2.2.1< (s.1.1.length:Int))) (dy (0<=s.1.2.2.2.1) ((s.1.1[s.1.2.2.2.1.toNat]?).bind fun x7=>(iY (⟨s.2.2.1,s.2.2.2.1⟩:dx) x7.op).bind fun y8=>some (.inl ((s.1.1,(),(),(IntKind.wrap .i64 (s.1.2.2.2.1+1)),()),(((),(),()),((),(),()),()),y8.1.objects,y8.1.sessions,()))) none) (some (.inr (((),(),()),s.2)))
def l6:=hU fH
def qB:=qf Try.f41 [0] l5 fH [rp] [] (by kernel_rfl) fun s=>by simp only[fH,tm]; kernel_rfl
def gK (a0:List dJ):Option (dx×Bool×Unit):=
 (iT).bind fun y1=>(fj a0).bind fun y2=>br (!y2.1) (some ((⟨([]:List Int),([]:List dp)⟩:dx),false,())) ((l6 ((a0,(),(),0,()),(((),(),()),((),(),()),()),y1.1.objects,y1.1.sessions,())).bind fun e9=>some ((⟨e9.2.2.1,e9.2.2.2.1⟩:dx),true,()))
def oA:=jg 41 Try.f41 [.ty (.ls (.st .entry))] [.st .machine, .b] (fun x=>gK x.1) [sO,sN] [qB] (by kernel_rfl) fun x=>by simp only[gK,tm]; kernel_rfl
def gU (a0:dx) (a1:Int):Option (Int×Bool×Unit):=
 (ej a0).bind fun y1=>br (!y1.1) (some (0,false,())) ((fC a1 0 2).bind fun y2=>br (!y2.1) (some (0,false,())) (dy (0<=a1) ((a0.objects[a1.toNat]?).bind fun x3=>some (x3,true,())) none))
def sQ:=jg 42 Try.f42 [.ty (.st .machine), .ty (.i .i64)] [.i .i64, .b] (fun x=>gU x.1 x.2.1) [kb,mD] [] (by kernel_rfl) fun x=>by simp only[gU,tm]; kernel_rfl
def kE (a0:List dJ) (a1:Int) (a2:Int):Option (Int×Unit):=
 dy (0<=(0:Int)/\(0:Int)<=a1/\a1<=(a0.length:Int)) ((gK ((a0.drop (0:Int).toNat).take (a1.toNat-(0:Int).toNat))).bind fun y1=>(gU y1.1 a2).bind fun y2=>br (!y1.2.1) (some ((-1),())) (some (y2.1,()))) none
def vV:=jg 31 Try.f31 [.ty (.ls (.st .entry)), .ty (.i .i64), .ty (.i .i64)] [.i .i64] (fun x=>kE x.1 x.2.1 x.2.2.1) [oA,sQ] [] (by kernel_rfl) fun x=>by simp only[kE,tm]; kernel_rfl
def jj (a0:List dJ) (a1:Int):Option (Result×Bool×Unit):=
 (fj a0).bind fun y1=>br (!y1.1) (some ((⟨false,0⟩:Result),false,())) ((fC a1 0 (IntKind.wrap .i64 ((a0.length:Int)-1))).bind fun y2=>br (!y2.1) (some ((⟨false,0⟩:Result),false,())) (dy (0<=(0:Int)/\(0:Int)<=a1/\a1<=(a0.length:Int)) ((gK ((a0.drop (0:Int).toNat).take (a1.toNat-(0:Int).toNat))).bind fun y3=>dy (0<=a1) ((a0[a1.toNat]?).bind fun x4=>(iY y3.1 x4.op).bind fun y5=>some (y5.2.1,y5.2.2.1,())) none) none))
def vW:=jg 32 Try.f32 [.ty (.ls (.st .entry)), .ty (.i .i64)] [.st .result, .b] (fun x=>jj x.1 x.2.1) [sN,mD,oA,rp] [] (by kernel_rfl) fun x=>by simp only[jj,tm]; kernel_rfl
abbrev pZ:LX:=⟨⟨[(0, .cl (.ro (.st .entry))),(1, .cl (.int .i64)),(2, .cl (.int .i64)),(7, .cl (.int .i64))],[],[],0,33⟩,[(.ret,⟨[(6, .cl (.int .i64))],[],[],0,33⟩),(.ext 0,⟨[(6, .cl (.dead))],[],[],0,33⟩)],[],[0,1,2,7],[6]⟩
def il (s: (List dJ×Int×Int×Int×Unit)×Unit×Unit):pZ.R:=
 br (decide (s.1.2.2.2.1< (s.1.1.length:Int))) (dy (0<=s.1.2.2.2.1) ((s.1.1[s.1.2.2.2.1.toNat]?).bind fun x5=>br (x5.op.client==s.1.2.1) (dy (0<=s.1.2.2.2.1) ((s.1.1[s.1.2.2.2.1.toNat]?).bind fun x6=>br (x6.op.seq==s.1.2.2.1) (some (.inr (.inl (s.1.2.2.2,(()),(()))))) (some (.inl ((s.1.1,s.1.2.1,s.1.2.2.1,(IntKind.wrap .i64 (s.1.2.2.2.1+1)),()),(()),(()))))) none) (some (.inl ((s.1.1,s.1.2.1,s.1.2.2.1,(IntKind.wrap .i64 (s.1.2.2.2.1+1)),()),(()),(()))))) none) (some (.inr (.inr (((),()),(()),(())))))
def mG:=hU il
def vX:=qf Try.f33 [0] pZ il [] [] (by kernel_rfl) fun s=>by simp only[il,tm]; kernel_rfl
def li (a0:List dJ) (a1:Int) (a2:Int):Option (Int×Unit):=
 (mG ((a0,a1,a2,0,()),(()),(()))).bind fun e7=>Sum.elim (fun e7_0=>some e7_0.1) (fun _=>some ((-1),())) e7
def zP:=jg 33 Try.f33 [.ty (.ls (.st .entry)), .ty (.i .i64), .ty (.i .i64)] [.i .i64] (fun x=>li x.1 x.2.1 x.2.2.1) [] [vX] (by kernel_rfl) fun x=>by simp only[li,tm]; kernel_rfl
def ke (a0:fy) (a1:List dJ):Option (Bool×Unit):=
 br a0.read ((fC a0.index 0 (a1.length:Int)).bind fun y1=>br y1.1 ((fC a0.op.object 0 2).bind fun y2=>br y2.1 ((kE a1 a0.index a0.op.object).bind fun y3=>some ((y3.1==a0.value),())) (some (false,()))) (some (false,()))) ((jj a1 a0.index).bind fun y4=>br y4.2.1 (dy (0<=a0.index) ((a1[a0.index.toNat]?).bind fun x5=>br ((x5.op.client==a0.op.client)&&((x5.op.seq==a0.op.seq)&&((x5.op.kind==a0.op.kind)&&((x5.op.object==a0.op.object)&&((x5.op.old==a0.op.old)&&((x5.op.value==a0.op.value)&&true)))))) (br (y4.1.value==a0.value) ((li a1 a0.op.client a0.op.seq).bind fun y6=>some ((y6.1==a0.index),())) (some (false,()))) (some (false,()))) none) (some (false,())))
def xI:=jg 17 Try.f17 [.ty (.st .mark), .ty (.ls (.st .entry))] [.b] (fun x=>ke x.1 x.2.1) [mD,vV,vW,zP] [] (by kernel_rfl) fun x=>by simp only[ke,tm]; kernel_rfl
abbrev jk:LX:=⟨⟨[(0, .cl (.ro (.st .mark))),(1, .cl (.ro (.st .entry))),(5, .cl (.int .i64)),(6, .cl (.int .i64))],[],[],0,66⟩,[(.ret,⟨[(0, .cl (.ro (.st .mark))),(1, .cl (.ro (.st .entry))),(4, .cl (.int .i64)),(5, .cl (.int .i64))],[],[],0,66⟩),(.ext 2,⟨[(0, .cl (.ro (.st .mark))),(1, .cl (.ro (.st .entry))),(4, .cl (.dead)),(5, .cl (.int .i64))],[],[],0,66⟩)],[],[0,1,5,6],[0,1,4,5]⟩
def fu (s: (List fy×List dJ×Int×Int×Unit)×Unit×Unit):jk.R:=
 br (decide (s.1.2.2.2.1<s.1.2.2.1)) (dy (0<=s.1.2.2.2.1) ((s.1.1[s.1.2.2.2.1.toNat]?).bind fun x11=>dy (0<=s.1.2.2.2.1) ((s.1.1[s.1.2.2.2.1.toNat]?).bind fun x12=>let j17 (p13:Int):jk.R:=dy (0<=s.1.2.2.2.1) ((s.1.1[s.1.2.2.2.1.toNat]?).bind fun x14=>dy (0<=s.1.2.2.1) ((s.1.1[s.1.2.2.1.toNat]?).bind fun x15=>br (decide (x14.event<x15.start)) (dy (0<=s.1.2.2.1) ((s.1.1[s.1.2.2.1.toNat]?).bind fun x16=>br (decide (x16.index<p13)) (some (.inr (.inl ((s.1.1,s.1.2.1,s.1.2.2.1,s.1.2.2.1,()),(()),(()))))) (some (.inl ((s.1.1,s.1.2.1,s.1.2.2.1,(IntKind.wrap .i64 (s.1.2.2.2.1+1)),()),(()),(()))))) none) (some (.inl ((s.1.1,s.1.2.1,s.1.2.2.1,(IntKind.wrap .i64 (s.1.2.2.2.1+1)),()),(()),(()))))) none) none; br (!x12.read) (j17 (IntKind.wrap .i64 (x11.index+1))) (j17 x11.index)) none) none) (some (.inr (.inr ((s.1.1,s.1.2.1,(),s.1.2.2.1,()),(()),(())))))
def gV:=hU fu
def p6:=qf Try.f7 [0,0] jk fu [] [] (by kernel_rfl) fun s=>by simp only[fu,tm]; kernel_rfl
abbrev lj:LX:=⟨⟨[(0, .cl (.ro (.st .mark))),(1, .cl (.ro (.st .entry))),(5, .cl (.int .i64))],[],[],0,66⟩,[(.ret,⟨[(4, .cl (.int .i64))],[],[],0,66⟩),(.ext 0,⟨[(4, .cl (.dead))],[],[],0,66⟩)],[],[0,1,5],[4]⟩
def fv (s: (List fy×List dJ×Int×Unit)×Unit×Unit):lj.R:=
 br (decide (s.1.2.2.1< (s.1.1.length:Int))) ((fj s.1.2.1).bind fun y4=>br (!y4.1) (some (.inr (.inl (s.1.2.2,(()),(()))))) (dy (0<=s.1.2.2.1) ((s.1.1[s.1.2.2.1.toNat]?).bind fun x5=>(ke x5 s.1.2.1).bind fun y6=>br (!y6.1) (some (.inr (.inl (s.1.2.2,(()),(()))))) ((gV ((s.1.1,s.1.2.1,s.1.2.2.1,0,()),(()),(()))).bind fun e18=>Sum.elim (fun e18_0=>some (.inr (.inl ((e18_0.1.2.2.1,()),(()),(()))))) (fun e18_1=>some (.inl ((e18_1.1.1,e18_1.1.2.1,(IntKind.wrap .i64 (e18_1.1.2.2.2.1+1)),()),(()),(())))) e18)) none)) (some (.inr (.inr (((),()),(()),(())))))
def jl:=hU fv
def p7:=qf Try.f7 [0] lj fv [sN,xI] [p6] (by kernel_rfl) fun s=>by simp only[fv,tm]; kernel_rfl
def gW (a0:List fy) (a1:List dJ):Option (Int×Unit):=
 (jl ((a0,a1,0,()),(()),(()))).bind fun e19=>Sum.elim (fun e19_0=>some e19_0.1) (fun _=>some ((-1),())) e19
def sR:=jg 7 Try.f7 [.ty (.ls (.st .mark)), .ty (.ls (.st .entry))] [.i .i64] (fun x=>gW x.1 x.2.1) [] [p7] (by kernel_rfl) fun x=>by simp only[gW,tm]; kernel_rfl
def ek (a0:Int) (a1:Int) (a2:Int):Option (Bool×Unit):=
 br (decide (a1<=a0)) (some ((decide (a0<=a2)),())) (some (false,()))
def jm:=jg 28 Try.f28 [.ty (.i .i64), .ty (.i .i64), .ty (.i .i64)] [.b] (fun x=>ek x.1 x.2.1 x.2.2.1) [] [] (by kernel_rfl) fun x=>by simp only[ek,tm]; kernel_rfl
def fZ (a0:Op):Option (Bool×Unit):=
 (ek a0.client 0 2).bind fun y1=>br (!y1.1) (some (false,())) ((ek a0.seq 1 99).bind fun y2=>br (!y2.1) (some (false,())) ((ek a0.object 0 2).bind fun y3=>br (!y3.1) (some (false,())) ((ek a0.value 0 9).bind fun y4=>br (!y4.1) (some (false,())) (br (a0.kind==1) (br (a0.old==0) (some (true,())) (br (a0.kind==2) ((ek a0.old 0 9).bind fun y5=>some (y5.1,())) (some (false,())))) (br (a0.kind==2) ((ek a0.old 0 9).bind fun y6=>some (y6.1,())) (some (false,())))))))
def oB:=jg 30 Try.f30 [.ty (.st .op)] [.b] (fun x=>fZ x.1) [jm] [] (by kernel_rfl) fun x=>by simp only[fZ,tm]; kernel_rfl
abbrev rq:LX:=⟨⟨[(0, .cl (.ro (.st .entry))),(5, .cl (.ro (.st .entry))),(6, .cl (.int .i64)),(7, .cl (.int .i64))],[],[],0,41⟩,[(.ret,⟨[(0, .cl (.ro (.st .entry))),(2, .cl (.bl))],[],[],0,41⟩),(.ext 0,⟨[(0, .cl (.ro (.st .entry))),(2, .cl (.dead))],[],[],0,41⟩)],[],[0,5,6,7],[0,2]⟩
def iZ (s: (List dJ×List dJ×Int×Int×Unit)×Unit×Unit):rq.R:=
 br (decide (s.1.2.2.2.1<s.1.2.2.1)) (dy (0<=s.1.2.2.2.1) ((s.1.2.1[s.1.2.2.2.1.toNat]?).bind fun x5=>(ek x5.epoch 1 20).bind fun y6=>br (!y6.1) (some (.inr (.inl ((s.1.1,false,()),(()),(()))))) (br (decide (s.1.2.2.2.1>0)) (dy (0<=(IntKind.wrap .i64 (s.1.2.2.2.1-1))) ((s.1.1[(IntKind.wrap .i64 (s.1.2.2.2.1-1)).toNat]?).bind fun x7=>br (decide (x5.epoch<x7.epoch)) (some (.inr (.inl ((s.1.1,false,()),(()),(()))))) ((fZ x5.op).bind fun y8=>br (!y8.1) (some (.inr (.inl ((s.1.1,false,()),(()),(()))))) (some (.inl ((s.1.1,s.1.2.1,s.1.2.2.1,(IntKind.wrap .i64 (s.1.2.2.2.1+1)),()),(()),(())))))) none) ((fZ x5.op).bind fun y9=>br (!y9.1) (some (.inr (.inl ((s.1.1,false,()),(()),(()))))) (some (.inl ((s.1.1,s.1.2.1,s.1.2.2.1,(IntKind.wrap .i64 (s.1.2.2.2.1+1)),()),(()),(()))))))) none) (some (.inr (.inr ((s.1.1,(),()),(()),(())))))
def n6:=hU iZ
def xJ:=qf Try.f34 [0] rq iZ [jm,oB] [] (by kernel_rfl) fun s=>by simp only[iZ,tm]; kernel_rfl
def iU (a0:List dJ):Option (Bool×Unit):=
 (n6 ((a0,a0,(a0.length:Int),0,()),(()),(()))).bind fun e10=>Sum.elim (fun e10_0=>some e10_0.1.2) (fun e10_1=>some ((decide ((e10_1.1.1.length:Int)<=16)),())) e10
def sS:=jg 34 Try.f34 [.ty (.ls (.st .entry))] [.b] (fun x=>iU x.1) [] [xJ] (by kernel_rfl) fun x=>by simp only[iU,tm]; kernel_rfl
def gX:Option (dx×Unit):=
 dy (0<=3/\3=3/\3*((8:Nat):Int)<=2 ^ 40) (some ((⟨(List.replicate (3:Int).toNat (0:Int)),([]:List dp)⟩:dx),())) none
def sU:=jg 44 Try.f44 [] [.st .machine] (fun _=>gX) [] [] (by kernel_rfl) fun x=>by simp only[gX,tm,-eq_self]; kernel_rfl
def kF (a0:List Int):Option ((List Int)×Unit):=dy (a0.length*8<=2 ^ 40) (some (a0,())) none
def sV:=DW 63 Try.f63 (.i .i64) 8 kF (by kernel_rfl) (fun _=>rfl) fun _=>by kernel_rfl
def im (a0:List dp):Option ((List dp)×Unit):=dy (a0.length*32<=2 ^ 40) (some (a0,())) none
def n7:=DW 64 Try.f64 (.st .session) 32 im (by kernel_rfl) (fun _=>rfl) fun _=>by kernel_rfl
def gt (a0:dx):Option (dx×Unit):=
 (kF a0.objects).bind fun y1=>(im a0.sessions).bind fun y2=>some ((⟨y1.1,y2.1⟩:dx),())
def qC:=jg 54 Try.f54 [.ty (.st .machine)] [.st .machine] (fun x=>gt x.1) [sV,n7] [] (by kernel_rfl) fun x=>by simp only[gt,tm]; kernel_rfl
abbrev l7:LX:=⟨⟨[(1, .cl (.int .i64)),(4, .cl (.ptr 0 0)),(9, .cl (.ro (.st .session))),(10, .cl (.int .i64)),(11, .cl (.int .i64))],[[.int .i64, .int .i64, .bl, .int .i64]],[],0,22⟩,[(.ret,⟨[(4, .cl (.ptr 0 0)),(5, .cl (.bl))],[[.int .i64, .int .i64, .bl, .int .i64]],[],0,22⟩),(.ext 0,⟨[(4, .cl (.ptr 0 0)),(5, .cl (.dead))],[[.int .i64, .int .i64, .bl, .int .i64]],[],0,22⟩)],[],[1,4,9,10,11],[4,5]⟩
def fI (s: (Int×Unit×List dp×Int×Int×Unit)×((Int×Int×Bool×Int×Unit)×Unit)×Unit):l7.R:=
 br (decide (s.1.2.2.2.2.1<s.1.2.2.2.1)) (dy (0<=s.1.2.2.2.2.1) ((s.1.2.2.1[s.1.2.2.2.2.1.toNat]?).bind fun x9=>br (x9.client==s.1.1) (some (.inr (.inl (((),true,()),((x9.client,x9.seq,x9.result.done,x9.result.value,()),()),(()))))) (some (.inl ((s.1.1,(),s.1.2.2.1,s.1.2.2.2.1,(IntKind.wrap .i64 (s.1.2.2.2.2.1+1)),()),s.2.1,(()))))) none) (some (.inr (.inr (((),(),()),s.2.1,(())))))
def jR:=hU fI
def qD:=qf Try.f55 [0] l7 fI [] [] (by kernel_rfl) fun s=>by simp only[fI,tm]; kernel_rfl
def iA (a0:dx) (a1:Int):Option (dp×Bool×Unit):=
 (jR ((a1,(),a0.sessions,(a0.sessions.length:Int),0,()),((0,0,false,0,()),()),(()))).bind fun e10=>Sum.elim (fun e10_0=>some ((⟨e10_0.2.1.1.1,e10_0.2.1.1.2.1,(⟨e10_0.2.1.1.2.2.1,e10_0.2.1.1.2.2.2.1⟩:Result)⟩:dp),e10_0.1.2)) (fun _=>some ((⟨0,0,(⟨false,0⟩:Result)⟩:dp),false,())) e10
def uV:=jg 55 Try.f55 [.ty (.st .machine), .ty (.i .i64)] [.st .session, .b] (fun x=>iA x.1 x.2.1) [] [qD] (by kernel_rfl) fun x=>by simp only[iA,tm]; kernel_rfl
def fk (a0:Int):Option (Bool×Unit):=
 (ek a0 0 9).bind fun y1=>some ((!y1.1),())
def lS:=jg 58 Try.f58 [.ty (.i .i64)] [.b] (fun x=>fk x.1) [jm] [] (by kernel_rfl) fun x=>by simp only[fk,tm]; kernel_rfl
abbrev eF:LX:=⟨⟨[(0, .cl (.ro (.i .i64))),(1, .cl (.fc 58)),(7, .cl (.int .i64)),(8, .cl (.int .i64))],[],[],0,19⟩,[(.ret,⟨[(4, .cl (.int .i64))],[],[],0,19⟩),(.ext 0,⟨[(4, .cl (.dead))],[],[],0,19⟩)],[],[0,1,7,8],[4]⟩
def dB (s: (List Int×Unit×Int×Int×Unit)×Unit×Unit):eF.R:=
 br (decide (s.1.2.2.2.1<s.1.2.2.1)) (dy (0<=s.1.2.2.2.1) ((s.1.1[s.1.2.2.2.1.toNat]?).bind fun x4=>(fk x4).bind fun y5=>br y5.1 (some (.inr (.inl (s.1.2.2.2,(()),(()))))) (some (.inl ((s.1.1,(),s.1.2.2.1,(IntKind.wrap .i64 (s.1.2.2.2.1+1)),()),(()),(()))))) none) (some (.inr (.inr (((),()),(()),(())))))
def ed:=hU dB
def gg:=qf Try.f67 [0] eF dB [lS] [] (by kernel_rfl) fun s=>by simp only[dB,tm]; kernel_rfl
def dQ (a0:List Int):Option (Int×Unit):=
 (ed ((a0,(),(a0.length:Int),0,()),(()),(()))).bind fun e6=>Sum.elim (fun e6_0=>some e6_0.1) (fun _=>some ((-1),())) e6
def gv:=jg 67 Try.f67 [.ty (.ls (.i .i64)), .fc 58] [.i .i64] (fun x=>dQ x.1) [] [gg] (by kernel_rfl) fun x=>by simp only[dQ,tm]; kernel_rfl
def dK (a0:List Int):Option (Bool×Unit):=
 (dQ a0).bind fun y1=>some ((decide (y1.1≥0)),())
def ga:=jg 57 Try.f57 [.ty (.ls (.i .i64)), .fc 58] [.b] (fun x=>dK x.1) [gv] [] (by kernel_rfl) fun x=>by simp only[dK,tm]; kernel_rfl
abbrev jn:LX:=⟨⟨[(1, .cl (.ptr 0 0)),(15, .cl (.ro (.st .session))),(16, .cl (.int .i64)),(17, .cl (.int .i64))],[[.ro (.i .i64), .ro (.st .session)]],[],0,56⟩,[(.ret,⟨[(2, .cl (.bl))],[],[],0,56⟩),(.ext 0,⟨[(2, .cl (.dead))],[],[],0,56⟩)],[],[1,15,16,17],[2]⟩
def eA (s: (Unit×List dp×Int×Int×Unit)×((List Int×List dp×Unit)×Unit)×Unit):jn.R:=
 br (decide (s.1.2.2.2.1<s.1.2.2.1)) (dy (0<=s.1.2.2.2.1) ((s.1.2.1[s.1.2.2.2.1.toNat]?).bind fun x7=>(ek x7.client 0 2).bind fun y8=>br (!y8.1) (some (.inr (.inl ((false,()),(()),(()))))) (br (decide (s.1.2.2.2.1>0)) (dy (0<=(IntKind.wrap .i64 (s.1.2.2.2.1-1))) ((s.2.1.1.2.1[(IntKind.wrap .i64 (s.1.2.2.2.1-1)).toNat]?).bind fun x9=>br (decide (x7.client<=x9.client)) (some (.inr (.inl ((false,()),(()),(()))))) ((ek x7.seq 1 99).bind fun y10=>br (!y10.1) (some (.inr (.inl ((false,()),(()),(()))))) ((ek x7.result.value 0 9).bind fun y11=>br (!y11.1) (some (.inr (.inl ((false,()),(()),(()))))) (some (.inl (((),s.1.2.1,s.1.2.2.1,(IntKind.wrap .i64 (s.1.2.2.2.1+1)),()),s.2.1,(()))))))) none) ((ek x7.seq 1 99).bind fun y12=>br (!y12.1) (some (.inr (.inl ((false,()),(()),(()))))) ((ek x7.result.value 0 9).bind fun y13=>br (!y13.1) (some (.inr (.inl ((false,()),(()),(()))))) (some (.inl (((),s.1.2.1,s.1.2.2.1,(IntKind.wrap .i64 (s.1.2.2.2.1+1)),()),s.2.1,(())))))))) none) (some (.inr (.inr (((),()),(()),(())))))
def gE:=hU eA
def mH:=qf Try.f46 [0] jn eA [jm] [] (by kernel_rfl) fun s=>by simp only[eA,tm]; kernel_rfl
def eL (a0:dx):Option (Bool×Unit):=
 br (!((a0.objects.length:Int)==3)) (some (false,())) ((dK a0.objects).bind fun y1=>br y1.1 (some (false,())) ((gE (((),a0.sessions,(a0.sessions.length:Int),0,()),((a0.objects,a0.sessions,()),()),(()))).bind fun e14=>Sum.elim (fun e14_0=>some e14_0.1) (fun _=>some (true,())) e14))
def kf:=jg 46 Try.f46 [.ty (.st .machine)] [.b] (fun x=>eL x.1) [ga] [mH] (by kernel_rfl) fun x=>by simp only[eL,tm]; kernel_rfl
def eZ (a0:List dp) (a1:Int) (a2:List dp):Option ((List dp)×Unit):=zL 32 a0 a1 a2
section
open Go.RowKit
set_option maxHeartbeats 4000000 in
set_option maxRecDepth 100000 in
theorem kg (ab:Option Addr) (n c:Nat) (ad:Addr) (vc:Nat) (w w':World) (v:Value) (hnc:n<=c) (hn0:ab=none->n=0)
  (hr: ∀ty,(Builtin.append_ #[73,73] ty #[.slice ab n c, .slice (some ad) 1 vc]).run Try.prog w= .ok v w'):
  Calls Try.prog 56 #[.slice ab n c, .int .i64 n, .slice (some ad) 1 vc] w fun e w1=>e= .returned v/\w1=w':=by
 go_enter Try.func56,Try.ntmps56
 cases ab with
 |none=>
  obtain rfl:=hn0 rfl
  go_wp2_with (at_builtin; refine Lib.wpList_append_run _ rfl _ _ _ _ rfl _ _ rfl rfl _ _ (hr _) ?_)
  all_goals (go_ret; exact⟨rfl,rfl⟩)
 |some a=>
  obtain⟨b,o,sp⟩:=a
  go_wp2_with (at_builtin; refine Lib.wpList_append_run _ rfl _ _ _ _ rfl _ _ rfl rfl _ _ (hr _) ?_)
  all_goals (go_ret; exact⟨rfl,rfl⟩)
set_option maxHeartbeats 4000000 in
set_option maxRecDepth 100000 in
theorem jt (b n c i:Nat) (ad:Addr) (vc:Nat) (w W1 W2:World) (u1 u2:Value) (hi:i<n) (hnc:n+1<=c) (hn:n<=2 ^ 40) (hne:ad.block≠b)
  (hA: ∃ra ta fa,w.heap[ad.block]? =some (.cells ra ta fa)/\0<ra.size) (hB: ∃rb tb,w.heap[b]? =some (.cells rb tb (0,0)))
  (hcp1: ∀ty dc sc,(Builtin.copy_ #[73,73] ty #[.slice (some ⟨b,(i+1)*4,none⟩) (n-i) dc, .slice (some ⟨b,i*4,none⟩) (n+1-i) sc]).run Try.prog w.drew= .ok u1 W1)
  (hcp2: ∀ty dc,(Builtin.copy_ #[73,73] ty #[.slice (some ⟨b,i*4,none⟩) (n+1-i) dc, .slice (some ad) 1 vc]).run Try.prog W1= .ok u2 W2):
  Calls Try.prog 56 #[.slice (some ⟨b,0,none⟩) n c, .int .i64 i, .slice (some ad) 1 vc] w fun e w1=>e= .returned (.slice (some ⟨b,0,none⟩) (n+1) c)/\w1=W2:=by
 obtain⟨ra,ta,fa,hA1,hA2⟩:=hA;obtain⟨rb,tb,hB1⟩:=hB
 have hov: ∀lb cb,(callFunc 65 #[.slice (some ad) 1 vc, .slice (some ⟨b,(i+1)*4,none⟩) lb cb]).run Try.prog w= .ok (.value (.bool false)) w:=fun lb cb=>by
  rw[run_callFunc_extern Try.func65 (by kernel_rfl) (by kernel_rfl) (by kernel_rfl) (e:=Extern.SlicesOverlaps.overlaps #[73,73] #[4]) (by kernel_rfl),
   rU w 73 4 91 (by kernel_rfl) (i:=Try.t91) (by kernel_rfl) ad ⟨b,(i+1)*4,none⟩ 1 vc lb cb hne hA1 hA2 hB1]
  rfl
 have hz2: ¬ ((i:Int)=(n:Int)):=by omega
 have hw1:IntKind.i64.wrap ((i:Int)+1)=(i:Int)+1:=by rw[IntKind.wrap_i64]; omega
 have hw2:IntKind.i64.wrap ((n:Int)+1)=(n:Int)+1:=by rw[IntKind.wrap_i64]; omega
 have hb1: (0:Int)<=(i:Int)+1:=by omega
 have hin:i<=n:=by omega
 have htn: ((i:Int)+1).toNat=i+1:=by omega
 have htn2: ((n:Int)+1).toNat=n+1:=by omega
 have hb2: ¬ (c=i+1):=by omega
 have hb3: (i:Int)<=(n:Int)+1:=by omega
 have hb4: ¬ (c=i):=by omega
 have mixed:Try.prog.follows .mixedOrders=true:=lg;clear hA1 hA2 hB1 hne hn
 go_enter Try.func56,Try.ntmps56
 go_wp2_with (simp only[hov])
 go_region_law_o (refine rm rfl _ _ 73 73 rfl _ _ (by simp[Act.eval,Act.put]) (by simp[Act.eval,Act.put]) (hcp1 _ _ _) ?_)
 go_wp2_with (refine wP _ rfl _ _ 73 73 rfl _ _ rfl rfl (hcp2 _ _) ?_)
 go_ret
 exact⟨rfl,rfl⟩
set_option maxHeartbeats 4000000 in
set_option maxRecDepth 100000 in
theorem jS (b g n c G i:Nat) (ad:Addr) (vc:Nat) (w W0 W1 W2:World) (u1 u2:Value) (hi:i<n) (hnn:n<=c) (hnc:c<n+1) (hG:n+1<=G) (hn:n<=2 ^ 40)
  (hrz: ∀ty,(Builtin.append_ #[73,3] ty #[.slice (some ⟨b,0,none⟩) i c, .int .i64 ((n:Int)+1-(i:Int))]).run Try.prog w= .ok (.slice (some ⟨g,0,none⟩) (n+1) G) W0)
  (hcp1: ∀ty dc,(Builtin.copy_ #[73,73] ty #[.slice (some ⟨g,i*4,none⟩) (n+1-i) dc, .slice (some ad) 1 vc]).run Try.prog W0= .ok u1 W1)
  (hcp2: ∀ty dc sc,(Builtin.copy_ #[73,73] ty #[.slice (some ⟨g,(i+1)*4,none⟩) (n-i) dc, .slice (some ⟨b,i*4,none⟩) (n-i) sc]).run Try.prog W1.drew= .ok u2 W2):
  Calls Try.prog 56 #[.slice (some ⟨b,0,none⟩) n c, .int .i64 i, .slice (some ad) 1 vc] w fun e w1=>e= .returned (.slice (some ⟨g,0,none⟩) (n+1) G)/\w1=W2:=by
 have hz2: ¬ ((i:Int)=(n:Int)):=by omega
 have hw1:IntKind.i64.wrap ((i:Int)+1)=(i:Int)+1:=by rw[IntKind.wrap_i64]; omega
 have hw2:IntKind.i64.wrap ((n:Int)+1)=(n:Int)+1:=by rw[IntKind.wrap_i64]; omega
 have hw3:IntKind.i64.wrap ((n:Int)+1-(i:Int))=(n:Int)+1-(i:Int):=by rw[IntKind.wrap_i64]; omega
 have hb1: (0:Int)<=(i:Int)+1:=by omega
 have hin:i<=n:=by omega
 have htn: ((i:Int)+1).toNat=i+1:=by omega
 have hb2: ¬ (G=i+1):=by omega
 have hb3: (i:Int)<=(n:Int)+1:=by omega
 have hb4: ¬ (c=i):=by omega
 have hb5: ¬ (G=i):=by omega
 have hb6: (c:Int)< (n:Int)+1:=by omega
 have mixed:Try.prog.follows .mixedOrders=true:=lg;clear hn
 go_enter Try.func56,Try.ntmps56
 go_wp2_with (first
  | (at_builtin; refine Lib.wpList_append_run _ rfl _ _ _ _ rfl _ _ rfl rfl _ _ (hrz _) ?_)
  | (refine wP _ rfl _ _ 73 73 rfl _ _ rfl rfl (hcp1 _ _) ?_))
 go_region_law_o (refine rm rfl _ _ 73 73 rfl _ _ (by simp[Act.eval,Act.put]) (by simp[Act.eval,Act.put]) (hcp2 _ _ _) ?_)
 go_wp2
 go_ret
 exact⟨rfl,rfl⟩
theorem kG:rV Try.prog 56 73 91 3 4 Try.t91 (.agg #[.int .i64 0, .int .i64 0, .bool false, .int .i64 0]) where
 enter:=zK Try.func56 (by kernel_rfl) rfl
 ht:=by kernel_rfl
 hi:=by kernel_rfl
 hz:=by kernel_rfl
 zs:=by kernel_rfl
 z1:=by decide
 hs:=by kernel_rfl
 pos:=by decide
 htn:=by kernel_rfl
 toEnd:=fun ab n c ad vc w w' v h1 h2 _ h4=>kg ab n c ad vc w w' v h1 h2 h4
 shift:=jt
 grow:=jS
end
def ll:=Cr kG (.st .session) rfl rfl 32 (by kernel_rfl) (by decide)
abbrev np:LX:=⟨⟨[(3, .cl (.ptr 0 0)),(4, .cl (.ptr 1 0)),(5, .cl (.ptr 2 0)),(7, .cl (.ptr 3 0)),(9, .cl (.bl)),(11, .cl (.ptr 4 0)),(12, .cl (.int .i64))],[[.int .i64, .int .i64, .int .i64, .int .i64, .int .i64, .int .i64],[.em, .em],[.bl, .int .i64],[.own 0 (.i .i64), .own 1 (.st .session)],[.bl, .int .i64]],[.i .i64, .st .session],0,120⟩,[(.ext 1,⟨[(3, .cl (.ptr 0 0)),(4, .cl (.ptr 1 0)),(5, .cl (.ptr 2 0)),(7, .cl (.ptr 3 0)),(9, .cl (.bl)),(11, .cl (.ptr 4 0)),(12, .cl (.int .i64))],[[.int .i64, .int .i64, .int .i64, .int .i64, .int .i64, .int .i64],[.em, .em],[.bl, .int .i64],[.own 0 (.i .i64), .own 1 (.st .session)],[.bl, .int .i64]],[.i .i64, .st .session],0,120⟩)],[],[3,4,5,7,9,11,12],[3,4,5,7,9,11,12]⟩
def kH (s: (Unit×Unit×Unit×Unit×Bool×Unit×Int×Unit)×((Int×Int×Int×Int×Int×Int×Unit)×(Unit×Unit×Unit)×(Bool×Int×Unit)×(Unit×Unit×Unit)×(Bool×Int×Unit)×Unit)×List Int×List dp×Unit):np.R:=
 br (decide (s.1.2.2.2.2.2.2.1< (s.2.2.2.1.length:Int))) (dy (0<=s.1.2.2.2.2.2.2.1/\s.1.2.2.2.2.2.2.1< (s.2.2.2.1.length:Int)) ((s.2.2.2.1[s.1.2.2.2.2.2.2.1.toNat]?).bind fun x22=>br (decide (x22.client<s.2.1.1.1)) (some (.inl (((),(),(),(),s.1.2.2.2.2.1,(),(IntKind.wrap .i64 (s.1.2.2.2.2.2.2.1+1)),()),s.2))) (some (.inr s))) none) (some (.inr s))
def kI:=hU kH
def sW:=qf Try.f45 [0] np kH [] [] (by kernel_rfl) fun s=>by simp only[kH,tm]; kernel_rfl
def i4 (a0:dx) (a1:Op):Option (dx×Result×Bool×Unit):=
 (gt a0).bind fun y1=>(iA a0 a1.client).bind fun y2=>(eL a0).bind fun y3=>br (!y3.1) (some (y1.1,(⟨false,0⟩:Result),false,())) ((fZ a1).bind fun y4=>br (!y4.1) (some (y1.1,(⟨false,0⟩:Result),false,())) (let j54:Option (dx×Result×Bool×Unit):=dy (0<=a1.object) ((a0.objects[a1.object.toNat]?).bind fun x5=>br (a1.kind==1) (dy (0<=a1.object/\a1.object< (y1.1.objects.length:Int)) ((y1.1.objects[a1.object.toNat]?).bind fun _=>(kI (((),(),(),(),y2.2.1,(),0,()),((a1.client,a1.seq,a1.kind,a1.object,a1.old,a1.value,()),((),(),()),(false,0,()),((),(),()),(true,x5,()),()),(y1.1.objects.set a1.object.toNat a1.value),y1.1.sessions,())).bind fun e23=>let j28 (p25:List dp):Option (dx×Result×Bool×Unit):=dy (0<=e23.1.2.2.2.2.2.2.1/\e23.1.2.2.2.2.2.2.1< (p25.length:Int)) ((p25[e23.1.2.2.2.2.2.2.1.toNat]?).bind fun _=>some ((⟨e23.2.2.1,(p25.set e23.1.2.2.2.2.2.2.1.toNat (⟨e23.2.1.1.1,e23.2.1.1.2.1,(⟨e23.2.1.2.2.2.2.1.1,e23.2.1.2.2.2.2.1.2.1⟩:Result)⟩:dp))⟩:dx),(⟨e23.2.1.2.2.2.2.1.1,e23.2.1.2.2.2.2.1.2.1⟩:Result),true,())) none; br (!e23.1.2.2.2.2.1) ((eZ e23.2.2.2.1 e23.1.2.2.2.2.2.2.1 ([(⟨0,0,(⟨false,0⟩:Result)⟩:dp)]:List dp)).bind fun y24=>j28 y24.1) (j28 e23.2.2.2.1)) none) (let j53 (p31:List Int):Option (dx×Result×Bool×Unit):=(kI (((),(),(),(),y2.2.1,(),0,()),((a1.client,a1.seq,a1.kind,a1.object,a1.old,a1.value,()),((),(),()),(false,0,()),((),(),()),((x5==a1.old),x5,()),()),p31,y1.1.sessions,())).bind fun e47=>let j52 (p49:List dp):Option (dx×Result×Bool×Unit):=dy (0<=e47.1.2.2.2.2.2.2.1/\e47.1.2.2.2.2.2.2.1< (p49.length:Int)) ((p49[e47.1.2.2.2.2.2.2.1.toNat]?).bind fun _=>some ((⟨e47.2.2.1,(p49.set e47.1.2.2.2.2.2.2.1.toNat (⟨e47.2.1.1.1,e47.2.1.1.2.1,(⟨e47.2.1.2.2.2.2.1.1,e47.2.1.2.2.2.2.1.2.1⟩:Result)⟩:dp))⟩:dx),(⟨e47.2.1.2.2.2.2.1.1,e47.2.1.2.2.2.2.1.2.1⟩:Result),true,())) none; br (!e47.1.2.2.2.2.1) ((eZ e47.2.2.2.1 e47.1.2.2.2.2.2.2.1 ([(⟨0,0,(⟨false,0⟩:Result)⟩:dp)]:List dp)).bind fun y48=>j52 y48.1) (j52 e47.2.2.2.1); br (x5==a1.old) (dy (0<=a1.object/\a1.object< (y1.1.objects.length:Int)) ((y1.1.objects[a1.object.toNat]?).bind fun _=>j53 (y1.1.objects.set a1.object.toNat a1.value)) none) (j53 y1.1.objects))) none; br y2.2.1 (br (decide (y2.1.seq>a1.seq)) (some (y1.1,(⟨false,0⟩:Result),false,())) (br y2.2.1 (br (y2.1.seq==a1.seq) (some (y1.1,y2.1.result,true,())) (j54)) (j54))) (br y2.2.1 (br (y2.1.seq==a1.seq) (some (y1.1,y2.1.result,true,())) (j54)) (j54))))
def rr:=jg 45 Try.f45 [.ty (.st .machine), .ty (.st .op)] [.st .machine, .st .result, .b] (fun x=>i4 x.1 x.2.1) [qC,uV,kf,oB,ll] [sW] (by kernel_rfl) fun x=>by simp only[i4,tm]; kernel_rfl
abbrev l8:LX:=⟨⟨[(2, .cl (.ptr 0 0)),(4, .cl (.ptr 1 0)),(12, .cl (.ro (.st .entry))),(13, .cl (.int .i64)),(14, .cl (.int .i64))],[[.em, .em],[.own 0 (.i .i64), .own 1 (.st .session)]],[.i .i64, .st .session],0,28⟩,[(.ext 0,⟨[(2, .cl (.ptr 0 0)),(4, .cl (.ptr 1 0))],[[.em, .em],[.own 0 (.i .i64), .own 1 (.st .session)]],[.i .i64, .st .session],0,28⟩)],[],[2,4,12,13,14],[2,4]⟩
def fJ (s: (Unit×Unit×List dJ×Int×Int×Unit)×((Unit×Unit×Unit)×(Unit×Unit×Unit)×Unit)×List Int×List dp×Unit):l8.R:=
 br (decide (s.1.2.2.2.2.1<s.1.2.2.2.1)) (dy (0<=s.1.2.2.2.2.1) ((s.1.2.2.1[s.1.2.2.2.2.1.toNat]?).bind fun x8=>(i4 (⟨s.2.2.1,s.2.2.2.1⟩:dx) x8.op).bind fun y9=>some (.inl (((),(),s.1.2.2.1,s.1.2.2.2.1,(IntKind.wrap .i64 (s.1.2.2.2.2.1+1)),()),(((),(),()),((),(),()),()),y9.1.objects,y9.1.sessions,()))) none) (some (.inr (((),(),()),s.2)))
def l9:=hU fJ
def qE:=qf Try.f35 [0] l8 fJ [rr] [] (by kernel_rfl) fun s=>by simp only[fJ,tm]; kernel_rfl
def gM (a0:List dJ):Option (dx×Bool×Unit):=
 (iU a0).bind fun y1=>br (!y1.1) (some ((⟨([]:List Int),([]:List dp)⟩:dx),false,())) ((gX).bind fun y2=>(l9 (((),(),a0,(a0.length:Int),0,()),(((),(),()),((),(),()),()),y2.1.objects,y2.1.sessions,())).bind fun e10=>some ((⟨e10.2.2.1,e10.2.2.2.1⟩:dx),true,()))
def oC:=jg 35 Try.f35 [.ty (.ls (.st .entry))] [.st .machine, .b] (fun x=>gM x.1) [sS,sU] [qE] (by kernel_rfl) fun x=>by simp only[gM,tm]; kernel_rfl
def gY (a0:dx) (a1:Int):Option (Int×Bool×Unit):=
 (eL a0).bind fun y1=>br (!y1.1) (some (0,false,())) ((ek a1 0 2).bind fun y2=>br (!y2.1) (some (0,false,())) (dy (0<=a1) ((a0.objects[a1.toNat]?).bind fun x3=>some (x3,true,())) none))
def sX:=jg 36 Try.f36 [.ty (.st .machine), .ty (.i .i64)] [.i .i64, .b] (fun x=>gY x.1 x.2.1) [kf,jm] [] (by kernel_rfl) fun x=>by simp only[gY,tm]; kernel_rfl
def jo (a0:List dJ) (a1:Int):Option (Result×Bool×Unit):=
 (iU a0).bind fun y1=>br (!y1.1) (some ((⟨false,0⟩:Result),false,())) ((ek a1 0 (IntKind.wrap .i64 ((a0.length:Int)-1))).bind fun y2=>br (!y2.1) (some ((⟨false,0⟩:Result),false,())) (dy (0<=(0:Int)/\(0:Int)<=a1/\a1<=(a0.length:Int)) ((gM ((a0.drop (0:Int).toNat).take (a1.toNat-(0:Int).toNat))).bind fun y3=>dy (0<=a1) ((a0[a1.toNat]?).bind fun x4=>(i4 y3.1 x4.op).bind fun y5=>some (y5.2.1,y5.2.2.1,())) none) none))
def vY:=jg 37 Try.f37 [.ty (.ls (.st .entry)), .ty (.i .i64)] [.st .result, .b] (fun x=>jo x.1 x.2.1) [sS,jm,oC,rr] [] (by kernel_rfl) fun x=>by simp only[jo,tm]; kernel_rfl
def jD (a0:dJ) (a1:Int) (a2:Int):Option (Bool×Unit):=
 br (a0.op.client==a1) (some ((a0.op.seq==a2),())) (some (false,()))
def uW:=jg 48 Try.f48 [.ty (.st .entry), .pr (.i .i64), .pr (.i .i64)] [.b] (fun x=>jD x.1 x.2.1 x.2.2.1) [] [] (by kernel_rfl) fun x=>by simp only[jD,tm]; kernel_rfl
abbrev fg:LX:=⟨⟨[(0, .cl (.ro (.st .entry))),(1, .fn 48 [.pro (.i .i64), .pro (.i .i64)]),(7, .cl (.int .i64)),(8, .cl (.int .i64))],[],[],0,19⟩,[(.ret,⟨[(4, .cl (.int .i64))],[],[],0,19⟩),(.ext 0,⟨[(4, .cl (.dead))],[],[],0,19⟩)],[],[0,1,7,8],[4]⟩
def dH (s: (List dJ×(Int×Int×Unit)×Int×Int×Unit)×Unit×Unit):fg.R:=
 br (decide (s.1.2.2.2.1<s.1.2.2.1)) (dy (0<=s.1.2.2.2.1) ((s.1.1[s.1.2.2.2.1.toNat]?).bind fun x6=>(jD x6 s.1.2.1.1 s.1.2.1.2.1).bind fun y7=>br y7.1 (some (.inr (.inl (s.1.2.2.2,(()),(()))))) (some (.inl ((s.1.1,s.1.2.1,s.1.2.2.1,(IntKind.wrap .i64 (s.1.2.2.2.1+1)),()),(()),(()))))) none) (some (.inr (.inr (((),()),(()),(())))))
def ew:=hU dH
def ia:=qf Try.f47 [0] fg dH [uW] [] (by kernel_rfl) fun s=>by simp only[dH,tm]; kernel_rfl
def ef (a0:List dJ) (a1_0:Int) (a1_1:Int):Option (Int×Unit):=
 (ew ((a0,(a1_0,a1_1,()),(a0.length:Int),0,()),(()),(()))).bind fun e8=>Sum.elim (fun e8_0=>some e8_0.1) (fun _=>some ((-1),())) e8
def iB:=jg 47 Try.f47 [.ty (.ls (.st .entry)), .fn 48 [.i .i64, .i .i64]] [.i .i64] (fun x=>ef x.1 x.2.1.1 x.2.1.2.1) [] [ia] (by kernel_rfl) fun x=>by simp only[ef,tm]; kernel_rfl
def lm (a0:List dJ) (a1:Int) (a2:Int):Option (Int×Unit):=
 (ef a0 a1 a2).bind fun y1=>some (y1.1,())
def zQ:=jg 38 Try.f38 [.ty (.ls (.st .entry)), .ty (.i .i64), .ty (.i .i64)] [.i .i64] (fun x=>lm x.1 x.2.1 x.2.2.1) [iB] [] (by kernel_rfl) fun x=>by simp only[lm,tm]; kernel_rfl
abbrev ip:LX:=⟨⟨[(3, .cl (.ptr 0 0)),(91, .cl (.ro (.st .mark))),(92, .cl (.int .i64)),(93, .cl (.int .i64))],[[.int .i64, .int .i64, .bl, .int .i64, .int .i64, .int .i64, .int .i64, .int .i64, .int .i64, .int .i64, .int .i64]],[],0,116⟩,[(.ret,⟨[(6, .cl (.bl))],[],[],0,116⟩),(.ext 0,⟨[(6, .cl (.dead))],[],[],0,116⟩)],[],[3,91,92,93],[6]⟩
def eM (s: (Unit×List fy×Int×Int×Unit)×((Int×Int×Bool×Int×Int×Int×Int×Int×Int×Int×Int×Unit)×Unit)×Unit):ip.R:=
 br (decide (s.1.2.2.2.1<s.1.2.2.1)) (dy (0<=s.1.2.2.2.1) ((s.1.2.1[s.1.2.2.2.1.toNat]?).bind fun x22=>let j24:ip.R:=some (.inl (((),s.1.2.1,s.1.2.2.1,(IntKind.wrap .i64 (s.1.2.2.2.1+1)),()),s.2.1,(()))); br (!x22.read) (br (decide (x22.event<s.2.1.1.1)) (br (decide (s.2.1.1.2.2.2.1< (IntKind.wrap .i64 (x22.index+1)))) (some (.inr (.inl ((false,()),(()),(()))))) (j24)) (j24)) (br (decide (x22.event<s.2.1.1.1)) (br (decide (s.2.1.1.2.2.2.1<x22.index)) (some (.inr (.inl ((false,()),(()),(()))))) (j24)) (j24))) none) (some (.inr (.inr (((),()),(()),(())))))
def gi:=hU eM
def n8:=qf Try.f20 [0] ip eM [] [] (by kernel_rfl) fun s=>by simp only[eM,tm]; kernel_rfl
def fe (a0:fy) (a1:List fy) (a2:List dJ):Option (Bool×Unit):=
 (iU a2).bind fun y1=>br (!y1.1) (some (false,())) (let j26:Option (Bool×Unit):=(gi (((),a1,(a1.length:Int),0,()),((a0.start,a0.event,a0.read,a0.index,a0.value,a0.op.client,a0.op.seq,a0.op.kind,a0.op.object,a0.op.old,a0.op.value,()),()),(()))).bind fun e25=>Sum.elim (fun e25_0=>some e25_0.1) (fun _=>some (true,())) e25; br a0.read ((ek a0.index 0 (a2.length:Int)).bind fun y2=>br (!y2.1) (some (false,())) (dy (0<=(0:Int)/\(0:Int)<=a0.index/\a0.index<=(a2.length:Int)) ((gM ((a2.drop (0:Int).toNat).take (a0.index.toNat-(0:Int).toNat))).bind fun y3=>(gY y3.1 a0.op.object).bind fun y4=>br (!y4.2.1) (some (false,())) (br (!(y4.1==a0.value)) (some (false,())) (j26))) none)) ((jo a2 a0.index).bind fun y5=>br (!y5.2.1) (some (false,())) (br (!(y5.1.value==a0.value)) (some (false,())) (dy (0<=a0.index) ((a2[a0.index.toNat]?).bind fun x6=>br (!((x6.op.client==a0.op.client)&&((x6.op.seq==a0.op.seq)&&((x6.op.kind==a0.op.kind)&&((x6.op.object==a0.op.object)&&((x6.op.old==a0.op.old)&&((x6.op.value==a0.op.value)&&true))))))) (some (false,())) ((lm a2 a0.op.client a0.op.seq).bind fun y7=>br (!(y7.1==a0.index)) (some (false,())) (j26))) none))))
def qF:=jg 20 Try.f20 [.ty (.st .mark), .ty (.ls (.st .mark)), .ty (.ls (.st .entry))] [.b] (fun x=>fe x.1 x.2.1 x.2.2.1) [sS,jm,oC,sX,vY,zQ] [n8] (by kernel_rfl) fun x=>by simp only[fe,tm]; kernel_rfl
abbrev ln:LX:=⟨⟨[(0, .cl (.ro (.st .mark))),(1, .cl (.ro (.st .entry))),(7, .cl (.ro (.st .mark))),(8, .cl (.int .i64)),(9, .cl (.int .i64))],[],[],0,23⟩,[(.ret,⟨[(4, .cl (.int .i64))],[],[],0,23⟩),(.ext 0,⟨[(4, .cl (.dead))],[],[],0,23⟩)],[],[0,1,7,8,9],[4]⟩
def fw (s: (List fy×List dJ×List fy×Int×Int×Unit)×Unit×Unit):ln.R:=
 br (decide (s.1.2.2.2.2.1<s.1.2.2.2.1)) (dy (0<=s.1.2.2.2.2.1) ((s.1.2.2.1[s.1.2.2.2.2.1.toNat]?).bind fun x6=>dy (0<=(0:Int)/\(0:Int)<=s.1.2.2.2.2.1/\s.1.2.2.2.2.1<=(s.1.1.length:Int)) ((fe x6 ((s.1.1.drop (0:Int).toNat).take (s.1.2.2.2.2.1.toNat-(0:Int).toNat)) s.1.2.1).bind fun y7=>br (!y7.1) (some (.inr (.inl (s.1.2.2.2.2,(()),(()))))) (some (.inl ((s.1.1,s.1.2.1,s.1.2.2.1,s.1.2.2.2.1,(IntKind.wrap .i64 (s.1.2.2.2.2.1+1)),()),(()),(()))))) none) none) (some (.inr (.inr (((),()),(()),(())))))
def jq:=hU fw
def p8:=qf Try.f10 [0] ln fw [qF] [] (by kernel_rfl) fun s=>by simp only[fw,tm]; kernel_rfl
def gZ (a0:List fy) (a1:List dJ):Option (Int×Unit):=
 (jq ((a0,a1,a0,(a0.length:Int),0,()),(()),(()))).bind fun e8=>Sum.elim (fun e8_0=>some e8_0.1) (fun _=>some ((-1),())) e8
def sY:=jg 10 Try.f10 [.ty (.ls (.st .mark)), .ty (.ls (.st .entry))] [.i .i64] (fun x=>gZ x.1 x.2.1) [] [p8] (by kernel_rfl) fun x=>by simp only[gZ,tm]; kernel_rfl
def n9 (a0:Op) (a1:Op):Option (Bool×Unit):=
 br (!(a0.client==a1.client)) (some (false,())) (br (!(a0.seq==a1.seq)) (some (false,())) (br (!(a0.kind==a1.kind)) (some (false,())) (br (!(a0.object==a1.object)) (some (false,())) (br (!(a0.old==a1.old)) (some (false,())) (br (!(a0.value==a1.value)) (some (false,())) (some (true,())))))))
def zR:=jg 39 Try.f39 [.ty (.st .op), .ty (.st .op)] [.b] (fun x=>n9 x.1 x.2.1) [] [] (by kernel_rfl) fun x=>by simp only[n9,tm]; kernel_rfl
def kh (a0:fy) (a1:fy):Option (Bool×Unit):=
 br (!(a0.start==a1.start)) (some (false,())) (br (!(a0.event==a1.event)) (some (false,())) (br (!(a0.read==a1.read)) (some (false,())) (br (!(a0.index==a1.index)) (some (false,())) (br (!(a0.value==a1.value)) (some (false,())) ((n9 a0.op a1.op).bind fun y1=>br (!y1.1) (some (false,())) (some (true,())))))))
def zS:=jg 21 Try.f21 [.ty (.st .mark), .ty (.st .mark)] [.b] (fun x=>kh x.1 x.2.1) [zR] [] (by kernel_rfl) fun x=>by simp only[kh,tm]; kernel_rfl
abbrev oD:LX:=⟨⟨[(0, .cl (.ro (.st .mark))),(1, .cl (.ro (.st .mark))),(5, .cl (.int .i64))],[],[],0,27⟩,[(.ret,⟨[(4, .cl (.bl))],[],[],0,27⟩),(.ext 0,⟨[(4, .cl (.dead))],[],[],0,27⟩)],[],[0,1,5],[4]⟩
def jE (s: (List fy×List fy×Int×Unit)×Unit×Unit):oD.R:=
 br (decide (s.1.2.2.1< (s.1.1.length:Int))) (dy (0<=s.1.2.2.1) ((s.1.1[s.1.2.2.1.toNat]?).bind fun x4=>dy (0<=s.1.2.2.1) ((s.1.2.1[s.1.2.2.1.toNat]?).bind fun x5=>(kh x4 x5).bind fun y6=>br (!y6.1) (some (.inr (.inl ((false,()),(()),(()))))) (some (.inl ((s.1.1,s.1.2.1,(IntKind.wrap .i64 (s.1.2.2.1+1)),()),(()),(()))))) none) none) (some (.inr (.inr (((),()),(()),(())))))
def uX:=hU jE
def uY:=qf Try.f11 [0] oD jE [zS] [] (by kernel_rfl) fun s=>by simp only[jE,tm]; kernel_rfl
def ki (a0:List fy) (a1:List fy):Option (Bool×Unit):=
 br (!((a0.length:Int)==(a1.length:Int))) (some (false,())) ((uX ((a0,a1,0,()),(()),(()))).bind fun e7=>Sum.elim (fun e7_0=>some e7_0.1) (fun _=>some (true,())) e7)
def xK:=jg 11 Try.f11 [.ty (.ls (.st .mark)), .ty (.ls (.st .mark))] [.b] (fun x=>ki x.1 x.2.1) [] [uY] (by kernel_rfl) fun x=>by simp only[ki,tm]; kernel_rfl
def i5 (a0:dJ) (a1:dJ):Option (Bool×Unit):=
 br (!(a0.epoch==a1.epoch)) (some (false,())) ((n9 a0.op a1.op).bind fun y1=>br (!y1.1) (some (false,())) (some (true,())))
def xL:=jg 22 Try.f22 [.ty (.st .entry), .ty (.st .entry)] [.b] (fun x=>i5 x.1 x.2.1) [zR] [] (by kernel_rfl) fun x=>by simp only[i5,tm]; kernel_rfl
abbrev nq:LX:=⟨⟨[(0, .cl (.ro (.st .entry))),(1, .cl (.ro (.st .entry))),(5, .cl (.int .i64))],[],[],0,27⟩,[(.ret,⟨[(4, .cl (.bl))],[],[],0,27⟩),(.ext 0,⟨[(4, .cl (.dead))],[],[],0,27⟩)],[],[0,1,5],[4]⟩
def iV (s: (List dJ×List dJ×Int×Unit)×Unit×Unit):nq.R:=
 br (decide (s.1.2.2.1< (s.1.1.length:Int))) (dy (0<=s.1.2.2.1) ((s.1.1[s.1.2.2.1.toNat]?).bind fun x4=>dy (0<=s.1.2.2.1) ((s.1.2.1[s.1.2.2.1.toNat]?).bind fun x5=>(i5 x4 x5).bind fun y6=>br (!y6.1) (some (.inr (.inl ((false,()),(()),(()))))) (some (.inl ((s.1.1,s.1.2.1,(IntKind.wrap .i64 (s.1.2.2.1+1)),()),(()),(()))))) none) none) (some (.inr (.inr (((),()),(()),(())))))
def sZ:=hU iV
def s4:=qf Try.f12 [0] nq iV [xL] [] (by kernel_rfl) fun s=>by simp only[iV,tm]; kernel_rfl
def jr (a0:List dJ) (a1:List dJ):Option (Bool×Unit):=
 br (!((a0.length:Int)==(a1.length:Int))) (some (false,())) ((sZ ((a0,a1,0,()),(()),(()))).bind fun e7=>Sum.elim (fun e7_0=>some e7_0.1) (fun _=>some (true,())) e7)
def vZ:=jg 12 Try.f12 [.ty (.ls (.st .entry)), .ty (.ls (.st .entry))] [.b] (fun x=>jr x.1 x.2.1) [] [s4] (by kernel_rfl) fun x=>by simp only[jr,tm]; kernel_rfl
def fm (a0:List fy) (a1:List dJ):Option (Bool×Unit):=
 (lO a0 1048576).bind fun y1=>br (decide (y1.1<0)) (some (true,())) ((kC a1 y1.1).bind fun y2=>br (decide (y2.1<0)) (some (true,())) ((ik a0).bind fun y3=>(gD a1).bind fun y4=>(gW y3.1 y4.1).bind fun y5=>(ik a0).bind fun y6=>(gD a1).bind fun y7=>(gZ y6.1 y7.1).bind fun y8=>br (!(y8.1==y5.1)) (some (false,())) ((ik a0).bind fun y9=>(ki y6.1 y9.1).bind fun y10=>br (!y10.1) (some (false,())) ((gD a1).bind fun y11=>(jr y7.1 y11.1).bind fun y12=>br (!y12.1) (some (false,())) (some (true,()))))))
def lT:=jg 3 Try.f3 [.ty (.ls (.st .mark)), .ty (.ls (.st .entry))] [.b] (fun x=>fm x.1 x.2.1) [xE,vT,xF,vU,sR,sY,xK,vZ] [] (by kernel_rfl) fun x=>by simp only[fm,tm]; kernel_rfl
end
end Go.Proofs.Ytpagmogboinlpaa.En
