/- Printed by a program: the walk. -/
import Derived.Test.YtpagmogboinlpaaZTh
namespace Go.Proofs.Ytpagmogboinlpaa.En
open Go
noncomputable section
theorem lV:Try.prog.follows .mixedOrders=true:=by kernel_rfl
abbrev tw:= @xj _ _ wE lV
def qb (a0:Op):Option (Op×Unit):=
 some (a0,())
def vK:=tw 26 Try.f26 [.ty (.st .op)] [.st .op] (fun x=>qb x.1) [] [] (by kernel_rfl) fun x=>by simp only[qb,tm]; kernel_rfl
def gz (a0:ia):Option (ia×Unit):=
 (qb a0.op).bind fun y1=>some ((⟨a0.kind,a0.server,a0.other,a0.n,y1.1⟩:ia),())
def rE:=tw 14 Try.f14 [.ty (.st .event)] [.st .event] (fun x=>gz x.1) [vK] [] (by kernel_rfl) fun x=>by simp only[gz,tm]; kernel_rfl
def fe (a0:Int) (a1:Int) (a2:Int):Option (Bool×Unit):=
 br (decide (a0≥a1)) (some ((decide (a0<=a2)),())) (some (false,()))
def to:=tw 23 Try.f23 [.ty (.i .i64), .ty (.i .i64), .ty (.i .i64)] [.b] (fun x=>fe x.1 x.2.1 x.2.2.1) [] [] (by kernel_rfl) fun x=>by simp only[fe,tm]; kernel_rfl
def iE (a0:Int):Option (Bool×Bool×Bool×Unit):=
 br (a0==1) (some (true,false,false,())) (let j5 (p1:Bool):Option (Bool×Bool×Bool×Unit):=br p1 (some (true,false,false,())) (let j4 (p2:Bool):Option (Bool×Bool×Bool×Unit):=br p2 (some (true,false,true,())) (br (a0==4) (some (false,true,true,())) (br (a0==10) (some (false,false,true,())) (br (a0==11) (some (false,false,true,())) (br (a0==12) (some (true,true,true,())) (br (a0==16) (some (false,true,true,())) (some (false,false,false,()))))))); br (a0==2) (j4 true) (br (a0==3) (j4 true) (j4 (a0==9)))); br (a0==6) (j5 true) (br (a0==7) (j5 true) (br (a0==8) (j5 true) (br (a0==13) (j5 true) (br (a0==14) (j5 true) (j5 (a0==15)))))))
def rF:=tw 24 Try.f24 [.ty (.i .i64)] [.b, .b, .b] (fun x=>iE x.1) [] [] (by kernel_rfl) fun x=>by simp only[iE,tm]; kernel_rfl
def fm (a0:Op):Option (Bool×Unit):=
 (fe a0.client 0 2).bind fun y1=>br (!y1.1) (some (false,())) ((fe a0.seq 1 99).bind fun y2=>br (!y2.1) (some (false,())) ((fe a0.object 0 2).bind fun y3=>br (!y3.1) (some (false,())) ((fe a0.value 0 9).bind fun y4=>br (!y4.1) (some (false,())) (br (a0.kind==1) (br (a0.old==0) (some (true,())) (br (a0.kind==2) ((fe a0.old 0 9).bind fun y5=>some (y5.1,())) (some (false,())))) (br (a0.kind==2) ((fe a0.old 0 9).bind fun y6=>some (y6.1,())) (some (false,())))))))
def pe:=tw 25 Try.f25 [.ty (.st .op)] [.b] (fun x=>fm x.1) [to] [] (by kernel_rfl) fun x=>by simp only[fm,tm]; kernel_rfl
def ey (a0:ia):Option (Bool×Unit):=
 (fe a0.kind 1 16).bind fun y1=>br (!y1.1) (some (false,())) ((fe a0.server 0 4).bind fun y2=>br (!y2.1) (some (false,())) ((fe a0.other 0 4).bind fun y3=>br (!y3.1) (some (false,())) ((fe a0.n 0 999).bind fun y4=>br (!y4.1) (some (false,())) ((iE a0.kind).bind fun y5=>let j7:Option (Bool×Unit):=br (a0.kind==1) ((fm a0.op).bind fun y6=>some (y6.1,())) (some (((a0.op.client==0)&&((a0.op.seq==0)&&((a0.op.kind==0)&&((a0.op.object==0)&&((a0.op.old==0)&&((a0.op.value==0)&&true)))))),())); br (!y5.1) (br (!(a0.server==0)) (some (false,())) (br (!y5.2.1) (br (!(a0.other==0)) (some (false,())) (br (!y5.2.2.1) (br (!(a0.n==0)) (some (false,())) (j7)) (j7))) (br (!y5.2.2.1) (br (!(a0.n==0)) (some (false,())) (j7)) (j7)))) (br (!y5.2.1) (br (!(a0.other==0)) (some (false,())) (br (!y5.2.2.1) (br (!(a0.n==0)) (some (false,())) (j7)) (j7))) (br (!y5.2.2.1) (br (!(a0.n==0)) (some (false,())) (j7)) (j7)))))))
def lW:=tw 13 Try.f13 [.ty (.st .event)] [.b] (fun x=>ey x.1) [to,rF,pe] [] (by kernel_rfl) fun x=>by simp only[ey,tm]; kernel_rfl
def tp:List ByteArray:= [⟨⟨[111,112]⟩⟩,⟨⟨[114,101,97,100]⟩⟩,⟨⟨[108,101,97,115,101]⟩⟩,⟨⟨[112,114,111,112,111,115,101]⟩⟩,⟨⟨[97,99,116,105,118,97,116,101]⟩⟩,⟨⟨[99,114,97,115,104]⟩⟩,⟨⟨[114,101,115,116,97,114,116]⟩⟩,⟨⟨[119,105,112,101]⟩⟩,⟨⟨[115,105,100,101]⟩⟩,⟨⟨[109,97,115,116,101,114,115]⟩⟩,⟨⟨[116,105,109,101]⟩⟩,⟨⟨[108,101,97,114,110]⟩⟩,⟨⟨[117,112,103,114,97,100,101]⟩⟩,⟨⟨[100,111,119,110,103,114,97,100,101]⟩⟩,⟨⟨[115,119,105,116,99,104]⟩⟩,⟨⟨[114,101,112,97,105,114]⟩⟩]
def ve:List ByteArray:= [⟨⟨[115]⟩⟩,⟨⟨[115,110]⟩⟩,⟨⟨[115,110]⟩⟩,⟨⟨[111,110]⟩⟩,⟨⟨[]⟩⟩,⟨⟨[115]⟩⟩,⟨⟨[115]⟩⟩,⟨⟨[115]⟩⟩,⟨⟨[115,110]⟩⟩,⟨⟨[110]⟩⟩,⟨⟨[110]⟩⟩,⟨⟨[115,111,110]⟩⟩,⟨⟨[115]⟩⟩,⟨⟨[115]⟩⟩,⟨⟨[115]⟩⟩,⟨⟨[111,110]⟩⟩]
def j8 (a0:Int):Option (ByteArray×ByteArray×Unit):=if 1<=a0/\a0<=16 then some (tp.getD (a0.toNat-1) ⟨⟨[]⟩⟩,ve.getD (a0.toNat-1) ⟨⟨[]⟩⟩,()) else some (⟨⟨[]⟩⟩,⟨⟨[]⟩⟩,())
section
open Go.RowKit
set_option maxHeartbeats 40000000 in
set_option maxRecDepth 100000 in
theorem tu (k:Int) (h1:1<=k) (h2:k<=16) (w:World):Calls Try.prog 27 #[.int .i64 k] w fun e w'=>e= .returned (.tuple #[.string (tp.getD (k.toNat-1) ⟨⟨[]⟩⟩), .string (ve.getD (k.toNat-1) ⟨⟨[]⟩⟩)])/\Below w.heap.size w w':=by
 have mixed:Try.prog.follows .mixedOrders=true:=lV;rcases (by omega:k=1\/k=2\/k=3\/k=4\/k=5\/k=6\/k=7\/k=8\/k=9\/k=10\/k=11\/k=12\/k=13\/k=14\/k=15\/k=16) with rfl|rfl|rfl|rfl|rfl|rfl|rfl|rfl|rfl|rfl|rfl|rfl|rfl|rfl|rfl|rfl
 all_goals
  clear h1 h2
  go_enter Try.func27,Try.ntmps27
  go_wp2
  go_region
  go_wp2
  go_ret2
  exact⟨rfl,(((Below.refl _ w).alloc (ar _) _).alloc (by simp) _).drew⟩
set_option maxHeartbeats 40000000 in
set_option maxRecDepth 100000 in
theorem rG (k:Int) (h:k<1\/16<k) (w:World):Calls Try.prog 27 #[.int .i64 k] w fun e w'=>e= .returned (.tuple #[.string ⟨⟨[]⟩⟩, .string ⟨⟨[]⟩⟩])/\Below w.heap.size w w':=by
 have mixed:Try.prog.follows .mixedOrders=true:=lV;rcases h with h|h
 ·have h1: ¬1<=k:=by omega
  go_enter Try.func27,Try.ntmps27
  go_wp2
  go_ret2
  exact⟨rfl,((Below.refl _ w).alloc (ar _) _).alloc (by simp) _⟩
 ·have h1:1<=k:=by omega
  have h2: ¬k<=16:=by omega
  go_enter Try.func27,Try.ntmps27
  go_wp2
  go_ret2
  exact⟨rfl,((Below.refl _ w).alloc (ar _) _).alloc (by simp) _⟩
end
def vL:=wg 27 (by kernel_rfl) (pb Try.func27 (by kernel_rfl) rfl) [.ty (.i .i64)] [.s, .s] rfl rfl (fun x=>j8 x.1) fun x y h w=>by
 unfold j8 at h;split at h
 ·rename_i hc;obtain rfl:=Option.some.inj h;exact tu x.1 hc.1 hc.2 w
 ·rename_i hc;obtain rfl:=Option.some.inj h;exact rG x.1 (by have : ¬ (1<=(x.1:Int)/\(x.1:Int)<=16):=hc; omega) w
def eb (a0:Int) (a1:Int) (a2:Int):Option (Bool×Unit):=
 br (decide (a1<=a0)) (some ((decide (a0<=a2)),())) (some (false,()))
def pf:=tw 28 Try.f28 [.ty (.i .i64), .ty (.i .i64), .ty (.i .i64)] [.b] (fun x=>eb x.1 x.2.1 x.2.2.1) [] [] (by kernel_rfl) fun x=>by simp only[eb,tm]; kernel_rfl
def dx (a0 a1:ByteArray):Option (Bool×Unit):=match a1.data.toList with
 | [c] =>some (decide (0<=Lib.indexByte a0.data.toList c),())
 | _=>none
section
open Go.RowKit
set_option maxHeartbeats 4000000 in
set_option maxRecDepth 100000 in
theorem nL (s:ByteArray) (c:Int) (w:World):
  Calls Try.prog 59 #[.string s, .int .u8 c] w fun e w'=>e= .returned (.int .i64 (Lib.indexByte s.data.toList c.toNat.toUInt8))/\w'=w:=by
 go_enter Try.func59,Try.ntmps59
 go_wp2
 rw[run_callFunc_extern Try.func68 (by kernel_rfl) (by kernel_rfl) (by kernel_rfl) (e:=Extern.BytealgIndexByte.indexByte) (by kernel_rfl),Lib.run_indexByteString];simp only[Result.andThen];rw[Oper.upon_value]
 go_wp2
 go_ret
 exact⟨rfl,rfl⟩
set_option maxHeartbeats 4000000 in
set_option maxRecDepth 100000 in
theorem nM (s:ByteArray) (c:UInt8) (w:World):
  Calls Try.prog 49 #[.string s, .string ⟨#[c]⟩] w fun e w'=>e= .returned (.int .i64 (Lib.indexByte s.data.toList c))/\w'=w:=by
 go_enter Try.func49,Try.ntmps49
 go_wp2_with (go_at_call 59; refine (nL _ _ _).mono ?_; rintro e w' ⟨rfl,rfl⟩)
 ·have h: ([c] ==s.toList)=true:=by assumption
  go_ret
  refine⟨?_,rfl⟩;have e:s.data.toList= [c] :=by rw[<-Lib.toList_data]; exact (beq_iff_eq.1 h).symm
  rw[e];simp[Lib.indexByte]
 ·go_ret
  exact⟨rfl,rfl⟩
set_option maxHeartbeats 4000000 in
set_option maxRecDepth 100000 in
theorem nN (s:ByteArray) (c:UInt8) (w:World):
  Calls Try.prog 40 #[.string s, .string ⟨#[c]⟩] w fun e w'=>e= .returned (.int .i64 (Lib.indexByte s.data.toList c))/\w'=w:=by
 go_enter Try.func40,Try.ntmps40
 go_wp2_with (go_at_call 49; refine (nM _ _ _).mono ?_; rintro e w' ⟨rfl,rfl⟩)
 go_ret
 exact⟨rfl,rfl⟩
set_option maxHeartbeats 4000000 in
set_option maxRecDepth 100000 in
theorem nP (s:ByteArray) (c:UInt8) (w:World):
  Calls Try.prog 29 #[.string s, .string ⟨#[c]⟩] w fun e w'=>e= .returned (.bool (decide (0<=Lib.indexByte s.data.toList c)))/\w'=w:=by
 go_enter Try.func29,Try.ntmps29
 go_wp2_with (go_at_call 40; refine (nN _ _ _).mono ?_; rintro e w' ⟨rfl,rfl⟩)
 go_ret
 exact⟨rfl,rfl⟩
end
def pg:=wg 29 (by kernel_rfl) (pb Try.func29 (by kernel_rfl) rfl) [.ty .s, .ty .s] [.b] rfl rfl (fun x=>dx x.1 x.2.1) fun x y h w=>by
 obtain⟨s,⟨t⟩,u⟩:=x;unfold dx at h;split at h
 ·rename_i c hc;obtain rfl:=Option.some.inj h;have e:t= #[c] :=Array.toList_inj.1 hc;subst e;refine (nP s c w).mono fun e w' he=> ?_;obtain⟨rfl,rfl⟩:=he;exact⟨rfl,Go.RowKit.Below.refl _ _⟩
 ·cases h
def fo (a0:Op):Option (Bool×Unit):=
 (eb a0.client 0 2).bind fun y1=>br (!y1.1) (some (false,())) ((eb a0.seq 1 99).bind fun y2=>br (!y2.1) (some (false,())) ((eb a0.object 0 2).bind fun y3=>br (!y3.1) (some (false,())) ((eb a0.value 0 9).bind fun y4=>br (!y4.1) (some (false,())) (br (a0.kind==1) (br (a0.old==0) (some (true,())) (br (a0.kind==2) ((eb a0.old 0 9).bind fun y5=>some (y5.1,())) (some (false,())))) (br (a0.kind==2) ((eb a0.old 0 9).bind fun y6=>some (y6.1,())) (some (false,())))))))
def ph:=tw 30 Try.f30 [.ty (.st .op)] [.b] (fun x=>fo x.1) [pf] [] (by kernel_rfl) fun x=>by simp only[fo,tm]; kernel_rfl
def ez (a0:ia):Option (Bool×Unit):=
 (j8 a0.kind).bind fun y1=>br (wL y1.1 ByteArray.empty) (some (false,())) ((eb a0.server 0 4).bind fun y2=>br (!y2.1) (some (false,())) ((eb a0.other 0 4).bind fun y3=>br (!y3.1) (some (false,())) ((eb a0.n 0 999).bind fun y4=>br (!y4.1) (some (false,())) (let j13:Option (Bool×Unit):=br (a0.kind==1) ((fo a0.op).bind fun y12=>some (y12.1,())) (some (((a0.op.client==0)&&((a0.op.seq==0)&&((a0.op.kind==0)&&((a0.op.object==0)&&((a0.op.old==0)&&((a0.op.value==0)&&true)))))),())); br (!(a0.server==0)) ((dx y1.2.1 (⟨⟨[115]⟩⟩:ByteArray)).bind fun y5=>br (!y5.1) (some (false,())) (br (!(a0.other==0)) ((dx y1.2.1 (⟨⟨[111]⟩⟩:ByteArray)).bind fun y6=>br (!y6.1) (some (false,())) (br (!(a0.n==0)) ((dx y1.2.1 (⟨⟨[110]⟩⟩:ByteArray)).bind fun y7=>br (!y7.1) (some (false,())) (j13)) (j13))) (br (!(a0.n==0)) ((dx y1.2.1 (⟨⟨[110]⟩⟩:ByteArray)).bind fun y8=>br (!y8.1) (some (false,())) (j13)) (j13)))) (br (!(a0.other==0)) ((dx y1.2.1 (⟨⟨[111]⟩⟩:ByteArray)).bind fun y9=>br (!y9.1) (some (false,())) (br (!(a0.n==0)) ((dx y1.2.1 (⟨⟨[110]⟩⟩:ByteArray)).bind fun y10=>br (!y10.1) (some (false,())) (j13)) (j13))) (br (!(a0.n==0)) ((dx y1.2.1 (⟨⟨[110]⟩⟩:ByteArray)).bind fun y11=>br (!y11.1) (some (false,())) (j13)) (j13)))))))
def lX:=tw 15 Try.f15 [.ty (.st .event)] [.b] (fun x=>ez x.1) [vL,pf,pg,ph] [] (by kernel_rfl) fun x=>by simp only[ez,tm]; kernel_rfl
def dL (a0:ia):Option (Bool×Unit):=
 (gz a0).bind fun y1=>(ey y1.1).bind fun y2=>(gz a0).bind fun y3=>(ez y3.1).bind fun y4=>br (!(y4.1==y2.1)) (some (false,())) (some (true,()))
def gW:=tw 4 Try.f4 [.ty (.st .event)] [.b] (fun x=>dL x.1) [rE,lW,lX] [] (by kernel_rfl) fun x=>by simp only[dL,tm]; kernel_rfl
end
end Go.Proofs.Ytpagmogboinlpaa.En
