/- The seat's types (printed by wip/tools/gen_theta.py). -/
import Derived.Test.YtkcgfceffffmoaaGreatProg
import Derived.Test.YtkcgfceffffmoaaGreatZX9
namespace Go.Proofs.YtkcgfceffffmoaaGreat.En
open Go
def Θ:oI:= [(2,⟨.i .i64,0,[],8⟩),
 (3,⟨.i .i64,0,[],8⟩),
 (4,⟨.b,0,[],1⟩),
 (5,⟨.i .u8,0,[],1⟩),
 (9,⟨.s,0,[],16⟩),
 (12,⟨.i .u64,0,[],8⟩),
 (21,⟨.i .i32,0,[],4⟩),
 (22,⟨.ls (.st .server),152,[],24⟩),
 (23,⟨.ls (.i .i64),8,[],24⟩),
 (24,⟨.ls (.st .config),64,[],24⟩),
 (26,⟨.st .masterLog,0,[(0,1,false),(1,1,false)],32⟩),
 (28,⟨.st .lease,0,[(0,1,false),(1,1,false),(2,1,false)],24⟩),
 (29,⟨.ls (.st .place),24,[],24⟩),
 (31,⟨.st .cluster,0,[(0,1,false),(1,1,false),(2,1,false),(3,2,true),(5,1,false),(6,3,true),(9,1,false)],144⟩),
 (34,⟨.ls (.st .server),152,[],24⟩),
 (35,⟨.ls (.st .config),64,[],24⟩),
 (37,⟨.st .masterLog,0,[(0,1,false),(1,1,false)],32⟩),
 (38,⟨.st .lease,0,[(0,1,false),(1,1,false),(2,1,false)],24⟩),
 (39,⟨.ls (.st .place),24,[],24⟩),
 (41,⟨.st .cluster,0,[(0,1,false),(1,1,false),(2,1,false),(3,2,true),(5,1,false),(6,3,true),(9,1,false)],144⟩),
 (49,⟨.ls (.st .entry),56,[],24⟩),
 (59,⟨.st .op,0,[(0,1,false),(1,1,false),(2,1,false),(3,1,false),(4,1,false),(5,1,false)],48⟩),
 (61,⟨.st .op,0,[(0,1,false),(1,1,false),(2,1,false),(3,1,false),(4,1,false),(5,1,false)],48⟩),
 (70,⟨.st .config,0,[(0,1,false),(1,1,false),(2,1,false),(3,1,false)],64⟩),
 (74,⟨.st .server,0,[(0,1,false),(1,1,false),(2,1,false),(3,1,false),(4,4,true),(8,1,false),(9,1,false),(10,1,false),(11,1,false)],152⟩),
 (98,⟨.st .entry,0,[(0,1,false),(1,6,true)],56⟩),
 (117,⟨.st .result,0,[(0,1,false),(1,1,false)],16⟩),
 (119,⟨.st .reply,0,[(0,1,false),(1,2,true),(3,1,false)],32⟩),
 (123,⟨.st .config,0,[(0,1,false),(1,1,false),(2,1,false),(3,1,false)],64⟩),
 (124,⟨.ls (.st .entry),56,[],24⟩),
 (126,⟨.st .server,0,[(0,1,false),(1,1,false),(2,1,false),(3,1,false),(4,4,true),(8,1,false),(9,1,false),(10,1,false),(11,1,false)],152⟩),
 (139,⟨.st .place,0,[(0,1,false),(1,1,false),(2,1,false)],24⟩),
 (141,⟨.st .place,0,[(0,1,false),(1,1,false),(2,1,false)],24⟩),
 (147,⟨.ls (.ls (.i .i64)),24,[],24⟩),
 (189,⟨.ls (.st .session),32,[],24⟩),
 (191,⟨.st .machine,0,[(0,1,false),(1,1,false)],48⟩),
 (200,⟨.st .entry,0,[(0,1,false),(1,6,true)],56⟩),
 (204,⟨.i .u64,0,[],8⟩),
 (212,⟨.st .session,0,[(0,1,false),(1,1,false),(2,2,true)],32⟩),
 (225,⟨.i .u32,0,[],4⟩),
 (227,⟨.i .u64,0,[],8⟩),
 (245,⟨.ls (.ls (.st .entry)),24,[],24⟩)]
theorem SD:TI.ok Tryz.prog 2 ⟨.i .i64,0,[],8⟩:=uT (by kernel_rfl) (by kernel_rfl) (by kernel_rfl)
theorem SE:TI.ok Tryz.prog 3 ⟨.i .i64,0,[],8⟩:=uT (by kernel_rfl) (by kernel_rfl) (by kernel_rfl)
theorem SF:TI.ok Tryz.prog 4 ⟨.b,0,[],1⟩:=uT (by kernel_rfl) (by kernel_rfl) (by kernel_rfl)
theorem SG:TI.ok Tryz.prog 5 ⟨.i .u8,0,[],1⟩:=uT (by kernel_rfl) (by kernel_rfl) (by kernel_rfl)
theorem SH:TI.ok Tryz.prog 9 ⟨.s,0,[],16⟩:=uT (by kernel_rfl) (by kernel_rfl) (by kernel_rfl)
theorem RR:TI.ok Tryz.prog 12 ⟨.i .u64,0,[],8⟩:=uT (by kernel_rfl) (by kernel_rfl) (by kernel_rfl)
theorem RS:TI.ok Tryz.prog 21 ⟨.i .i32,0,[],4⟩:=uT (by kernel_rfl) (by kernel_rfl) (by kernel_rfl)
theorem RT:TI.ok Tryz.prog 22 ⟨.ls (.st .server),152,[],24⟩:=sC (u:=126) (by kernel_rfl) (by kernel_rfl) (by kernel_rfl) (by kernel_rfl) (by kernel_rfl) (by kernel_rfl) (by kernel_rfl) (by kernel_rfl)
theorem RU:TI.ok Tryz.prog 23 ⟨.ls (.i .i64),8,[],24⟩:=sC (u:=3) (by kernel_rfl) (by kernel_rfl) (by kernel_rfl) (by kernel_rfl) (by kernel_rfl) (by kernel_rfl) (by kernel_rfl) (by kernel_rfl)
theorem RV:TI.ok Tryz.prog 24 ⟨.ls (.st .config),64,[],24⟩:=sC (u:=123) (by kernel_rfl) (by kernel_rfl) (by kernel_rfl) (by kernel_rfl) (by kernel_rfl) (by kernel_rfl) (by kernel_rfl) (by kernel_rfl)
theorem RX:TI.ok Tryz.prog 26 ⟨.st .masterLog,0,[(0,1,false),(1,1,false)],32⟩:=mN (by kernel_rfl) (by kernel_rfl) (by kernel_rfl) (by kernel_rfl) (by kernel_rfl) (by kernel_rfl) (fun h=>absurd (show false=true from h) (by decide)) (fun _ xs=>f9 xs (by kernel_rfl))
theorem RY:TI.ok Tryz.prog 28 ⟨.st .lease,0,[(0,1,false),(1,1,false),(2,1,false)],24⟩:=mN (by kernel_rfl) (by kernel_rfl) (by kernel_rfl) (by kernel_rfl) (by kernel_rfl) (by kernel_rfl) (fun _=>⟨(by kernel_rfl),(by kernel_rfl)⟩) (fun h=>absurd (show true=false from h) (by decide))
theorem RZ:TI.ok Tryz.prog 29 ⟨.ls (.st .place),24,[],24⟩:=sC (u:=141) (by kernel_rfl) (by kernel_rfl) (by kernel_rfl) (by kernel_rfl) (by kernel_rfl) (by kernel_rfl) (by kernel_rfl) (by kernel_rfl)
theorem R0:TI.ok Tryz.prog 31 ⟨.st .cluster,0,[(0,1,false),(1,1,false),(2,1,false),(3,2,true),(5,1,false),(6,3,true),(9,1,false)],144⟩:=mN (by kernel_rfl) (by kernel_rfl) (by kernel_rfl) (by kernel_rfl) (by kernel_rfl) (by kernel_rfl) (fun h=>absurd (show false=true from h) (by decide)) (fun _ xs=>f9 xs (by kernel_rfl))
theorem R1:TI.ok Tryz.prog 34 ⟨.ls (.st .server),152,[],24⟩:=sC (u:=74) (by kernel_rfl) (by kernel_rfl) (by kernel_rfl) (by kernel_rfl) (by kernel_rfl) (by kernel_rfl) (by kernel_rfl) (by kernel_rfl)
theorem R2:TI.ok Tryz.prog 35 ⟨.ls (.st .config),64,[],24⟩:=sC (u:=70) (by kernel_rfl) (by kernel_rfl) (by kernel_rfl) (by kernel_rfl) (by kernel_rfl) (by kernel_rfl) (by kernel_rfl) (by kernel_rfl)
theorem R3:TI.ok Tryz.prog 37 ⟨.st .masterLog,0,[(0,1,false),(1,1,false)],32⟩:=mN (by kernel_rfl) (by kernel_rfl) (by kernel_rfl) (by kernel_rfl) (by kernel_rfl) (by kernel_rfl) (fun h=>absurd (show false=true from h) (by decide)) (fun _ xs=>f9 xs (by kernel_rfl))
theorem R4:TI.ok Tryz.prog 38 ⟨.st .lease,0,[(0,1,false),(1,1,false),(2,1,false)],24⟩:=mN (by kernel_rfl) (by kernel_rfl) (by kernel_rfl) (by kernel_rfl) (by kernel_rfl) (by kernel_rfl) (fun _=>⟨(by kernel_rfl),(by kernel_rfl)⟩) (fun h=>absurd (show true=false from h) (by decide))
theorem R5:TI.ok Tryz.prog 39 ⟨.ls (.st .place),24,[],24⟩:=sC (u:=139) (by kernel_rfl) (by kernel_rfl) (by kernel_rfl) (by kernel_rfl) (by kernel_rfl) (by kernel_rfl) (by kernel_rfl) (by kernel_rfl)
theorem R6:TI.ok Tryz.prog 41 ⟨.st .cluster,0,[(0,1,false),(1,1,false),(2,1,false),(3,2,true),(5,1,false),(6,3,true),(9,1,false)],144⟩:=mN (by kernel_rfl) (by kernel_rfl) (by kernel_rfl) (by kernel_rfl) (by kernel_rfl) (by kernel_rfl) (fun h=>absurd (show false=true from h) (by decide)) (fun _ xs=>f9 xs (by kernel_rfl))
theorem R7:TI.ok Tryz.prog 49 ⟨.ls (.st .entry),56,[],24⟩:=sC (u:=98) (by kernel_rfl) (by kernel_rfl) (by kernel_rfl) (by kernel_rfl) (by kernel_rfl) (by kernel_rfl) (by kernel_rfl) (by kernel_rfl)
theorem R8:TI.ok Tryz.prog 59 ⟨.st .op,0,[(0,1,false),(1,1,false),(2,1,false),(3,1,false),(4,1,false),(5,1,false)],48⟩:=mN (by kernel_rfl) (by kernel_rfl) (by kernel_rfl) (by kernel_rfl) (by kernel_rfl) (by kernel_rfl) (fun _=>⟨(by kernel_rfl),(by kernel_rfl)⟩) (fun h=>absurd (show true=false from h) (by decide))
theorem R9:TI.ok Tryz.prog 61 ⟨.st .op,0,[(0,1,false),(1,1,false),(2,1,false),(3,1,false),(4,1,false),(5,1,false)],48⟩:=mN (by kernel_rfl) (by kernel_rfl) (by kernel_rfl) (by kernel_rfl) (by kernel_rfl) (by kernel_rfl) (fun _=>⟨(by kernel_rfl),(by kernel_rfl)⟩) (fun h=>absurd (show true=false from h) (by decide))
theorem Sa:TI.ok Tryz.prog 70 ⟨.st .config,0,[(0,1,false),(1,1,false),(2,1,false),(3,1,false)],64⟩:=mN (by kernel_rfl) (by kernel_rfl) (by kernel_rfl) (by kernel_rfl) (by kernel_rfl) (by kernel_rfl) (fun h=>absurd (show false=true from h) (by decide)) (fun _ xs=>f9 xs (by kernel_rfl))
theorem Sb:TI.ok Tryz.prog 74 ⟨.st .server,0,[(0,1,false),(1,1,false),(2,1,false),(3,1,false),(4,4,true),(8,1,false),(9,1,false),(10,1,false),(11,1,false)],152⟩:=mN (by kernel_rfl) (by kernel_rfl) (by kernel_rfl) (by kernel_rfl) (by kernel_rfl) (by kernel_rfl) (fun h=>absurd (show false=true from h) (by decide)) (fun _ xs=>f9 xs (by kernel_rfl))
theorem Sc:TI.ok Tryz.prog 98 ⟨.st .entry,0,[(0,1,false),(1,6,true)],56⟩:=mN (by kernel_rfl) (by kernel_rfl) (by kernel_rfl) (by kernel_rfl) (by kernel_rfl) (by kernel_rfl) (fun _=>⟨(by kernel_rfl),(by kernel_rfl)⟩) (fun h=>absurd (show true=false from h) (by decide))
theorem Q7:TI.ok Tryz.prog 117 ⟨.st .result,0,[(0,1,false),(1,1,false)],16⟩:=mN (by kernel_rfl) (by kernel_rfl) (by kernel_rfl) (by kernel_rfl) (by kernel_rfl) (by kernel_rfl) (fun _=>⟨(by kernel_rfl),(by kernel_rfl)⟩) (fun h=>absurd (show true=false from h) (by decide))
theorem Q8:TI.ok Tryz.prog 119 ⟨.st .reply,0,[(0,1,false),(1,2,true),(3,1,false)],32⟩:=mN (by kernel_rfl) (by kernel_rfl) (by kernel_rfl) (by kernel_rfl) (by kernel_rfl) (by kernel_rfl) (fun _=>⟨(by kernel_rfl),(by kernel_rfl)⟩) (fun h=>absurd (show true=false from h) (by decide))
theorem Q9:TI.ok Tryz.prog 123 ⟨.st .config,0,[(0,1,false),(1,1,false),(2,1,false),(3,1,false)],64⟩:=mN (by kernel_rfl) (by kernel_rfl) (by kernel_rfl) (by kernel_rfl) (by kernel_rfl) (by kernel_rfl) (fun h=>absurd (show false=true from h) (by decide)) (fun _ xs=>f9 xs (by kernel_rfl))
theorem Ra:TI.ok Tryz.prog 124 ⟨.ls (.st .entry),56,[],24⟩:=sC (u:=200) (by kernel_rfl) (by kernel_rfl) (by kernel_rfl) (by kernel_rfl) (by kernel_rfl) (by kernel_rfl) (by kernel_rfl) (by kernel_rfl)
theorem Rb:TI.ok Tryz.prog 126 ⟨.st .server,0,[(0,1,false),(1,1,false),(2,1,false),(3,1,false),(4,4,true),(8,1,false),(9,1,false),(10,1,false),(11,1,false)],152⟩:=mN (by kernel_rfl) (by kernel_rfl) (by kernel_rfl) (by kernel_rfl) (by kernel_rfl) (by kernel_rfl) (fun h=>absurd (show false=true from h) (by decide)) (fun _ xs=>f9 xs (by kernel_rfl))
theorem Rc:TI.ok Tryz.prog 139 ⟨.st .place,0,[(0,1,false),(1,1,false),(2,1,false)],24⟩:=mN (by kernel_rfl) (by kernel_rfl) (by kernel_rfl) (by kernel_rfl) (by kernel_rfl) (by kernel_rfl) (fun _=>⟨(by kernel_rfl),(by kernel_rfl)⟩) (fun h=>absurd (show true=false from h) (by decide))
theorem Rd:TI.ok Tryz.prog 141 ⟨.st .place,0,[(0,1,false),(1,1,false),(2,1,false)],24⟩:=mN (by kernel_rfl) (by kernel_rfl) (by kernel_rfl) (by kernel_rfl) (by kernel_rfl) (by kernel_rfl) (fun _=>⟨(by kernel_rfl),(by kernel_rfl)⟩) (fun h=>absurd (show true=false from h) (by decide))
theorem Re:TI.ok Tryz.prog 147 ⟨.ls (.ls (.i .i64)),24,[],24⟩:=sC (u:=23) (by kernel_rfl) (by kernel_rfl) (by kernel_rfl) (by kernel_rfl) (by kernel_rfl) (by kernel_rfl) (by kernel_rfl) (by kernel_rfl)
theorem Rf:TI.ok Tryz.prog 189 ⟨.ls (.st .session),32,[],24⟩:=sC (u:=212) (by kernel_rfl) (by kernel_rfl) (by kernel_rfl) (by kernel_rfl) (by kernel_rfl) (by kernel_rfl) (by kernel_rfl) (by kernel_rfl)
theorem Rg:TI.ok Tryz.prog 191 ⟨.st .machine,0,[(0,1,false),(1,1,false)],48⟩:=mN (by kernel_rfl) (by kernel_rfl) (by kernel_rfl) (by kernel_rfl) (by kernel_rfl) (by kernel_rfl) (fun h=>absurd (show false=true from h) (by decide)) (fun _ xs=>f9 xs (by kernel_rfl))
theorem Ri:TI.ok Tryz.prog 200 ⟨.st .entry,0,[(0,1,false),(1,6,true)],56⟩:=mN (by kernel_rfl) (by kernel_rfl) (by kernel_rfl) (by kernel_rfl) (by kernel_rfl) (by kernel_rfl) (fun _=>⟨(by kernel_rfl),(by kernel_rfl)⟩) (fun h=>absurd (show true=false from h) (by decide))
theorem Rj:TI.ok Tryz.prog 204 ⟨.i .u64,0,[],8⟩:=uT (by kernel_rfl) (by kernel_rfl) (by kernel_rfl)
theorem Rk:TI.ok Tryz.prog 212 ⟨.st .session,0,[(0,1,false),(1,1,false),(2,2,true)],32⟩:=mN (by kernel_rfl) (by kernel_rfl) (by kernel_rfl) (by kernel_rfl) (by kernel_rfl) (by kernel_rfl) (fun _=>⟨(by kernel_rfl),(by kernel_rfl)⟩) (fun h=>absurd (show true=false from h) (by decide))
theorem Rl:TI.ok Tryz.prog 225 ⟨.i .u32,0,[],4⟩:=uT (by kernel_rfl) (by kernel_rfl) (by kernel_rfl)
theorem Rm:TI.ok Tryz.prog 227 ⟨.i .u64,0,[],8⟩:=uT (by kernel_rfl) (by kernel_rfl) (by kernel_rfl)
theorem Rn:TI.ok Tryz.prog 245 ⟨.ls (.ls (.st .entry)),24,[],24⟩:=sC (u:=49) (by kernel_rfl) (by kernel_rfl) (by kernel_rfl) (by kernel_rfl) (by kernel_rfl) (by kernel_rfl) (by kernel_rfl) (by kernel_rfl)
theorem aQ:eb Tryz.prog Θ:=
 bn SD <| bn SE <| bn SF <| bn SG <| bn SH <| bn RR <| bn RS <| bn RT <| bn RU <| bn RV <| bn RX <| bn RY <| bn RZ <| bn R0 <| bn R1 <| bn R2 <| bn R3 <| bn R4 <| bn R5 <| bn R6 <| bn R7 <| bn R8 <| bn R9 <| bn Sa <| bn Sb <| bn Sc <| bn Q7 <| bn Q8 <| bn Q9 <| bn Ra <| bn Rb <| bn Rc <| bn Rd <| bn Re <| bn Rf <| bn Rg <| bn Ri <| bn Rj <| bn Rk <| bn Rl <| bn Rm <| bn Rn <| P7 _
end Go.Proofs.YtkcgfceffffmoaaGreat.En
