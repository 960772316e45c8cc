/- The seat's types (printed by wip/tools/gen_theta.py). -/
import Derived.Test.YtkcgfceffffmoaaGreatProg
import Derived.Test.YtkcgfceffffmoaaGreatZX9
namespace Go.Proofs.YtkcgfceffffmoaaGreat.En
open Go
def Θ:pI:= [(2,⟨.i .i64,0,[],8⟩),
 (3,⟨.i .i64,0,[],8⟩),
 (4,⟨.b,0,[],1⟩),
 (5,⟨.i .u8,0,[],1⟩),
 (9,⟨.s,0,[],16⟩),
 (12,⟨.i .u64,0,[],8⟩),
 (21,⟨.i .i32,0,[],4⟩),
 (22,⟨.ls (.st .server),152,[],24⟩),
 (23,⟨.ls (.i .i64),8,[],24⟩),
 (24,⟨.ls (.st .config),64,[],24⟩),
 (26,⟨.st .masterLog,0,[(0,1,false),(1,1,false)],32⟩),
 (28,⟨.st .lease,0,[(0,1,false),(1,1,false),(2,1,false)],24⟩),
 (29,⟨.ls (.st .place),24,[],24⟩),
 (31,⟨.st .cluster,0,[(0,1,false),(1,1,false),(2,1,false),(3,2,true),(5,1,false),(6,3,true),(9,1,false)],144⟩),
 (34,⟨.ls (.st .server),152,[],24⟩),
 (35,⟨.ls (.st .config),64,[],24⟩),
 (37,⟨.st .masterLog,0,[(0,1,false),(1,1,false)],32⟩),
 (38,⟨.st .lease,0,[(0,1,false),(1,1,false),(2,1,false)],24⟩),
 (39,⟨.ls (.st .place),24,[],24⟩),
 (41,⟨.st .cluster,0,[(0,1,false),(1,1,false),(2,1,false),(3,2,true),(5,1,false),(6,3,true),(9,1,false)],144⟩),
 (49,⟨.ls (.st .entry),56,[],24⟩),
 (59,⟨.st .op,0,[(0,1,false),(1,1,false),(2,1,false),(3,1,false),(4,1,false),(5,1,false)],48⟩),
 (61,⟨.st .op,0,[(0,1,false),(1,1,false),(2,1,false),(3,1,false),(4,1,false),(5,1,false)],48⟩),
 (70,⟨.st .config,0,[(0,1,false),(1,1,false),(2,1,false),(3,1,false)],64⟩),
 (74,⟨.st .server,0,[(0,1,false),(1,1,false),(2,1,false),(3,1,false),(4,4,true),(8,1,false),(9,1,false),(10,1,false),(11,1,false)],152⟩),
 (98,⟨.st .entry,0,[(0,1,false),(1,6,true)],56⟩),
 (117,⟨.st .result,0,[(0,1,false),(1,1,false)],16⟩),
 (119,⟨.st .reply,0,[(0,1,false),(1,2,true),(3,1,false)],32⟩),
 (123,⟨.st .config,0,[(0,1,false),(1,1,false),(2,1,false),(3,1,false)],64⟩),
 (124,⟨.ls (.st .entry),56,[],24⟩),
 (126,⟨.st .server,0,[(0,1,false),(1,1,false),(2,1,false),(3,1,false),(4,4,true),(8,1,false),(9,1,false),(10,1,false),(11,1,false)],152⟩),
 (139,⟨.st .place,0,[(0,1,false),(1,1,false),(2,1,false)],24⟩),
 (141,⟨.st .place,0,[(0,1,false),(1,1,false),(2,1,false)],24⟩),
 (147,⟨.ls (.ls (.i .i64)),24,[],24⟩),
 (189,⟨.ls (.st .session),32,[],24⟩),
 (191,⟨.st .machine,0,[(0,1,false),(1,1,false)],48⟩),
 (200,⟨.st .entry,0,[(0,1,false),(1,6,true)],56⟩),
 (204,⟨.i .u64,0,[],8⟩),
 (212,⟨.st .session,0,[(0,1,false),(1,1,false),(2,2,true)],32⟩),
 (225,⟨.i .u32,0,[],4⟩),
 (227,⟨.i .u64,0,[],8⟩),
 (245,⟨.ls (.ls (.st .entry)),24,[],24⟩)]
theorem VD:TI.ok Tryz.prog 2 ⟨.i .i64,0,[],8⟩:=xG (by kernel_rfl) (by kernel_rfl) (by kernel_rfl)
theorem VE:TI.ok Tryz.prog 3 ⟨.i .i64,0,[],8⟩:=xG (by kernel_rfl) (by kernel_rfl) (by kernel_rfl)
theorem VF:TI.ok Tryz.prog 4 ⟨.b,0,[],1⟩:=xG (by kernel_rfl) (by kernel_rfl) (by kernel_rfl)
theorem VG:TI.ok Tryz.prog 5 ⟨.i .u8,0,[],1⟩:=xG (by kernel_rfl) (by kernel_rfl) (by kernel_rfl)
theorem VH:TI.ok Tryz.prog 9 ⟨.s,0,[],16⟩:=xG (by kernel_rfl) (by kernel_rfl) (by kernel_rfl)
theorem UV:TI.ok Tryz.prog 12 ⟨.i .u64,0,[],8⟩:=xG (by kernel_rfl) (by kernel_rfl) (by kernel_rfl)
theorem UW:TI.ok Tryz.prog 21 ⟨.i .i32,0,[],4⟩:=xG (by kernel_rfl) (by kernel_rfl) (by kernel_rfl)
theorem UX:TI.ok Tryz.prog 22 ⟨.ls (.st .server),152,[],24⟩:=uL (u:=126) (by kernel_rfl) (by kernel_rfl) (by kernel_rfl) (by kernel_rfl) (by kernel_rfl) (by kernel_rfl) (by kernel_rfl) (by kernel_rfl)
theorem UY:TI.ok Tryz.prog 23 ⟨.ls (.i .i64),8,[],24⟩:=uL (u:=3) (by kernel_rfl) (by kernel_rfl) (by kernel_rfl) (by kernel_rfl) (by kernel_rfl) (by kernel_rfl) (by kernel_rfl) (by kernel_rfl)
theorem UZ:TI.ok Tryz.prog 24 ⟨.ls (.st .config),64,[],24⟩:=uL (u:=123) (by kernel_rfl) (by kernel_rfl) (by kernel_rfl) (by kernel_rfl) (by kernel_rfl) (by kernel_rfl) (by kernel_rfl) (by kernel_rfl)
theorem U0:TI.ok Tryz.prog 26 ⟨.st .masterLog,0,[(0,1,false),(1,1,false)],32⟩:=oG (by kernel_rfl) (by kernel_rfl) (by kernel_rfl) (by kernel_rfl) (by kernel_rfl) (by kernel_rfl) (fun h=>absurd (show false=true from h) (by decide)) (fun _ xs=>iK xs (by kernel_rfl))
theorem U1:TI.ok Tryz.prog 28 ⟨.st .lease,0,[(0,1,false),(1,1,false),(2,1,false)],24⟩:=oG (by kernel_rfl) (by kernel_rfl) (by kernel_rfl) (by kernel_rfl) (by kernel_rfl) (by kernel_rfl) (fun _=>⟨(by kernel_rfl),(by kernel_rfl)⟩) (fun h=>absurd (show true=false from h) (by decide))
theorem U2:TI.ok Tryz.prog 29 ⟨.ls (.st .place),24,[],24⟩:=uL (u:=141) (by kernel_rfl) (by kernel_rfl) (by kernel_rfl) (by kernel_rfl) (by kernel_rfl) (by kernel_rfl) (by kernel_rfl) (by kernel_rfl)
theorem U3:TI.ok Tryz.prog 31 ⟨.st .cluster,0,[(0,1,false),(1,1,false),(2,1,false),(3,2,true),(5,1,false),(6,3,true),(9,1,false)],144⟩:=oG (by kernel_rfl) (by kernel_rfl) (by kernel_rfl) (by kernel_rfl) (by kernel_rfl) (by kernel_rfl) (fun h=>absurd (show false=true from h) (by decide)) (fun _ xs=>iK xs (by kernel_rfl))
theorem U4:TI.ok Tryz.prog 34 ⟨.ls (.st .server),152,[],24⟩:=uL (u:=74) (by kernel_rfl) (by kernel_rfl) (by kernel_rfl) (by kernel_rfl) (by kernel_rfl) (by kernel_rfl) (by kernel_rfl) (by kernel_rfl)
theorem U5:TI.ok Tryz.prog 35 ⟨.ls (.st .config),64,[],24⟩:=uL (u:=70) (by kernel_rfl) (by kernel_rfl) (by kernel_rfl) (by kernel_rfl) (by kernel_rfl) (by kernel_rfl) (by kernel_rfl) (by kernel_rfl)
theorem U6:TI.ok Tryz.prog 37 ⟨.st .masterLog,0,[(0,1,false),(1,1,false)],32⟩:=oG (by kernel_rfl) (by kernel_rfl) (by kernel_rfl) (by kernel_rfl) (by kernel_rfl) (by kernel_rfl) (fun h=>absurd (show false=true from h) (by decide)) (fun _ xs=>iK xs (by kernel_rfl))
theorem U7:TI.ok Tryz.prog 38 ⟨.st .lease,0,[(0,1,false),(1,1,false),(2,1,false)],24⟩:=oG (by kernel_rfl) (by kernel_rfl) (by kernel_rfl) (by kernel_rfl) (by kernel_rfl) (by kernel_rfl) (fun _=>⟨(by kernel_rfl),(by kernel_rfl)⟩) (fun h=>absurd (show true=false from h) (by decide))
theorem U8:TI.ok Tryz.prog 39 ⟨.ls (.st .place),24,[],24⟩:=uL (u:=139) (by kernel_rfl) (by kernel_rfl) (by kernel_rfl) (by kernel_rfl) (by kernel_rfl) (by kernel_rfl) (by kernel_rfl) (by kernel_rfl)
theorem U9:TI.ok Tryz.prog 41 ⟨.st .cluster,0,[(0,1,false),(1,1,false),(2,1,false),(3,2,true),(5,1,false),(6,3,true),(9,1,false)],144⟩:=oG (by kernel_rfl) (by kernel_rfl) (by kernel_rfl) (by kernel_rfl) (by kernel_rfl) (by kernel_rfl) (fun h=>absurd (show false=true from h) (by decide)) (fun _ xs=>iK xs (by kernel_rfl))
theorem Va:TI.ok Tryz.prog 49 ⟨.ls (.st .entry),56,[],24⟩:=uL (u:=98) (by kernel_rfl) (by kernel_rfl) (by kernel_rfl) (by kernel_rfl) (by kernel_rfl) (by kernel_rfl) (by kernel_rfl) (by kernel_rfl)
theorem Vb:TI.ok Tryz.prog 59 ⟨.st .op,0,[(0,1,false),(1,1,false),(2,1,false),(3,1,false),(4,1,false),(5,1,false)],48⟩:=oG (by kernel_rfl) (by kernel_rfl) (by kernel_rfl) (by kernel_rfl) (by kernel_rfl) (by kernel_rfl) (fun _=>⟨(by kernel_rfl),(by kernel_rfl)⟩) (fun h=>absurd (show true=false from h) (by decide))
theorem Vc:TI.ok Tryz.prog 61 ⟨.st .op,0,[(0,1,false),(1,1,false),(2,1,false),(3,1,false),(4,1,false),(5,1,false)],48⟩:=oG (by kernel_rfl) (by kernel_rfl) (by kernel_rfl) (by kernel_rfl) (by kernel_rfl) (by kernel_rfl) (fun _=>⟨(by kernel_rfl),(by kernel_rfl)⟩) (fun h=>absurd (show true=false from h) (by decide))
theorem Vd:TI.ok Tryz.prog 70 ⟨.st .config,0,[(0,1,false),(1,1,false),(2,1,false),(3,1,false)],64⟩:=oG (by kernel_rfl) (by kernel_rfl) (by kernel_rfl) (by kernel_rfl) (by kernel_rfl) (by kernel_rfl) (fun h=>absurd (show false=true from h) (by decide)) (fun _ xs=>iK xs (by kernel_rfl))
theorem Ve:TI.ok Tryz.prog 74 ⟨.st .server,0,[(0,1,false),(1,1,false),(2,1,false),(3,1,false),(4,4,true),(8,1,false),(9,1,false),(10,1,false),(11,1,false)],152⟩:=oG (by kernel_rfl) (by kernel_rfl) (by kernel_rfl) (by kernel_rfl) (by kernel_rfl) (by kernel_rfl) (fun h=>absurd (show false=true from h) (by decide)) (fun _ xs=>iK xs (by kernel_rfl))
theorem Vf:TI.ok Tryz.prog 98 ⟨.st .entry,0,[(0,1,false),(1,6,true)],56⟩:=oG (by kernel_rfl) (by kernel_rfl) (by kernel_rfl) (by kernel_rfl) (by kernel_rfl) (by kernel_rfl) (fun _=>⟨(by kernel_rfl),(by kernel_rfl)⟩) (fun h=>absurd (show true=false from h) (by decide))
theorem T4:TI.ok Tryz.prog 117 ⟨.st .result,0,[(0,1,false),(1,1,false)],16⟩:=oG (by kernel_rfl) (by kernel_rfl) (by kernel_rfl) (by kernel_rfl) (by kernel_rfl) (by kernel_rfl) (fun _=>⟨(by kernel_rfl),(by kernel_rfl)⟩) (fun h=>absurd (show true=false from h) (by decide))
theorem T5:TI.ok Tryz.prog 119 ⟨.st .reply,0,[(0,1,false),(1,2,true),(3,1,false)],32⟩:=oG (by kernel_rfl) (by kernel_rfl) (by kernel_rfl) (by kernel_rfl) (by kernel_rfl) (by kernel_rfl) (fun _=>⟨(by kernel_rfl),(by kernel_rfl)⟩) (fun h=>absurd (show true=false from h) (by decide))
theorem T6:TI.ok Tryz.prog 123 ⟨.st .config,0,[(0,1,false),(1,1,false),(2,1,false),(3,1,false)],64⟩:=oG (by kernel_rfl) (by kernel_rfl) (by kernel_rfl) (by kernel_rfl) (by kernel_rfl) (by kernel_rfl) (fun h=>absurd (show false=true from h) (by decide)) (fun _ xs=>iK xs (by kernel_rfl))
theorem T7:TI.ok Tryz.prog 124 ⟨.ls (.st .entry),56,[],24⟩:=uL (u:=200) (by kernel_rfl) (by kernel_rfl) (by kernel_rfl) (by kernel_rfl) (by kernel_rfl) (by kernel_rfl) (by kernel_rfl) (by kernel_rfl)
theorem T8:TI.ok Tryz.prog 126 ⟨.st .server,0,[(0,1,false),(1,1,false),(2,1,false),(3,1,false),(4,4,true),(8,1,false),(9,1,false),(10,1,false),(11,1,false)],152⟩:=oG (by kernel_rfl) (by kernel_rfl) (by kernel_rfl) (by kernel_rfl) (by kernel_rfl) (by kernel_rfl) (fun h=>absurd (show false=true from h) (by decide)) (fun _ xs=>iK xs (by kernel_rfl))
theorem T9:TI.ok Tryz.prog 139 ⟨.st .place,0,[(0,1,false),(1,1,false),(2,1,false)],24⟩:=oG (by kernel_rfl) (by kernel_rfl) (by kernel_rfl) (by kernel_rfl) (by kernel_rfl) (by kernel_rfl) (fun _=>⟨(by kernel_rfl),(by kernel_rfl)⟩) (fun h=>absurd (show true=false from h) (by decide))
theorem Ua:TI.ok Tryz.prog 141 ⟨.st .place,0,[(0,1,false),(1,1,false),(2,1,false)],24⟩:=oG (by kernel_rfl) (by kernel_rfl) (by kernel_rfl) (by kernel_rfl) (by kernel_rfl) (by kernel_rfl) (fun _=>⟨(by kernel_rfl),(by kernel_rfl)⟩) (fun h=>absurd (show true=false from h) (by decide))
theorem Ub:TI.ok Tryz.prog 147 ⟨.ls (.ls (.i .i64)),24,[],24⟩:=uL (u:=23) (by kernel_rfl) (by kernel_rfl) (by kernel_rfl) (by kernel_rfl) (by kernel_rfl) (by kernel_rfl) (by kernel_rfl) (by kernel_rfl)
theorem Uc:TI.ok Tryz.prog 189 ⟨.ls (.st .session),32,[],24⟩:=uL (u:=212) (by kernel_rfl) (by kernel_rfl) (by kernel_rfl) (by kernel_rfl) (by kernel_rfl) (by kernel_rfl) (by kernel_rfl) (by kernel_rfl)
theorem Ud:TI.ok Tryz.prog 191 ⟨.st .machine,0,[(0,1,false),(1,1,false)],48⟩:=oG (by kernel_rfl) (by kernel_rfl) (by kernel_rfl) (by kernel_rfl) (by kernel_rfl) (by kernel_rfl) (fun h=>absurd (show false=true from h) (by decide)) (fun _ xs=>iK xs (by kernel_rfl))
theorem Ue:TI.ok Tryz.prog 200 ⟨.st .entry,0,[(0,1,false),(1,6,true)],56⟩:=oG (by kernel_rfl) (by kernel_rfl) (by kernel_rfl) (by kernel_rfl) (by kernel_rfl) (by kernel_rfl) (fun _=>⟨(by kernel_rfl),(by kernel_rfl)⟩) (fun h=>absurd (show true=false from h) (by decide))
theorem Uf:TI.ok Tryz.prog 204 ⟨.i .u64,0,[],8⟩:=xG (by kernel_rfl) (by kernel_rfl) (by kernel_rfl)
theorem Ug:TI.ok Tryz.prog 212 ⟨.st .session,0,[(0,1,false),(1,1,false),(2,2,true)],32⟩:=oG (by kernel_rfl) (by kernel_rfl) (by kernel_rfl) (by kernel_rfl) (by kernel_rfl) (by kernel_rfl) (fun _=>⟨(by kernel_rfl),(by kernel_rfl)⟩) (fun h=>absurd (show true=false from h) (by decide))
theorem Uh:TI.ok Tryz.prog 225 ⟨.i .u32,0,[],4⟩:=xG (by kernel_rfl) (by kernel_rfl) (by kernel_rfl)
theorem Ui:TI.ok Tryz.prog 227 ⟨.i .u64,0,[],8⟩:=xG (by kernel_rfl) (by kernel_rfl) (by kernel_rfl)
theorem Uj:TI.ok Tryz.prog 245 ⟨.ls (.ls (.st .entry)),24,[],24⟩:=uL (u:=49) (by kernel_rfl) (by kernel_rfl) (by kernel_rfl) (by kernel_rfl) (by kernel_rfl) (by kernel_rfl) (by kernel_rfl) (by kernel_rfl)
theorem aV:eo Tryz.prog Θ:=
 bB VD <| bB VE <| bB VF <| bB VG <| bB VH <| bB UV <| bB UW <| bB UX <| bB UY <| bB UZ <| bB U0 <| bB U1 <| bB U2 <| bB U3 <| bB U4 <| bB U5 <| bB U6 <| bB U7 <| bB U8 <| bB U9 <| bB Va <| bB Vb <| bB Vc <| bB Vd <| bB Ve <| bB Vf <| bB T4 <| bB T5 <| bB T6 <| bB T7 <| bB T8 <| bB T9 <| bB Ua <| bB Ub <| bB Uc <| bB Ud <| bB Ue <| bB Uf <| bB Ug <| bB Uh <| bB Ui <| bB Uj <| SR _
end Go.Proofs.YtkcgfceffffmoaaGreat.En
