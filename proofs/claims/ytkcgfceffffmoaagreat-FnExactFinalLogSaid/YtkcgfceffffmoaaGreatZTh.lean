/- The seat's types (printed by wip/tools/gen_theta.py). -/
import Derived.Test.YtkcgfceffffmoaaGreatProg
import Derived.Test.YtkcgfceffffmoaaGreatZX9
namespace Go.Proofs.YtkcgfceffffmoaaGreat.En
open Go
def Θ:ot:= [(2,⟨.i .i64,0,[],8⟩),
 (3,⟨.i .i64,0,[],8⟩),
 (4,⟨.b,0,[],1⟩),
 (5,⟨.i .u8,0,[],1⟩),
 (9,⟨.s,0,[],16⟩),
 (12,⟨.i .u64,0,[],8⟩),
 (21,⟨.i .i32,0,[],4⟩),
 (22,⟨.ls (.st .server),152,[],24⟩),
 (23,⟨.ls (.i .i64),8,[],24⟩),
 (24,⟨.ls (.st .config),64,[],24⟩),
 (26,⟨.st .masterLog,0,[(0,1,false),(1,1,false)],32⟩),
 (28,⟨.st .lease,0,[(0,1,false),(1,1,false),(2,1,false)],24⟩),
 (29,⟨.ls (.st .place),24,[],24⟩),
 (31,⟨.st .cluster,0,[(0,1,false),(1,1,false),(2,1,false),(3,2,true),(5,1,false),(6,3,true),(9,1,false)],144⟩),
 (34,⟨.ls (.st .server),152,[],24⟩),
 (35,⟨.ls (.st .config),64,[],24⟩),
 (37,⟨.st .masterLog,0,[(0,1,false),(1,1,false)],32⟩),
 (38,⟨.st .lease,0,[(0,1,false),(1,1,false),(2,1,false)],24⟩),
 (39,⟨.ls (.st .place),24,[],24⟩),
 (41,⟨.st .cluster,0,[(0,1,false),(1,1,false),(2,1,false),(3,2,true),(5,1,false),(6,3,true),(9,1,false)],144⟩),
 (49,⟨.ls (.st .entry),56,[],24⟩),
 (59,⟨.st .op,0,[(0,1,false),(1,1,false),(2,1,false),(3,1,false),(4,1,false),(5,1,false)],48⟩),
 (61,⟨.st .op,0,[(0,1,false),(1,1,false),(2,1,false),(3,1,false),(4,1,false),(5,1,false)],48⟩),
 (70,⟨.st .config,0,[(0,1,false),(1,1,false),(2,1,false),(3,1,false)],64⟩),
 (74,⟨.st .server,0,[(0,1,false),(1,1,false),(2,1,false),(3,1,false),(4,4,true),(8,1,false),(9,1,false),(10,1,false),(11,1,false)],152⟩),
 (98,⟨.st .entry,0,[(0,1,false),(1,6,true)],56⟩),
 (117,⟨.st .result,0,[(0,1,false),(1,1,false)],16⟩),
 (119,⟨.st .reply,0,[(0,1,false),(1,2,true),(3,1,false)],32⟩),
 (123,⟨.st .config,0,[(0,1,false),(1,1,false),(2,1,false),(3,1,false)],64⟩),
 (124,⟨.ls (.st .entry),56,[],24⟩),
 (126,⟨.st .server,0,[(0,1,false),(1,1,false),(2,1,false),(3,1,false),(4,4,true),(8,1,false),(9,1,false),(10,1,false),(11,1,false)],152⟩),
 (139,⟨.st .place,0,[(0,1,false),(1,1,false),(2,1,false)],24⟩),
 (141,⟨.st .place,0,[(0,1,false),(1,1,false),(2,1,false)],24⟩),
 (147,⟨.ls (.ls (.i .i64)),24,[],24⟩),
 (189,⟨.ls (.st .session),32,[],24⟩),
 (191,⟨.st .machine,0,[(0,1,false),(1,1,false)],48⟩),
 (200,⟨.st .entry,0,[(0,1,false),(1,6,true)],56⟩),
 (204,⟨.i .u64,0,[],8⟩),
 (212,⟨.st .session,0,[(0,1,false),(1,1,false),(2,2,true)],32⟩),
 (225,⟨.i .u32,0,[],4⟩),
 (227,⟨.i .u64,0,[],8⟩),
 (245,⟨.ls (.ls (.st .entry)),24,[],24⟩)]
theorem TO:TI.ok Tryz.prog 2 ⟨.i .i64,0,[],8⟩:=vF (by kernel_rfl) (by kernel_rfl) (by kernel_rfl)
theorem TP:TI.ok Tryz.prog 3 ⟨.i .i64,0,[],8⟩:=vF (by kernel_rfl) (by kernel_rfl) (by kernel_rfl)
theorem TQ:TI.ok Tryz.prog 4 ⟨.b,0,[],1⟩:=vF (by kernel_rfl) (by kernel_rfl) (by kernel_rfl)
theorem TR:TI.ok Tryz.prog 5 ⟨.i .u8,0,[],1⟩:=vF (by kernel_rfl) (by kernel_rfl) (by kernel_rfl)
theorem TT:TI.ok Tryz.prog 9 ⟨.s,0,[],16⟩:=vF (by kernel_rfl) (by kernel_rfl) (by kernel_rfl)
theorem SY:TI.ok Tryz.prog 12 ⟨.i .u64,0,[],8⟩:=vF (by kernel_rfl) (by kernel_rfl) (by kernel_rfl)
theorem SZ:TI.ok Tryz.prog 21 ⟨.i .i32,0,[],4⟩:=vF (by kernel_rfl) (by kernel_rfl) (by kernel_rfl)
theorem S4:TI.ok Tryz.prog 22 ⟨.ls (.st .server),152,[],24⟩:=s7 (u:=126) (by kernel_rfl) (by kernel_rfl) (by kernel_rfl) (by kernel_rfl) (by kernel_rfl) (by kernel_rfl) (by kernel_rfl) (by kernel_rfl)
theorem S5:TI.ok Tryz.prog 23 ⟨.ls (.i .i64),8,[],24⟩:=s7 (u:=3) (by kernel_rfl) (by kernel_rfl) (by kernel_rfl) (by kernel_rfl) (by kernel_rfl) (by kernel_rfl) (by kernel_rfl) (by kernel_rfl)
theorem S6:TI.ok Tryz.prog 24 ⟨.ls (.st .config),64,[],24⟩:=s7 (u:=123) (by kernel_rfl) (by kernel_rfl) (by kernel_rfl) (by kernel_rfl) (by kernel_rfl) (by kernel_rfl) (by kernel_rfl) (by kernel_rfl)
theorem S7:TI.ok Tryz.prog 26 ⟨.st .masterLog,0,[(0,1,false),(1,1,false)],32⟩:=m9 (by kernel_rfl) (by kernel_rfl) (by kernel_rfl) (by kernel_rfl) (by kernel_rfl) (by kernel_rfl) (fun h=>absurd (show false=true from h) (by decide)) (fun _ xs=>gE xs (by kernel_rfl))
theorem S8:TI.ok Tryz.prog 28 ⟨.st .lease,0,[(0,1,false),(1,1,false),(2,1,false)],24⟩:=m9 (by kernel_rfl) (by kernel_rfl) (by kernel_rfl) (by kernel_rfl) (by kernel_rfl) (by kernel_rfl) (fun _=>⟨(by kernel_rfl),(by kernel_rfl)⟩) (fun h=>absurd (show true=false from h) (by decide))
theorem S9:TI.ok Tryz.prog 29 ⟨.ls (.st .place),24,[],24⟩:=s7 (u:=141) (by kernel_rfl) (by kernel_rfl) (by kernel_rfl) (by kernel_rfl) (by kernel_rfl) (by kernel_rfl) (by kernel_rfl) (by kernel_rfl)
theorem Ta:TI.ok Tryz.prog 31 ⟨.st .cluster,0,[(0,1,false),(1,1,false),(2,1,false),(3,2,true),(5,1,false),(6,3,true),(9,1,false)],144⟩:=m9 (by kernel_rfl) (by kernel_rfl) (by kernel_rfl) (by kernel_rfl) (by kernel_rfl) (by kernel_rfl) (fun h=>absurd (show false=true from h) (by decide)) (fun _ xs=>gE xs (by kernel_rfl))
theorem Tb:TI.ok Tryz.prog 34 ⟨.ls (.st .server),152,[],24⟩:=s7 (u:=74) (by kernel_rfl) (by kernel_rfl) (by kernel_rfl) (by kernel_rfl) (by kernel_rfl) (by kernel_rfl) (by kernel_rfl) (by kernel_rfl)
theorem Tc:TI.ok Tryz.prog 35 ⟨.ls (.st .config),64,[],24⟩:=s7 (u:=70) (by kernel_rfl) (by kernel_rfl) (by kernel_rfl) (by kernel_rfl) (by kernel_rfl) (by kernel_rfl) (by kernel_rfl) (by kernel_rfl)
theorem Td:TI.ok Tryz.prog 37 ⟨.st .masterLog,0,[(0,1,false),(1,1,false)],32⟩:=m9 (by kernel_rfl) (by kernel_rfl) (by kernel_rfl) (by kernel_rfl) (by kernel_rfl) (by kernel_rfl) (fun h=>absurd (show false=true from h) (by decide)) (fun _ xs=>gE xs (by kernel_rfl))
theorem Te:TI.ok Tryz.prog 38 ⟨.st .lease,0,[(0,1,false),(1,1,false),(2,1,false)],24⟩:=m9 (by kernel_rfl) (by kernel_rfl) (by kernel_rfl) (by kernel_rfl) (by kernel_rfl) (by kernel_rfl) (fun _=>⟨(by kernel_rfl),(by kernel_rfl)⟩) (fun h=>absurd (show true=false from h) (by decide))
theorem Tf:TI.ok Tryz.prog 39 ⟨.ls (.st .place),24,[],24⟩:=s7 (u:=139) (by kernel_rfl) (by kernel_rfl) (by kernel_rfl) (by kernel_rfl) (by kernel_rfl) (by kernel_rfl) (by kernel_rfl) (by kernel_rfl)
theorem Tg:TI.ok Tryz.prog 41 ⟨.st .cluster,0,[(0,1,false),(1,1,false),(2,1,false),(3,2,true),(5,1,false),(6,3,true),(9,1,false)],144⟩:=m9 (by kernel_rfl) (by kernel_rfl) (by kernel_rfl) (by kernel_rfl) (by kernel_rfl) (by kernel_rfl) (fun h=>absurd (show false=true from h) (by decide)) (fun _ xs=>gE xs (by kernel_rfl))
theorem Th:TI.ok Tryz.prog 49 ⟨.ls (.st .entry),56,[],24⟩:=s7 (u:=98) (by kernel_rfl) (by kernel_rfl) (by kernel_rfl) (by kernel_rfl) (by kernel_rfl) (by kernel_rfl) (by kernel_rfl) (by kernel_rfl)
theorem Ti:TI.ok Tryz.prog 59 ⟨.st .op,0,[(0,1,false),(1,1,false),(2,1,false),(3,1,false),(4,1,false),(5,1,false)],48⟩:=m9 (by kernel_rfl) (by kernel_rfl) (by kernel_rfl) (by kernel_rfl) (by kernel_rfl) (by kernel_rfl) (fun _=>⟨(by kernel_rfl),(by kernel_rfl)⟩) (fun h=>absurd (show true=false from h) (by decide))
theorem Tj:TI.ok Tryz.prog 61 ⟨.st .op,0,[(0,1,false),(1,1,false),(2,1,false),(3,1,false),(4,1,false),(5,1,false)],48⟩:=m9 (by kernel_rfl) (by kernel_rfl) (by kernel_rfl) (by kernel_rfl) (by kernel_rfl) (by kernel_rfl) (fun _=>⟨(by kernel_rfl),(by kernel_rfl)⟩) (fun h=>absurd (show true=false from h) (by decide))
theorem Tl:TI.ok Tryz.prog 70 ⟨.st .config,0,[(0,1,false),(1,1,false),(2,1,false),(3,1,false)],64⟩:=m9 (by kernel_rfl) (by kernel_rfl) (by kernel_rfl) (by kernel_rfl) (by kernel_rfl) (by kernel_rfl) (fun h=>absurd (show false=true from h) (by decide)) (fun _ xs=>gE xs (by kernel_rfl))
theorem Tm:TI.ok Tryz.prog 74 ⟨.st .server,0,[(0,1,false),(1,1,false),(2,1,false),(3,1,false),(4,4,true),(8,1,false),(9,1,false),(10,1,false),(11,1,false)],152⟩:=m9 (by kernel_rfl) (by kernel_rfl) (by kernel_rfl) (by kernel_rfl) (by kernel_rfl) (by kernel_rfl) (fun h=>absurd (show false=true from h) (by decide)) (fun _ xs=>gE xs (by kernel_rfl))
theorem Tn:TI.ok Tryz.prog 98 ⟨.st .entry,0,[(0,1,false),(1,6,true)],56⟩:=m9 (by kernel_rfl) (by kernel_rfl) (by kernel_rfl) (by kernel_rfl) (by kernel_rfl) (by kernel_rfl) (fun _=>⟨(by kernel_rfl),(by kernel_rfl)⟩) (fun h=>absurd (show true=false from h) (by decide))
theorem R4:TI.ok Tryz.prog 117 ⟨.st .result,0,[(0,1,false),(1,1,false)],16⟩:=m9 (by kernel_rfl) (by kernel_rfl) (by kernel_rfl) (by kernel_rfl) (by kernel_rfl) (by kernel_rfl) (fun _=>⟨(by kernel_rfl),(by kernel_rfl)⟩) (fun h=>absurd (show true=false from h) (by decide))
theorem R5:TI.ok Tryz.prog 119 ⟨.st .reply,0,[(0,1,false),(1,2,true),(3,1,false)],32⟩:=m9 (by kernel_rfl) (by kernel_rfl) (by kernel_rfl) (by kernel_rfl) (by kernel_rfl) (by kernel_rfl) (fun _=>⟨(by kernel_rfl),(by kernel_rfl)⟩) (fun h=>absurd (show true=false from h) (by decide))
theorem R6:TI.ok Tryz.prog 123 ⟨.st .config,0,[(0,1,false),(1,1,false),(2,1,false),(3,1,false)],64⟩:=m9 (by kernel_rfl) (by kernel_rfl) (by kernel_rfl) (by kernel_rfl) (by kernel_rfl) (by kernel_rfl) (fun h=>absurd (show false=true from h) (by decide)) (fun _ xs=>gE xs (by kernel_rfl))
theorem R7:TI.ok Tryz.prog 124 ⟨.ls (.st .entry),56,[],24⟩:=s7 (u:=200) (by kernel_rfl) (by kernel_rfl) (by kernel_rfl) (by kernel_rfl) (by kernel_rfl) (by kernel_rfl) (by kernel_rfl) (by kernel_rfl)
theorem R8:TI.ok Tryz.prog 126 ⟨.st .server,0,[(0,1,false),(1,1,false),(2,1,false),(3,1,false),(4,4,true),(8,1,false),(9,1,false),(10,1,false),(11,1,false)],152⟩:=m9 (by kernel_rfl) (by kernel_rfl) (by kernel_rfl) (by kernel_rfl) (by kernel_rfl) (by kernel_rfl) (fun h=>absurd (show false=true from h) (by decide)) (fun _ xs=>gE xs (by kernel_rfl))
theorem R9:TI.ok Tryz.prog 139 ⟨.st .place,0,[(0,1,false),(1,1,false),(2,1,false)],24⟩:=m9 (by kernel_rfl) (by kernel_rfl) (by kernel_rfl) (by kernel_rfl) (by kernel_rfl) (by kernel_rfl) (fun _=>⟨(by kernel_rfl),(by kernel_rfl)⟩) (fun h=>absurd (show true=false from h) (by decide))
theorem Sa:TI.ok Tryz.prog 141 ⟨.st .place,0,[(0,1,false),(1,1,false),(2,1,false)],24⟩:=m9 (by kernel_rfl) (by kernel_rfl) (by kernel_rfl) (by kernel_rfl) (by kernel_rfl) (by kernel_rfl) (fun _=>⟨(by kernel_rfl),(by kernel_rfl)⟩) (fun h=>absurd (show true=false from h) (by decide))
theorem Sb:TI.ok Tryz.prog 147 ⟨.ls (.ls (.i .i64)),24,[],24⟩:=s7 (u:=23) (by kernel_rfl) (by kernel_rfl) (by kernel_rfl) (by kernel_rfl) (by kernel_rfl) (by kernel_rfl) (by kernel_rfl) (by kernel_rfl)
theorem Sc:TI.ok Tryz.prog 189 ⟨.ls (.st .session),32,[],24⟩:=s7 (u:=212) (by kernel_rfl) (by kernel_rfl) (by kernel_rfl) (by kernel_rfl) (by kernel_rfl) (by kernel_rfl) (by kernel_rfl) (by kernel_rfl)
theorem Sd:TI.ok Tryz.prog 191 ⟨.st .machine,0,[(0,1,false),(1,1,false)],48⟩:=m9 (by kernel_rfl) (by kernel_rfl) (by kernel_rfl) (by kernel_rfl) (by kernel_rfl) (by kernel_rfl) (fun h=>absurd (show false=true from h) (by decide)) (fun _ xs=>gE xs (by kernel_rfl))
theorem Se:TI.ok Tryz.prog 200 ⟨.st .entry,0,[(0,1,false),(1,6,true)],56⟩:=m9 (by kernel_rfl) (by kernel_rfl) (by kernel_rfl) (by kernel_rfl) (by kernel_rfl) (by kernel_rfl) (fun _=>⟨(by kernel_rfl),(by kernel_rfl)⟩) (fun h=>absurd (show true=false from h) (by decide))
theorem Sf:TI.ok Tryz.prog 204 ⟨.i .u64,0,[],8⟩:=vF (by kernel_rfl) (by kernel_rfl) (by kernel_rfl)
theorem Sg:TI.ok Tryz.prog 212 ⟨.st .session,0,[(0,1,false),(1,1,false),(2,2,true)],32⟩:=m9 (by kernel_rfl) (by kernel_rfl) (by kernel_rfl) (by kernel_rfl) (by kernel_rfl) (by kernel_rfl) (fun _=>⟨(by kernel_rfl),(by kernel_rfl)⟩) (fun h=>absurd (show true=false from h) (by decide))
theorem Si:TI.ok Tryz.prog 225 ⟨.i .u32,0,[],4⟩:=vF (by kernel_rfl) (by kernel_rfl) (by kernel_rfl)
theorem Sj:TI.ok Tryz.prog 227 ⟨.i .u64,0,[],8⟩:=vF (by kernel_rfl) (by kernel_rfl) (by kernel_rfl)
theorem Sk:TI.ok Tryz.prog 245 ⟨.ls (.ls (.st .entry)),24,[],24⟩:=s7 (u:=49) (by kernel_rfl) (by kernel_rfl) (by kernel_rfl) (by kernel_rfl) (by kernel_rfl) (by kernel_rfl) (by kernel_rfl) (by kernel_rfl)
theorem aR:dG Tryz.prog Θ:=
 bm TO <| bm TP <| bm TQ <| bm TR <| bm TT <| bm SY <| bm SZ <| bm S4 <| bm S5 <| bm S6 <| bm S7 <| bm S8 <| bm S9 <| bm Ta <| bm Tb <| bm Tc <| bm Td <| bm Te <| bm Tf <| bm Tg <| bm Th <| bm Ti <| bm Tj <| bm Tl <| bm Tm <| bm Tn <| bm R4 <| bm R5 <| bm R6 <| bm R7 <| bm R8 <| bm R9 <| bm Sa <| bm Sb <| bm Sc <| bm Sd <| bm Se <| bm Sf <| bm Sg <| bm Si <| bm Sj <| bm Sk <| Q0 _
end Go.Proofs.YtkcgfceffffmoaaGreat.En
