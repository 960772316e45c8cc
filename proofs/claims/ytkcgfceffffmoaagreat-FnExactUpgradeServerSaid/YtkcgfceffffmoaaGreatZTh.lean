/- The seat's types (printed by wip/tools/gen_theta.py). -/
import Derived.Test.YtkcgfceffffmoaaGreatProg
import Derived.Test.YtkcgfceffffmoaaGreatZX9
namespace Go.Proofs.YtkcgfceffffmoaaGreat.En
open Go
def Θ:pc:= [(2,⟨.i .i64,0,[],8⟩),
 (3,⟨.i .i64,0,[],8⟩),
 (4,⟨.b,0,[],1⟩),
 (5,⟨.i .u8,0,[],1⟩),
 (9,⟨.s,0,[],16⟩),
 (12,⟨.i .u64,0,[],8⟩),
 (21,⟨.i .i32,0,[],4⟩),
 (22,⟨.ls (.st .server),152,[],24⟩),
 (23,⟨.ls (.i .i64),8,[],24⟩),
 (24,⟨.ls (.st .config),64,[],24⟩),
 (26,⟨.st .masterLog,0,[(0,1,false),(1,1,false)],32⟩),
 (28,⟨.st .lease,0,[(0,1,false),(1,1,false),(2,1,false)],24⟩),
 (29,⟨.ls (.st .place),24,[],24⟩),
 (31,⟨.st .cluster,0,[(0,1,false),(1,1,false),(2,1,false),(3,2,true),(5,1,false),(6,3,true),(9,1,false)],144⟩),
 (34,⟨.ls (.st .server),152,[],24⟩),
 (35,⟨.ls (.st .config),64,[],24⟩),
 (37,⟨.st .masterLog,0,[(0,1,false),(1,1,false)],32⟩),
 (38,⟨.st .lease,0,[(0,1,false),(1,1,false),(2,1,false)],24⟩),
 (39,⟨.ls (.st .place),24,[],24⟩),
 (41,⟨.st .cluster,0,[(0,1,false),(1,1,false),(2,1,false),(3,2,true),(5,1,false),(6,3,true),(9,1,false)],144⟩),
 (49,⟨.ls (.st .entry),56,[],24⟩),
 (59,⟨.st .op,0,[(0,1,false),(1,1,false),(2,1,false),(3,1,false),(4,1,false),(5,1,false)],48⟩),
 (61,⟨.st .op,0,[(0,1,false),(1,1,false),(2,1,false),(3,1,false),(4,1,false),(5,1,false)],48⟩),
 (70,⟨.st .config,0,[(0,1,false),(1,1,false),(2,1,false),(3,1,false)],64⟩),
 (74,⟨.st .server,0,[(0,1,false),(1,1,false),(2,1,false),(3,1,false),(4,4,true),(8,1,false),(9,1,false),(10,1,false),(11,1,false)],152⟩),
 (98,⟨.st .entry,0,[(0,1,false),(1,6,true)],56⟩),
 (117,⟨.st .result,0,[(0,1,false),(1,1,false)],16⟩),
 (119,⟨.st .reply,0,[(0,1,false),(1,2,true),(3,1,false)],32⟩),
 (123,⟨.st .config,0,[(0,1,false),(1,1,false),(2,1,false),(3,1,false)],64⟩),
 (124,⟨.ls (.st .entry),56,[],24⟩),
 (126,⟨.st .server,0,[(0,1,false),(1,1,false),(2,1,false),(3,1,false),(4,4,true),(8,1,false),(9,1,false),(10,1,false),(11,1,false)],152⟩),
 (139,⟨.st .place,0,[(0,1,false),(1,1,false),(2,1,false)],24⟩),
 (141,⟨.st .place,0,[(0,1,false),(1,1,false),(2,1,false)],24⟩),
 (147,⟨.ls (.ls (.i .i64)),24,[],24⟩),
 (189,⟨.ls (.st .session),32,[],24⟩),
 (191,⟨.st .machine,0,[(0,1,false),(1,1,false)],48⟩),
 (200,⟨.st .entry,0,[(0,1,false),(1,6,true)],56⟩),
 (204,⟨.i .u64,0,[],8⟩),
 (212,⟨.st .session,0,[(0,1,false),(1,1,false),(2,2,true)],32⟩),
 (225,⟨.i .u32,0,[],4⟩),
 (227,⟨.i .u64,0,[],8⟩),
 (245,⟨.ls (.ls (.st .entry)),24,[],24⟩)]
theorem Wh:TI.ok Tryz.prog 2 ⟨.i .i64,0,[],8⟩:=xe (by kernel_rfl) (by kernel_rfl) (by kernel_rfl)
theorem Wi:TI.ok Tryz.prog 3 ⟨.i .i64,0,[],8⟩:=xe (by kernel_rfl) (by kernel_rfl) (by kernel_rfl)
theorem Wj:TI.ok Tryz.prog 4 ⟨.b,0,[],1⟩:=xe (by kernel_rfl) (by kernel_rfl) (by kernel_rfl)
theorem Wk:TI.ok Tryz.prog 5 ⟨.i .u8,0,[],1⟩:=xe (by kernel_rfl) (by kernel_rfl) (by kernel_rfl)
theorem Wl:TI.ok Tryz.prog 9 ⟨.s,0,[],16⟩:=xe (by kernel_rfl) (by kernel_rfl) (by kernel_rfl)
theorem Vr:TI.ok Tryz.prog 12 ⟨.i .u64,0,[],8⟩:=xe (by kernel_rfl) (by kernel_rfl) (by kernel_rfl)
theorem Vs:TI.ok Tryz.prog 21 ⟨.i .i32,0,[],4⟩:=xe (by kernel_rfl) (by kernel_rfl) (by kernel_rfl)
theorem Vt:TI.ok Tryz.prog 22 ⟨.ls (.st .server),152,[],24⟩:=uo (u:=126) (by kernel_rfl) (by kernel_rfl) (by kernel_rfl) (by kernel_rfl) (by kernel_rfl) (by kernel_rfl) (by kernel_rfl) (by kernel_rfl)
theorem Vu:TI.ok Tryz.prog 23 ⟨.ls (.i .i64),8,[],24⟩:=uo (u:=3) (by kernel_rfl) (by kernel_rfl) (by kernel_rfl) (by kernel_rfl) (by kernel_rfl) (by kernel_rfl) (by kernel_rfl) (by kernel_rfl)
theorem Vv:TI.ok Tryz.prog 24 ⟨.ls (.st .config),64,[],24⟩:=uo (u:=123) (by kernel_rfl) (by kernel_rfl) (by kernel_rfl) (by kernel_rfl) (by kernel_rfl) (by kernel_rfl) (by kernel_rfl) (by kernel_rfl)
theorem Vw:TI.ok Tryz.prog 26 ⟨.st .masterLog,0,[(0,1,false),(1,1,false)],32⟩:=nS (by kernel_rfl) (by kernel_rfl) (by kernel_rfl) (by kernel_rfl) (by kernel_rfl) (by kernel_rfl) (fun h=>absurd (show false=true from h) (by decide)) (fun _ xs=>gZ xs (by kernel_rfl))
theorem Vx:TI.ok Tryz.prog 28 ⟨.st .lease,0,[(0,1,false),(1,1,false),(2,1,false)],24⟩:=nS (by kernel_rfl) (by kernel_rfl) (by kernel_rfl) (by kernel_rfl) (by kernel_rfl) (by kernel_rfl) (fun _=>⟨(by kernel_rfl),(by kernel_rfl)⟩) (fun h=>absurd (show true=false from h) (by decide))
theorem Vy:TI.ok Tryz.prog 29 ⟨.ls (.st .place),24,[],24⟩:=uo (u:=141) (by kernel_rfl) (by kernel_rfl) (by kernel_rfl) (by kernel_rfl) (by kernel_rfl) (by kernel_rfl) (by kernel_rfl) (by kernel_rfl)
theorem Vz:TI.ok Tryz.prog 31 ⟨.st .cluster,0,[(0,1,false),(1,1,false),(2,1,false),(3,2,true),(5,1,false),(6,3,true),(9,1,false)],144⟩:=nS (by kernel_rfl) (by kernel_rfl) (by kernel_rfl) (by kernel_rfl) (by kernel_rfl) (by kernel_rfl) (fun h=>absurd (show false=true from h) (by decide)) (fun _ xs=>gZ xs (by kernel_rfl))
theorem VA:TI.ok Tryz.prog 34 ⟨.ls (.st .server),152,[],24⟩:=uo (u:=74) (by kernel_rfl) (by kernel_rfl) (by kernel_rfl) (by kernel_rfl) (by kernel_rfl) (by kernel_rfl) (by kernel_rfl) (by kernel_rfl)
theorem VB:TI.ok Tryz.prog 35 ⟨.ls (.st .config),64,[],24⟩:=uo (u:=70) (by kernel_rfl) (by kernel_rfl) (by kernel_rfl) (by kernel_rfl) (by kernel_rfl) (by kernel_rfl) (by kernel_rfl) (by kernel_rfl)
theorem VD:TI.ok Tryz.prog 37 ⟨.st .masterLog,0,[(0,1,false),(1,1,false)],32⟩:=nS (by kernel_rfl) (by kernel_rfl) (by kernel_rfl) (by kernel_rfl) (by kernel_rfl) (by kernel_rfl) (fun h=>absurd (show false=true from h) (by decide)) (fun _ xs=>gZ xs (by kernel_rfl))
theorem VE:TI.ok Tryz.prog 38 ⟨.st .lease,0,[(0,1,false),(1,1,false),(2,1,false)],24⟩:=nS (by kernel_rfl) (by kernel_rfl) (by kernel_rfl) (by kernel_rfl) (by kernel_rfl) (by kernel_rfl) (fun _=>⟨(by kernel_rfl),(by kernel_rfl)⟩) (fun h=>absurd (show true=false from h) (by decide))
theorem VF:TI.ok Tryz.prog 39 ⟨.ls (.st .place),24,[],24⟩:=uo (u:=139) (by kernel_rfl) (by kernel_rfl) (by kernel_rfl) (by kernel_rfl) (by kernel_rfl) (by kernel_rfl) (by kernel_rfl) (by kernel_rfl)
theorem VG:TI.ok Tryz.prog 41 ⟨.st .cluster,0,[(0,1,false),(1,1,false),(2,1,false),(3,2,true),(5,1,false),(6,3,true),(9,1,false)],144⟩:=nS (by kernel_rfl) (by kernel_rfl) (by kernel_rfl) (by kernel_rfl) (by kernel_rfl) (by kernel_rfl) (fun h=>absurd (show false=true from h) (by decide)) (fun _ xs=>gZ xs (by kernel_rfl))
theorem VH:TI.ok Tryz.prog 49 ⟨.ls (.st .entry),56,[],24⟩:=uo (u:=98) (by kernel_rfl) (by kernel_rfl) (by kernel_rfl) (by kernel_rfl) (by kernel_rfl) (by kernel_rfl) (by kernel_rfl) (by kernel_rfl)
theorem VI:TI.ok Tryz.prog 59 ⟨.st .op,0,[(0,1,false),(1,1,false),(2,1,false),(3,1,false),(4,1,false),(5,1,false)],48⟩:=nS (by kernel_rfl) (by kernel_rfl) (by kernel_rfl) (by kernel_rfl) (by kernel_rfl) (by kernel_rfl) (fun _=>⟨(by kernel_rfl),(by kernel_rfl)⟩) (fun h=>absurd (show true=false from h) (by decide))
theorem VJ:TI.ok Tryz.prog 61 ⟨.st .op,0,[(0,1,false),(1,1,false),(2,1,false),(3,1,false),(4,1,false),(5,1,false)],48⟩:=nS (by kernel_rfl) (by kernel_rfl) (by kernel_rfl) (by kernel_rfl) (by kernel_rfl) (by kernel_rfl) (fun _=>⟨(by kernel_rfl),(by kernel_rfl)⟩) (fun h=>absurd (show true=false from h) (by decide))
theorem VK:TI.ok Tryz.prog 70 ⟨.st .config,0,[(0,1,false),(1,1,false),(2,1,false),(3,1,false)],64⟩:=nS (by kernel_rfl) (by kernel_rfl) (by kernel_rfl) (by kernel_rfl) (by kernel_rfl) (by kernel_rfl) (fun h=>absurd (show false=true from h) (by decide)) (fun _ xs=>gZ xs (by kernel_rfl))
theorem VL:TI.ok Tryz.prog 74 ⟨.st .server,0,[(0,1,false),(1,1,false),(2,1,false),(3,1,false),(4,4,true),(8,1,false),(9,1,false),(10,1,false),(11,1,false)],152⟩:=nS (by kernel_rfl) (by kernel_rfl) (by kernel_rfl) (by kernel_rfl) (by kernel_rfl) (by kernel_rfl) (fun h=>absurd (show false=true from h) (by decide)) (fun _ xs=>gZ xs (by kernel_rfl))
theorem VM:TI.ok Tryz.prog 98 ⟨.st .entry,0,[(0,1,false),(1,6,true)],56⟩:=nS (by kernel_rfl) (by kernel_rfl) (by kernel_rfl) (by kernel_rfl) (by kernel_rfl) (by kernel_rfl) (fun _=>⟨(by kernel_rfl),(by kernel_rfl)⟩) (fun h=>absurd (show true=false from h) (by decide))
theorem UH:TI.ok Tryz.prog 117 ⟨.st .result,0,[(0,1,false),(1,1,false)],16⟩:=nS (by kernel_rfl) (by kernel_rfl) (by kernel_rfl) (by kernel_rfl) (by kernel_rfl) (by kernel_rfl) (fun _=>⟨(by kernel_rfl),(by kernel_rfl)⟩) (fun h=>absurd (show true=false from h) (by decide))
theorem UI:TI.ok Tryz.prog 119 ⟨.st .reply,0,[(0,1,false),(1,2,true),(3,1,false)],32⟩:=nS (by kernel_rfl) (by kernel_rfl) (by kernel_rfl) (by kernel_rfl) (by kernel_rfl) (by kernel_rfl) (fun _=>⟨(by kernel_rfl),(by kernel_rfl)⟩) (fun h=>absurd (show true=false from h) (by decide))
theorem UJ:TI.ok Tryz.prog 123 ⟨.st .config,0,[(0,1,false),(1,1,false),(2,1,false),(3,1,false)],64⟩:=nS (by kernel_rfl) (by kernel_rfl) (by kernel_rfl) (by kernel_rfl) (by kernel_rfl) (by kernel_rfl) (fun h=>absurd (show false=true from h) (by decide)) (fun _ xs=>gZ xs (by kernel_rfl))
theorem UK:TI.ok Tryz.prog 124 ⟨.ls (.st .entry),56,[],24⟩:=uo (u:=200) (by kernel_rfl) (by kernel_rfl) (by kernel_rfl) (by kernel_rfl) (by kernel_rfl) (by kernel_rfl) (by kernel_rfl) (by kernel_rfl)
theorem UL:TI.ok Tryz.prog 126 ⟨.st .server,0,[(0,1,false),(1,1,false),(2,1,false),(3,1,false),(4,4,true),(8,1,false),(9,1,false),(10,1,false),(11,1,false)],152⟩:=nS (by kernel_rfl) (by kernel_rfl) (by kernel_rfl) (by kernel_rfl) (by kernel_rfl) (by kernel_rfl) (fun h=>absurd (show false=true from h) (by decide)) (fun _ xs=>gZ xs (by kernel_rfl))
theorem UM:TI.ok Tryz.prog 139 ⟨.st .place,0,[(0,1,false),(1,1,false),(2,1,false)],24⟩:=nS (by kernel_rfl) (by kernel_rfl) (by kernel_rfl) (by kernel_rfl) (by kernel_rfl) (by kernel_rfl) (fun _=>⟨(by kernel_rfl),(by kernel_rfl)⟩) (fun h=>absurd (show true=false from h) (by decide))
theorem UN:TI.ok Tryz.prog 141 ⟨.st .place,0,[(0,1,false),(1,1,false),(2,1,false)],24⟩:=nS (by kernel_rfl) (by kernel_rfl) (by kernel_rfl) (by kernel_rfl) (by kernel_rfl) (by kernel_rfl) (fun _=>⟨(by kernel_rfl),(by kernel_rfl)⟩) (fun h=>absurd (show true=false from h) (by decide))
theorem UO:TI.ok Tryz.prog 147 ⟨.ls (.ls (.i .i64)),24,[],24⟩:=uo (u:=23) (by kernel_rfl) (by kernel_rfl) (by kernel_rfl) (by kernel_rfl) (by kernel_rfl) (by kernel_rfl) (by kernel_rfl) (by kernel_rfl)
theorem UP:TI.ok Tryz.prog 189 ⟨.ls (.st .session),32,[],24⟩:=uo (u:=212) (by kernel_rfl) (by kernel_rfl) (by kernel_rfl) (by kernel_rfl) (by kernel_rfl) (by kernel_rfl) (by kernel_rfl) (by kernel_rfl)
theorem UQ:TI.ok Tryz.prog 191 ⟨.st .machine,0,[(0,1,false),(1,1,false)],48⟩:=nS (by kernel_rfl) (by kernel_rfl) (by kernel_rfl) (by kernel_rfl) (by kernel_rfl) (by kernel_rfl) (fun h=>absurd (show false=true from h) (by decide)) (fun _ xs=>gZ xs (by kernel_rfl))
theorem UR:TI.ok Tryz.prog 200 ⟨.st .entry,0,[(0,1,false),(1,6,true)],56⟩:=nS (by kernel_rfl) (by kernel_rfl) (by kernel_rfl) (by kernel_rfl) (by kernel_rfl) (by kernel_rfl) (fun _=>⟨(by kernel_rfl),(by kernel_rfl)⟩) (fun h=>absurd (show true=false from h) (by decide))
theorem US:TI.ok Tryz.prog 204 ⟨.i .u64,0,[],8⟩:=xe (by kernel_rfl) (by kernel_rfl) (by kernel_rfl)
theorem UT:TI.ok Tryz.prog 212 ⟨.st .session,0,[(0,1,false),(1,1,false),(2,2,true)],32⟩:=nS (by kernel_rfl) (by kernel_rfl) (by kernel_rfl) (by kernel_rfl) (by kernel_rfl) (by kernel_rfl) (fun _=>⟨(by kernel_rfl),(by kernel_rfl)⟩) (fun h=>absurd (show true=false from h) (by decide))
theorem UU:TI.ok Tryz.prog 225 ⟨.i .u32,0,[],4⟩:=xe (by kernel_rfl) (by kernel_rfl) (by kernel_rfl)
theorem UV:TI.ok Tryz.prog 227 ⟨.i .u64,0,[],8⟩:=xe (by kernel_rfl) (by kernel_rfl) (by kernel_rfl)
theorem UW:TI.ok Tryz.prog 245 ⟨.ls (.ls (.st .entry)),24,[],24⟩:=uo (u:=49) (by kernel_rfl) (by kernel_rfl) (by kernel_rfl) (by kernel_rfl) (by kernel_rfl) (by kernel_rfl) (by kernel_rfl) (by kernel_rfl)
theorem aM:dM Tryz.prog Θ:=
 bo Wh <| bo Wi <| bo Wj <| bo Wk <| bo Wl <| bo Vr <| bo Vs <| bo Vt <| bo Vu <| bo Vv <| bo Vw <| bo Vx <| bo Vy <| bo Vz <| bo VA <| bo VB <| bo VD <| bo VE <| bo VF <| bo VG <| bo VH <| bo VI <| bo VJ <| bo VK <| bo VL <| bo VM <| bo UH <| bo UI <| bo UJ <| bo UK <| bo UL <| bo UM <| bo UN <| bo UO <| bo UP <| bo UQ <| bo UR <| bo US <| bo UT <| bo UU <| bo UV <| bo UW <| TD _
end Go.Proofs.YtkcgfceffffmoaaGreat.En
