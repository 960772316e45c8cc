/- The seat's types (printed by wip/tools/gen_theta.py). -/
import Derived.Test.YtadabkgmdllbfabGreatProg
import Derived.Test.YtadabkgmdllbfabGreatZX10
namespace Go.Proofs.YtadabkgmdllbfabGreat.En
open Go
def Θ:nD:= [(2,⟨.i .i64,0,[],8⟩),
 (3,⟨.i .i64,0,[],8⟩),
 (4,⟨.b,0,[],1⟩),
 (5,⟨.i .u8,0,[],1⟩),
 (9,⟨.s,0,[],16⟩),
 (12,⟨.i .u64,0,[],8⟩),
 (21,⟨.i .i32,0,[],4⟩),
 (22,⟨.ls (.i .u8),1,[],24⟩),
 (24,⟨.ls (.st .server),152,[],24⟩),
 (25,⟨.ls (.i .i64),8,[],24⟩),
 (26,⟨.ls (.st .config),64,[],24⟩),
 (28,⟨.st .masterLog,0,[(0,1,false),(1,1,false)],32⟩),
 (30,⟨.st .lease,0,[(0,1,false),(1,1,false),(2,1,false)],24⟩),
 (31,⟨.ls (.st .place),24,[],24⟩),
 (33,⟨.st .cluster,0,[(0,1,false),(1,1,false),(2,1,false),(3,2,true),(5,1,false),(6,3,true),(9,1,false)],144⟩),
 (39,⟨.st .config,0,[(0,1,false),(1,1,false),(2,1,false),(3,1,false)],64⟩),
 (44,⟨.ls (.st .entry),56,[],24⟩),
 (46,⟨.st .server,0,[(0,1,false),(1,1,false),(2,1,false),(3,1,false),(4,4,true),(8,1,false),(9,1,false),(10,1,false),(11,1,false)],152⟩),
 (65,⟨.st .place,0,[(0,1,false),(1,1,false),(2,1,false)],24⟩),
 (93,⟨.st .op,0,[(0,1,false),(1,1,false),(2,1,false),(3,1,false),(4,1,false),(5,1,false)],48⟩),
 (95,⟨.st .entry,0,[(0,1,false),(1,6,true)],56⟩),
 (105,⟨.ls (.st .reply),32,[],24⟩),
 (109,⟨.ls (.st .event),80,[],24⟩),
 (114,⟨.i .u64,0,[],8⟩),
 (124,⟨.st .result,0,[(0,1,false),(1,1,false)],16⟩),
 (126,⟨.st .reply,0,[(0,1,false),(1,2,true),(3,1,false)],32⟩),
 (130,⟨.st .event,0,[(0,1,false),(1,1,false),(2,1,false),(3,1,false),(4,6,true)],80⟩),
 (143,⟨.ls (.ls (.i .i64)),24,[],24⟩),
 (176,⟨.i .u32,0,[],4⟩),
 (178,⟨.i .u64,0,[],8⟩),
 (179,⟨.ls (.st .session),32,[],24⟩),
 (181,⟨.st .machine,0,[(0,1,false),(1,1,false)],48⟩),
 (211,⟨.st .session,0,[(0,1,false),(1,1,false),(2,2,true)],32⟩)]
theorem Uq:TI.ok Tryz.prog 2 ⟨.i .i64,0,[],8⟩:=wO (by kernel_rfl) (by kernel_rfl) (by kernel_rfl)
theorem Ur:TI.ok Tryz.prog 3 ⟨.i .i64,0,[],8⟩:=wO (by kernel_rfl) (by kernel_rfl) (by kernel_rfl)
theorem Us:TI.ok Tryz.prog 4 ⟨.b,0,[],1⟩:=wO (by kernel_rfl) (by kernel_rfl) (by kernel_rfl)
theorem Ut:TI.ok Tryz.prog 5 ⟨.i .u8,0,[],1⟩:=wO (by kernel_rfl) (by kernel_rfl) (by kernel_rfl)
theorem Uu:TI.ok Tryz.prog 9 ⟨.s,0,[],16⟩:=wO (by kernel_rfl) (by kernel_rfl) (by kernel_rfl)
theorem Te:TI.ok Tryz.prog 12 ⟨.i .u64,0,[],8⟩:=wO (by kernel_rfl) (by kernel_rfl) (by kernel_rfl)
theorem Tf:TI.ok Tryz.prog 21 ⟨.i .i32,0,[],4⟩:=wO (by kernel_rfl) (by kernel_rfl) (by kernel_rfl)
theorem Tg:TI.ok Tryz.prog 22 ⟨.ls (.i .u8),1,[],24⟩:=wN (u:=5) (by kernel_rfl) (by kernel_rfl) (by kernel_rfl) (by kernel_rfl) (by kernel_rfl) (by kernel_rfl) (by kernel_rfl) (by kernel_rfl) (by kernel_rfl)
theorem Th:TI.ok Tryz.prog 24 ⟨.ls (.st .server),152,[],24⟩:=wN (u:=46) (by kernel_rfl) (by kernel_rfl) (by kernel_rfl) (by kernel_rfl) (by kernel_rfl) (by kernel_rfl) (by kernel_rfl) (by kernel_rfl) (by kernel_rfl)
theorem Ti:TI.ok Tryz.prog 25 ⟨.ls (.i .i64),8,[],24⟩:=wN (u:=3) (by kernel_rfl) (by kernel_rfl) (by kernel_rfl) (by kernel_rfl) (by kernel_rfl) (by kernel_rfl) (by kernel_rfl) (by kernel_rfl) (by kernel_rfl)
theorem Tj:TI.ok Tryz.prog 26 ⟨.ls (.st .config),64,[],24⟩:=wN (u:=39) (by kernel_rfl) (by kernel_rfl) (by kernel_rfl) (by kernel_rfl) (by kernel_rfl) (by kernel_rfl) (by kernel_rfl) (by kernel_rfl) (by kernel_rfl)
theorem Tl:TI.ok Tryz.prog 28 ⟨.st .masterLog,0,[(0,1,false),(1,1,false)],32⟩:=th (by kernel_rfl) (by kernel_rfl) (by kernel_rfl) (by kernel_rfl) (by kernel_rfl) (by kernel_rfl) (fun h=>absurd (show false=true from h) (by decide)) (fun _ xs=>nr xs (by kernel_rfl))
theorem Tm:TI.ok Tryz.prog 30 ⟨.st .lease,0,[(0,1,false),(1,1,false),(2,1,false)],24⟩:=th (by kernel_rfl) (by kernel_rfl) (by kernel_rfl) (by kernel_rfl) (by kernel_rfl) (by kernel_rfl) (fun _=>⟨(by kernel_rfl),(by kernel_rfl)⟩) (fun h=>absurd (show true=false from h) (by decide))
theorem Tn:TI.ok Tryz.prog 31 ⟨.ls (.st .place),24,[],24⟩:=wN (u:=65) (by kernel_rfl) (by kernel_rfl) (by kernel_rfl) (by kernel_rfl) (by kernel_rfl) (by kernel_rfl) (by kernel_rfl) (by kernel_rfl) (by kernel_rfl)
theorem To:TI.ok Tryz.prog 33 ⟨.st .cluster,0,[(0,1,false),(1,1,false),(2,1,false),(3,2,true),(5,1,false),(6,3,true),(9,1,false)],144⟩:=th (by kernel_rfl) (by kernel_rfl) (by kernel_rfl) (by kernel_rfl) (by kernel_rfl) (by kernel_rfl) (fun h=>absurd (show false=true from h) (by decide)) (fun _ xs=>nr xs (by kernel_rfl))
theorem Tp:TI.ok Tryz.prog 39 ⟨.st .config,0,[(0,1,false),(1,1,false),(2,1,false),(3,1,false)],64⟩:=th (by kernel_rfl) (by kernel_rfl) (by kernel_rfl) (by kernel_rfl) (by kernel_rfl) (by kernel_rfl) (fun h=>absurd (show false=true from h) (by decide)) (fun _ xs=>nr xs (by kernel_rfl))
theorem Tq:TI.ok Tryz.prog 44 ⟨.ls (.st .entry),56,[],24⟩:=wN (u:=95) (by kernel_rfl) (by kernel_rfl) (by kernel_rfl) (by kernel_rfl) (by kernel_rfl) (by kernel_rfl) (by kernel_rfl) (by kernel_rfl) (by kernel_rfl)
theorem Ts:TI.ok Tryz.prog 46 ⟨.st .server,0,[(0,1,false),(1,1,false),(2,1,false),(3,1,false),(4,4,true),(8,1,false),(9,1,false),(10,1,false),(11,1,false)],152⟩:=th (by kernel_rfl) (by kernel_rfl) (by kernel_rfl) (by kernel_rfl) (by kernel_rfl) (by kernel_rfl) (fun h=>absurd (show false=true from h) (by decide)) (fun _ xs=>nr xs (by kernel_rfl))
theorem Tu:TI.ok Tryz.prog 65 ⟨.st .place,0,[(0,1,false),(1,1,false),(2,1,false)],24⟩:=th (by kernel_rfl) (by kernel_rfl) (by kernel_rfl) (by kernel_rfl) (by kernel_rfl) (by kernel_rfl) (fun _=>⟨(by kernel_rfl),(by kernel_rfl)⟩) (fun h=>absurd (show true=false from h) (by decide))
theorem Tv:TI.ok Tryz.prog 93 ⟨.st .op,0,[(0,1,false),(1,1,false),(2,1,false),(3,1,false),(4,1,false),(5,1,false)],48⟩:=th (by kernel_rfl) (by kernel_rfl) (by kernel_rfl) (by kernel_rfl) (by kernel_rfl) (by kernel_rfl) (fun _=>⟨(by kernel_rfl),(by kernel_rfl)⟩) (fun h=>absurd (show true=false from h) (by decide))
theorem Tw:TI.ok Tryz.prog 95 ⟨.st .entry,0,[(0,1,false),(1,6,true)],56⟩:=th (by kernel_rfl) (by kernel_rfl) (by kernel_rfl) (by kernel_rfl) (by kernel_rfl) (by kernel_rfl) (fun _=>⟨(by kernel_rfl),(by kernel_rfl)⟩) (fun h=>absurd (show true=false from h) (by decide))
theorem R1:TI.ok Tryz.prog 105 ⟨.ls (.st .reply),32,[],24⟩:=wN (u:=126) (by kernel_rfl) (by kernel_rfl) (by kernel_rfl) (by kernel_rfl) (by kernel_rfl) (by kernel_rfl) (by kernel_rfl) (by kernel_rfl) (by kernel_rfl)
theorem R2:TI.ok Tryz.prog 109 ⟨.ls (.st .event),80,[],24⟩:=wN (u:=130) (by kernel_rfl) (by kernel_rfl) (by kernel_rfl) (by kernel_rfl) (by kernel_rfl) (by kernel_rfl) (by kernel_rfl) (by kernel_rfl) (by kernel_rfl)
theorem R3:TI.ok Tryz.prog 114 ⟨.i .u64,0,[],8⟩:=wO (by kernel_rfl) (by kernel_rfl) (by kernel_rfl)
theorem R4:TI.ok Tryz.prog 124 ⟨.st .result,0,[(0,1,false),(1,1,false)],16⟩:=th (by kernel_rfl) (by kernel_rfl) (by kernel_rfl) (by kernel_rfl) (by kernel_rfl) (by kernel_rfl) (fun _=>⟨(by kernel_rfl),(by kernel_rfl)⟩) (fun h=>absurd (show true=false from h) (by decide))
theorem R5:TI.ok Tryz.prog 126 ⟨.st .reply,0,[(0,1,false),(1,2,true),(3,1,false)],32⟩:=th (by kernel_rfl) (by kernel_rfl) (by kernel_rfl) (by kernel_rfl) (by kernel_rfl) (by kernel_rfl) (fun _=>⟨(by kernel_rfl),(by kernel_rfl)⟩) (fun h=>absurd (show true=false from h) (by decide))
theorem R6:TI.ok Tryz.prog 130 ⟨.st .event,0,[(0,1,false),(1,1,false),(2,1,false),(3,1,false),(4,6,true)],80⟩:=th (by kernel_rfl) (by kernel_rfl) (by kernel_rfl) (by kernel_rfl) (by kernel_rfl) (by kernel_rfl) (fun _=>⟨(by kernel_rfl),(by kernel_rfl)⟩) (fun h=>absurd (show true=false from h) (by decide))
theorem R7:TI.ok Tryz.prog 143 ⟨.ls (.ls (.i .i64)),24,[],24⟩:=wN (u:=25) (by kernel_rfl) (by kernel_rfl) (by kernel_rfl) (by kernel_rfl) (by kernel_rfl) (by kernel_rfl) (by kernel_rfl) (by kernel_rfl) (by kernel_rfl)
theorem R8:TI.ok Tryz.prog 176 ⟨.i .u32,0,[],4⟩:=wO (by kernel_rfl) (by kernel_rfl) (by kernel_rfl)
theorem R9:TI.ok Tryz.prog 178 ⟨.i .u64,0,[],8⟩:=wO (by kernel_rfl) (by kernel_rfl) (by kernel_rfl)
theorem Sa:TI.ok Tryz.prog 179 ⟨.ls (.st .session),32,[],24⟩:=wN (u:=211) (by kernel_rfl) (by kernel_rfl) (by kernel_rfl) (by kernel_rfl) (by kernel_rfl) (by kernel_rfl) (by kernel_rfl) (by kernel_rfl) (by kernel_rfl)
theorem Sb:TI.ok Tryz.prog 181 ⟨.st .machine,0,[(0,1,false),(1,1,false)],48⟩:=th (by kernel_rfl) (by kernel_rfl) (by kernel_rfl) (by kernel_rfl) (by kernel_rfl) (by kernel_rfl) (fun h=>absurd (show false=true from h) (by decide)) (fun _ xs=>nr xs (by kernel_rfl))
theorem Sc:TI.ok Tryz.prog 211 ⟨.st .session,0,[(0,1,false),(1,1,false),(2,2,true)],32⟩:=th (by kernel_rfl) (by kernel_rfl) (by kernel_rfl) (by kernel_rfl) (by kernel_rfl) (by kernel_rfl) (fun _=>⟨(by kernel_rfl),(by kernel_rfl)⟩) (fun h=>absurd (show true=false from h) (by decide))
theorem JD:gz Tryz.prog Θ:=
 fi Uq <| fi Ur <| fi Us <| fi Ut <| fi Uu <| fi Te <| fi Tf <| fi Tg <| fi Th <| fi Ti <| fi Tj <| fi Tl <| fi Tm <| fi Tn <| fi To <| fi Tp <| fi Tq <| fi Ts <| fi Tu <| fi Tv <| fi Tw <| fi R1 <| fi R2 <| fi R3 <| fi R4 <| fi R5 <| fi R6 <| fi R7 <| fi R8 <| fi R9 <| fi Sa <| fi Sb <| fi Sc <| Qa _
end Go.Proofs.YtadabkgmdllbfabGreat.En
