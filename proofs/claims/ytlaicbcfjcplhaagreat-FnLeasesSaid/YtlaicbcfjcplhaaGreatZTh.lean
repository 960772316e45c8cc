/- The seat's types (printed by wip/tools/gen_theta.py). -/
import Derived.Test.YtlaicbcfjcplhaaGreatProg
import Derived.Test.YtlaicbcfjcplhaaGreatZX10
namespace Go.Proofs.YtlaicbcfjcplhaaGreat.En
open Go
def Θ:mS:= [(2,⟨.i .i64,0,[],8⟩),
 (3,⟨.i .i64,0,[],8⟩),
 (4,⟨.b,0,[],1⟩),
 (5,⟨.i .u8,0,[],1⟩),
 (9,⟨.s,0,[],16⟩),
 (12,⟨.i .u64,0,[],8⟩),
 (21,⟨.i .i32,0,[],4⟩),
 (22,⟨.ls (.i .u8),1,[],24⟩),
 (24,⟨.ls (.st .server),152,[],24⟩),
 (25,⟨.ls (.i .i64),8,[],24⟩),
 (26,⟨.ls (.st .config),64,[],24⟩),
 (28,⟨.st .masterLog,0,[(0,1,false),(1,1,false)],32⟩),
 (30,⟨.st .lease,0,[(0,1,false),(1,1,false),(2,1,false)],24⟩),
 (31,⟨.ls (.st .place),24,[],24⟩),
 (33,⟨.st .cluster,0,[(0,1,false),(1,1,false),(2,1,false),(3,2,true),(5,1,false),(6,3,true),(9,1,false)],144⟩),
 (58,⟨.st .config,0,[(0,1,false),(1,1,false),(2,1,false),(3,1,false)],64⟩),
 (59,⟨.ls (.st .entry),56,[],24⟩),
 (61,⟨.st .server,0,[(0,1,false),(1,1,false),(2,1,false),(3,1,false),(4,4,true),(8,1,false),(9,1,false),(10,1,false),(11,1,false)],152⟩),
 (69,⟨.st .place,0,[(0,1,false),(1,1,false),(2,1,false)],24⟩),
 (86,⟨.st .op,0,[(0,1,false),(1,1,false),(2,1,false),(3,1,false),(4,1,false),(5,1,false)],48⟩),
 (88,⟨.st .entry,0,[(0,1,false),(1,6,true)],56⟩),
 (108,⟨.ls (.st .reply),32,[],24⟩),
 (112,⟨.ls (.st .event),80,[],24⟩),
 (116,⟨.i .u64,0,[],8⟩),
 (121,⟨.st .result,0,[(0,1,false),(1,1,false)],16⟩),
 (123,⟨.st .reply,0,[(0,1,false),(1,2,true),(3,1,false)],32⟩),
 (127,⟨.st .event,0,[(0,1,false),(1,1,false),(2,1,false),(3,1,false),(4,6,true)],80⟩),
 (166,⟨.ls (.st .session),32,[],24⟩),
 (168,⟨.st .machine,0,[(0,1,false),(1,1,false)],48⟩),
 (191,⟨.st .session,0,[(0,1,false),(1,1,false),(2,2,true)],32⟩),
 (218,⟨.i .u32,0,[],4⟩),
 (220,⟨.i .u64,0,[],8⟩)]
theorem S9:TI.ok Tryz.prog 2 ⟨.i .i64,0,[],8⟩:=vO (by kernel_rfl) (by kernel_rfl) (by kernel_rfl)
theorem Ta:TI.ok Tryz.prog 3 ⟨.i .i64,0,[],8⟩:=vO (by kernel_rfl) (by kernel_rfl) (by kernel_rfl)
theorem Tb:TI.ok Tryz.prog 4 ⟨.b,0,[],1⟩:=vO (by kernel_rfl) (by kernel_rfl) (by kernel_rfl)
theorem Tc:TI.ok Tryz.prog 5 ⟨.i .u8,0,[],1⟩:=vO (by kernel_rfl) (by kernel_rfl) (by kernel_rfl)
theorem Td:TI.ok Tryz.prog 9 ⟨.s,0,[],16⟩:=vO (by kernel_rfl) (by kernel_rfl) (by kernel_rfl)
theorem RV:TI.ok Tryz.prog 12 ⟨.i .u64,0,[],8⟩:=vO (by kernel_rfl) (by kernel_rfl) (by kernel_rfl)
theorem RX:TI.ok Tryz.prog 21 ⟨.i .i32,0,[],4⟩:=vO (by kernel_rfl) (by kernel_rfl) (by kernel_rfl)
theorem RY:TI.ok Tryz.prog 22 ⟨.ls (.i .u8),1,[],24⟩:=xz (u:=5) (by kernel_rfl) (by kernel_rfl) (by kernel_rfl) (by kernel_rfl) (by kernel_rfl) (by kernel_rfl) (by kernel_rfl) (by kernel_rfl) (by kernel_rfl)
theorem RZ:TI.ok Tryz.prog 24 ⟨.ls (.st .server),152,[],24⟩:=xz (u:=61) (by kernel_rfl) (by kernel_rfl) (by kernel_rfl) (by kernel_rfl) (by kernel_rfl) (by kernel_rfl) (by kernel_rfl) (by kernel_rfl) (by kernel_rfl)
theorem R0:TI.ok Tryz.prog 25 ⟨.ls (.i .i64),8,[],24⟩:=xz (u:=3) (by kernel_rfl) (by kernel_rfl) (by kernel_rfl) (by kernel_rfl) (by kernel_rfl) (by kernel_rfl) (by kernel_rfl) (by kernel_rfl) (by kernel_rfl)
theorem R1:TI.ok Tryz.prog 26 ⟨.ls (.st .config),64,[],24⟩:=xz (u:=58) (by kernel_rfl) (by kernel_rfl) (by kernel_rfl) (by kernel_rfl) (by kernel_rfl) (by kernel_rfl) (by kernel_rfl) (by kernel_rfl) (by kernel_rfl)
theorem R2:TI.ok Tryz.prog 28 ⟨.st .masterLog,0,[(0,1,false),(1,1,false)],32⟩:=sg (by kernel_rfl) (by kernel_rfl) (by kernel_rfl) (by kernel_rfl) (by kernel_rfl) (by kernel_rfl) (fun h=>absurd (show false=true from h) (by decide)) (fun _ xs=>mU xs (by kernel_rfl))
theorem R3:TI.ok Tryz.prog 30 ⟨.st .lease,0,[(0,1,false),(1,1,false),(2,1,false)],24⟩:=sg (by kernel_rfl) (by kernel_rfl) (by kernel_rfl) (by kernel_rfl) (by kernel_rfl) (by kernel_rfl) (fun _=>⟨(by kernel_rfl),(by kernel_rfl)⟩) (fun h=>absurd (show true=false from h) (by decide))
theorem R4:TI.ok Tryz.prog 31 ⟨.ls (.st .place),24,[],24⟩:=xz (u:=69) (by kernel_rfl) (by kernel_rfl) (by kernel_rfl) (by kernel_rfl) (by kernel_rfl) (by kernel_rfl) (by kernel_rfl) (by kernel_rfl) (by kernel_rfl)
theorem R5:TI.ok Tryz.prog 33 ⟨.st .cluster,0,[(0,1,false),(1,1,false),(2,1,false),(3,2,true),(5,1,false),(6,3,true),(9,1,false)],144⟩:=sg (by kernel_rfl) (by kernel_rfl) (by kernel_rfl) (by kernel_rfl) (by kernel_rfl) (by kernel_rfl) (fun h=>absurd (show false=true from h) (by decide)) (fun _ xs=>mU xs (by kernel_rfl))
theorem R6:TI.ok Tryz.prog 58 ⟨.st .config,0,[(0,1,false),(1,1,false),(2,1,false),(3,1,false)],64⟩:=sg (by kernel_rfl) (by kernel_rfl) (by kernel_rfl) (by kernel_rfl) (by kernel_rfl) (by kernel_rfl) (fun h=>absurd (show false=true from h) (by decide)) (fun _ xs=>mU xs (by kernel_rfl))
theorem R7:TI.ok Tryz.prog 59 ⟨.ls (.st .entry),56,[],24⟩:=xz (u:=88) (by kernel_rfl) (by kernel_rfl) (by kernel_rfl) (by kernel_rfl) (by kernel_rfl) (by kernel_rfl) (by kernel_rfl) (by kernel_rfl) (by kernel_rfl)
theorem R8:TI.ok Tryz.prog 61 ⟨.st .server,0,[(0,1,false),(1,1,false),(2,1,false),(3,1,false),(4,4,true),(8,1,false),(9,1,false),(10,1,false),(11,1,false)],152⟩:=sg (by kernel_rfl) (by kernel_rfl) (by kernel_rfl) (by kernel_rfl) (by kernel_rfl) (by kernel_rfl) (fun h=>absurd (show false=true from h) (by decide)) (fun _ xs=>mU xs (by kernel_rfl))
theorem R9:TI.ok Tryz.prog 69 ⟨.st .place,0,[(0,1,false),(1,1,false),(2,1,false)],24⟩:=sg (by kernel_rfl) (by kernel_rfl) (by kernel_rfl) (by kernel_rfl) (by kernel_rfl) (by kernel_rfl) (fun _=>⟨(by kernel_rfl),(by kernel_rfl)⟩) (fun h=>absurd (show true=false from h) (by decide))
theorem Sa:TI.ok Tryz.prog 86 ⟨.st .op,0,[(0,1,false),(1,1,false),(2,1,false),(3,1,false),(4,1,false),(5,1,false)],48⟩:=sg (by kernel_rfl) (by kernel_rfl) (by kernel_rfl) (by kernel_rfl) (by kernel_rfl) (by kernel_rfl) (fun _=>⟨(by kernel_rfl),(by kernel_rfl)⟩) (fun h=>absurd (show true=false from h) (by decide))
theorem Sb:TI.ok Tryz.prog 88 ⟨.st .entry,0,[(0,1,false),(1,6,true)],56⟩:=sg (by kernel_rfl) (by kernel_rfl) (by kernel_rfl) (by kernel_rfl) (by kernel_rfl) (by kernel_rfl) (fun _=>⟨(by kernel_rfl),(by kernel_rfl)⟩) (fun h=>absurd (show true=false from h) (by decide))
theorem QS:TI.ok Tryz.prog 108 ⟨.ls (.st .reply),32,[],24⟩:=xz (u:=123) (by kernel_rfl) (by kernel_rfl) (by kernel_rfl) (by kernel_rfl) (by kernel_rfl) (by kernel_rfl) (by kernel_rfl) (by kernel_rfl) (by kernel_rfl)
theorem QT:TI.ok Tryz.prog 112 ⟨.ls (.st .event),80,[],24⟩:=xz (u:=127) (by kernel_rfl) (by kernel_rfl) (by kernel_rfl) (by kernel_rfl) (by kernel_rfl) (by kernel_rfl) (by kernel_rfl) (by kernel_rfl) (by kernel_rfl)
theorem QU:TI.ok Tryz.prog 116 ⟨.i .u64,0,[],8⟩:=vO (by kernel_rfl) (by kernel_rfl) (by kernel_rfl)
theorem QV:TI.ok Tryz.prog 121 ⟨.st .result,0,[(0,1,false),(1,1,false)],16⟩:=sg (by kernel_rfl) (by kernel_rfl) (by kernel_rfl) (by kernel_rfl) (by kernel_rfl) (by kernel_rfl) (fun _=>⟨(by kernel_rfl),(by kernel_rfl)⟩) (fun h=>absurd (show true=false from h) (by decide))
theorem QW:TI.ok Tryz.prog 123 ⟨.st .reply,0,[(0,1,false),(1,2,true),(3,1,false)],32⟩:=sg (by kernel_rfl) (by kernel_rfl) (by kernel_rfl) (by kernel_rfl) (by kernel_rfl) (by kernel_rfl) (fun _=>⟨(by kernel_rfl),(by kernel_rfl)⟩) (fun h=>absurd (show true=false from h) (by decide))
theorem QX:TI.ok Tryz.prog 127 ⟨.st .event,0,[(0,1,false),(1,1,false),(2,1,false),(3,1,false),(4,6,true)],80⟩:=sg (by kernel_rfl) (by kernel_rfl) (by kernel_rfl) (by kernel_rfl) (by kernel_rfl) (by kernel_rfl) (fun _=>⟨(by kernel_rfl),(by kernel_rfl)⟩) (fun h=>absurd (show true=false from h) (by decide))
theorem QY:TI.ok Tryz.prog 166 ⟨.ls (.st .session),32,[],24⟩:=xz (u:=191) (by kernel_rfl) (by kernel_rfl) (by kernel_rfl) (by kernel_rfl) (by kernel_rfl) (by kernel_rfl) (by kernel_rfl) (by kernel_rfl) (by kernel_rfl)
theorem QZ:TI.ok Tryz.prog 168 ⟨.st .machine,0,[(0,1,false),(1,1,false)],48⟩:=sg (by kernel_rfl) (by kernel_rfl) (by kernel_rfl) (by kernel_rfl) (by kernel_rfl) (by kernel_rfl) (fun h=>absurd (show false=true from h) (by decide)) (fun _ xs=>mU xs (by kernel_rfl))
theorem Q0:TI.ok Tryz.prog 191 ⟨.st .session,0,[(0,1,false),(1,1,false),(2,2,true)],32⟩:=sg (by kernel_rfl) (by kernel_rfl) (by kernel_rfl) (by kernel_rfl) (by kernel_rfl) (by kernel_rfl) (fun _=>⟨(by kernel_rfl),(by kernel_rfl)⟩) (fun h=>absurd (show true=false from h) (by decide))
theorem Q1:TI.ok Tryz.prog 218 ⟨.i .u32,0,[],4⟩:=vO (by kernel_rfl) (by kernel_rfl) (by kernel_rfl)
theorem Q3:TI.ok Tryz.prog 220 ⟨.i .u64,0,[],8⟩:=vO (by kernel_rfl) (by kernel_rfl) (by kernel_rfl)
theorem G6:fW Tryz.prog Θ:=
 eW S9 <| eW Ta <| eW Tb <| eW Tc <| eW Td <| eW RV <| eW RX <| eW RY <| eW RZ <| eW R0 <| eW R1 <| eW R2 <| eW R3 <| eW R4 <| eW R5 <| eW R6 <| eW R7 <| eW R8 <| eW R9 <| eW Sa <| eW Sb <| eW QS <| eW QT <| eW QU <| eW QV <| eW QW <| eW QX <| eW QY <| eW QZ <| eW Q0 <| eW Q1 <| eW Q3 <| Pe _
end Go.Proofs.YtlaicbcfjcplhaaGreat.En
