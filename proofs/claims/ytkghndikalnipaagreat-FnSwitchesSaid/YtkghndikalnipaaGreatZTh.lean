/- The seat's types (printed by wip/tools/gen_theta.py). -/
import Derived.Test.YtkghndikalnipaaGreatProg
import Derived.Test.YtkghndikalnipaaGreatZX10
set_option linter.unusedSimpArgs false
set_option linter.unusedVariables false
namespace Go.Proofs.YtkghndikalnipaaGreat.En
open Go
def Θ:fV:=[(2,⟨.i .i64,0,[],8⟩),
 (3,⟨.i .i64,0,[],8⟩),
 (4,⟨.b,0,[],1⟩),
 (5,⟨.i .u8,0,[],1⟩),
 (9,⟨.s,0,[],16⟩),
 (12,⟨.i .u64,0,[],8⟩),
 (21,⟨.i .i32,0,[],4⟩),
 (22,⟨.ls (.i .u8),1,[],24⟩),
 (24,⟨.ls (.st .server),152,[],24⟩),
 (25,⟨.ls (.i .i64),8,[],24⟩),
 (26,⟨.ls (.st .config),64,[],24⟩),
 (28,⟨.st .masterLog,0,[(0,1,false),(1,1,false)],32⟩),
 (30,⟨.st .lease,0,[(0,1,false),(1,1,false),(2,1,false)],24⟩),
 (31,⟨.ls (.st .place),24,[],24⟩),
 (33,⟨.st .cluster,0,[(0,1,false),(1,1,false),(2,1,false),(3,2,true),(5,1,false),(6,3,true),(9,1,false)],144⟩),
 (42,⟨.st .config,0,[(0,1,false),(1,1,false),(2,1,false),(3,1,false)],64⟩),
 (54,⟨.ls (.st .entry),56,[],24⟩),
 (57,⟨.st .server,0,[(0,1,false),(1,1,false),(2,1,false),(3,1,false),(4,4,true),(8,1,false),(9,1,false),(10,1,false),(11,1,false)],152⟩),
 (66,⟨.st .op,0,[(0,1,false),(1,1,false),(2,1,false),(3,1,false),(4,1,false),(5,1,false)],48⟩),
 (72,⟨.st .entry,0,[(0,1,false),(1,6,true)],56⟩),
 (86,⟨.st .place,0,[(0,1,false),(1,1,false),(2,1,false)],24⟩),
 (125,⟨.ls (.st .session),32,[],24⟩),
 (127,⟨.st .machine,0,[(0,1,false),(1,1,false)],48⟩),
 (131,⟨.st .result,0,[(0,1,false),(1,1,false)],16⟩),
 (171,⟨.st .session,0,[(0,1,false),(1,1,false),(2,2,true)],32⟩),
 (176,⟨.ls (.st .reply),32,[],24⟩),
 (180,⟨.ls (.st .event),80,[],24⟩),
 (183,⟨.i .u64,0,[],8⟩),
 (197,⟨.st .reply,0,[(0,1,false),(1,2,true),(3,1,false)],32⟩),
 (201,⟨.st .event,0,[(0,1,false),(1,1,false),(2,1,false),(3,1,false),(4,6,true)],80⟩),
 (206,⟨.ls (.ls (.i .i64)),24,[],24⟩),
 (223,⟨.i .u32,0,[],4⟩),
 (225,⟨.i .u64,0,[],8⟩),
 (226,⟨.ls (.ls (.st .entry)),24,[],24⟩)]
theorem Dy:TI.ok Tryz.prog 2 ⟨.i .i64,0,[],8⟩:=kK (by kernel_rfl) (by kernel_rfl) (by kernel_rfl)
theorem Dz:TI.ok Tryz.prog 3 ⟨.i .i64,0,[],8⟩:=kK (by kernel_rfl) (by kernel_rfl) (by kernel_rfl)
theorem DA:TI.ok Tryz.prog 4 ⟨.b,0,[],1⟩:=kK (by kernel_rfl) (by kernel_rfl) (by kernel_rfl)
theorem DB:TI.ok Tryz.prog 5 ⟨.i .u8,0,[],1⟩:=kK (by kernel_rfl) (by kernel_rfl) (by kernel_rfl)
theorem DC:TI.ok Tryz.prog 9 ⟨.s,0,[],16⟩:=kK (by kernel_rfl) (by kernel_rfl) (by kernel_rfl)
theorem CK:TI.ok Tryz.prog 12 ⟨.i .u64,0,[],8⟩:=kK (by kernel_rfl) (by kernel_rfl) (by kernel_rfl)
theorem CL:TI.ok Tryz.prog 21 ⟨.i .i32,0,[],4⟩:=kK (by kernel_rfl) (by kernel_rfl) (by kernel_rfl)
theorem CM:TI.ok Tryz.prog 22 ⟨.ls (.i .u8),1,[],24⟩:=jX (u:=5) (by kernel_rfl) (by kernel_rfl) (by kernel_rfl) (by kernel_rfl) (by kernel_rfl) (by kernel_rfl) (by kernel_rfl) (by kernel_rfl) (by kernel_rfl)
theorem CN:TI.ok Tryz.prog 24 ⟨.ls (.st .server),152,[],24⟩:=jX (u:=57) (by kernel_rfl) (by kernel_rfl) (by kernel_rfl) (by kernel_rfl) (by kernel_rfl) (by kernel_rfl) (by kernel_rfl) (by kernel_rfl) (by kernel_rfl)
theorem CO:TI.ok Tryz.prog 25 ⟨.ls (.i .i64),8,[],24⟩:=jX (u:=3) (by kernel_rfl) (by kernel_rfl) (by kernel_rfl) (by kernel_rfl) (by kernel_rfl) (by kernel_rfl) (by kernel_rfl) (by kernel_rfl) (by kernel_rfl)
theorem CP:TI.ok Tryz.prog 26 ⟨.ls (.st .config),64,[],24⟩:=jX (u:=42) (by kernel_rfl) (by kernel_rfl) (by kernel_rfl) (by kernel_rfl) (by kernel_rfl) (by kernel_rfl) (by kernel_rfl) (by kernel_rfl) (by kernel_rfl)
theorem CQ:TI.ok Tryz.prog 28 ⟨.st .masterLog,0,[(0,1,false),(1,1,false)],32⟩:=i7 (by kernel_rfl) (by kernel_rfl) (by kernel_rfl) (by kernel_rfl) (by kernel_rfl) (by kernel_rfl) (λh=>absurd (show false=true from h) (by decide)) (λ_ xs=>fX xs (by kernel_rfl))
theorem CS:TI.ok Tryz.prog 30 ⟨.st .lease,0,[(0,1,false),(1,1,false),(2,1,false)],24⟩:=i7 (by kernel_rfl) (by kernel_rfl) (by kernel_rfl) (by kernel_rfl) (by kernel_rfl) (by kernel_rfl) (λ_=>⟨(by kernel_rfl),(by kernel_rfl)⟩) (λh=>absurd (show true=false from h) (by decide))
theorem CT:TI.ok Tryz.prog 31 ⟨.ls (.st .place),24,[],24⟩:=jX (u:=86) (by kernel_rfl) (by kernel_rfl) (by kernel_rfl) (by kernel_rfl) (by kernel_rfl) (by kernel_rfl) (by kernel_rfl) (by kernel_rfl) (by kernel_rfl)
theorem CU:TI.ok Tryz.prog 33 ⟨.st .cluster,0,[(0,1,false),(1,1,false),(2,1,false),(3,2,true),(5,1,false),(6,3,true),(9,1,false)],144⟩:=i7 (by kernel_rfl) (by kernel_rfl) (by kernel_rfl) (by kernel_rfl) (by kernel_rfl) (by kernel_rfl) (λh=>absurd (show false=true from h) (by decide)) (λ_ xs=>fX xs (by kernel_rfl))
theorem CV:TI.ok Tryz.prog 42 ⟨.st .config,0,[(0,1,false),(1,1,false),(2,1,false),(3,1,false)],64⟩:=i7 (by kernel_rfl) (by kernel_rfl) (by kernel_rfl) (by kernel_rfl) (by kernel_rfl) (by kernel_rfl) (λh=>absurd (show false=true from h) (by decide)) (λ_ xs=>fX xs (by kernel_rfl))
theorem CW:TI.ok Tryz.prog 54 ⟨.ls (.st .entry),56,[],24⟩:=jX (u:=72) (by kernel_rfl) (by kernel_rfl) (by kernel_rfl) (by kernel_rfl) (by kernel_rfl) (by kernel_rfl) (by kernel_rfl) (by kernel_rfl) (by kernel_rfl)
theorem CX:TI.ok Tryz.prog 57 ⟨.st .server,0,[(0,1,false),(1,1,false),(2,1,false),(3,1,false),(4,4,true),(8,1,false),(9,1,false),(10,1,false),(11,1,false)],152⟩:=i7 (by kernel_rfl) (by kernel_rfl) (by kernel_rfl) (by kernel_rfl) (by kernel_rfl) (by kernel_rfl) (λh=>absurd (show false=true from h) (by decide)) (λ_ xs=>fX xs (by kernel_rfl))
theorem CY:TI.ok Tryz.prog 66 ⟨.st .op,0,[(0,1,false),(1,1,false),(2,1,false),(3,1,false),(4,1,false),(5,1,false)],48⟩:=i7 (by kernel_rfl) (by kernel_rfl) (by kernel_rfl) (by kernel_rfl) (by kernel_rfl) (by kernel_rfl) (λ_=>⟨(by kernel_rfl),(by kernel_rfl)⟩) (λh=>absurd (show true=false from h) (by decide))
theorem CZ:TI.ok Tryz.prog 72 ⟨.st .entry,0,[(0,1,false),(1,6,true)],56⟩:=i7 (by kernel_rfl) (by kernel_rfl) (by kernel_rfl) (by kernel_rfl) (by kernel_rfl) (by kernel_rfl) (λ_=>⟨(by kernel_rfl),(by kernel_rfl)⟩) (λh=>absurd (show true=false from h) (by decide))
theorem C0:TI.ok Tryz.prog 86 ⟨.st .place,0,[(0,1,false),(1,1,false),(2,1,false)],24⟩:=i7 (by kernel_rfl) (by kernel_rfl) (by kernel_rfl) (by kernel_rfl) (by kernel_rfl) (by kernel_rfl) (λ_=>⟨(by kernel_rfl),(by kernel_rfl)⟩) (λh=>absurd (show true=false from h) (by decide))
theorem BO:TI.ok Tryz.prog 125 ⟨.ls (.st .session),32,[],24⟩:=jX (u:=171) (by kernel_rfl) (by kernel_rfl) (by kernel_rfl) (by kernel_rfl) (by kernel_rfl) (by kernel_rfl) (by kernel_rfl) (by kernel_rfl) (by kernel_rfl)
theorem BP:TI.ok Tryz.prog 127 ⟨.st .machine,0,[(0,1,false),(1,1,false)],48⟩:=i7 (by kernel_rfl) (by kernel_rfl) (by kernel_rfl) (by kernel_rfl) (by kernel_rfl) (by kernel_rfl) (λh=>absurd (show false=true from h) (by decide)) (λ_ xs=>fX xs (by kernel_rfl))
theorem BQ:TI.ok Tryz.prog 131 ⟨.st .result,0,[(0,1,false),(1,1,false)],16⟩:=i7 (by kernel_rfl) (by kernel_rfl) (by kernel_rfl) (by kernel_rfl) (by kernel_rfl) (by kernel_rfl) (λ_=>⟨(by kernel_rfl),(by kernel_rfl)⟩) (λh=>absurd (show true=false from h) (by decide))
theorem BR:TI.ok Tryz.prog 171 ⟨.st .session,0,[(0,1,false),(1,1,false),(2,2,true)],32⟩:=i7 (by kernel_rfl) (by kernel_rfl) (by kernel_rfl) (by kernel_rfl) (by kernel_rfl) (by kernel_rfl) (λ_=>⟨(by kernel_rfl),(by kernel_rfl)⟩) (λh=>absurd (show true=false from h) (by decide))
theorem BS:TI.ok Tryz.prog 176 ⟨.ls (.st .reply),32,[],24⟩:=jX (u:=197) (by kernel_rfl) (by kernel_rfl) (by kernel_rfl) (by kernel_rfl) (by kernel_rfl) (by kernel_rfl) (by kernel_rfl) (by kernel_rfl) (by kernel_rfl)
theorem BT:TI.ok Tryz.prog 180 ⟨.ls (.st .event),80,[],24⟩:=jX (u:=201) (by kernel_rfl) (by kernel_rfl) (by kernel_rfl) (by kernel_rfl) (by kernel_rfl) (by kernel_rfl) (by kernel_rfl) (by kernel_rfl) (by kernel_rfl)
theorem BU:TI.ok Tryz.prog 183 ⟨.i .u64,0,[],8⟩:=kK (by kernel_rfl) (by kernel_rfl) (by kernel_rfl)
theorem BV:TI.ok Tryz.prog 197 ⟨.st .reply,0,[(0,1,false),(1,2,true),(3,1,false)],32⟩:=i7 (by kernel_rfl) (by kernel_rfl) (by kernel_rfl) (by kernel_rfl) (by kernel_rfl) (by kernel_rfl) (λ_=>⟨(by kernel_rfl),(by kernel_rfl)⟩) (λh=>absurd (show true=false from h) (by decide))
theorem BW:TI.ok Tryz.prog 201 ⟨.st .event,0,[(0,1,false),(1,1,false),(2,1,false),(3,1,false),(4,6,true)],80⟩:=i7 (by kernel_rfl) (by kernel_rfl) (by kernel_rfl) (by kernel_rfl) (by kernel_rfl) (by kernel_rfl) (λ_=>⟨(by kernel_rfl),(by kernel_rfl)⟩) (λh=>absurd (show true=false from h) (by decide))
theorem BX:TI.ok Tryz.prog 206 ⟨.ls (.ls (.i .i64)),24,[],24⟩:=jX (u:=25) (by kernel_rfl) (by kernel_rfl) (by kernel_rfl) (by kernel_rfl) (by kernel_rfl) (by kernel_rfl) (by kernel_rfl) (by kernel_rfl) (by kernel_rfl)
theorem BZ:TI.ok Tryz.prog 223 ⟨.i .u32,0,[],4⟩:=kK (by kernel_rfl) (by kernel_rfl) (by kernel_rfl)
theorem B0:TI.ok Tryz.prog 225 ⟨.i .u64,0,[],8⟩:=kK (by kernel_rfl) (by kernel_rfl) (by kernel_rfl)
theorem B3:TI.ok Tryz.prog 226 ⟨.ls (.ls (.st .entry)),24,[],24⟩:=jX (u:=54) (by kernel_rfl) (by kernel_rfl) (by kernel_rfl) (by kernel_rfl) (by kernel_rfl) (by kernel_rfl) (by kernel_rfl) (by kernel_rfl) (by kernel_rfl)
theorem D0:ek Tryz.prog Θ:=
 dN Dy <| dN Dz <| dN DA <| dN DB <| dN DC <| dN CK <| dN CL <| dN CM <| dN CN <| dN CO <| dN CP <| dN CQ <| dN CS <| dN CT <| dN CU <| dN CV <| dN CW <| dN CX <| dN CY <| dN CZ <| dN C0 <| dN BO <| dN BP <| dN BQ <| dN BR <| dN BS <| dN BT <| dN BU <| dN BV <| dN BW <| dN BX <| dN BZ <| dN B0 <| dN B3 <| AG _
end Go.Proofs.YtkghndikalnipaaGreat.En
