/- The seat's types (printed by wip/tools/gen_theta.py). -/
import Derived.Test.YtkghndikalnipaaGreatProg
import Derived.Test.YtkghndikalnipaaGreatZX10
set_option linter.unusedSimpArgs false
set_option linter.unusedVariables false
namespace Go.Proofs.YtkghndikalnipaaGreat.En
open Go
def Θ:n8:=[(2,⟨.i .i64,0,[],8⟩),
 (3,⟨.i .i64,0,[],8⟩),
 (4,⟨.b,0,[],1⟩),
 (5,⟨.i .u8,0,[],1⟩),
 (9,⟨.s,0,[],16⟩),
 (12,⟨.i .u64,0,[],8⟩),
 (21,⟨.i .i32,0,[],4⟩),
 (22,⟨.ls (.i .u8),1,[],24⟩),
 (24,⟨.ls (.st .server),152,[],24⟩),
 (25,⟨.ls (.i .i64),8,[],24⟩),
 (26,⟨.ls (.st .config),64,[],24⟩),
 (28,⟨.st .masterLog,0,[(0,1,false),(1,1,false)],32⟩),
 (30,⟨.st .lease,0,[(0,1,false),(1,1,false),(2,1,false)],24⟩),
 (31,⟨.ls (.st .place),24,[],24⟩),
 (33,⟨.st .cluster,0,[(0,1,false),(1,1,false),(2,1,false),(3,2,true),(5,1,false),(6,3,true),(9,1,false)],144⟩),
 (42,⟨.st .config,0,[(0,1,false),(1,1,false),(2,1,false),(3,1,false)],64⟩),
 (54,⟨.ls (.st .entry),56,[],24⟩),
 (57,⟨.st .server,0,[(0,1,false),(1,1,false),(2,1,false),(3,1,false),(4,4,true),(8,1,false),(9,1,false),(10,1,false),(11,1,false)],152⟩),
 (66,⟨.st .op,0,[(0,1,false),(1,1,false),(2,1,false),(3,1,false),(4,1,false),(5,1,false)],48⟩),
 (72,⟨.st .entry,0,[(0,1,false),(1,6,true)],56⟩),
 (86,⟨.st .place,0,[(0,1,false),(1,1,false),(2,1,false)],24⟩),
 (125,⟨.ls (.st .session),32,[],24⟩),
 (127,⟨.st .machine,0,[(0,1,false),(1,1,false)],48⟩),
 (131,⟨.st .result,0,[(0,1,false),(1,1,false)],16⟩),
 (171,⟨.st .session,0,[(0,1,false),(1,1,false),(2,2,true)],32⟩),
 (176,⟨.ls (.st .reply),32,[],24⟩),
 (180,⟨.ls (.st .event),80,[],24⟩),
 (183,⟨.i .u64,0,[],8⟩),
 (197,⟨.st .reply,0,[(0,1,false),(1,2,true),(3,1,false)],32⟩),
 (201,⟨.st .event,0,[(0,1,false),(1,1,false),(2,1,false),(3,1,false),(4,6,true)],80⟩),
 (206,⟨.ls (.ls (.i .i64)),24,[],24⟩),
 (223,⟨.i .u32,0,[],4⟩),
 (225,⟨.i .u64,0,[],8⟩),
 (226,⟨.ls (.ls (.st .entry)),24,[],24⟩)]
theorem YP:TI.ok Tryz.prog 2 ⟨.i .i64,0,[],8⟩:=yp (by kernel_rfl) (by kernel_rfl) (by kernel_rfl)
theorem YQ:TI.ok Tryz.prog 3 ⟨.i .i64,0,[],8⟩:=yp (by kernel_rfl) (by kernel_rfl) (by kernel_rfl)
theorem YR:TI.ok Tryz.prog 4 ⟨.b,0,[],1⟩:=yp (by kernel_rfl) (by kernel_rfl) (by kernel_rfl)
theorem YS:TI.ok Tryz.prog 5 ⟨.i .u8,0,[],1⟩:=yp (by kernel_rfl) (by kernel_rfl) (by kernel_rfl)
theorem YT:TI.ok Tryz.prog 9 ⟨.s,0,[],16⟩:=yp (by kernel_rfl) (by kernel_rfl) (by kernel_rfl)
theorem XI:TI.ok Tryz.prog 12 ⟨.i .u64,0,[],8⟩:=yp (by kernel_rfl) (by kernel_rfl) (by kernel_rfl)
theorem XJ:TI.ok Tryz.prog 21 ⟨.i .i32,0,[],4⟩:=yp (by kernel_rfl) (by kernel_rfl) (by kernel_rfl)
theorem XK:TI.ok Tryz.prog 22 ⟨.ls (.i .u8),1,[],24⟩:=wI (u:=5) (by kernel_rfl) (by kernel_rfl) (by kernel_rfl) (by kernel_rfl) (by kernel_rfl) (by kernel_rfl) (by kernel_rfl) (by kernel_rfl) (by kernel_rfl)
theorem XL:TI.ok Tryz.prog 24 ⟨.ls (.st .server),152,[],24⟩:=wI (u:=57) (by kernel_rfl) (by kernel_rfl) (by kernel_rfl) (by kernel_rfl) (by kernel_rfl) (by kernel_rfl) (by kernel_rfl) (by kernel_rfl) (by kernel_rfl)
theorem XM:TI.ok Tryz.prog 25 ⟨.ls (.i .i64),8,[],24⟩:=wI (u:=3) (by kernel_rfl) (by kernel_rfl) (by kernel_rfl) (by kernel_rfl) (by kernel_rfl) (by kernel_rfl) (by kernel_rfl) (by kernel_rfl) (by kernel_rfl)
theorem XN:TI.ok Tryz.prog 26 ⟨.ls (.st .config),64,[],24⟩:=wI (u:=42) (by kernel_rfl) (by kernel_rfl) (by kernel_rfl) (by kernel_rfl) (by kernel_rfl) (by kernel_rfl) (by kernel_rfl) (by kernel_rfl) (by kernel_rfl)
theorem XO:TI.ok Tryz.prog 28 ⟨.st .masterLog,0,[(0,1,false),(1,1,false)],32⟩:=uo (by kernel_rfl) (by kernel_rfl) (by kernel_rfl) (by kernel_rfl) (by kernel_rfl) (by kernel_rfl) (λh=>absurd (show false=true from h) (by decide)) (λ_ xs=>oa xs (by kernel_rfl))
theorem XP:TI.ok Tryz.prog 30 ⟨.st .lease,0,[(0,1,false),(1,1,false),(2,1,false)],24⟩:=uo (by kernel_rfl) (by kernel_rfl) (by kernel_rfl) (by kernel_rfl) (by kernel_rfl) (by kernel_rfl) (λ_=>⟨(by kernel_rfl),(by kernel_rfl)⟩) (λh=>absurd (show true=false from h) (by decide))
theorem XQ:TI.ok Tryz.prog 31 ⟨.ls (.st .place),24,[],24⟩:=wI (u:=86) (by kernel_rfl) (by kernel_rfl) (by kernel_rfl) (by kernel_rfl) (by kernel_rfl) (by kernel_rfl) (by kernel_rfl) (by kernel_rfl) (by kernel_rfl)
theorem XR:TI.ok Tryz.prog 33 ⟨.st .cluster,0,[(0,1,false),(1,1,false),(2,1,false),(3,2,true),(5,1,false),(6,3,true),(9,1,false)],144⟩:=uo (by kernel_rfl) (by kernel_rfl) (by kernel_rfl) (by kernel_rfl) (by kernel_rfl) (by kernel_rfl) (λh=>absurd (show false=true from h) (by decide)) (λ_ xs=>oa xs (by kernel_rfl))
theorem XS:TI.ok Tryz.prog 42 ⟨.st .config,0,[(0,1,false),(1,1,false),(2,1,false),(3,1,false)],64⟩:=uo (by kernel_rfl) (by kernel_rfl) (by kernel_rfl) (by kernel_rfl) (by kernel_rfl) (by kernel_rfl) (λh=>absurd (show false=true from h) (by decide)) (λ_ xs=>oa xs (by kernel_rfl))
theorem XT:TI.ok Tryz.prog 54 ⟨.ls (.st .entry),56,[],24⟩:=wI (u:=72) (by kernel_rfl) (by kernel_rfl) (by kernel_rfl) (by kernel_rfl) (by kernel_rfl) (by kernel_rfl) (by kernel_rfl) (by kernel_rfl) (by kernel_rfl)
theorem XU:TI.ok Tryz.prog 57 ⟨.st .server,0,[(0,1,false),(1,1,false),(2,1,false),(3,1,false),(4,4,true),(8,1,false),(9,1,false),(10,1,false),(11,1,false)],152⟩:=uo (by kernel_rfl) (by kernel_rfl) (by kernel_rfl) (by kernel_rfl) (by kernel_rfl) (by kernel_rfl) (λh=>absurd (show false=true from h) (by decide)) (λ_ xs=>oa xs (by kernel_rfl))
theorem XV:TI.ok Tryz.prog 66 ⟨.st .op,0,[(0,1,false),(1,1,false),(2,1,false),(3,1,false),(4,1,false),(5,1,false)],48⟩:=uo (by kernel_rfl) (by kernel_rfl) (by kernel_rfl) (by kernel_rfl) (by kernel_rfl) (by kernel_rfl) (λ_=>⟨(by kernel_rfl),(by kernel_rfl)⟩) (λh=>absurd (show true=false from h) (by decide))
theorem XW:TI.ok Tryz.prog 72 ⟨.st .entry,0,[(0,1,false),(1,6,true)],56⟩:=uo (by kernel_rfl) (by kernel_rfl) (by kernel_rfl) (by kernel_rfl) (by kernel_rfl) (by kernel_rfl) (λ_=>⟨(by kernel_rfl),(by kernel_rfl)⟩) (λh=>absurd (show true=false from h) (by decide))
theorem XX:TI.ok Tryz.prog 86 ⟨.st .place,0,[(0,1,false),(1,1,false),(2,1,false)],24⟩:=uo (by kernel_rfl) (by kernel_rfl) (by kernel_rfl) (by kernel_rfl) (by kernel_rfl) (by kernel_rfl) (λ_=>⟨(by kernel_rfl),(by kernel_rfl)⟩) (λh=>absurd (show true=false from h) (by decide))
theorem WG:TI.ok Tryz.prog 125 ⟨.ls (.st .session),32,[],24⟩:=wI (u:=171) (by kernel_rfl) (by kernel_rfl) (by kernel_rfl) (by kernel_rfl) (by kernel_rfl) (by kernel_rfl) (by kernel_rfl) (by kernel_rfl) (by kernel_rfl)
theorem WH:TI.ok Tryz.prog 127 ⟨.st .machine,0,[(0,1,false),(1,1,false)],48⟩:=uo (by kernel_rfl) (by kernel_rfl) (by kernel_rfl) (by kernel_rfl) (by kernel_rfl) (by kernel_rfl) (λh=>absurd (show false=true from h) (by decide)) (λ_ xs=>oa xs (by kernel_rfl))
theorem WI:TI.ok Tryz.prog 131 ⟨.st .result,0,[(0,1,false),(1,1,false)],16⟩:=uo (by kernel_rfl) (by kernel_rfl) (by kernel_rfl) (by kernel_rfl) (by kernel_rfl) (by kernel_rfl) (λ_=>⟨(by kernel_rfl),(by kernel_rfl)⟩) (λh=>absurd (show true=false from h) (by decide))
theorem WJ:TI.ok Tryz.prog 171 ⟨.st .session,0,[(0,1,false),(1,1,false),(2,2,true)],32⟩:=uo (by kernel_rfl) (by kernel_rfl) (by kernel_rfl) (by kernel_rfl) (by kernel_rfl) (by kernel_rfl) (λ_=>⟨(by kernel_rfl),(by kernel_rfl)⟩) (λh=>absurd (show true=false from h) (by decide))
theorem WK:TI.ok Tryz.prog 176 ⟨.ls (.st .reply),32,[],24⟩:=wI (u:=197) (by kernel_rfl) (by kernel_rfl) (by kernel_rfl) (by kernel_rfl) (by kernel_rfl) (by kernel_rfl) (by kernel_rfl) (by kernel_rfl) (by kernel_rfl)
theorem WL:TI.ok Tryz.prog 180 ⟨.ls (.st .event),80,[],24⟩:=wI (u:=201) (by kernel_rfl) (by kernel_rfl) (by kernel_rfl) (by kernel_rfl) (by kernel_rfl) (by kernel_rfl) (by kernel_rfl) (by kernel_rfl) (by kernel_rfl)
theorem WM:TI.ok Tryz.prog 183 ⟨.i .u64,0,[],8⟩:=yp (by kernel_rfl) (by kernel_rfl) (by kernel_rfl)
theorem WN:TI.ok Tryz.prog 197 ⟨.st .reply,0,[(0,1,false),(1,2,true),(3,1,false)],32⟩:=uo (by kernel_rfl) (by kernel_rfl) (by kernel_rfl) (by kernel_rfl) (by kernel_rfl) (by kernel_rfl) (λ_=>⟨(by kernel_rfl),(by kernel_rfl)⟩) (λh=>absurd (show true=false from h) (by decide))
theorem WO:TI.ok Tryz.prog 201 ⟨.st .event,0,[(0,1,false),(1,1,false),(2,1,false),(3,1,false),(4,6,true)],80⟩:=uo (by kernel_rfl) (by kernel_rfl) (by kernel_rfl) (by kernel_rfl) (by kernel_rfl) (by kernel_rfl) (λ_=>⟨(by kernel_rfl),(by kernel_rfl)⟩) (λh=>absurd (show true=false from h) (by decide))
theorem WP:TI.ok Tryz.prog 206 ⟨.ls (.ls (.i .i64)),24,[],24⟩:=wI (u:=25) (by kernel_rfl) (by kernel_rfl) (by kernel_rfl) (by kernel_rfl) (by kernel_rfl) (by kernel_rfl) (by kernel_rfl) (by kernel_rfl) (by kernel_rfl)
theorem WQ:TI.ok Tryz.prog 223 ⟨.i .u32,0,[],4⟩:=yp (by kernel_rfl) (by kernel_rfl) (by kernel_rfl)
theorem WR:TI.ok Tryz.prog 225 ⟨.i .u64,0,[],8⟩:=yp (by kernel_rfl) (by kernel_rfl) (by kernel_rfl)
theorem WS:TI.ok Tryz.prog 226 ⟨.ls (.ls (.st .entry)),24,[],24⟩:=wI (u:=54) (by kernel_rfl) (by kernel_rfl) (by kernel_rfl) (by kernel_rfl) (by kernel_rfl) (by kernel_rfl) (by kernel_rfl) (by kernel_rfl) (by kernel_rfl)
theorem Ko:gz Tryz.prog Θ:=
 fp YP <| fp YQ <| fp YR <| fp YS <| fp YT <| fp XI <| fp XJ <| fp XK <| fp XL <| fp XM <| fp XN <| fp XO <| fp XP <| fp XQ <| fp XR <| fp XS <| fp XT <| fp XU <| fp XV <| fp XW <| fp XX <| fp WG <| fp WH <| fp WI <| fp WJ <| fp WK <| fp WL <| fp WM <| fp WN <| fp WO <| fp WP <| fp WQ <| fp WR <| fp WS <| T5 _
end Go.Proofs.YtkghndikalnipaaGreat.En
