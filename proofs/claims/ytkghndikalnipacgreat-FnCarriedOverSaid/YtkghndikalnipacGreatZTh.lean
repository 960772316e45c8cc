/- The seat's types (printed by wip/tools/gen_theta.py). -/
import Derived.Test.YtkghndikalnipacGreatProg
import Derived.Test.YtkghndikalnipacGreatZX10
set_option linter.unusedSimpArgs false
set_option linter.unusedVariables false
namespace Go.Proofs.YtkghndikalnipacGreat.En
open Go
def Θ:gf:=[(2,⟨.i .i64,0,[],8⟩),
 (3,⟨.i .i64,0,[],8⟩),
 (4,⟨.b,0,[],1⟩),
 (5,⟨.i .u8,0,[],1⟩),
 (9,⟨.s,0,[],16⟩),
 (12,⟨.i .u64,0,[],8⟩),
 (21,⟨.i .i32,0,[],4⟩),
 (22,⟨.ls (.i .u8),1,[],24⟩),
 (24,⟨.ls (.st .server),152,[],24⟩),
 (25,⟨.ls (.i .i64),8,[],24⟩),
 (26,⟨.ls (.st .config),64,[],24⟩),
 (28,⟨.st .masterLog,0,[(0,1,false),(1,1,false)],32⟩),
 (30,⟨.st .lease,0,[(0,1,false),(1,1,false),(2,1,false)],24⟩),
 (31,⟨.ls (.st .place),24,[],24⟩),
 (33,⟨.st .cluster,0,[(0,1,false),(1,1,false),(2,1,false),(3,2,true),(5,1,false),(6,3,true),(9,1,false)],144⟩),
 (35,⟨.st .op,0,[(0,1,false),(1,1,false),(2,1,false),(3,1,false),(4,1,false),(5,1,false)],48⟩),
 (39,⟨.st .result,0,[(0,1,false),(1,1,false)],16⟩),
 (41,⟨.st .reply,0,[(0,1,false),(1,2,true),(3,1,false)],32⟩),
 (45,⟨.ls (.st .event),80,[],24⟩),
 (48,⟨.ls (.st .reply),32,[],24⟩),
 (52,⟨.st .config,0,[(0,1,false),(1,1,false),(2,1,false),(3,1,false)],64⟩),
 (53,⟨.ls (.st .entry),56,[],24⟩),
 (55,⟨.st .server,0,[(0,1,false),(1,1,false),(2,1,false),(3,1,false),(4,4,true),(8,1,false),(9,1,false),(10,1,false),(11,1,false)],152⟩),
 (58,⟨.st .entry,0,[(0,1,false),(1,6,true)],56⟩),
 (83,⟨.st .place,0,[(0,1,false),(1,1,false),(2,1,false)],24⟩),
 (86,⟨.st .event,0,[(0,1,false),(1,1,false),(2,1,false),(3,1,false),(4,6,true)],80⟩),
 (158,⟨.i .u64,0,[],8⟩),
 (159,⟨.ls (.st .session),32,[],24⟩),
 (161,⟨.st .machine,0,[(0,1,false),(1,1,false)],48⟩),
 (181,⟨.ls (.ls (.st .entry)),24,[],24⟩),
 (188,⟨.st .session,0,[(0,1,false),(1,1,false),(2,2,true)],32⟩),
 (207,⟨.ls (.ls (.i .i64)),24,[],24⟩),
 (231,⟨.i .u32,0,[],4⟩),
 (233,⟨.i .u64,0,[],8⟩)]
theorem Dc:TI.ok Tryz.prog 2 ⟨.i .i64,0,[],8⟩:=kH (by kernel_rfl) (by kernel_rfl) (by kernel_rfl)
theorem Dd:TI.ok Tryz.prog 3 ⟨.i .i64,0,[],8⟩:=kH (by kernel_rfl) (by kernel_rfl) (by kernel_rfl)
theorem De:TI.ok Tryz.prog 4 ⟨.b,0,[],1⟩:=kH (by kernel_rfl) (by kernel_rfl) (by kernel_rfl)
theorem Df:TI.ok Tryz.prog 5 ⟨.i .u8,0,[],1⟩:=kH (by kernel_rfl) (by kernel_rfl) (by kernel_rfl)
theorem Dg:TI.ok Tryz.prog 9 ⟨.s,0,[],16⟩:=kH (by kernel_rfl) (by kernel_rfl) (by kernel_rfl)
theorem Ch:TI.ok Tryz.prog 12 ⟨.i .u64,0,[],8⟩:=kH (by kernel_rfl) (by kernel_rfl) (by kernel_rfl)
theorem Ci:TI.ok Tryz.prog 21 ⟨.i .i32,0,[],4⟩:=kH (by kernel_rfl) (by kernel_rfl) (by kernel_rfl)
theorem Cj:TI.ok Tryz.prog 22 ⟨.ls (.i .u8),1,[],24⟩:=jW (u:=5) (by kernel_rfl) (by kernel_rfl) (by kernel_rfl) (by kernel_rfl) (by kernel_rfl) (by kernel_rfl) (by kernel_rfl) (by kernel_rfl) (by kernel_rfl)
theorem Cn:TI.ok Tryz.prog 24 ⟨.ls (.st .server),152,[],24⟩:=jW (u:=55) (by kernel_rfl) (by kernel_rfl) (by kernel_rfl) (by kernel_rfl) (by kernel_rfl) (by kernel_rfl) (by kernel_rfl) (by kernel_rfl) (by kernel_rfl)
theorem Cp:TI.ok Tryz.prog 25 ⟨.ls (.i .i64),8,[],24⟩:=jW (u:=3) (by kernel_rfl) (by kernel_rfl) (by kernel_rfl) (by kernel_rfl) (by kernel_rfl) (by kernel_rfl) (by kernel_rfl) (by kernel_rfl) (by kernel_rfl)
theorem Cq:TI.ok Tryz.prog 26 ⟨.ls (.st .config),64,[],24⟩:=jW (u:=52) (by kernel_rfl) (by kernel_rfl) (by kernel_rfl) (by kernel_rfl) (by kernel_rfl) (by kernel_rfl) (by kernel_rfl) (by kernel_rfl) (by kernel_rfl)
theorem Cr:TI.ok Tryz.prog 28 ⟨.st .masterLog,0,[(0,1,false),(1,1,false)],32⟩:=i6 (by kernel_rfl) (by kernel_rfl) (by kernel_rfl) (by kernel_rfl) (by kernel_rfl) (by kernel_rfl) (λh=>absurd (show false=true from h) (by decide)) (λ_ xs=>fW xs (by kernel_rfl))
theorem Ct:TI.ok Tryz.prog 30 ⟨.st .lease,0,[(0,1,false),(1,1,false),(2,1,false)],24⟩:=i6 (by kernel_rfl) (by kernel_rfl) (by kernel_rfl) (by kernel_rfl) (by kernel_rfl) (by kernel_rfl) (λ_=>⟨(by kernel_rfl),(by kernel_rfl)⟩) (λh=>absurd (show true=false from h) (by decide))
theorem Cu:TI.ok Tryz.prog 31 ⟨.ls (.st .place),24,[],24⟩:=jW (u:=83) (by kernel_rfl) (by kernel_rfl) (by kernel_rfl) (by kernel_rfl) (by kernel_rfl) (by kernel_rfl) (by kernel_rfl) (by kernel_rfl) (by kernel_rfl)
theorem Cv:TI.ok Tryz.prog 33 ⟨.st .cluster,0,[(0,1,false),(1,1,false),(2,1,false),(3,2,true),(5,1,false),(6,3,true),(9,1,false)],144⟩:=i6 (by kernel_rfl) (by kernel_rfl) (by kernel_rfl) (by kernel_rfl) (by kernel_rfl) (by kernel_rfl) (λh=>absurd (show false=true from h) (by decide)) (λ_ xs=>fW xs (by kernel_rfl))
theorem Cw:TI.ok Tryz.prog 35 ⟨.st .op,0,[(0,1,false),(1,1,false),(2,1,false),(3,1,false),(4,1,false),(5,1,false)],48⟩:=i6 (by kernel_rfl) (by kernel_rfl) (by kernel_rfl) (by kernel_rfl) (by kernel_rfl) (by kernel_rfl) (λ_=>⟨(by kernel_rfl),(by kernel_rfl)⟩) (λh=>absurd (show true=false from h) (by decide))
theorem Cx:TI.ok Tryz.prog 39 ⟨.st .result,0,[(0,1,false),(1,1,false)],16⟩:=i6 (by kernel_rfl) (by kernel_rfl) (by kernel_rfl) (by kernel_rfl) (by kernel_rfl) (by kernel_rfl) (λ_=>⟨(by kernel_rfl),(by kernel_rfl)⟩) (λh=>absurd (show true=false from h) (by decide))
theorem Cy:TI.ok Tryz.prog 41 ⟨.st .reply,0,[(0,1,false),(1,2,true),(3,1,false)],32⟩:=i6 (by kernel_rfl) (by kernel_rfl) (by kernel_rfl) (by kernel_rfl) (by kernel_rfl) (by kernel_rfl) (λ_=>⟨(by kernel_rfl),(by kernel_rfl)⟩) (λh=>absurd (show true=false from h) (by decide))
theorem Cz:TI.ok Tryz.prog 45 ⟨.ls (.st .event),80,[],24⟩:=jW (u:=86) (by kernel_rfl) (by kernel_rfl) (by kernel_rfl) (by kernel_rfl) (by kernel_rfl) (by kernel_rfl) (by kernel_rfl) (by kernel_rfl) (by kernel_rfl)
theorem CA:TI.ok Tryz.prog 48 ⟨.ls (.st .reply),32,[],24⟩:=jW (u:=41) (by kernel_rfl) (by kernel_rfl) (by kernel_rfl) (by kernel_rfl) (by kernel_rfl) (by kernel_rfl) (by kernel_rfl) (by kernel_rfl) (by kernel_rfl)
theorem CB:TI.ok Tryz.prog 52 ⟨.st .config,0,[(0,1,false),(1,1,false),(2,1,false),(3,1,false)],64⟩:=i6 (by kernel_rfl) (by kernel_rfl) (by kernel_rfl) (by kernel_rfl) (by kernel_rfl) (by kernel_rfl) (λh=>absurd (show false=true from h) (by decide)) (λ_ xs=>fW xs (by kernel_rfl))
theorem CC:TI.ok Tryz.prog 53 ⟨.ls (.st .entry),56,[],24⟩:=jW (u:=58) (by kernel_rfl) (by kernel_rfl) (by kernel_rfl) (by kernel_rfl) (by kernel_rfl) (by kernel_rfl) (by kernel_rfl) (by kernel_rfl) (by kernel_rfl)
theorem CD:TI.ok Tryz.prog 55 ⟨.st .server,0,[(0,1,false),(1,1,false),(2,1,false),(3,1,false),(4,4,true),(8,1,false),(9,1,false),(10,1,false),(11,1,false)],152⟩:=i6 (by kernel_rfl) (by kernel_rfl) (by kernel_rfl) (by kernel_rfl) (by kernel_rfl) (by kernel_rfl) (λh=>absurd (show false=true from h) (by decide)) (λ_ xs=>fW xs (by kernel_rfl))
theorem CE:TI.ok Tryz.prog 58 ⟨.st .entry,0,[(0,1,false),(1,6,true)],56⟩:=i6 (by kernel_rfl) (by kernel_rfl) (by kernel_rfl) (by kernel_rfl) (by kernel_rfl) (by kernel_rfl) (λ_=>⟨(by kernel_rfl),(by kernel_rfl)⟩) (λh=>absurd (show true=false from h) (by decide))
theorem CF:TI.ok Tryz.prog 83 ⟨.st .place,0,[(0,1,false),(1,1,false),(2,1,false)],24⟩:=i6 (by kernel_rfl) (by kernel_rfl) (by kernel_rfl) (by kernel_rfl) (by kernel_rfl) (by kernel_rfl) (λ_=>⟨(by kernel_rfl),(by kernel_rfl)⟩) (λh=>absurd (show true=false from h) (by decide))
theorem CG:TI.ok Tryz.prog 86 ⟨.st .event,0,[(0,1,false),(1,1,false),(2,1,false),(3,1,false),(4,6,true)],80⟩:=i6 (by kernel_rfl) (by kernel_rfl) (by kernel_rfl) (by kernel_rfl) (by kernel_rfl) (by kernel_rfl) (λ_=>⟨(by kernel_rfl),(by kernel_rfl)⟩) (λh=>absurd (show true=false from h) (by decide))
theorem Bw:TI.ok Tryz.prog 158 ⟨.i .u64,0,[],8⟩:=kH (by kernel_rfl) (by kernel_rfl) (by kernel_rfl)
theorem Bx:TI.ok Tryz.prog 159 ⟨.ls (.st .session),32,[],24⟩:=jW (u:=188) (by kernel_rfl) (by kernel_rfl) (by kernel_rfl) (by kernel_rfl) (by kernel_rfl) (by kernel_rfl) (by kernel_rfl) (by kernel_rfl) (by kernel_rfl)
theorem Bz:TI.ok Tryz.prog 161 ⟨.st .machine,0,[(0,1,false),(1,1,false)],48⟩:=i6 (by kernel_rfl) (by kernel_rfl) (by kernel_rfl) (by kernel_rfl) (by kernel_rfl) (by kernel_rfl) (λh=>absurd (show false=true from h) (by decide)) (λ_ xs=>fW xs (by kernel_rfl))
theorem BA:TI.ok Tryz.prog 181 ⟨.ls (.ls (.st .entry)),24,[],24⟩:=jW (u:=53) (by kernel_rfl) (by kernel_rfl) (by kernel_rfl) (by kernel_rfl) (by kernel_rfl) (by kernel_rfl) (by kernel_rfl) (by kernel_rfl) (by kernel_rfl)
theorem BB:TI.ok Tryz.prog 188 ⟨.st .session,0,[(0,1,false),(1,1,false),(2,2,true)],32⟩:=i6 (by kernel_rfl) (by kernel_rfl) (by kernel_rfl) (by kernel_rfl) (by kernel_rfl) (by kernel_rfl) (λ_=>⟨(by kernel_rfl),(by kernel_rfl)⟩) (λh=>absurd (show true=false from h) (by decide))
theorem BC:TI.ok Tryz.prog 207 ⟨.ls (.ls (.i .i64)),24,[],24⟩:=jW (u:=25) (by kernel_rfl) (by kernel_rfl) (by kernel_rfl) (by kernel_rfl) (by kernel_rfl) (by kernel_rfl) (by kernel_rfl) (by kernel_rfl) (by kernel_rfl)
theorem BD:TI.ok Tryz.prog 231 ⟨.i .u32,0,[],4⟩:=kH (by kernel_rfl) (by kernel_rfl) (by kernel_rfl)
theorem BE:TI.ok Tryz.prog 233 ⟨.i .u64,0,[],8⟩:=kH (by kernel_rfl) (by kernel_rfl) (by kernel_rfl)
theorem DE:ek Tryz.prog Θ:=
 dN Dc <| dN Dd <| dN De <| dN Df <| dN Dg <| dN Ch <| dN Ci <| dN Cj <| dN Cn <| dN Cp <| dN Cq <| dN Cr <| dN Ct <| dN Cu <| dN Cv <| dN Cw <| dN Cx <| dN Cy <| dN Cz <| dN CA <| dN CB <| dN CC <| dN CD <| dN CE <| dN CF <| dN CG <| dN Bw <| dN Bx <| dN Bz <| dN BA <| dN BB <| dN BC <| dN BD <| dN BE <| An _
end Go.Proofs.YtkghndikalnipacGreat.En
