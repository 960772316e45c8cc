/- The seat's types (printed by wip/tools/gen_theta.py). -/
import Derived.Test.YtkghndikalnipaaGreatProg
import Derived.Test.YtkghndikalnipaaGreatZX10
set_option linter.unusedSimpArgs false
set_option linter.unusedVariables false
namespace Go.Proofs.YtkghndikalnipaaGreat.En
open Go
def Θ:gq:=[(2,⟨.i .i64,0,[],8⟩),
 (3,⟨.i .i64,0,[],8⟩),
 (4,⟨.b,0,[],1⟩),
 (5,⟨.i .u8,0,[],1⟩),
 (9,⟨.s,0,[],16⟩),
 (12,⟨.i .u64,0,[],8⟩),
 (21,⟨.i .i32,0,[],4⟩),
 (22,⟨.ls (.i .u8),1,[],24⟩),
 (24,⟨.ls (.st .server),152,[],24⟩),
 (25,⟨.ls (.i .i64),8,[],24⟩),
 (26,⟨.ls (.st .config),64,[],24⟩),
 (28,⟨.st .masterLog,0,[(0,1,false),(1,1,false)],32⟩),
 (30,⟨.st .lease,0,[(0,1,false),(1,1,false),(2,1,false)],24⟩),
 (31,⟨.ls (.st .place),24,[],24⟩),
 (33,⟨.st .cluster,0,[(0,1,false),(1,1,false),(2,1,false),(3,2,true),(5,1,false),(6,3,true),(9,1,false)],144⟩),
 (42,⟨.st .config,0,[(0,1,false),(1,1,false),(2,1,false),(3,1,false)],64⟩),
 (54,⟨.ls (.st .entry),56,[],24⟩),
 (57,⟨.st .server,0,[(0,1,false),(1,1,false),(2,1,false),(3,1,false),(4,4,true),(8,1,false),(9,1,false),(10,1,false),(11,1,false)],152⟩),
 (66,⟨.st .op,0,[(0,1,false),(1,1,false),(2,1,false),(3,1,false),(4,1,false),(5,1,false)],48⟩),
 (72,⟨.st .entry,0,[(0,1,false),(1,6,true)],56⟩),
 (86,⟨.st .place,0,[(0,1,false),(1,1,false),(2,1,false)],24⟩),
 (125,⟨.ls (.st .session),32,[],24⟩),
 (127,⟨.st .machine,0,[(0,1,false),(1,1,false)],48⟩),
 (131,⟨.st .result,0,[(0,1,false),(1,1,false)],16⟩),
 (171,⟨.st .session,0,[(0,1,false),(1,1,false),(2,2,true)],32⟩),
 (176,⟨.ls (.st .reply),32,[],24⟩),
 (180,⟨.ls (.st .event),80,[],24⟩),
 (183,⟨.i .u64,0,[],8⟩),
 (197,⟨.st .reply,0,[(0,1,false),(1,2,true),(3,1,false)],32⟩),
 (201,⟨.st .event,0,[(0,1,false),(1,1,false),(2,1,false),(3,1,false),(4,6,true)],80⟩),
 (206,⟨.ls (.ls (.i .i64)),24,[],24⟩),
 (223,⟨.i .u32,0,[],4⟩),
 (225,⟨.i .u64,0,[],8⟩),
 (226,⟨.ls (.ls (.st .entry)),24,[],24⟩)]
theorem Ea:TI.ok Tryz.prog 2 ⟨.i .i64,0,[],8⟩:=li (by kernel_rfl) (by kernel_rfl) (by kernel_rfl)
theorem Eb:TI.ok Tryz.prog 3 ⟨.i .i64,0,[],8⟩:=li (by kernel_rfl) (by kernel_rfl) (by kernel_rfl)
theorem Ec:TI.ok Tryz.prog 4 ⟨.b,0,[],1⟩:=li (by kernel_rfl) (by kernel_rfl) (by kernel_rfl)
theorem Ed:TI.ok Tryz.prog 5 ⟨.i .u8,0,[],1⟩:=li (by kernel_rfl) (by kernel_rfl) (by kernel_rfl)
theorem Ee:TI.ok Tryz.prog 9 ⟨.s,0,[],16⟩:=li (by kernel_rfl) (by kernel_rfl) (by kernel_rfl)
theorem Dk:TI.ok Tryz.prog 12 ⟨.i .u64,0,[],8⟩:=li (by kernel_rfl) (by kernel_rfl) (by kernel_rfl)
theorem Dl:TI.ok Tryz.prog 21 ⟨.i .i32,0,[],4⟩:=li (by kernel_rfl) (by kernel_rfl) (by kernel_rfl)
theorem Dm:TI.ok Tryz.prog 22 ⟨.ls (.i .u8),1,[],24⟩:=kz (u:=5) (by kernel_rfl) (by kernel_rfl) (by kernel_rfl) (by kernel_rfl) (by kernel_rfl) (by kernel_rfl) (by kernel_rfl) (by kernel_rfl) (by kernel_rfl)
theorem Dp:TI.ok Tryz.prog 24 ⟨.ls (.st .server),152,[],24⟩:=kz (u:=57) (by kernel_rfl) (by kernel_rfl) (by kernel_rfl) (by kernel_rfl) (by kernel_rfl) (by kernel_rfl) (by kernel_rfl) (by kernel_rfl) (by kernel_rfl)
theorem Dq:TI.ok Tryz.prog 25 ⟨.ls (.i .i64),8,[],24⟩:=kz (u:=3) (by kernel_rfl) (by kernel_rfl) (by kernel_rfl) (by kernel_rfl) (by kernel_rfl) (by kernel_rfl) (by kernel_rfl) (by kernel_rfl) (by kernel_rfl)
theorem Dr:TI.ok Tryz.prog 26 ⟨.ls (.st .config),64,[],24⟩:=kz (u:=42) (by kernel_rfl) (by kernel_rfl) (by kernel_rfl) (by kernel_rfl) (by kernel_rfl) (by kernel_rfl) (by kernel_rfl) (by kernel_rfl) (by kernel_rfl)
theorem Ds:TI.ok Tryz.prog 28 ⟨.st .masterLog,0,[(0,1,false),(1,1,false)],32⟩:=jt (by kernel_rfl) (by kernel_rfl) (by kernel_rfl) (by kernel_rfl) (by kernel_rfl) (by kernel_rfl) (λh=>absurd (show false=true from h) (by decide)) (λ_ xs=>gA xs (by kernel_rfl))
theorem Dt:TI.ok Tryz.prog 30 ⟨.st .lease,0,[(0,1,false),(1,1,false),(2,1,false)],24⟩:=jt (by kernel_rfl) (by kernel_rfl) (by kernel_rfl) (by kernel_rfl) (by kernel_rfl) (by kernel_rfl) (λ_=>⟨(by kernel_rfl),(by kernel_rfl)⟩) (λh=>absurd (show true=false from h) (by decide))
theorem Du:TI.ok Tryz.prog 31 ⟨.ls (.st .place),24,[],24⟩:=kz (u:=86) (by kernel_rfl) (by kernel_rfl) (by kernel_rfl) (by kernel_rfl) (by kernel_rfl) (by kernel_rfl) (by kernel_rfl) (by kernel_rfl) (by kernel_rfl)
theorem Dv:TI.ok Tryz.prog 33 ⟨.st .cluster,0,[(0,1,false),(1,1,false),(2,1,false),(3,2,true),(5,1,false),(6,3,true),(9,1,false)],144⟩:=jt (by kernel_rfl) (by kernel_rfl) (by kernel_rfl) (by kernel_rfl) (by kernel_rfl) (by kernel_rfl) (λh=>absurd (show false=true from h) (by decide)) (λ_ xs=>gA xs (by kernel_rfl))
theorem Dw:TI.ok Tryz.prog 42 ⟨.st .config,0,[(0,1,false),(1,1,false),(2,1,false),(3,1,false)],64⟩:=jt (by kernel_rfl) (by kernel_rfl) (by kernel_rfl) (by kernel_rfl) (by kernel_rfl) (by kernel_rfl) (λh=>absurd (show false=true from h) (by decide)) (λ_ xs=>gA xs (by kernel_rfl))
theorem Dx:TI.ok Tryz.prog 54 ⟨.ls (.st .entry),56,[],24⟩:=kz (u:=72) (by kernel_rfl) (by kernel_rfl) (by kernel_rfl) (by kernel_rfl) (by kernel_rfl) (by kernel_rfl) (by kernel_rfl) (by kernel_rfl) (by kernel_rfl)
theorem Dy:TI.ok Tryz.prog 57 ⟨.st .server,0,[(0,1,false),(1,1,false),(2,1,false),(3,1,false),(4,4,true),(8,1,false),(9,1,false),(10,1,false),(11,1,false)],152⟩:=jt (by kernel_rfl) (by kernel_rfl) (by kernel_rfl) (by kernel_rfl) (by kernel_rfl) (by kernel_rfl) (λh=>absurd (show false=true from h) (by decide)) (λ_ xs=>gA xs (by kernel_rfl))
theorem Dz:TI.ok Tryz.prog 66 ⟨.st .op,0,[(0,1,false),(1,1,false),(2,1,false),(3,1,false),(4,1,false),(5,1,false)],48⟩:=jt (by kernel_rfl) (by kernel_rfl) (by kernel_rfl) (by kernel_rfl) (by kernel_rfl) (by kernel_rfl) (λ_=>⟨(by kernel_rfl),(by kernel_rfl)⟩) (λh=>absurd (show true=false from h) (by decide))
theorem DA:TI.ok Tryz.prog 72 ⟨.st .entry,0,[(0,1,false),(1,6,true)],56⟩:=jt (by kernel_rfl) (by kernel_rfl) (by kernel_rfl) (by kernel_rfl) (by kernel_rfl) (by kernel_rfl) (λ_=>⟨(by kernel_rfl),(by kernel_rfl)⟩) (λh=>absurd (show true=false from h) (by decide))
theorem DB:TI.ok Tryz.prog 86 ⟨.st .place,0,[(0,1,false),(1,1,false),(2,1,false)],24⟩:=jt (by kernel_rfl) (by kernel_rfl) (by kernel_rfl) (by kernel_rfl) (by kernel_rfl) (by kernel_rfl) (λ_=>⟨(by kernel_rfl),(by kernel_rfl)⟩) (λh=>absurd (show true=false from h) (by decide))
theorem Cw:TI.ok Tryz.prog 125 ⟨.ls (.st .session),32,[],24⟩:=kz (u:=171) (by kernel_rfl) (by kernel_rfl) (by kernel_rfl) (by kernel_rfl) (by kernel_rfl) (by kernel_rfl) (by kernel_rfl) (by kernel_rfl) (by kernel_rfl)
theorem Cx:TI.ok Tryz.prog 127 ⟨.st .machine,0,[(0,1,false),(1,1,false)],48⟩:=jt (by kernel_rfl) (by kernel_rfl) (by kernel_rfl) (by kernel_rfl) (by kernel_rfl) (by kernel_rfl) (λh=>absurd (show false=true from h) (by decide)) (λ_ xs=>gA xs (by kernel_rfl))
theorem Cy:TI.ok Tryz.prog 131 ⟨.st .result,0,[(0,1,false),(1,1,false)],16⟩:=jt (by kernel_rfl) (by kernel_rfl) (by kernel_rfl) (by kernel_rfl) (by kernel_rfl) (by kernel_rfl) (λ_=>⟨(by kernel_rfl),(by kernel_rfl)⟩) (λh=>absurd (show true=false from h) (by decide))
theorem Cz:TI.ok Tryz.prog 171 ⟨.st .session,0,[(0,1,false),(1,1,false),(2,2,true)],32⟩:=jt (by kernel_rfl) (by kernel_rfl) (by kernel_rfl) (by kernel_rfl) (by kernel_rfl) (by kernel_rfl) (λ_=>⟨(by kernel_rfl),(by kernel_rfl)⟩) (λh=>absurd (show true=false from h) (by decide))
theorem CA:TI.ok Tryz.prog 176 ⟨.ls (.st .reply),32,[],24⟩:=kz (u:=197) (by kernel_rfl) (by kernel_rfl) (by kernel_rfl) (by kernel_rfl) (by kernel_rfl) (by kernel_rfl) (by kernel_rfl) (by kernel_rfl) (by kernel_rfl)
theorem CB:TI.ok Tryz.prog 180 ⟨.ls (.st .event),80,[],24⟩:=kz (u:=201) (by kernel_rfl) (by kernel_rfl) (by kernel_rfl) (by kernel_rfl) (by kernel_rfl) (by kernel_rfl) (by kernel_rfl) (by kernel_rfl) (by kernel_rfl)
theorem CC:TI.ok Tryz.prog 183 ⟨.i .u64,0,[],8⟩:=li (by kernel_rfl) (by kernel_rfl) (by kernel_rfl)
theorem CD:TI.ok Tryz.prog 197 ⟨.st .reply,0,[(0,1,false),(1,2,true),(3,1,false)],32⟩:=jt (by kernel_rfl) (by kernel_rfl) (by kernel_rfl) (by kernel_rfl) (by kernel_rfl) (by kernel_rfl) (λ_=>⟨(by kernel_rfl),(by kernel_rfl)⟩) (λh=>absurd (show true=false from h) (by decide))
theorem CE:TI.ok Tryz.prog 201 ⟨.st .event,0,[(0,1,false),(1,1,false),(2,1,false),(3,1,false),(4,6,true)],80⟩:=jt (by kernel_rfl) (by kernel_rfl) (by kernel_rfl) (by kernel_rfl) (by kernel_rfl) (by kernel_rfl) (λ_=>⟨(by kernel_rfl),(by kernel_rfl)⟩) (λh=>absurd (show true=false from h) (by decide))
theorem CF:TI.ok Tryz.prog 206 ⟨.ls (.ls (.i .i64)),24,[],24⟩:=kz (u:=25) (by kernel_rfl) (by kernel_rfl) (by kernel_rfl) (by kernel_rfl) (by kernel_rfl) (by kernel_rfl) (by kernel_rfl) (by kernel_rfl) (by kernel_rfl)
theorem CG:TI.ok Tryz.prog 223 ⟨.i .u32,0,[],4⟩:=li (by kernel_rfl) (by kernel_rfl) (by kernel_rfl)
theorem CH:TI.ok Tryz.prog 225 ⟨.i .u64,0,[],8⟩:=li (by kernel_rfl) (by kernel_rfl) (by kernel_rfl)
theorem CI:TI.ok Tryz.prog 226 ⟨.ls (.ls (.st .entry)),24,[],24⟩:=kz (u:=54) (by kernel_rfl) (by kernel_rfl) (by kernel_rfl) (by kernel_rfl) (by kernel_rfl) (by kernel_rfl) (by kernel_rfl) (by kernel_rfl) (by kernel_rfl)
theorem EE:eB Tryz.prog Θ:=
 dX Ea <| dX Eb <| dX Ec <| dX Ed <| dX Ee <| dX Dk <| dX Dl <| dX Dm <| dX Dp <| dX Dq <| dX Dr <| dX Ds <| dX Dt <| dX Du <| dX Dv <| dX Dw <| dX Dx <| dX Dy <| dX Dz <| dX DA <| dX DB <| dX Cw <| dX Cx <| dX Cy <| dX Cz <| dX CA <| dX CB <| dX CC <| dX CD <| dX CE <| dX CF <| dX CG <| dX CH <| dX CI <| Bc _
end Go.Proofs.YtkghndikalnipaaGreat.En
