/- The seat's types (printed by wip/tools/gen_theta.py). -/
import Derived.Test.YtkghndikalnipabGreatProg
import Derived.Test.YtkghndikalnipabGreatZX10
set_option linter.unusedSimpArgs false
set_option linter.unusedVariables false
namespace Go.Proofs.YtkghndikalnipabGreat.En
open Go
def Θ:gq:=[(2,⟨.i .i64,0,[],8⟩),
 (3,⟨.i .i64,0,[],8⟩),
 (4,⟨.b,0,[],1⟩),
 (5,⟨.i .u8,0,[],1⟩),
 (9,⟨.s,0,[],16⟩),
 (12,⟨.i .u64,0,[],8⟩),
 (21,⟨.i .i32,0,[],4⟩),
 (22,⟨.ls (.i .u8),1,[],24⟩),
 (24,⟨.ls (.st .server),152,[],24⟩),
 (25,⟨.ls (.i .i64),8,[],24⟩),
 (26,⟨.ls (.st .config),64,[],24⟩),
 (28,⟨.st .masterLog,0,[(0,1,false),(1,1,false)],32⟩),
 (30,⟨.st .lease,0,[(0,1,false),(1,1,false),(2,1,false)],24⟩),
 (31,⟨.ls (.st .place),24,[],24⟩),
 (33,⟨.st .cluster,0,[(0,1,false),(1,1,false),(2,1,false),(3,2,true),(5,1,false),(6,3,true),(9,1,false)],144⟩),
 (40,⟨.ls (.st .ack),56,[],24⟩),
 (41,⟨.ls (.st .entry),56,[],24⟩),
 (46,⟨.st .op,0,[(0,1,false),(1,1,false),(2,1,false),(3,1,false),(4,1,false),(5,1,false)],48⟩),
 (48,⟨.st .ack,0,[(0,6,true),(6,1,false)],56⟩),
 (60,⟨.st .result,0,[(0,1,false),(1,1,false)],16⟩),
 (62,⟨.st .reply,0,[(0,1,false),(1,2,true),(3,1,false)],32⟩),
 (65,⟨.ls (.st .session),32,[],24⟩),
 (67,⟨.st .machine,0,[(0,1,false),(1,1,false)],48⟩),
 (72,⟨.st .config,0,[(0,1,false),(1,1,false),(2,1,false),(3,1,false)],64⟩),
 (74,⟨.st .server,0,[(0,1,false),(1,1,false),(2,1,false),(3,1,false),(4,4,true),(8,1,false),(9,1,false),(10,1,false),(11,1,false)],152⟩),
 (100,⟨.st .place,0,[(0,1,false),(1,1,false),(2,1,false)],24⟩),
 (107,⟨.st .entry,0,[(0,1,false),(1,6,true)],56⟩),
 (160,⟨.st .session,0,[(0,1,false),(1,1,false),(2,2,true)],32⟩),
 (175,⟨.i .u64,0,[],8⟩),
 (176,⟨.ls (.ls (.st .entry)),24,[],24⟩),
 (178,⟨.ls (.st .reply),32,[],24⟩),
 (182,⟨.ls (.st .event),80,[],24⟩),
 (186,⟨.ls (.ls (.i .i64)),24,[],24⟩),
 (193,⟨.st .event,0,[(0,1,false),(1,1,false),(2,1,false),(3,1,false),(4,6,true)],80⟩),
 (216,⟨.i .u32,0,[],4⟩),
 (218,⟨.i .u64,0,[],8⟩)]
theorem Ec:TI.ok Tryz.prog 2 ⟨.i .i64,0,[],8⟩:=li (by kernel_rfl) (by kernel_rfl) (by kernel_rfl)
theorem Ed:TI.ok Tryz.prog 3 ⟨.i .i64,0,[],8⟩:=li (by kernel_rfl) (by kernel_rfl) (by kernel_rfl)
theorem Ee:TI.ok Tryz.prog 4 ⟨.b,0,[],1⟩:=li (by kernel_rfl) (by kernel_rfl) (by kernel_rfl)
theorem Ef:TI.ok Tryz.prog 5 ⟨.i .u8,0,[],1⟩:=li (by kernel_rfl) (by kernel_rfl) (by kernel_rfl)
theorem Eg:TI.ok Tryz.prog 9 ⟨.s,0,[],16⟩:=li (by kernel_rfl) (by kernel_rfl) (by kernel_rfl)
theorem Di:TI.ok Tryz.prog 12 ⟨.i .u64,0,[],8⟩:=li (by kernel_rfl) (by kernel_rfl) (by kernel_rfl)
theorem Dj:TI.ok Tryz.prog 21 ⟨.i .i32,0,[],4⟩:=li (by kernel_rfl) (by kernel_rfl) (by kernel_rfl)
theorem Dk:TI.ok Tryz.prog 22 ⟨.ls (.i .u8),1,[],24⟩:=jU (u:=5) (by kernel_rfl) (by kernel_rfl) (by kernel_rfl) (by kernel_rfl) (by kernel_rfl) (by kernel_rfl) (by kernel_rfl) (by kernel_rfl) (by kernel_rfl)
theorem Dl:TI.ok Tryz.prog 24 ⟨.ls (.st .server),152,[],24⟩:=jU (u:=74) (by kernel_rfl) (by kernel_rfl) (by kernel_rfl) (by kernel_rfl) (by kernel_rfl) (by kernel_rfl) (by kernel_rfl) (by kernel_rfl) (by kernel_rfl)
theorem Dm:TI.ok Tryz.prog 25 ⟨.ls (.i .i64),8,[],24⟩:=jU (u:=3) (by kernel_rfl) (by kernel_rfl) (by kernel_rfl) (by kernel_rfl) (by kernel_rfl) (by kernel_rfl) (by kernel_rfl) (by kernel_rfl) (by kernel_rfl)
theorem Dp:TI.ok Tryz.prog 26 ⟨.ls (.st .config),64,[],24⟩:=jU (u:=72) (by kernel_rfl) (by kernel_rfl) (by kernel_rfl) (by kernel_rfl) (by kernel_rfl) (by kernel_rfl) (by kernel_rfl) (by kernel_rfl) (by kernel_rfl)
theorem Dq:TI.ok Tryz.prog 28 ⟨.st .masterLog,0,[(0,1,false),(1,1,false)],32⟩:=jc (by kernel_rfl) (by kernel_rfl) (by kernel_rfl) (by kernel_rfl) (by kernel_rfl) (by kernel_rfl) (λh=>absurd (show false=true from h) (by decide)) (λ_ xs=>gA xs (by kernel_rfl))
theorem Dr:TI.ok Tryz.prog 30 ⟨.st .lease,0,[(0,1,false),(1,1,false),(2,1,false)],24⟩:=jc (by kernel_rfl) (by kernel_rfl) (by kernel_rfl) (by kernel_rfl) (by kernel_rfl) (by kernel_rfl) (λ_=>⟨(by kernel_rfl),(by kernel_rfl)⟩) (λh=>absurd (show true=false from h) (by decide))
theorem Ds:TI.ok Tryz.prog 31 ⟨.ls (.st .place),24,[],24⟩:=jU (u:=100) (by kernel_rfl) (by kernel_rfl) (by kernel_rfl) (by kernel_rfl) (by kernel_rfl) (by kernel_rfl) (by kernel_rfl) (by kernel_rfl) (by kernel_rfl)
theorem Dt:TI.ok Tryz.prog 33 ⟨.st .cluster,0,[(0,1,false),(1,1,false),(2,1,false),(3,2,true),(5,1,false),(6,3,true),(9,1,false)],144⟩:=jc (by kernel_rfl) (by kernel_rfl) (by kernel_rfl) (by kernel_rfl) (by kernel_rfl) (by kernel_rfl) (λh=>absurd (show false=true from h) (by decide)) (λ_ xs=>gA xs (by kernel_rfl))
theorem Du:TI.ok Tryz.prog 40 ⟨.ls (.st .ack),56,[],24⟩:=jU (u:=48) (by kernel_rfl) (by kernel_rfl) (by kernel_rfl) (by kernel_rfl) (by kernel_rfl) (by kernel_rfl) (by kernel_rfl) (by kernel_rfl) (by kernel_rfl)
theorem Dv:TI.ok Tryz.prog 41 ⟨.ls (.st .entry),56,[],24⟩:=jU (u:=107) (by kernel_rfl) (by kernel_rfl) (by kernel_rfl) (by kernel_rfl) (by kernel_rfl) (by kernel_rfl) (by kernel_rfl) (by kernel_rfl) (by kernel_rfl)
theorem Dw:TI.ok Tryz.prog 46 ⟨.st .op,0,[(0,1,false),(1,1,false),(2,1,false),(3,1,false),(4,1,false),(5,1,false)],48⟩:=jc (by kernel_rfl) (by kernel_rfl) (by kernel_rfl) (by kernel_rfl) (by kernel_rfl) (by kernel_rfl) (λ_=>⟨(by kernel_rfl),(by kernel_rfl)⟩) (λh=>absurd (show true=false from h) (by decide))
theorem Dx:TI.ok Tryz.prog 48 ⟨.st .ack,0,[(0,6,true),(6,1,false)],56⟩:=jc (by kernel_rfl) (by kernel_rfl) (by kernel_rfl) (by kernel_rfl) (by kernel_rfl) (by kernel_rfl) (λ_=>⟨(by kernel_rfl),(by kernel_rfl)⟩) (λh=>absurd (show true=false from h) (by decide))
theorem Dy:TI.ok Tryz.prog 60 ⟨.st .result,0,[(0,1,false),(1,1,false)],16⟩:=jc (by kernel_rfl) (by kernel_rfl) (by kernel_rfl) (by kernel_rfl) (by kernel_rfl) (by kernel_rfl) (λ_=>⟨(by kernel_rfl),(by kernel_rfl)⟩) (λh=>absurd (show true=false from h) (by decide))
theorem Dz:TI.ok Tryz.prog 62 ⟨.st .reply,0,[(0,1,false),(1,2,true),(3,1,false)],32⟩:=jc (by kernel_rfl) (by kernel_rfl) (by kernel_rfl) (by kernel_rfl) (by kernel_rfl) (by kernel_rfl) (λ_=>⟨(by kernel_rfl),(by kernel_rfl)⟩) (λh=>absurd (show true=false from h) (by decide))
theorem DA:TI.ok Tryz.prog 65 ⟨.ls (.st .session),32,[],24⟩:=jU (u:=160) (by kernel_rfl) (by kernel_rfl) (by kernel_rfl) (by kernel_rfl) (by kernel_rfl) (by kernel_rfl) (by kernel_rfl) (by kernel_rfl) (by kernel_rfl)
theorem DB:TI.ok Tryz.prog 67 ⟨.st .machine,0,[(0,1,false),(1,1,false)],48⟩:=jc (by kernel_rfl) (by kernel_rfl) (by kernel_rfl) (by kernel_rfl) (by kernel_rfl) (by kernel_rfl) (λh=>absurd (show false=true from h) (by decide)) (λ_ xs=>gA xs (by kernel_rfl))
theorem DC:TI.ok Tryz.prog 72 ⟨.st .config,0,[(0,1,false),(1,1,false),(2,1,false),(3,1,false)],64⟩:=jc (by kernel_rfl) (by kernel_rfl) (by kernel_rfl) (by kernel_rfl) (by kernel_rfl) (by kernel_rfl) (λh=>absurd (show false=true from h) (by decide)) (λ_ xs=>gA xs (by kernel_rfl))
theorem DD:TI.ok Tryz.prog 74 ⟨.st .server,0,[(0,1,false),(1,1,false),(2,1,false),(3,1,false),(4,4,true),(8,1,false),(9,1,false),(10,1,false),(11,1,false)],152⟩:=jc (by kernel_rfl) (by kernel_rfl) (by kernel_rfl) (by kernel_rfl) (by kernel_rfl) (by kernel_rfl) (λh=>absurd (show false=true from h) (by decide)) (λ_ xs=>gA xs (by kernel_rfl))
theorem Cw:TI.ok Tryz.prog 100 ⟨.st .place,0,[(0,1,false),(1,1,false),(2,1,false)],24⟩:=jc (by kernel_rfl) (by kernel_rfl) (by kernel_rfl) (by kernel_rfl) (by kernel_rfl) (by kernel_rfl) (λ_=>⟨(by kernel_rfl),(by kernel_rfl)⟩) (λh=>absurd (show true=false from h) (by decide))
theorem Cx:TI.ok Tryz.prog 107 ⟨.st .entry,0,[(0,1,false),(1,6,true)],56⟩:=jc (by kernel_rfl) (by kernel_rfl) (by kernel_rfl) (by kernel_rfl) (by kernel_rfl) (by kernel_rfl) (λ_=>⟨(by kernel_rfl),(by kernel_rfl)⟩) (λh=>absurd (show true=false from h) (by decide))
theorem Cy:TI.ok Tryz.prog 160 ⟨.st .session,0,[(0,1,false),(1,1,false),(2,2,true)],32⟩:=jc (by kernel_rfl) (by kernel_rfl) (by kernel_rfl) (by kernel_rfl) (by kernel_rfl) (by kernel_rfl) (λ_=>⟨(by kernel_rfl),(by kernel_rfl)⟩) (λh=>absurd (show true=false from h) (by decide))
theorem Cz:TI.ok Tryz.prog 175 ⟨.i .u64,0,[],8⟩:=li (by kernel_rfl) (by kernel_rfl) (by kernel_rfl)
theorem CA:TI.ok Tryz.prog 176 ⟨.ls (.ls (.st .entry)),24,[],24⟩:=jU (u:=41) (by kernel_rfl) (by kernel_rfl) (by kernel_rfl) (by kernel_rfl) (by kernel_rfl) (by kernel_rfl) (by kernel_rfl) (by kernel_rfl) (by kernel_rfl)
theorem CB:TI.ok Tryz.prog 178 ⟨.ls (.st .reply),32,[],24⟩:=jU (u:=62) (by kernel_rfl) (by kernel_rfl) (by kernel_rfl) (by kernel_rfl) (by kernel_rfl) (by kernel_rfl) (by kernel_rfl) (by kernel_rfl) (by kernel_rfl)
theorem CC:TI.ok Tryz.prog 182 ⟨.ls (.st .event),80,[],24⟩:=jU (u:=193) (by kernel_rfl) (by kernel_rfl) (by kernel_rfl) (by kernel_rfl) (by kernel_rfl) (by kernel_rfl) (by kernel_rfl) (by kernel_rfl) (by kernel_rfl)
theorem CD:TI.ok Tryz.prog 186 ⟨.ls (.ls (.i .i64)),24,[],24⟩:=jU (u:=25) (by kernel_rfl) (by kernel_rfl) (by kernel_rfl) (by kernel_rfl) (by kernel_rfl) (by kernel_rfl) (by kernel_rfl) (by kernel_rfl) (by kernel_rfl)
theorem CE:TI.ok Tryz.prog 193 ⟨.st .event,0,[(0,1,false),(1,1,false),(2,1,false),(3,1,false),(4,6,true)],80⟩:=jc (by kernel_rfl) (by kernel_rfl) (by kernel_rfl) (by kernel_rfl) (by kernel_rfl) (by kernel_rfl) (λ_=>⟨(by kernel_rfl),(by kernel_rfl)⟩) (λh=>absurd (show true=false from h) (by decide))
theorem CF:TI.ok Tryz.prog 216 ⟨.i .u32,0,[],4⟩:=li (by kernel_rfl) (by kernel_rfl) (by kernel_rfl)
theorem CG:TI.ok Tryz.prog 218 ⟨.i .u64,0,[],8⟩:=li (by kernel_rfl) (by kernel_rfl) (by kernel_rfl)
theorem EG:eB Tryz.prog Θ:=
 dW Ec <| dW Ed <| dW Ee <| dW Ef <| dW Eg <| dW Di <| dW Dj <| dW Dk <| dW Dl <| dW Dm <| dW Dp <| dW Dq <| dW Dr <| dW Ds <| dW Dt <| dW Du <| dW Dv <| dW Dw <| dW Dx <| dW Dy <| dW Dz <| dW DA <| dW DB <| dW DC <| dW DD <| dW Cw <| dW Cx <| dW Cy <| dW Cz <| dW CA <| dW CB <| dW CC <| dW CD <| dW CE <| dW CF <| dW CG <| Bc _
end Go.Proofs.YtkghndikalnipabGreat.En
