/- The seat's types (printed by wip/tools/gen_theta.py). -/
import Derived.Test.YtkghndikalnipabGreatProg
import Derived.Test.YtkghndikalnipabGreatZX10
set_option linter.unusedSimpArgs false
set_option linter.unusedVariables false
namespace Go.Proofs.YtkghndikalnipabGreat.En
open Go
def Θ:ft:=[(2,⟨.i .i64,0,[],8⟩),
 (3,⟨.i .i64,0,[],8⟩),
 (4,⟨.b,0,[],1⟩),
 (5,⟨.i .u8,0,[],1⟩),
 (9,⟨.s,0,[],16⟩),
 (12,⟨.i .u64,0,[],8⟩),
 (21,⟨.i .i32,0,[],4⟩),
 (22,⟨.ls (.i .u8),1,[],24⟩),
 (24,⟨.ls (.st .server),152,[],24⟩),
 (25,⟨.ls (.i .i64),8,[],24⟩),
 (26,⟨.ls (.st .config),64,[],24⟩),
 (28,⟨.st .masterLog,0,[(0,1,false),(1,1,false)],32⟩),
 (30,⟨.st .lease,0,[(0,1,false),(1,1,false),(2,1,false)],24⟩),
 (31,⟨.ls (.st .place),24,[],24⟩),
 (33,⟨.st .cluster,0,[(0,1,false),(1,1,false),(2,1,false),(3,2,true),(5,1,false),(6,3,true),(9,1,false)],144⟩),
 (40,⟨.ls (.st .ack),56,[],24⟩),
 (41,⟨.ls (.st .entry),56,[],24⟩),
 (46,⟨.st .op,0,[(0,1,false),(1,1,false),(2,1,false),(3,1,false),(4,1,false),(5,1,false)],48⟩),
 (48,⟨.st .ack,0,[(0,6,true),(6,1,false)],56⟩),
 (60,⟨.st .result,0,[(0,1,false),(1,1,false)],16⟩),
 (62,⟨.st .reply,0,[(0,1,false),(1,2,true),(3,1,false)],32⟩),
 (65,⟨.ls (.st .session),32,[],24⟩),
 (67,⟨.st .machine,0,[(0,1,false),(1,1,false)],48⟩),
 (72,⟨.st .config,0,[(0,1,false),(1,1,false),(2,1,false),(3,1,false)],64⟩),
 (74,⟨.st .server,0,[(0,1,false),(1,1,false),(2,1,false),(3,1,false),(4,4,true),(8,1,false),(9,1,false),(10,1,false),(11,1,false)],152⟩),
 (100,⟨.st .place,0,[(0,1,false),(1,1,false),(2,1,false)],24⟩),
 (107,⟨.st .entry,0,[(0,1,false),(1,6,true)],56⟩),
 (160,⟨.st .session,0,[(0,1,false),(1,1,false),(2,2,true)],32⟩),
 (175,⟨.i .u64,0,[],8⟩),
 (176,⟨.ls (.ls (.st .entry)),24,[],24⟩),
 (178,⟨.ls (.st .reply),32,[],24⟩),
 (182,⟨.ls (.st .event),80,[],24⟩),
 (186,⟨.ls (.ls (.i .i64)),24,[],24⟩),
 (193,⟨.st .event,0,[(0,1,false),(1,1,false),(2,1,false),(3,1,false),(4,6,true)],80⟩),
 (216,⟨.i .u32,0,[],4⟩),
 (218,⟨.i .u64,0,[],8⟩)]
theorem BD:TI.ok Tryz.prog 2 ⟨.i .i64,0,[],8⟩:=jT (by kernel_rfl) (by kernel_rfl) (by kernel_rfl)
theorem BE:TI.ok Tryz.prog 3 ⟨.i .i64,0,[],8⟩:=jT (by kernel_rfl) (by kernel_rfl) (by kernel_rfl)
theorem BF:TI.ok Tryz.prog 4 ⟨.b,0,[],1⟩:=jT (by kernel_rfl) (by kernel_rfl) (by kernel_rfl)
theorem BG:TI.ok Tryz.prog 5 ⟨.i .u8,0,[],1⟩:=jT (by kernel_rfl) (by kernel_rfl) (by kernel_rfl)
theorem BH:TI.ok Tryz.prog 9 ⟨.s,0,[],16⟩:=jT (by kernel_rfl) (by kernel_rfl) (by kernel_rfl)
theorem AI:TI.ok Tryz.prog 12 ⟨.i .u64,0,[],8⟩:=jT (by kernel_rfl) (by kernel_rfl) (by kernel_rfl)
theorem AJ:TI.ok Tryz.prog 21 ⟨.i .i32,0,[],4⟩:=jT (by kernel_rfl) (by kernel_rfl) (by kernel_rfl)
theorem AK:TI.ok Tryz.prog 22 ⟨.ls (.i .u8),1,[],24⟩:=i4 (u:=5) (by kernel_rfl) (by kernel_rfl) (by kernel_rfl) (by kernel_rfl) (by kernel_rfl) (by kernel_rfl) (by kernel_rfl) (by kernel_rfl) (by kernel_rfl)
theorem AL:TI.ok Tryz.prog 24 ⟨.ls (.st .server),152,[],24⟩:=i4 (u:=74) (by kernel_rfl) (by kernel_rfl) (by kernel_rfl) (by kernel_rfl) (by kernel_rfl) (by kernel_rfl) (by kernel_rfl) (by kernel_rfl) (by kernel_rfl)
theorem AM:TI.ok Tryz.prog 25 ⟨.ls (.i .i64),8,[],24⟩:=i4 (u:=3) (by kernel_rfl) (by kernel_rfl) (by kernel_rfl) (by kernel_rfl) (by kernel_rfl) (by kernel_rfl) (by kernel_rfl) (by kernel_rfl) (by kernel_rfl)
theorem AN:TI.ok Tryz.prog 26 ⟨.ls (.st .config),64,[],24⟩:=i4 (u:=72) (by kernel_rfl) (by kernel_rfl) (by kernel_rfl) (by kernel_rfl) (by kernel_rfl) (by kernel_rfl) (by kernel_rfl) (by kernel_rfl) (by kernel_rfl)
theorem AO:TI.ok Tryz.prog 28 ⟨.st .masterLog,0,[(0,1,false),(1,1,false)],32⟩:=hO (by kernel_rfl) (by kernel_rfl) (by kernel_rfl) (by kernel_rfl) (by kernel_rfl) (by kernel_rfl) (λh=>absurd (show false=true from h) (by decide)) (λ_ xs=>fv xs (by kernel_rfl))
theorem AP:TI.ok Tryz.prog 30 ⟨.st .lease,0,[(0,1,false),(1,1,false),(2,1,false)],24⟩:=hO (by kernel_rfl) (by kernel_rfl) (by kernel_rfl) (by kernel_rfl) (by kernel_rfl) (by kernel_rfl) (λ_=>⟨(by kernel_rfl),(by kernel_rfl)⟩) (λh=>absurd (show true=false from h) (by decide))
theorem AQ:TI.ok Tryz.prog 31 ⟨.ls (.st .place),24,[],24⟩:=i4 (u:=100) (by kernel_rfl) (by kernel_rfl) (by kernel_rfl) (by kernel_rfl) (by kernel_rfl) (by kernel_rfl) (by kernel_rfl) (by kernel_rfl) (by kernel_rfl)
theorem AR:TI.ok Tryz.prog 33 ⟨.st .cluster,0,[(0,1,false),(1,1,false),(2,1,false),(3,2,true),(5,1,false),(6,3,true),(9,1,false)],144⟩:=hO (by kernel_rfl) (by kernel_rfl) (by kernel_rfl) (by kernel_rfl) (by kernel_rfl) (by kernel_rfl) (λh=>absurd (show false=true from h) (by decide)) (λ_ xs=>fv xs (by kernel_rfl))
theorem AU:TI.ok Tryz.prog 40 ⟨.ls (.st .ack),56,[],24⟩:=i4 (u:=48) (by kernel_rfl) (by kernel_rfl) (by kernel_rfl) (by kernel_rfl) (by kernel_rfl) (by kernel_rfl) (by kernel_rfl) (by kernel_rfl) (by kernel_rfl)
theorem AW:TI.ok Tryz.prog 41 ⟨.ls (.st .entry),56,[],24⟩:=i4 (u:=107) (by kernel_rfl) (by kernel_rfl) (by kernel_rfl) (by kernel_rfl) (by kernel_rfl) (by kernel_rfl) (by kernel_rfl) (by kernel_rfl) (by kernel_rfl)
theorem AX:TI.ok Tryz.prog 46 ⟨.st .op,0,[(0,1,false),(1,1,false),(2,1,false),(3,1,false),(4,1,false),(5,1,false)],48⟩:=hO (by kernel_rfl) (by kernel_rfl) (by kernel_rfl) (by kernel_rfl) (by kernel_rfl) (by kernel_rfl) (λ_=>⟨(by kernel_rfl),(by kernel_rfl)⟩) (λh=>absurd (show true=false from h) (by decide))
theorem AY:TI.ok Tryz.prog 48 ⟨.st .ack,0,[(0,6,true),(6,1,false)],56⟩:=hO (by kernel_rfl) (by kernel_rfl) (by kernel_rfl) (by kernel_rfl) (by kernel_rfl) (by kernel_rfl) (λ_=>⟨(by kernel_rfl),(by kernel_rfl)⟩) (λh=>absurd (show true=false from h) (by decide))
theorem AZ:TI.ok Tryz.prog 60 ⟨.st .result,0,[(0,1,false),(1,1,false)],16⟩:=hO (by kernel_rfl) (by kernel_rfl) (by kernel_rfl) (by kernel_rfl) (by kernel_rfl) (by kernel_rfl) (λ_=>⟨(by kernel_rfl),(by kernel_rfl)⟩) (λh=>absurd (show true=false from h) (by decide))
theorem A0:TI.ok Tryz.prog 62 ⟨.st .reply,0,[(0,1,false),(1,2,true),(3,1,false)],32⟩:=hO (by kernel_rfl) (by kernel_rfl) (by kernel_rfl) (by kernel_rfl) (by kernel_rfl) (by kernel_rfl) (λ_=>⟨(by kernel_rfl),(by kernel_rfl)⟩) (λh=>absurd (show true=false from h) (by decide))
theorem A1:TI.ok Tryz.prog 65 ⟨.ls (.st .session),32,[],24⟩:=i4 (u:=160) (by kernel_rfl) (by kernel_rfl) (by kernel_rfl) (by kernel_rfl) (by kernel_rfl) (by kernel_rfl) (by kernel_rfl) (by kernel_rfl) (by kernel_rfl)
theorem A2:TI.ok Tryz.prog 67 ⟨.st .machine,0,[(0,1,false),(1,1,false)],48⟩:=hO (by kernel_rfl) (by kernel_rfl) (by kernel_rfl) (by kernel_rfl) (by kernel_rfl) (by kernel_rfl) (λh=>absurd (show false=true from h) (by decide)) (λ_ xs=>fv xs (by kernel_rfl))
theorem A3:TI.ok Tryz.prog 72 ⟨.st .config,0,[(0,1,false),(1,1,false),(2,1,false),(3,1,false)],64⟩:=hO (by kernel_rfl) (by kernel_rfl) (by kernel_rfl) (by kernel_rfl) (by kernel_rfl) (by kernel_rfl) (λh=>absurd (show false=true from h) (by decide)) (λ_ xs=>fv xs (by kernel_rfl))
theorem A4:TI.ok Tryz.prog 74 ⟨.st .server,0,[(0,1,false),(1,1,false),(2,1,false),(3,1,false),(4,4,true),(8,1,false),(9,1,false),(10,1,false),(11,1,false)],152⟩:=hO (by kernel_rfl) (by kernel_rfl) (by kernel_rfl) (by kernel_rfl) (by kernel_rfl) (by kernel_rfl) (λh=>absurd (show false=true from h) (by decide)) (λ_ xs=>fv xs (by kernel_rfl))
theorem zQ:TI.ok Tryz.prog 100 ⟨.st .place,0,[(0,1,false),(1,1,false),(2,1,false)],24⟩:=hO (by kernel_rfl) (by kernel_rfl) (by kernel_rfl) (by kernel_rfl) (by kernel_rfl) (by kernel_rfl) (λ_=>⟨(by kernel_rfl),(by kernel_rfl)⟩) (λh=>absurd (show true=false from h) (by decide))
theorem zR:TI.ok Tryz.prog 107 ⟨.st .entry,0,[(0,1,false),(1,6,true)],56⟩:=hO (by kernel_rfl) (by kernel_rfl) (by kernel_rfl) (by kernel_rfl) (by kernel_rfl) (by kernel_rfl) (λ_=>⟨(by kernel_rfl),(by kernel_rfl)⟩) (λh=>absurd (show true=false from h) (by decide))
theorem zS:TI.ok Tryz.prog 160 ⟨.st .session,0,[(0,1,false),(1,1,false),(2,2,true)],32⟩:=hO (by kernel_rfl) (by kernel_rfl) (by kernel_rfl) (by kernel_rfl) (by kernel_rfl) (by kernel_rfl) (λ_=>⟨(by kernel_rfl),(by kernel_rfl)⟩) (λh=>absurd (show true=false from h) (by decide))
theorem zT:TI.ok Tryz.prog 175 ⟨.i .u64,0,[],8⟩:=jT (by kernel_rfl) (by kernel_rfl) (by kernel_rfl)
theorem zU:TI.ok Tryz.prog 176 ⟨.ls (.ls (.st .entry)),24,[],24⟩:=i4 (u:=41) (by kernel_rfl) (by kernel_rfl) (by kernel_rfl) (by kernel_rfl) (by kernel_rfl) (by kernel_rfl) (by kernel_rfl) (by kernel_rfl) (by kernel_rfl)
theorem zV:TI.ok Tryz.prog 178 ⟨.ls (.st .reply),32,[],24⟩:=i4 (u:=62) (by kernel_rfl) (by kernel_rfl) (by kernel_rfl) (by kernel_rfl) (by kernel_rfl) (by kernel_rfl) (by kernel_rfl) (by kernel_rfl) (by kernel_rfl)
theorem zW:TI.ok Tryz.prog 182 ⟨.ls (.st .event),80,[],24⟩:=i4 (u:=193) (by kernel_rfl) (by kernel_rfl) (by kernel_rfl) (by kernel_rfl) (by kernel_rfl) (by kernel_rfl) (by kernel_rfl) (by kernel_rfl) (by kernel_rfl)
theorem zX:TI.ok Tryz.prog 186 ⟨.ls (.ls (.i .i64)),24,[],24⟩:=i4 (u:=25) (by kernel_rfl) (by kernel_rfl) (by kernel_rfl) (by kernel_rfl) (by kernel_rfl) (by kernel_rfl) (by kernel_rfl) (by kernel_rfl) (by kernel_rfl)
theorem zY:TI.ok Tryz.prog 193 ⟨.st .event,0,[(0,1,false),(1,1,false),(2,1,false),(3,1,false),(4,6,true)],80⟩:=hO (by kernel_rfl) (by kernel_rfl) (by kernel_rfl) (by kernel_rfl) (by kernel_rfl) (by kernel_rfl) (λ_=>⟨(by kernel_rfl),(by kernel_rfl)⟩) (λh=>absurd (show true=false from h) (by decide))
theorem zZ:TI.ok Tryz.prog 216 ⟨.i .u32,0,[],4⟩:=jT (by kernel_rfl) (by kernel_rfl) (by kernel_rfl)
theorem z0:TI.ok Tryz.prog 218 ⟨.i .u64,0,[],8⟩:=jT (by kernel_rfl) (by kernel_rfl) (by kernel_rfl)
theorem B6:dQ Tryz.prog Θ:=
 dz BD <| dz BE <| dz BF <| dz BG <| dz BH <| dz AI <| dz AJ <| dz AK <| dz AL <| dz AM <| dz AN <| dz AO <| dz AP <| dz AQ <| dz AR <| dz AU <| dz AW <| dz AX <| dz AY <| dz AZ <| dz A0 <| dz A1 <| dz A2 <| dz A3 <| dz A4 <| dz zQ <| dz zR <| dz zS <| dz zT <| dz zU <| dz zV <| dz zW <| dz zX <| dz zY <| dz zZ <| dz z0 <| yz _
end Go.Proofs.YtkghndikalnipabGreat.En
