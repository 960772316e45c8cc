/- The seat's types (printed by wip/tools/gen_theta.py). -/
import Derived.Test.YtkghndikalnipaaGreatProg
import Derived.Test.YtkghndikalnipaaGreatZX10
set_option linter.unusedSimpArgs false
set_option linter.unusedVariables false
namespace Go.Proofs.YtkghndikalnipaaGreat.En
open Go
def Θ:fw:=[(2,⟨.i .i64,0,[],8⟩),
 (3,⟨.i .i64,0,[],8⟩),
 (4,⟨.b,0,[],1⟩),
 (5,⟨.i .u8,0,[],1⟩),
 (9,⟨.s,0,[],16⟩),
 (12,⟨.i .u64,0,[],8⟩),
 (21,⟨.i .i32,0,[],4⟩),
 (22,⟨.ls (.i .u8),1,[],24⟩),
 (24,⟨.ls (.st .server),152,[],24⟩),
 (25,⟨.ls (.i .i64),8,[],24⟩),
 (26,⟨.ls (.st .config),64,[],24⟩),
 (28,⟨.st .masterLog,0,[(0,1,false),(1,1,false)],32⟩),
 (30,⟨.st .lease,0,[(0,1,false),(1,1,false),(2,1,false)],24⟩),
 (31,⟨.ls (.st .place),24,[],24⟩),
 (33,⟨.st .cluster,0,[(0,1,false),(1,1,false),(2,1,false),(3,2,true),(5,1,false),(6,3,true),(9,1,false)],144⟩),
 (42,⟨.st .config,0,[(0,1,false),(1,1,false),(2,1,false),(3,1,false)],64⟩),
 (54,⟨.ls (.st .entry),56,[],24⟩),
 (57,⟨.st .server,0,[(0,1,false),(1,1,false),(2,1,false),(3,1,false),(4,4,true),(8,1,false),(9,1,false),(10,1,false),(11,1,false)],152⟩),
 (66,⟨.st .op,0,[(0,1,false),(1,1,false),(2,1,false),(3,1,false),(4,1,false),(5,1,false)],48⟩),
 (72,⟨.st .entry,0,[(0,1,false),(1,6,true)],56⟩),
 (86,⟨.st .place,0,[(0,1,false),(1,1,false),(2,1,false)],24⟩),
 (125,⟨.ls (.st .session),32,[],24⟩),
 (127,⟨.st .machine,0,[(0,1,false),(1,1,false)],48⟩),
 (131,⟨.st .result,0,[(0,1,false),(1,1,false)],16⟩),
 (171,⟨.st .session,0,[(0,1,false),(1,1,false),(2,2,true)],32⟩),
 (176,⟨.ls (.st .reply),32,[],24⟩),
 (180,⟨.ls (.st .event),80,[],24⟩),
 (183,⟨.i .u64,0,[],8⟩),
 (197,⟨.st .reply,0,[(0,1,false),(1,2,true),(3,1,false)],32⟩),
 (201,⟨.st .event,0,[(0,1,false),(1,1,false),(2,1,false),(3,1,false),(4,6,true)],80⟩),
 (206,⟨.ls (.ls (.i .i64)),24,[],24⟩),
 (223,⟨.i .u32,0,[],4⟩),
 (225,⟨.i .u64,0,[],8⟩),
 (226,⟨.ls (.ls (.st .entry)),24,[],24⟩)]
theorem BM:TI.ok Tryz.prog 2 ⟨.i .i64,0,[],8⟩:=jZ (by kernel_rfl) (by kernel_rfl) (by kernel_rfl)
theorem BN:TI.ok Tryz.prog 3 ⟨.i .i64,0,[],8⟩:=jZ (by kernel_rfl) (by kernel_rfl) (by kernel_rfl)
theorem BO:TI.ok Tryz.prog 4 ⟨.b,0,[],1⟩:=jZ (by kernel_rfl) (by kernel_rfl) (by kernel_rfl)
theorem BP:TI.ok Tryz.prog 5 ⟨.i .u8,0,[],1⟩:=jZ (by kernel_rfl) (by kernel_rfl) (by kernel_rfl)
theorem BQ:TI.ok Tryz.prog 9 ⟨.s,0,[],16⟩:=jZ (by kernel_rfl) (by kernel_rfl) (by kernel_rfl)
theorem AY:TI.ok Tryz.prog 12 ⟨.i .u64,0,[],8⟩:=jZ (by kernel_rfl) (by kernel_rfl) (by kernel_rfl)
theorem AZ:TI.ok Tryz.prog 21 ⟨.i .i32,0,[],4⟩:=jZ (by kernel_rfl) (by kernel_rfl) (by kernel_rfl)
theorem A0:TI.ok Tryz.prog 22 ⟨.ls (.i .u8),1,[],24⟩:=ju (u:=5) (by kernel_rfl) (by kernel_rfl) (by kernel_rfl) (by kernel_rfl) (by kernel_rfl) (by kernel_rfl) (by kernel_rfl) (by kernel_rfl) (by kernel_rfl)
theorem A1:TI.ok Tryz.prog 24 ⟨.ls (.st .server),152,[],24⟩:=ju (u:=57) (by kernel_rfl) (by kernel_rfl) (by kernel_rfl) (by kernel_rfl) (by kernel_rfl) (by kernel_rfl) (by kernel_rfl) (by kernel_rfl) (by kernel_rfl)
theorem A2:TI.ok Tryz.prog 25 ⟨.ls (.i .i64),8,[],24⟩:=ju (u:=3) (by kernel_rfl) (by kernel_rfl) (by kernel_rfl) (by kernel_rfl) (by kernel_rfl) (by kernel_rfl) (by kernel_rfl) (by kernel_rfl) (by kernel_rfl)
theorem A3:TI.ok Tryz.prog 26 ⟨.ls (.st .config),64,[],24⟩:=ju (u:=42) (by kernel_rfl) (by kernel_rfl) (by kernel_rfl) (by kernel_rfl) (by kernel_rfl) (by kernel_rfl) (by kernel_rfl) (by kernel_rfl) (by kernel_rfl)
theorem A4:TI.ok Tryz.prog 28 ⟨.st .masterLog,0,[(0,1,false),(1,1,false)],32⟩:=iA (by kernel_rfl) (by kernel_rfl) (by kernel_rfl) (by kernel_rfl) (by kernel_rfl) (by kernel_rfl) (λh=>absurd (show false=true from h) (by decide)) (λ_ xs=>fB xs (by kernel_rfl))
theorem A5:TI.ok Tryz.prog 30 ⟨.st .lease,0,[(0,1,false),(1,1,false),(2,1,false)],24⟩:=iA (by kernel_rfl) (by kernel_rfl) (by kernel_rfl) (by kernel_rfl) (by kernel_rfl) (by kernel_rfl) (λ_=>⟨(by kernel_rfl),(by kernel_rfl)⟩) (λh=>absurd (show true=false from h) (by decide))
theorem A6:TI.ok Tryz.prog 31 ⟨.ls (.st .place),24,[],24⟩:=ju (u:=86) (by kernel_rfl) (by kernel_rfl) (by kernel_rfl) (by kernel_rfl) (by kernel_rfl) (by kernel_rfl) (by kernel_rfl) (by kernel_rfl) (by kernel_rfl)
theorem A7:TI.ok Tryz.prog 33 ⟨.st .cluster,0,[(0,1,false),(1,1,false),(2,1,false),(3,2,true),(5,1,false),(6,3,true),(9,1,false)],144⟩:=iA (by kernel_rfl) (by kernel_rfl) (by kernel_rfl) (by kernel_rfl) (by kernel_rfl) (by kernel_rfl) (λh=>absurd (show false=true from h) (by decide)) (λ_ xs=>fB xs (by kernel_rfl))
theorem A8:TI.ok Tryz.prog 42 ⟨.st .config,0,[(0,1,false),(1,1,false),(2,1,false),(3,1,false)],64⟩:=iA (by kernel_rfl) (by kernel_rfl) (by kernel_rfl) (by kernel_rfl) (by kernel_rfl) (by kernel_rfl) (λh=>absurd (show false=true from h) (by decide)) (λ_ xs=>fB xs (by kernel_rfl))
theorem A9:TI.ok Tryz.prog 54 ⟨.ls (.st .entry),56,[],24⟩:=ju (u:=72) (by kernel_rfl) (by kernel_rfl) (by kernel_rfl) (by kernel_rfl) (by kernel_rfl) (by kernel_rfl) (by kernel_rfl) (by kernel_rfl) (by kernel_rfl)
theorem Ba:TI.ok Tryz.prog 57 ⟨.st .server,0,[(0,1,false),(1,1,false),(2,1,false),(3,1,false),(4,4,true),(8,1,false),(9,1,false),(10,1,false),(11,1,false)],152⟩:=iA (by kernel_rfl) (by kernel_rfl) (by kernel_rfl) (by kernel_rfl) (by kernel_rfl) (by kernel_rfl) (λh=>absurd (show false=true from h) (by decide)) (λ_ xs=>fB xs (by kernel_rfl))
theorem Bb:TI.ok Tryz.prog 66 ⟨.st .op,0,[(0,1,false),(1,1,false),(2,1,false),(3,1,false),(4,1,false),(5,1,false)],48⟩:=iA (by kernel_rfl) (by kernel_rfl) (by kernel_rfl) (by kernel_rfl) (by kernel_rfl) (by kernel_rfl) (λ_=>⟨(by kernel_rfl),(by kernel_rfl)⟩) (λh=>absurd (show true=false from h) (by decide))
theorem Bc:TI.ok Tryz.prog 72 ⟨.st .entry,0,[(0,1,false),(1,6,true)],56⟩:=iA (by kernel_rfl) (by kernel_rfl) (by kernel_rfl) (by kernel_rfl) (by kernel_rfl) (by kernel_rfl) (λ_=>⟨(by kernel_rfl),(by kernel_rfl)⟩) (λh=>absurd (show true=false from h) (by decide))
theorem Bd:TI.ok Tryz.prog 86 ⟨.st .place,0,[(0,1,false),(1,1,false),(2,1,false)],24⟩:=iA (by kernel_rfl) (by kernel_rfl) (by kernel_rfl) (by kernel_rfl) (by kernel_rfl) (by kernel_rfl) (λ_=>⟨(by kernel_rfl),(by kernel_rfl)⟩) (λh=>absurd (show true=false from h) (by decide))
theorem z6:TI.ok Tryz.prog 125 ⟨.ls (.st .session),32,[],24⟩:=ju (u:=171) (by kernel_rfl) (by kernel_rfl) (by kernel_rfl) (by kernel_rfl) (by kernel_rfl) (by kernel_rfl) (by kernel_rfl) (by kernel_rfl) (by kernel_rfl)
theorem z7:TI.ok Tryz.prog 127 ⟨.st .machine,0,[(0,1,false),(1,1,false)],48⟩:=iA (by kernel_rfl) (by kernel_rfl) (by kernel_rfl) (by kernel_rfl) (by kernel_rfl) (by kernel_rfl) (λh=>absurd (show false=true from h) (by decide)) (λ_ xs=>fB xs (by kernel_rfl))
theorem z8:TI.ok Tryz.prog 131 ⟨.st .result,0,[(0,1,false),(1,1,false)],16⟩:=iA (by kernel_rfl) (by kernel_rfl) (by kernel_rfl) (by kernel_rfl) (by kernel_rfl) (by kernel_rfl) (λ_=>⟨(by kernel_rfl),(by kernel_rfl)⟩) (λh=>absurd (show true=false from h) (by decide))
theorem z9:TI.ok Tryz.prog 171 ⟨.st .session,0,[(0,1,false),(1,1,false),(2,2,true)],32⟩:=iA (by kernel_rfl) (by kernel_rfl) (by kernel_rfl) (by kernel_rfl) (by kernel_rfl) (by kernel_rfl) (λ_=>⟨(by kernel_rfl),(by kernel_rfl)⟩) (λh=>absurd (show true=false from h) (by decide))
theorem Aa:TI.ok Tryz.prog 176 ⟨.ls (.st .reply),32,[],24⟩:=ju (u:=197) (by kernel_rfl) (by kernel_rfl) (by kernel_rfl) (by kernel_rfl) (by kernel_rfl) (by kernel_rfl) (by kernel_rfl) (by kernel_rfl) (by kernel_rfl)
theorem Ab:TI.ok Tryz.prog 180 ⟨.ls (.st .event),80,[],24⟩:=ju (u:=201) (by kernel_rfl) (by kernel_rfl) (by kernel_rfl) (by kernel_rfl) (by kernel_rfl) (by kernel_rfl) (by kernel_rfl) (by kernel_rfl) (by kernel_rfl)
theorem Ad:TI.ok Tryz.prog 183 ⟨.i .u64,0,[],8⟩:=jZ (by kernel_rfl) (by kernel_rfl) (by kernel_rfl)
theorem Ae:TI.ok Tryz.prog 197 ⟨.st .reply,0,[(0,1,false),(1,2,true),(3,1,false)],32⟩:=iA (by kernel_rfl) (by kernel_rfl) (by kernel_rfl) (by kernel_rfl) (by kernel_rfl) (by kernel_rfl) (λ_=>⟨(by kernel_rfl),(by kernel_rfl)⟩) (λh=>absurd (show true=false from h) (by decide))
theorem Af:TI.ok Tryz.prog 201 ⟨.st .event,0,[(0,1,false),(1,1,false),(2,1,false),(3,1,false),(4,6,true)],80⟩:=iA (by kernel_rfl) (by kernel_rfl) (by kernel_rfl) (by kernel_rfl) (by kernel_rfl) (by kernel_rfl) (λ_=>⟨(by kernel_rfl),(by kernel_rfl)⟩) (λh=>absurd (show true=false from h) (by decide))
theorem Ag:TI.ok Tryz.prog 206 ⟨.ls (.ls (.i .i64)),24,[],24⟩:=ju (u:=25) (by kernel_rfl) (by kernel_rfl) (by kernel_rfl) (by kernel_rfl) (by kernel_rfl) (by kernel_rfl) (by kernel_rfl) (by kernel_rfl) (by kernel_rfl)
theorem Ah:TI.ok Tryz.prog 223 ⟨.i .u32,0,[],4⟩:=jZ (by kernel_rfl) (by kernel_rfl) (by kernel_rfl)
theorem Ai:TI.ok Tryz.prog 225 ⟨.i .u64,0,[],8⟩:=jZ (by kernel_rfl) (by kernel_rfl) (by kernel_rfl)
theorem Aj:TI.ok Tryz.prog 226 ⟨.ls (.ls (.st .entry)),24,[],24⟩:=ju (u:=54) (by kernel_rfl) (by kernel_rfl) (by kernel_rfl) (by kernel_rfl) (by kernel_rfl) (by kernel_rfl) (by kernel_rfl) (by kernel_rfl) (by kernel_rfl)
theorem Ch:dR Tryz.prog Θ:=
 dB BM <| dB BN <| dB BO <| dB BP <| dB BQ <| dB AY <| dB AZ <| dB A0 <| dB A1 <| dB A2 <| dB A3 <| dB A4 <| dB A5 <| dB A6 <| dB A7 <| dB A8 <| dB A9 <| dB Ba <| dB Bb <| dB Bc <| dB Bd <| dB z6 <| dB z7 <| dB z8 <| dB z9 <| dB Aa <| dB Ab <| dB Ad <| dB Ae <| dB Af <| dB Ag <| dB Ah <| dB Ai <| dB Aj <| yH _
end Go.Proofs.YtkghndikalnipaaGreat.En
