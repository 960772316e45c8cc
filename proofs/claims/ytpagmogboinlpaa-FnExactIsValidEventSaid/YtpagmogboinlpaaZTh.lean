/- The seat's types (printed by wip/tools/gen_theta.py). -/
import Derived.Test.YtpagmogboinlpaaProg
import Derived.Test.YtpagmogboinlpaaZX10
namespace Go.Proofs.Ytpagmogboinlpaa.En
open Go
def Θ:fp:= [(2,⟨.i .i64,0,[],8⟩),
 (3,⟨.i .i64,0,[],8⟩),
 (4,⟨.b,0,[],1⟩),
 (5,⟨.i .u8,0,[],1⟩),
 (9,⟨.s,0,[],16⟩),
 (12,⟨.i .u64,0,[],8⟩),
 (21,⟨.i .i32,0,[],4⟩),
 (22,⟨.ls (.st .mark),88,[],24⟩),
 (23,⟨.ls (.st .entry),56,[],24⟩),
 (27,⟨.ls (.st .mark),88,[],24⟩),
 (29,⟨.ls (.st .entry),56,[],24⟩),
 (35,⟨.st .op,0,[(0,1,false),(1,1,false),(2,1,false),(3,1,false),(4,1,false),(5,1,false)],48⟩),
 (37,⟨.st .event,0,[(0,1,false),(1,1,false),(2,1,false),(3,1,false),(4,6,true)],80⟩),
 (39,⟨.st .op,0,[(0,1,false),(1,1,false),(2,1,false),(3,1,false),(4,1,false),(5,1,false)],48⟩),
 (41,⟨.st .event,0,[(0,1,false),(1,1,false),(2,1,false),(3,1,false),(4,6,true)],80⟩),
 (47,⟨.st .mark,0,[(0,1,false),(1,1,false),(2,1,false),(3,1,false),(4,1,false),(5,6,true)],88⟩),
 (50,⟨.st .mark,0,[(0,1,false),(1,1,false),(2,1,false),(3,1,false),(4,1,false),(5,6,true)],88⟩),
 (52,⟨.st .entry,0,[(0,1,false),(1,6,true)],56⟩),
 (55,⟨.st .entry,0,[(0,1,false),(1,6,true)],56⟩),
 (69,⟨.st .result,0,[(0,1,false),(1,1,false)],16⟩),
 (72,⟨.ls (.i .i64),8,[],24⟩),
 (73,⟨.ls (.st .session),32,[],24⟩),
 (75,⟨.st .machine,0,[(0,1,false),(1,1,false)],48⟩),
 (91,⟨.st .session,0,[(0,1,false),(1,1,false),(2,2,true)],32⟩),
 (99,⟨.i .u64,0,[],8⟩),
 (105,⟨.i .u32,0,[],4⟩)]
theorem w7:TI.ok Try.prog 2 ⟨.i .i64,0,[],8⟩:=jy (by kernel_rfl) (by kernel_rfl) (by kernel_rfl)
theorem w8:TI.ok Try.prog 3 ⟨.i .i64,0,[],8⟩:=jy (by kernel_rfl) (by kernel_rfl) (by kernel_rfl)
theorem w9:TI.ok Try.prog 4 ⟨.b,0,[],1⟩:=jy (by kernel_rfl) (by kernel_rfl) (by kernel_rfl)
theorem xb:TI.ok Try.prog 5 ⟨.i .u8,0,[],1⟩:=jy (by kernel_rfl) (by kernel_rfl) (by kernel_rfl)
theorem xd:TI.ok Try.prog 9 ⟨.s,0,[],16⟩:=jy (by kernel_rfl) (by kernel_rfl) (by kernel_rfl)
theorem wi:TI.ok Try.prog 12 ⟨.i .u64,0,[],8⟩:=jy (by kernel_rfl) (by kernel_rfl) (by kernel_rfl)
theorem wj:TI.ok Try.prog 21 ⟨.i .i32,0,[],4⟩:=jy (by kernel_rfl) (by kernel_rfl) (by kernel_rfl)
theorem wk:TI.ok Try.prog 22 ⟨.ls (.st .mark),88,[],24⟩:=mL (u:=50) (by kernel_rfl) (by kernel_rfl) (by kernel_rfl) (by kernel_rfl) (by kernel_rfl) (by kernel_rfl) (by kernel_rfl) (by kernel_rfl)
theorem wl:TI.ok Try.prog 23 ⟨.ls (.st .entry),56,[],24⟩:=mL (u:=55) (by kernel_rfl) (by kernel_rfl) (by kernel_rfl) (by kernel_rfl) (by kernel_rfl) (by kernel_rfl) (by kernel_rfl) (by kernel_rfl)
theorem wm:TI.ok Try.prog 27 ⟨.ls (.st .mark),88,[],24⟩:=mL (u:=47) (by kernel_rfl) (by kernel_rfl) (by kernel_rfl) (by kernel_rfl) (by kernel_rfl) (by kernel_rfl) (by kernel_rfl) (by kernel_rfl)
theorem wn:TI.ok Try.prog 29 ⟨.ls (.st .entry),56,[],24⟩:=mL (u:=52) (by kernel_rfl) (by kernel_rfl) (by kernel_rfl) (by kernel_rfl) (by kernel_rfl) (by kernel_rfl) (by kernel_rfl) (by kernel_rfl)
theorem wo:TI.ok Try.prog 35 ⟨.st .op,0,[(0,1,false),(1,1,false),(2,1,false),(3,1,false),(4,1,false),(5,1,false)],48⟩:=ii (by kernel_rfl) (by kernel_rfl) (by kernel_rfl) (by kernel_rfl) (by kernel_rfl) (by kernel_rfl) (fun _=>⟨(by kernel_rfl),(by kernel_rfl)⟩) (fun h=>absurd (show true=false from h) (by decide))
theorem wq:TI.ok Try.prog 37 ⟨.st .event,0,[(0,1,false),(1,1,false),(2,1,false),(3,1,false),(4,6,true)],80⟩:=ii (by kernel_rfl) (by kernel_rfl) (by kernel_rfl) (by kernel_rfl) (by kernel_rfl) (by kernel_rfl) (fun _=>⟨(by kernel_rfl),(by kernel_rfl)⟩) (fun h=>absurd (show true=false from h) (by decide))
theorem wr:TI.ok Try.prog 39 ⟨.st .op,0,[(0,1,false),(1,1,false),(2,1,false),(3,1,false),(4,1,false),(5,1,false)],48⟩:=ii (by kernel_rfl) (by kernel_rfl) (by kernel_rfl) (by kernel_rfl) (by kernel_rfl) (by kernel_rfl) (fun _=>⟨(by kernel_rfl),(by kernel_rfl)⟩) (fun h=>absurd (show true=false from h) (by decide))
theorem wt:TI.ok Try.prog 41 ⟨.st .event,0,[(0,1,false),(1,1,false),(2,1,false),(3,1,false),(4,6,true)],80⟩:=ii (by kernel_rfl) (by kernel_rfl) (by kernel_rfl) (by kernel_rfl) (by kernel_rfl) (by kernel_rfl) (fun _=>⟨(by kernel_rfl),(by kernel_rfl)⟩) (fun h=>absurd (show true=false from h) (by decide))
theorem wu:TI.ok Try.prog 47 ⟨.st .mark,0,[(0,1,false),(1,1,false),(2,1,false),(3,1,false),(4,1,false),(5,6,true)],88⟩:=ii (by kernel_rfl) (by kernel_rfl) (by kernel_rfl) (by kernel_rfl) (by kernel_rfl) (by kernel_rfl) (fun _=>⟨(by kernel_rfl),(by kernel_rfl)⟩) (fun h=>absurd (show true=false from h) (by decide))
theorem wv:TI.ok Try.prog 50 ⟨.st .mark,0,[(0,1,false),(1,1,false),(2,1,false),(3,1,false),(4,1,false),(5,6,true)],88⟩:=ii (by kernel_rfl) (by kernel_rfl) (by kernel_rfl) (by kernel_rfl) (by kernel_rfl) (by kernel_rfl) (fun _=>⟨(by kernel_rfl),(by kernel_rfl)⟩) (fun h=>absurd (show true=false from h) (by decide))
theorem ww:TI.ok Try.prog 52 ⟨.st .entry,0,[(0,1,false),(1,6,true)],56⟩:=ii (by kernel_rfl) (by kernel_rfl) (by kernel_rfl) (by kernel_rfl) (by kernel_rfl) (by kernel_rfl) (fun _=>⟨(by kernel_rfl),(by kernel_rfl)⟩) (fun h=>absurd (show true=false from h) (by decide))
theorem wx:TI.ok Try.prog 55 ⟨.st .entry,0,[(0,1,false),(1,6,true)],56⟩:=ii (by kernel_rfl) (by kernel_rfl) (by kernel_rfl) (by kernel_rfl) (by kernel_rfl) (by kernel_rfl) (fun _=>⟨(by kernel_rfl),(by kernel_rfl)⟩) (fun h=>absurd (show true=false from h) (by decide))
theorem wy:TI.ok Try.prog 69 ⟨.st .result,0,[(0,1,false),(1,1,false)],16⟩:=ii (by kernel_rfl) (by kernel_rfl) (by kernel_rfl) (by kernel_rfl) (by kernel_rfl) (by kernel_rfl) (fun _=>⟨(by kernel_rfl),(by kernel_rfl)⟩) (fun h=>absurd (show true=false from h) (by decide))
theorem wz:TI.ok Try.prog 72 ⟨.ls (.i .i64),8,[],24⟩:=mL (u:=3) (by kernel_rfl) (by kernel_rfl) (by kernel_rfl) (by kernel_rfl) (by kernel_rfl) (by kernel_rfl) (by kernel_rfl) (by kernel_rfl)
theorem wA:TI.ok Try.prog 73 ⟨.ls (.st .session),32,[],24⟩:=mL (u:=91) (by kernel_rfl) (by kernel_rfl) (by kernel_rfl) (by kernel_rfl) (by kernel_rfl) (by kernel_rfl) (by kernel_rfl) (by kernel_rfl)
theorem wB:TI.ok Try.prog 75 ⟨.st .machine,0,[(0,1,false),(1,1,false)],48⟩:=ii (by kernel_rfl) (by kernel_rfl) (by kernel_rfl) (by kernel_rfl) (by kernel_rfl) (by kernel_rfl) (fun h=>absurd (show false=true from h) (by decide)) (fun _ xs=>i9 xs (by kernel_rfl))
theorem wC:TI.ok Try.prog 91 ⟨.st .session,0,[(0,1,false),(1,1,false),(2,2,true)],32⟩:=ii (by kernel_rfl) (by kernel_rfl) (by kernel_rfl) (by kernel_rfl) (by kernel_rfl) (by kernel_rfl) (fun _=>⟨(by kernel_rfl),(by kernel_rfl)⟩) (fun h=>absurd (show true=false from h) (by decide))
theorem wD:TI.ok Try.prog 99 ⟨.i .u64,0,[],8⟩:=jy (by kernel_rfl) (by kernel_rfl) (by kernel_rfl)
theorem vJ:TI.ok Try.prog 105 ⟨.i .u32,0,[],4⟩:=jy (by kernel_rfl) (by kernel_rfl) (by kernel_rfl)
theorem wE:dA Try.prog Θ:=
 dj w7 <| dj w8 <| dj w9 <| dj xb <| dj xd <| dj wi <| dj wj <| dj wk <| dj wl <| dj wm <| dj wn <| dj wo <| dj wq <| dj wr <| dj wt <| dj wu <| dj wv <| dj ww <| dj wx <| dj wy <| dj wz <| dj wA <| dj wB <| dj wC <| dj wD <| dj vJ <| uD _
end Go.Proofs.Ytpagmogboinlpaa.En
