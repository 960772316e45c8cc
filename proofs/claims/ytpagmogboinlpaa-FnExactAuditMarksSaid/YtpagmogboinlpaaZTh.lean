/- The seat's types (printed by wip/tools/gen_theta.py). -/
import Derived.Test.YtpagmogboinlpaaProg
import Derived.Test.YtpagmogboinlpaaZX10
namespace Go.Proofs.Ytpagmogboinlpaa.En
open Go
def Θ:iC:= [(2,⟨.i .i64,0,[],8⟩),
 (3,⟨.i .i64,0,[],8⟩),
 (4,⟨.b,0,[],1⟩),
 (5,⟨.i .u8,0,[],1⟩),
 (9,⟨.s,0,[],16⟩),
 (12,⟨.i .u64,0,[],8⟩),
 (21,⟨.i .i32,0,[],4⟩),
 (22,⟨.ls (.st .mark),88,[],24⟩),
 (23,⟨.ls (.st .entry),56,[],24⟩),
 (27,⟨.ls (.st .mark),88,[],24⟩),
 (29,⟨.ls (.st .entry),56,[],24⟩),
 (35,⟨.st .op,0,[(0,1,false),(1,1,false),(2,1,false),(3,1,false),(4,1,false),(5,1,false)],48⟩),
 (37,⟨.st .event,0,[(0,1,false),(1,1,false),(2,1,false),(3,1,false),(4,6,true)],80⟩),
 (39,⟨.st .op,0,[(0,1,false),(1,1,false),(2,1,false),(3,1,false),(4,1,false),(5,1,false)],48⟩),
 (41,⟨.st .event,0,[(0,1,false),(1,1,false),(2,1,false),(3,1,false),(4,6,true)],80⟩),
 (47,⟨.st .mark,0,[(0,1,false),(1,1,false),(2,1,false),(3,1,false),(4,1,false),(5,6,true)],88⟩),
 (50,⟨.st .mark,0,[(0,1,false),(1,1,false),(2,1,false),(3,1,false),(4,1,false),(5,6,true)],88⟩),
 (52,⟨.st .entry,0,[(0,1,false),(1,6,true)],56⟩),
 (55,⟨.st .entry,0,[(0,1,false),(1,6,true)],56⟩),
 (69,⟨.st .result,0,[(0,1,false),(1,1,false)],16⟩),
 (72,⟨.ls (.i .i64),8,[],24⟩),
 (73,⟨.ls (.st .session),32,[],24⟩),
 (75,⟨.st .machine,0,[(0,1,false),(1,1,false)],48⟩),
 (91,⟨.st .session,0,[(0,1,false),(1,1,false),(2,2,true)],32⟩),
 (99,⟨.i .u64,0,[],8⟩),
 (105,⟨.i .u32,0,[],4⟩)]
theorem DJ:TI.ok Try.prog 2 ⟨.i .i64,0,[],8⟩:=ni (by kernel_rfl) (by kernel_rfl) (by kernel_rfl)
theorem DK:TI.ok Try.prog 3 ⟨.i .i64,0,[],8⟩:=ni (by kernel_rfl) (by kernel_rfl) (by kernel_rfl)
theorem DL:TI.ok Try.prog 4 ⟨.b,0,[],1⟩:=ni (by kernel_rfl) (by kernel_rfl) (by kernel_rfl)
theorem DM:TI.ok Try.prog 5 ⟨.i .u8,0,[],1⟩:=ni (by kernel_rfl) (by kernel_rfl) (by kernel_rfl)
theorem DN:TI.ok Try.prog 9 ⟨.s,0,[],16⟩:=ni (by kernel_rfl) (by kernel_rfl) (by kernel_rfl)
theorem C1:TI.ok Try.prog 12 ⟨.i .u64,0,[],8⟩:=ni (by kernel_rfl) (by kernel_rfl) (by kernel_rfl)
theorem C2:TI.ok Try.prog 21 ⟨.i .i32,0,[],4⟩:=ni (by kernel_rfl) (by kernel_rfl) (by kernel_rfl)
theorem C3:TI.ok Try.prog 22 ⟨.ls (.st .mark),88,[],24⟩:=rh (u:=50) (by kernel_rfl) (by kernel_rfl) (by kernel_rfl) (by kernel_rfl) (by kernel_rfl) (by kernel_rfl) (by kernel_rfl) (by kernel_rfl)
theorem C4:TI.ok Try.prog 23 ⟨.ls (.st .entry),56,[],24⟩:=rh (u:=55) (by kernel_rfl) (by kernel_rfl) (by kernel_rfl) (by kernel_rfl) (by kernel_rfl) (by kernel_rfl) (by kernel_rfl) (by kernel_rfl)
theorem C5:TI.ok Try.prog 27 ⟨.ls (.st .mark),88,[],24⟩:=rh (u:=47) (by kernel_rfl) (by kernel_rfl) (by kernel_rfl) (by kernel_rfl) (by kernel_rfl) (by kernel_rfl) (by kernel_rfl) (by kernel_rfl)
theorem C6:TI.ok Try.prog 29 ⟨.ls (.st .entry),56,[],24⟩:=rh (u:=52) (by kernel_rfl) (by kernel_rfl) (by kernel_rfl) (by kernel_rfl) (by kernel_rfl) (by kernel_rfl) (by kernel_rfl) (by kernel_rfl)
theorem C7:TI.ok Try.prog 35 ⟨.st .op,0,[(0,1,false),(1,1,false),(2,1,false),(3,1,false),(4,1,false),(5,1,false)],48⟩:=k9 (by kernel_rfl) (by kernel_rfl) (by kernel_rfl) (by kernel_rfl) (by kernel_rfl) (by kernel_rfl) (fun _=>⟨(by kernel_rfl),(by kernel_rfl)⟩) (fun h=>absurd (show true=false from h) (by decide))
theorem C8:TI.ok Try.prog 37 ⟨.st .event,0,[(0,1,false),(1,1,false),(2,1,false),(3,1,false),(4,6,true)],80⟩:=k9 (by kernel_rfl) (by kernel_rfl) (by kernel_rfl) (by kernel_rfl) (by kernel_rfl) (by kernel_rfl) (fun _=>⟨(by kernel_rfl),(by kernel_rfl)⟩) (fun h=>absurd (show true=false from h) (by decide))
theorem C9:TI.ok Try.prog 39 ⟨.st .op,0,[(0,1,false),(1,1,false),(2,1,false),(3,1,false),(4,1,false),(5,1,false)],48⟩:=k9 (by kernel_rfl) (by kernel_rfl) (by kernel_rfl) (by kernel_rfl) (by kernel_rfl) (by kernel_rfl) (fun _=>⟨(by kernel_rfl),(by kernel_rfl)⟩) (fun h=>absurd (show true=false from h) (by decide))
theorem Da:TI.ok Try.prog 41 ⟨.st .event,0,[(0,1,false),(1,1,false),(2,1,false),(3,1,false),(4,6,true)],80⟩:=k9 (by kernel_rfl) (by kernel_rfl) (by kernel_rfl) (by kernel_rfl) (by kernel_rfl) (by kernel_rfl) (fun _=>⟨(by kernel_rfl),(by kernel_rfl)⟩) (fun h=>absurd (show true=false from h) (by decide))
theorem Db:TI.ok Try.prog 47 ⟨.st .mark,0,[(0,1,false),(1,1,false),(2,1,false),(3,1,false),(4,1,false),(5,6,true)],88⟩:=k9 (by kernel_rfl) (by kernel_rfl) (by kernel_rfl) (by kernel_rfl) (by kernel_rfl) (by kernel_rfl) (fun _=>⟨(by kernel_rfl),(by kernel_rfl)⟩) (fun h=>absurd (show true=false from h) (by decide))
theorem Dc:TI.ok Try.prog 50 ⟨.st .mark,0,[(0,1,false),(1,1,false),(2,1,false),(3,1,false),(4,1,false),(5,6,true)],88⟩:=k9 (by kernel_rfl) (by kernel_rfl) (by kernel_rfl) (by kernel_rfl) (by kernel_rfl) (by kernel_rfl) (fun _=>⟨(by kernel_rfl),(by kernel_rfl)⟩) (fun h=>absurd (show true=false from h) (by decide))
theorem Dd:TI.ok Try.prog 52 ⟨.st .entry,0,[(0,1,false),(1,6,true)],56⟩:=k9 (by kernel_rfl) (by kernel_rfl) (by kernel_rfl) (by kernel_rfl) (by kernel_rfl) (by kernel_rfl) (fun _=>⟨(by kernel_rfl),(by kernel_rfl)⟩) (fun h=>absurd (show true=false from h) (by decide))
theorem De:TI.ok Try.prog 55 ⟨.st .entry,0,[(0,1,false),(1,6,true)],56⟩:=k9 (by kernel_rfl) (by kernel_rfl) (by kernel_rfl) (by kernel_rfl) (by kernel_rfl) (by kernel_rfl) (fun _=>⟨(by kernel_rfl),(by kernel_rfl)⟩) (fun h=>absurd (show true=false from h) (by decide))
theorem Df:TI.ok Try.prog 69 ⟨.st .result,0,[(0,1,false),(1,1,false)],16⟩:=k9 (by kernel_rfl) (by kernel_rfl) (by kernel_rfl) (by kernel_rfl) (by kernel_rfl) (by kernel_rfl) (fun _=>⟨(by kernel_rfl),(by kernel_rfl)⟩) (fun h=>absurd (show true=false from h) (by decide))
theorem Dg:TI.ok Try.prog 72 ⟨.ls (.i .i64),8,[],24⟩:=rh (u:=3) (by kernel_rfl) (by kernel_rfl) (by kernel_rfl) (by kernel_rfl) (by kernel_rfl) (by kernel_rfl) (by kernel_rfl) (by kernel_rfl)
theorem Dh:TI.ok Try.prog 73 ⟨.ls (.st .session),32,[],24⟩:=rh (u:=91) (by kernel_rfl) (by kernel_rfl) (by kernel_rfl) (by kernel_rfl) (by kernel_rfl) (by kernel_rfl) (by kernel_rfl) (by kernel_rfl)
theorem Di:TI.ok Try.prog 75 ⟨.st .machine,0,[(0,1,false),(1,1,false)],48⟩:=k9 (by kernel_rfl) (by kernel_rfl) (by kernel_rfl) (by kernel_rfl) (by kernel_rfl) (by kernel_rfl) (fun h=>absurd (show false=true from h) (by decide)) (fun _ xs=>mA xs (by kernel_rfl))
theorem Dj:TI.ok Try.prog 91 ⟨.st .session,0,[(0,1,false),(1,1,false),(2,2,true)],32⟩:=k9 (by kernel_rfl) (by kernel_rfl) (by kernel_rfl) (by kernel_rfl) (by kernel_rfl) (by kernel_rfl) (fun _=>⟨(by kernel_rfl),(by kernel_rfl)⟩) (fun h=>absurd (show true=false from h) (by decide))
theorem Dk:TI.ok Try.prog 99 ⟨.i .u64,0,[],8⟩:=ni (by kernel_rfl) (by kernel_rfl) (by kernel_rfl)
theorem Ct:TI.ok Try.prog 105 ⟨.i .u32,0,[],4⟩:=ni (by kernel_rfl) (by kernel_rfl) (by kernel_rfl)
theorem Bk:en Try.prog Θ:=
 dS DJ <| dS DK <| dS DL <| dS DM <| dS DN <| dS C1 <| dS C2 <| dS C3 <| dS C4 <| dS C5 <| dS C6 <| dS C7 <| dS C8 <| dS C9 <| dS Da <| dS Db <| dS Dc <| dS Dd <| dS De <| dS Df <| dS Dg <| dS Dh <| dS Di <| dS Dj <| dS Dk <| dS Ct <| Bd _
end Go.Proofs.Ytpagmogboinlpaa.En
