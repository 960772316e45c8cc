/- The seat's types (printed by wip/tools/gen_theta.py). -/
import Derived.Test.YtadabkgmdllbfaaGreatProg
import Derived.Test.YtadabkgmdllbfaaGreatZX10
namespace Go.Proofs.YtadabkgmdllbfaaGreat.En
open Go
def Θ:mN:= [(2,⟨.i .i64,0,[],8⟩),
 (3,⟨.i .i64,0,[],8⟩),
 (4,⟨.b,0,[],1⟩),
 (5,⟨.i .u8,0,[],1⟩),
 (9,⟨.s,0,[],16⟩),
 (12,⟨.i .u64,0,[],8⟩),
 (21,⟨.i .i32,0,[],4⟩),
 (22,⟨.ls (.i .u8),1,[],24⟩),
 (24,⟨.ls (.st .server),152,[],24⟩),
 (25,⟨.ls (.i .i64),8,[],24⟩),
 (26,⟨.ls (.st .config),64,[],24⟩),
 (28,⟨.st .masterLog,0,[(0,1,false),(1,1,false)],32⟩),
 (30,⟨.st .lease,0,[(0,1,false),(1,1,false),(2,1,false)],24⟩),
 (31,⟨.ls (.st .place),24,[],24⟩),
 (33,⟨.st .cluster,0,[(0,1,false),(1,1,false),(2,1,false),(3,2,true),(5,1,false),(6,3,true),(9,1,false)],144⟩),
 (47,⟨.st .config,0,[(0,1,false),(1,1,false),(2,1,false),(3,1,false)],64⟩),
 (48,⟨.ls (.st .entry),56,[],24⟩),
 (50,⟨.st .server,0,[(0,1,false),(1,1,false),(2,1,false),(3,1,false),(4,4,true),(8,1,false),(9,1,false),(10,1,false),(11,1,false)],152⟩),
 (58,⟨.st .place,0,[(0,1,false),(1,1,false),(2,1,false)],24⟩),
 (74,⟨.st .op,0,[(0,1,false),(1,1,false),(2,1,false),(3,1,false),(4,1,false),(5,1,false)],48⟩),
 (76,⟨.st .entry,0,[(0,1,false),(1,6,true)],56⟩),
 (98,⟨.i .u64,0,[],8⟩),
 (106,⟨.ls (.st .reply),32,[],24⟩),
 (110,⟨.ls (.st .event),80,[],24⟩),
 (121,⟨.st .result,0,[(0,1,false),(1,1,false)],16⟩),
 (123,⟨.st .reply,0,[(0,1,false),(1,2,true),(3,1,false)],32⟩),
 (127,⟨.st .event,0,[(0,1,false),(1,1,false),(2,1,false),(3,1,false),(4,6,true)],80⟩),
 (161,⟨.ls (.st .session),32,[],24⟩),
 (163,⟨.st .machine,0,[(0,1,false),(1,1,false)],48⟩),
 (191,⟨.st .session,0,[(0,1,false),(1,1,false),(2,2,true)],32⟩),
 (212,⟨.i .u32,0,[],4⟩),
 (214,⟨.i .u64,0,[],8⟩)]
theorem SX:TI.ok Tryz.prog 2 ⟨.i .i64,0,[],8⟩:=vI (by kernel_rfl) (by kernel_rfl) (by kernel_rfl)
theorem SY:TI.ok Tryz.prog 3 ⟨.i .i64,0,[],8⟩:=vI (by kernel_rfl) (by kernel_rfl) (by kernel_rfl)
theorem SZ:TI.ok Tryz.prog 4 ⟨.b,0,[],1⟩:=vI (by kernel_rfl) (by kernel_rfl) (by kernel_rfl)
theorem S4:TI.ok Tryz.prog 5 ⟨.i .u8,0,[],1⟩:=vI (by kernel_rfl) (by kernel_rfl) (by kernel_rfl)
theorem S5:TI.ok Tryz.prog 9 ⟨.s,0,[],16⟩:=vI (by kernel_rfl) (by kernel_rfl) (by kernel_rfl)
theorem RK:TI.ok Tryz.prog 12 ⟨.i .u64,0,[],8⟩:=vI (by kernel_rfl) (by kernel_rfl) (by kernel_rfl)
theorem RL:TI.ok Tryz.prog 21 ⟨.i .i32,0,[],4⟩:=vI (by kernel_rfl) (by kernel_rfl) (by kernel_rfl)
theorem RM:TI.ok Tryz.prog 22 ⟨.ls (.i .u8),1,[],24⟩:=xk (u:=5) (by kernel_rfl) (by kernel_rfl) (by kernel_rfl) (by kernel_rfl) (by kernel_rfl) (by kernel_rfl) (by kernel_rfl) (by kernel_rfl) (by kernel_rfl)
theorem RN:TI.ok Tryz.prog 24 ⟨.ls (.st .server),152,[],24⟩:=xk (u:=50) (by kernel_rfl) (by kernel_rfl) (by kernel_rfl) (by kernel_rfl) (by kernel_rfl) (by kernel_rfl) (by kernel_rfl) (by kernel_rfl) (by kernel_rfl)
theorem RP:TI.ok Tryz.prog 25 ⟨.ls (.i .i64),8,[],24⟩:=xk (u:=3) (by kernel_rfl) (by kernel_rfl) (by kernel_rfl) (by kernel_rfl) (by kernel_rfl) (by kernel_rfl) (by kernel_rfl) (by kernel_rfl) (by kernel_rfl)
theorem RQ:TI.ok Tryz.prog 26 ⟨.ls (.st .config),64,[],24⟩:=xk (u:=47) (by kernel_rfl) (by kernel_rfl) (by kernel_rfl) (by kernel_rfl) (by kernel_rfl) (by kernel_rfl) (by kernel_rfl) (by kernel_rfl) (by kernel_rfl)
theorem RR:TI.ok Tryz.prog 28 ⟨.st .masterLog,0,[(0,1,false),(1,1,false)],32⟩:=rZ (by kernel_rfl) (by kernel_rfl) (by kernel_rfl) (by kernel_rfl) (by kernel_rfl) (by kernel_rfl) (fun h=>absurd (show false=true from h) (by decide)) (fun _ xs=>mP xs (by kernel_rfl))
theorem RS:TI.ok Tryz.prog 30 ⟨.st .lease,0,[(0,1,false),(1,1,false),(2,1,false)],24⟩:=rZ (by kernel_rfl) (by kernel_rfl) (by kernel_rfl) (by kernel_rfl) (by kernel_rfl) (by kernel_rfl) (fun _=>⟨(by kernel_rfl),(by kernel_rfl)⟩) (fun h=>absurd (show true=false from h) (by decide))
theorem RT:TI.ok Tryz.prog 31 ⟨.ls (.st .place),24,[],24⟩:=xk (u:=58) (by kernel_rfl) (by kernel_rfl) (by kernel_rfl) (by kernel_rfl) (by kernel_rfl) (by kernel_rfl) (by kernel_rfl) (by kernel_rfl) (by kernel_rfl)
theorem RU:TI.ok Tryz.prog 33 ⟨.st .cluster,0,[(0,1,false),(1,1,false),(2,1,false),(3,2,true),(5,1,false),(6,3,true),(9,1,false)],144⟩:=rZ (by kernel_rfl) (by kernel_rfl) (by kernel_rfl) (by kernel_rfl) (by kernel_rfl) (by kernel_rfl) (fun h=>absurd (show false=true from h) (by decide)) (fun _ xs=>mP xs (by kernel_rfl))
theorem RV:TI.ok Tryz.prog 47 ⟨.st .config,0,[(0,1,false),(1,1,false),(2,1,false),(3,1,false)],64⟩:=rZ (by kernel_rfl) (by kernel_rfl) (by kernel_rfl) (by kernel_rfl) (by kernel_rfl) (by kernel_rfl) (fun h=>absurd (show false=true from h) (by decide)) (fun _ xs=>mP xs (by kernel_rfl))
theorem RX:TI.ok Tryz.prog 48 ⟨.ls (.st .entry),56,[],24⟩:=xk (u:=76) (by kernel_rfl) (by kernel_rfl) (by kernel_rfl) (by kernel_rfl) (by kernel_rfl) (by kernel_rfl) (by kernel_rfl) (by kernel_rfl) (by kernel_rfl)
theorem RY:TI.ok Tryz.prog 50 ⟨.st .server,0,[(0,1,false),(1,1,false),(2,1,false),(3,1,false),(4,4,true),(8,1,false),(9,1,false),(10,1,false),(11,1,false)],152⟩:=rZ (by kernel_rfl) (by kernel_rfl) (by kernel_rfl) (by kernel_rfl) (by kernel_rfl) (by kernel_rfl) (fun h=>absurd (show false=true from h) (by decide)) (fun _ xs=>mP xs (by kernel_rfl))
theorem RZ:TI.ok Tryz.prog 58 ⟨.st .place,0,[(0,1,false),(1,1,false),(2,1,false)],24⟩:=rZ (by kernel_rfl) (by kernel_rfl) (by kernel_rfl) (by kernel_rfl) (by kernel_rfl) (by kernel_rfl) (fun _=>⟨(by kernel_rfl),(by kernel_rfl)⟩) (fun h=>absurd (show true=false from h) (by decide))
theorem R0:TI.ok Tryz.prog 74 ⟨.st .op,0,[(0,1,false),(1,1,false),(2,1,false),(3,1,false),(4,1,false),(5,1,false)],48⟩:=rZ (by kernel_rfl) (by kernel_rfl) (by kernel_rfl) (by kernel_rfl) (by kernel_rfl) (by kernel_rfl) (fun _=>⟨(by kernel_rfl),(by kernel_rfl)⟩) (fun h=>absurd (show true=false from h) (by decide))
theorem R1:TI.ok Tryz.prog 76 ⟨.st .entry,0,[(0,1,false),(1,6,true)],56⟩:=rZ (by kernel_rfl) (by kernel_rfl) (by kernel_rfl) (by kernel_rfl) (by kernel_rfl) (by kernel_rfl) (fun _=>⟨(by kernel_rfl),(by kernel_rfl)⟩) (fun h=>absurd (show true=false from h) (by decide))
theorem R2:TI.ok Tryz.prog 98 ⟨.i .u64,0,[],8⟩:=vI (by kernel_rfl) (by kernel_rfl) (by kernel_rfl)
theorem QJ:TI.ok Tryz.prog 106 ⟨.ls (.st .reply),32,[],24⟩:=xk (u:=123) (by kernel_rfl) (by kernel_rfl) (by kernel_rfl) (by kernel_rfl) (by kernel_rfl) (by kernel_rfl) (by kernel_rfl) (by kernel_rfl) (by kernel_rfl)
theorem QK:TI.ok Tryz.prog 110 ⟨.ls (.st .event),80,[],24⟩:=xk (u:=127) (by kernel_rfl) (by kernel_rfl) (by kernel_rfl) (by kernel_rfl) (by kernel_rfl) (by kernel_rfl) (by kernel_rfl) (by kernel_rfl) (by kernel_rfl)
theorem QL:TI.ok Tryz.prog 121 ⟨.st .result,0,[(0,1,false),(1,1,false)],16⟩:=rZ (by kernel_rfl) (by kernel_rfl) (by kernel_rfl) (by kernel_rfl) (by kernel_rfl) (by kernel_rfl) (fun _=>⟨(by kernel_rfl),(by kernel_rfl)⟩) (fun h=>absurd (show true=false from h) (by decide))
theorem QM:TI.ok Tryz.prog 123 ⟨.st .reply,0,[(0,1,false),(1,2,true),(3,1,false)],32⟩:=rZ (by kernel_rfl) (by kernel_rfl) (by kernel_rfl) (by kernel_rfl) (by kernel_rfl) (by kernel_rfl) (fun _=>⟨(by kernel_rfl),(by kernel_rfl)⟩) (fun h=>absurd (show true=false from h) (by decide))
theorem QN:TI.ok Tryz.prog 127 ⟨.st .event,0,[(0,1,false),(1,1,false),(2,1,false),(3,1,false),(4,6,true)],80⟩:=rZ (by kernel_rfl) (by kernel_rfl) (by kernel_rfl) (by kernel_rfl) (by kernel_rfl) (by kernel_rfl) (fun _=>⟨(by kernel_rfl),(by kernel_rfl)⟩) (fun h=>absurd (show true=false from h) (by decide))
theorem QO:TI.ok Tryz.prog 161 ⟨.ls (.st .session),32,[],24⟩:=xk (u:=191) (by kernel_rfl) (by kernel_rfl) (by kernel_rfl) (by kernel_rfl) (by kernel_rfl) (by kernel_rfl) (by kernel_rfl) (by kernel_rfl) (by kernel_rfl)
theorem QP:TI.ok Tryz.prog 163 ⟨.st .machine,0,[(0,1,false),(1,1,false)],48⟩:=rZ (by kernel_rfl) (by kernel_rfl) (by kernel_rfl) (by kernel_rfl) (by kernel_rfl) (by kernel_rfl) (fun h=>absurd (show false=true from h) (by decide)) (fun _ xs=>mP xs (by kernel_rfl))
theorem QQ:TI.ok Tryz.prog 191 ⟨.st .session,0,[(0,1,false),(1,1,false),(2,2,true)],32⟩:=rZ (by kernel_rfl) (by kernel_rfl) (by kernel_rfl) (by kernel_rfl) (by kernel_rfl) (by kernel_rfl) (fun _=>⟨(by kernel_rfl),(by kernel_rfl)⟩) (fun h=>absurd (show true=false from h) (by decide))
theorem QR:TI.ok Tryz.prog 212 ⟨.i .u32,0,[],4⟩:=vI (by kernel_rfl) (by kernel_rfl) (by kernel_rfl)
theorem QS:TI.ok Tryz.prog 214 ⟨.i .u64,0,[],8⟩:=vI (by kernel_rfl) (by kernel_rfl) (by kernel_rfl)
theorem GX:fS Tryz.prog Θ:=
 eP SX <| eP SY <| eP SZ <| eP S4 <| eP S5 <| eP RK <| eP RL <| eP RM <| eP RN <| eP RP <| eP RQ <| eP RR <| eP RS <| eP RT <| eP RU <| eP RV <| eP RX <| eP RY <| eP RZ <| eP R0 <| eP R1 <| eP R2 <| eP QJ <| eP QK <| eP QL <| eP QM <| eP QN <| eP QO <| eP QP <| eP QQ <| eP QR <| eP QS <| O5 _
end Go.Proofs.YtadabkgmdllbfaaGreat.En
