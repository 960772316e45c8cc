/- The seat's types (printed by wip/tools/gen_theta.py). -/
import Derived.Test.YtjnleglhcppgcaaGreatProg
import Derived.Test.YtjnleglhcppgcaaGreatZX9
namespace Go.Proofs.YtjnleglhcppgcaaGreat.En
open Go
def Θ:pp:= [(2,⟨.i .i64,0,[],8⟩),
 (3,⟨.i .i64,0,[],8⟩),
 (4,⟨.b,0,[],1⟩),
 (5,⟨.i .u8,0,[],1⟩),
 (9,⟨.s,0,[],16⟩),
 (12,⟨.i .u64,0,[],8⟩),
 (21,⟨.i .i32,0,[],4⟩),
 (22,⟨.ls (.st .server),152,[],24⟩),
 (23,⟨.ls (.i .i64),8,[],24⟩),
 (24,⟨.ls (.st .config),64,[],24⟩),
 (26,⟨.st .masterLog,0,[(0,1,false),(1,1,false)],32⟩),
 (28,⟨.st .lease,0,[(0,1,false),(1,1,false),(2,1,false)],24⟩),
 (29,⟨.ls (.st .place),24,[],24⟩),
 (31,⟨.st .cluster,0,[(0,1,false),(1,1,false),(2,1,false),(3,2,true),(5,1,false),(6,3,true),(9,1,false)],144⟩),
 (33,⟨.ls (.st .server),152,[],24⟩),
 (34,⟨.ls (.st .config),64,[],24⟩),
 (36,⟨.st .masterLog,0,[(0,1,false),(1,1,false)],32⟩),
 (37,⟨.st .lease,0,[(0,1,false),(1,1,false),(2,1,false)],24⟩),
 (38,⟨.ls (.st .place),24,[],24⟩),
 (40,⟨.st .cluster,0,[(0,1,false),(1,1,false),(2,1,false),(3,2,true),(5,1,false),(6,3,true),(9,1,false)],144⟩),
 (48,⟨.st .op,0,[(0,1,false),(1,1,false),(2,1,false),(3,1,false),(4,1,false),(5,1,false)],48⟩),
 (50,⟨.st .op,0,[(0,1,false),(1,1,false),(2,1,false),(3,1,false),(4,1,false),(5,1,false)],48⟩),
 (73,⟨.st .result,0,[(0,1,false),(1,1,false)],16⟩),
 (75,⟨.st .reply,0,[(0,1,false),(1,2,true),(3,1,false)],32⟩),
 (80,⟨.st .config,0,[(0,1,false),(1,1,false),(2,1,false),(3,1,false)],64⟩),
 (81,⟨.ls (.st .entry),56,[],24⟩),
 (83,⟨.st .server,0,[(0,1,false),(1,1,false),(2,1,false),(3,1,false),(4,4,true),(8,1,false),(9,1,false),(10,1,false),(11,1,false)],152⟩),
 (88,⟨.st .config,0,[(0,1,false),(1,1,false),(2,1,false),(3,1,false)],64⟩),
 (94,⟨.ls (.st .entry),56,[],24⟩),
 (96,⟨.st .server,0,[(0,1,false),(1,1,false),(2,1,false),(3,1,false),(4,4,true),(8,1,false),(9,1,false),(10,1,false),(11,1,false)],152⟩),
 (100,⟨.st .place,0,[(0,1,false),(1,1,false),(2,1,false)],24⟩),
 (102,⟨.st .place,0,[(0,1,false),(1,1,false),(2,1,false)],24⟩),
 (159,⟨.st .entry,0,[(0,1,false),(1,6,true)],56⟩),
 (163,⟨.ls (.st .session),32,[],24⟩),
 (165,⟨.st .machine,0,[(0,1,false),(1,1,false)],48⟩),
 (183,⟨.st .entry,0,[(0,1,false),(1,6,true)],56⟩),
 (195,⟨.st .session,0,[(0,1,false),(1,1,false),(2,2,true)],32⟩),
 (207,⟨.ls (.ls (.i .i64)),24,[],24⟩),
 (215,⟨.i .u64,0,[],8⟩),
 (226,⟨.i .u32,0,[],4⟩),
 (228,⟨.i .u64,0,[],8⟩),
 (229,⟨.ls (.ls (.st .entry)),24,[],24⟩)]
theorem TF:TI.ok Tryz.prog 2 ⟨.i .i64,0,[],8⟩:=xk (by kernel_rfl) (by kernel_rfl) (by kernel_rfl)
theorem TG:TI.ok Tryz.prog 3 ⟨.i .i64,0,[],8⟩:=xk (by kernel_rfl) (by kernel_rfl) (by kernel_rfl)
theorem TH:TI.ok Tryz.prog 4 ⟨.b,0,[],1⟩:=xk (by kernel_rfl) (by kernel_rfl) (by kernel_rfl)
theorem TJ:TI.ok Tryz.prog 5 ⟨.i .u8,0,[],1⟩:=xk (by kernel_rfl) (by kernel_rfl) (by kernel_rfl)
theorem TK:TI.ok Tryz.prog 9 ⟨.s,0,[],16⟩:=xk (by kernel_rfl) (by kernel_rfl) (by kernel_rfl)
theorem Sy:TI.ok Tryz.prog 12 ⟨.i .u64,0,[],8⟩:=xk (by kernel_rfl) (by kernel_rfl) (by kernel_rfl)
theorem Sz:TI.ok Tryz.prog 21 ⟨.i .i32,0,[],4⟩:=xk (by kernel_rfl) (by kernel_rfl) (by kernel_rfl)
theorem SA:TI.ok Tryz.prog 22 ⟨.ls (.st .server),152,[],24⟩:=uQ (u:=83) (by kernel_rfl) (by kernel_rfl) (by kernel_rfl) (by kernel_rfl) (by kernel_rfl) (by kernel_rfl) (by kernel_rfl) (by kernel_rfl)
theorem SB:TI.ok Tryz.prog 23 ⟨.ls (.i .i64),8,[],24⟩:=uQ (u:=3) (by kernel_rfl) (by kernel_rfl) (by kernel_rfl) (by kernel_rfl) (by kernel_rfl) (by kernel_rfl) (by kernel_rfl) (by kernel_rfl)
theorem SC:TI.ok Tryz.prog 24 ⟨.ls (.st .config),64,[],24⟩:=uQ (u:=80) (by kernel_rfl) (by kernel_rfl) (by kernel_rfl) (by kernel_rfl) (by kernel_rfl) (by kernel_rfl) (by kernel_rfl) (by kernel_rfl)
theorem SD:TI.ok Tryz.prog 26 ⟨.st .masterLog,0,[(0,1,false),(1,1,false)],32⟩:=ou (by kernel_rfl) (by kernel_rfl) (by kernel_rfl) (by kernel_rfl) (by kernel_rfl) (by kernel_rfl) (fun h=>absurd (show false=true from h) (by decide)) (fun _ xs=>jt xs (by kernel_rfl))
theorem SE:TI.ok Tryz.prog 28 ⟨.st .lease,0,[(0,1,false),(1,1,false),(2,1,false)],24⟩:=ou (by kernel_rfl) (by kernel_rfl) (by kernel_rfl) (by kernel_rfl) (by kernel_rfl) (by kernel_rfl) (fun _=>⟨(by kernel_rfl),(by kernel_rfl)⟩) (fun h=>absurd (show true=false from h) (by decide))
theorem SF:TI.ok Tryz.prog 29 ⟨.ls (.st .place),24,[],24⟩:=uQ (u:=102) (by kernel_rfl) (by kernel_rfl) (by kernel_rfl) (by kernel_rfl) (by kernel_rfl) (by kernel_rfl) (by kernel_rfl) (by kernel_rfl)
theorem SG:TI.ok Tryz.prog 31 ⟨.st .cluster,0,[(0,1,false),(1,1,false),(2,1,false),(3,2,true),(5,1,false),(6,3,true),(9,1,false)],144⟩:=ou (by kernel_rfl) (by kernel_rfl) (by kernel_rfl) (by kernel_rfl) (by kernel_rfl) (by kernel_rfl) (fun h=>absurd (show false=true from h) (by decide)) (fun _ xs=>jt xs (by kernel_rfl))
theorem SH:TI.ok Tryz.prog 33 ⟨.ls (.st .server),152,[],24⟩:=uQ (u:=96) (by kernel_rfl) (by kernel_rfl) (by kernel_rfl) (by kernel_rfl) (by kernel_rfl) (by kernel_rfl) (by kernel_rfl) (by kernel_rfl)
theorem SJ:TI.ok Tryz.prog 34 ⟨.ls (.st .config),64,[],24⟩:=uQ (u:=88) (by kernel_rfl) (by kernel_rfl) (by kernel_rfl) (by kernel_rfl) (by kernel_rfl) (by kernel_rfl) (by kernel_rfl) (by kernel_rfl)
theorem SK:TI.ok Tryz.prog 36 ⟨.st .masterLog,0,[(0,1,false),(1,1,false)],32⟩:=ou (by kernel_rfl) (by kernel_rfl) (by kernel_rfl) (by kernel_rfl) (by kernel_rfl) (by kernel_rfl) (fun h=>absurd (show false=true from h) (by decide)) (fun _ xs=>jt xs (by kernel_rfl))
theorem SM:TI.ok Tryz.prog 37 ⟨.st .lease,0,[(0,1,false),(1,1,false),(2,1,false)],24⟩:=ou (by kernel_rfl) (by kernel_rfl) (by kernel_rfl) (by kernel_rfl) (by kernel_rfl) (by kernel_rfl) (fun _=>⟨(by kernel_rfl),(by kernel_rfl)⟩) (fun h=>absurd (show true=false from h) (by decide))
theorem SN:TI.ok Tryz.prog 38 ⟨.ls (.st .place),24,[],24⟩:=uQ (u:=100) (by kernel_rfl) (by kernel_rfl) (by kernel_rfl) (by kernel_rfl) (by kernel_rfl) (by kernel_rfl) (by kernel_rfl) (by kernel_rfl)
theorem SO:TI.ok Tryz.prog 40 ⟨.st .cluster,0,[(0,1,false),(1,1,false),(2,1,false),(3,2,true),(5,1,false),(6,3,true),(9,1,false)],144⟩:=ou (by kernel_rfl) (by kernel_rfl) (by kernel_rfl) (by kernel_rfl) (by kernel_rfl) (by kernel_rfl) (fun h=>absurd (show false=true from h) (by decide)) (fun _ xs=>jt xs (by kernel_rfl))
theorem SP:TI.ok Tryz.prog 48 ⟨.st .op,0,[(0,1,false),(1,1,false),(2,1,false),(3,1,false),(4,1,false),(5,1,false)],48⟩:=ou (by kernel_rfl) (by kernel_rfl) (by kernel_rfl) (by kernel_rfl) (by kernel_rfl) (by kernel_rfl) (fun _=>⟨(by kernel_rfl),(by kernel_rfl)⟩) (fun h=>absurd (show true=false from h) (by decide))
theorem SQ:TI.ok Tryz.prog 50 ⟨.st .op,0,[(0,1,false),(1,1,false),(2,1,false),(3,1,false),(4,1,false),(5,1,false)],48⟩:=ou (by kernel_rfl) (by kernel_rfl) (by kernel_rfl) (by kernel_rfl) (by kernel_rfl) (by kernel_rfl) (fun _=>⟨(by kernel_rfl),(by kernel_rfl)⟩) (fun h=>absurd (show true=false from h) (by decide))
theorem SR:TI.ok Tryz.prog 73 ⟨.st .result,0,[(0,1,false),(1,1,false)],16⟩:=ou (by kernel_rfl) (by kernel_rfl) (by kernel_rfl) (by kernel_rfl) (by kernel_rfl) (by kernel_rfl) (fun _=>⟨(by kernel_rfl),(by kernel_rfl)⟩) (fun h=>absurd (show true=false from h) (by decide))
theorem ST:TI.ok Tryz.prog 75 ⟨.st .reply,0,[(0,1,false),(1,2,true),(3,1,false)],32⟩:=ou (by kernel_rfl) (by kernel_rfl) (by kernel_rfl) (by kernel_rfl) (by kernel_rfl) (by kernel_rfl) (fun _=>⟨(by kernel_rfl),(by kernel_rfl)⟩) (fun h=>absurd (show true=false from h) (by decide))
theorem SU:TI.ok Tryz.prog 80 ⟨.st .config,0,[(0,1,false),(1,1,false),(2,1,false),(3,1,false)],64⟩:=ou (by kernel_rfl) (by kernel_rfl) (by kernel_rfl) (by kernel_rfl) (by kernel_rfl) (by kernel_rfl) (fun h=>absurd (show false=true from h) (by decide)) (fun _ xs=>jt xs (by kernel_rfl))
theorem SW:TI.ok Tryz.prog 81 ⟨.ls (.st .entry),56,[],24⟩:=uQ (u:=183) (by kernel_rfl) (by kernel_rfl) (by kernel_rfl) (by kernel_rfl) (by kernel_rfl) (by kernel_rfl) (by kernel_rfl) (by kernel_rfl)
theorem SX:TI.ok Tryz.prog 83 ⟨.st .server,0,[(0,1,false),(1,1,false),(2,1,false),(3,1,false),(4,4,true),(8,1,false),(9,1,false),(10,1,false),(11,1,false)],152⟩:=ou (by kernel_rfl) (by kernel_rfl) (by kernel_rfl) (by kernel_rfl) (by kernel_rfl) (by kernel_rfl) (fun h=>absurd (show false=true from h) (by decide)) (fun _ xs=>jt xs (by kernel_rfl))
theorem SY:TI.ok Tryz.prog 88 ⟨.st .config,0,[(0,1,false),(1,1,false),(2,1,false),(3,1,false)],64⟩:=ou (by kernel_rfl) (by kernel_rfl) (by kernel_rfl) (by kernel_rfl) (by kernel_rfl) (by kernel_rfl) (fun h=>absurd (show false=true from h) (by decide)) (fun _ xs=>jt xs (by kernel_rfl))
theorem SZ:TI.ok Tryz.prog 94 ⟨.ls (.st .entry),56,[],24⟩:=uQ (u:=159) (by kernel_rfl) (by kernel_rfl) (by kernel_rfl) (by kernel_rfl) (by kernel_rfl) (by kernel_rfl) (by kernel_rfl) (by kernel_rfl)
theorem S4:TI.ok Tryz.prog 96 ⟨.st .server,0,[(0,1,false),(1,1,false),(2,1,false),(3,1,false),(4,4,true),(8,1,false),(9,1,false),(10,1,false),(11,1,false)],152⟩:=ou (by kernel_rfl) (by kernel_rfl) (by kernel_rfl) (by kernel_rfl) (by kernel_rfl) (by kernel_rfl) (fun h=>absurd (show false=true from h) (by decide)) (fun _ xs=>jt xs (by kernel_rfl))
theorem Rx:TI.ok Tryz.prog 100 ⟨.st .place,0,[(0,1,false),(1,1,false),(2,1,false)],24⟩:=ou (by kernel_rfl) (by kernel_rfl) (by kernel_rfl) (by kernel_rfl) (by kernel_rfl) (by kernel_rfl) (fun _=>⟨(by kernel_rfl),(by kernel_rfl)⟩) (fun h=>absurd (show true=false from h) (by decide))
theorem Ry:TI.ok Tryz.prog 102 ⟨.st .place,0,[(0,1,false),(1,1,false),(2,1,false)],24⟩:=ou (by kernel_rfl) (by kernel_rfl) (by kernel_rfl) (by kernel_rfl) (by kernel_rfl) (by kernel_rfl) (fun _=>⟨(by kernel_rfl),(by kernel_rfl)⟩) (fun h=>absurd (show true=false from h) (by decide))
theorem Rz:TI.ok Tryz.prog 159 ⟨.st .entry,0,[(0,1,false),(1,6,true)],56⟩:=ou (by kernel_rfl) (by kernel_rfl) (by kernel_rfl) (by kernel_rfl) (by kernel_rfl) (by kernel_rfl) (fun _=>⟨(by kernel_rfl),(by kernel_rfl)⟩) (fun h=>absurd (show true=false from h) (by decide))
theorem RA:TI.ok Tryz.prog 163 ⟨.ls (.st .session),32,[],24⟩:=uQ (u:=195) (by kernel_rfl) (by kernel_rfl) (by kernel_rfl) (by kernel_rfl) (by kernel_rfl) (by kernel_rfl) (by kernel_rfl) (by kernel_rfl)
theorem RB:TI.ok Tryz.prog 165 ⟨.st .machine,0,[(0,1,false),(1,1,false)],48⟩:=ou (by kernel_rfl) (by kernel_rfl) (by kernel_rfl) (by kernel_rfl) (by kernel_rfl) (by kernel_rfl) (fun h=>absurd (show false=true from h) (by decide)) (fun _ xs=>jt xs (by kernel_rfl))
theorem RC:TI.ok Tryz.prog 183 ⟨.st .entry,0,[(0,1,false),(1,6,true)],56⟩:=ou (by kernel_rfl) (by kernel_rfl) (by kernel_rfl) (by kernel_rfl) (by kernel_rfl) (by kernel_rfl) (fun _=>⟨(by kernel_rfl),(by kernel_rfl)⟩) (fun h=>absurd (show true=false from h) (by decide))
theorem RD:TI.ok Tryz.prog 195 ⟨.st .session,0,[(0,1,false),(1,1,false),(2,2,true)],32⟩:=ou (by kernel_rfl) (by kernel_rfl) (by kernel_rfl) (by kernel_rfl) (by kernel_rfl) (by kernel_rfl) (fun _=>⟨(by kernel_rfl),(by kernel_rfl)⟩) (fun h=>absurd (show true=false from h) (by decide))
theorem RE:TI.ok Tryz.prog 207 ⟨.ls (.ls (.i .i64)),24,[],24⟩:=uQ (u:=23) (by kernel_rfl) (by kernel_rfl) (by kernel_rfl) (by kernel_rfl) (by kernel_rfl) (by kernel_rfl) (by kernel_rfl) (by kernel_rfl)
theorem RF:TI.ok Tryz.prog 215 ⟨.i .u64,0,[],8⟩:=xk (by kernel_rfl) (by kernel_rfl) (by kernel_rfl)
theorem RG:TI.ok Tryz.prog 226 ⟨.i .u32,0,[],4⟩:=xk (by kernel_rfl) (by kernel_rfl) (by kernel_rfl)
theorem RH:TI.ok Tryz.prog 228 ⟨.i .u64,0,[],8⟩:=xk (by kernel_rfl) (by kernel_rfl) (by kernel_rfl)
theorem RI:TI.ok Tryz.prog 229 ⟨.ls (.ls (.st .entry)),24,[],24⟩:=uQ (u:=94) (by kernel_rfl) (by kernel_rfl) (by kernel_rfl) (by kernel_rfl) (by kernel_rfl) (by kernel_rfl) (by kernel_rfl) (by kernel_rfl)
theorem Kv:gC Tryz.prog Θ:=
 eB TF <| eB TG <| eB TH <| eB TJ <| eB TK <| eB Sy <| eB Sz <| eB SA <| eB SB <| eB SC <| eB SD <| eB SE <| eB SF <| eB SG <| eB SH <| eB SJ <| eB SK <| eB SM <| eB SN <| eB SO <| eB SP <| eB SQ <| eB SR <| eB ST <| eB SU <| eB SW <| eB SX <| eB SY <| eB SZ <| eB S4 <| eB Rx <| eB Ry <| eB Rz <| eB RA <| eB RB <| eB RC <| eB RD <| eB RE <| eB RF <| eB RG <| eB RH <| eB RI <| Qa _
end Go.Proofs.YtjnleglhcppgcaaGreat.En
