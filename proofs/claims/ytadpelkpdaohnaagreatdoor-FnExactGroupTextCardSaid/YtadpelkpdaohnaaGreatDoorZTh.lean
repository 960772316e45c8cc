/- The seat's types (printed by wip/tools/gen_theta.py). -/
import Derived.Test.YtadpelkpdaohnaaGreatDoorProg
import Derived.Test.YtadpelkpdaohnaaGreatDoorZX11
namespace Go.Proofs.YtadpelkpdaohnaaGreatDoor.En
open Go
def Θ:kf:= [(2,⟨.i .i64,0,[],8⟩),
 (3,⟨.i .i64,0,[],8⟩),
 (4,⟨.b,0,[],1⟩),
 (5,⟨.i .u8,0,[],1⟩),
 (9,⟨.s,0,[],16⟩),
 (12,⟨.i .u64,0,[],8⟩),
 (21,⟨.i .i32,0,[],4⟩),
 (22,⟨.ls (.st .server),152,[],24⟩),
 (23,⟨.ls (.i .i64),8,[],24⟩),
 (24,⟨.ls (.st .config),64,[],24⟩),
 (26,⟨.st .masterLog,0,[(0,1,false),(1,1,false)],32⟩),
 (28,⟨.st .lease,0,[(0,1,false),(1,1,false),(2,1,false)],24⟩),
 (29,⟨.ls (.st .place),24,[],24⟩),
 (31,⟨.st .cluster,0,[(0,1,false),(1,1,false),(2,1,false),(3,2,true),(5,1,false),(6,3,true),(9,1,false)],144⟩),
 (34,⟨.ls (.st .server),152,[],24⟩),
 (35,⟨.ls (.st .config),64,[],24⟩),
 (37,⟨.st .masterLog,0,[(0,1,false),(1,1,false)],32⟩),
 (38,⟨.st .lease,0,[(0,1,false),(1,1,false),(2,1,false)],24⟩),
 (39,⟨.ls (.st .place),24,[],24⟩),
 (41,⟨.st .cluster,0,[(0,1,false),(1,1,false),(2,1,false),(3,2,true),(5,1,false),(6,3,true),(9,1,false)],144⟩),
 (47,⟨.ls (.st .damage),16,[],24⟩),
 (58,⟨.st .config,0,[(0,1,false),(1,1,false),(2,1,false),(3,1,false)],64⟩),
 (59,⟨.ls (.st .entry),56,[],24⟩),
 (61,⟨.st .server,0,[(0,1,false),(1,1,false),(2,1,false),(3,1,false),(4,4,true),(8,1,false),(9,1,false),(10,1,false),(11,1,false)],152⟩),
 (71,⟨.ls (.s),16,[],24⟩),
 (86,⟨.st .damage,0,[(0,1,false),(1,1,false)],16⟩),
 (92,⟨.st .config,0,[(0,1,false),(1,1,false),(2,1,false),(3,1,false)],64⟩),
 (93,⟨.ls (.st .entry),56,[],24⟩),
 (95,⟨.st .server,0,[(0,1,false),(1,1,false),(2,1,false),(3,1,false),(4,4,true),(8,1,false),(9,1,false),(10,1,false),(11,1,false)],152⟩),
 (98,⟨.ls (.i .u8),1,[],24⟩),
 (104,⟨.st .place,0,[(0,1,false),(1,1,false),(2,1,false)],24⟩),
 (106,⟨.st .place,0,[(0,1,false),(1,1,false),(2,1,false)],24⟩),
 (134,⟨.st .op,0,[(0,1,false),(1,1,false),(2,1,false),(3,1,false),(4,1,false),(5,1,false)],48⟩),
 (136,⟨.st .entry,0,[(0,1,false),(1,6,true)],56⟩),
 (158,⟨.st .op,0,[(0,1,false),(1,1,false),(2,1,false),(3,1,false),(4,1,false),(5,1,false)],48⟩),
 (160,⟨.st .entry,0,[(0,1,false),(1,6,true)],56⟩),
 (171,⟨.i .u64,0,[],8⟩),
 (182,⟨.i .u32,0,[],4⟩),
 (184,⟨.i .u64,0,[],8⟩),
 (187,⟨.ls (.ls (.i .i64)),24,[],24⟩)]
theorem JA:TI.ok Tryz.prog 2 ⟨.i .i64,0,[],8⟩:=pG (by kernel_rfl) (by kernel_rfl) (by kernel_rfl)
theorem JB:TI.ok Tryz.prog 3 ⟨.i .i64,0,[],8⟩:=pG (by kernel_rfl) (by kernel_rfl) (by kernel_rfl)
theorem JC:TI.ok Tryz.prog 4 ⟨.b,0,[],1⟩:=pG (by kernel_rfl) (by kernel_rfl) (by kernel_rfl)
theorem JD:TI.ok Tryz.prog 5 ⟨.i .u8,0,[],1⟩:=pG (by kernel_rfl) (by kernel_rfl) (by kernel_rfl)
theorem JE:TI.ok Tryz.prog 9 ⟨.s,0,[],16⟩:=pG (by kernel_rfl) (by kernel_rfl) (by kernel_rfl)
theorem IA:TI.ok Tryz.prog 12 ⟨.i .u64,0,[],8⟩:=pG (by kernel_rfl) (by kernel_rfl) (by kernel_rfl)
theorem IB:TI.ok Tryz.prog 21 ⟨.i .i32,0,[],4⟩:=pG (by kernel_rfl) (by kernel_rfl) (by kernel_rfl)
theorem IC:TI.ok Tryz.prog 22 ⟨.ls (.st .server),152,[],24⟩:=ny (u:=95) (by kernel_rfl) (by kernel_rfl) (by kernel_rfl) (by kernel_rfl) (by kernel_rfl) (by kernel_rfl) (by kernel_rfl) (by kernel_rfl) (by kernel_rfl)
theorem IE:TI.ok Tryz.prog 23 ⟨.ls (.i .i64),8,[],24⟩:=ny (u:=3) (by kernel_rfl) (by kernel_rfl) (by kernel_rfl) (by kernel_rfl) (by kernel_rfl) (by kernel_rfl) (by kernel_rfl) (by kernel_rfl) (by kernel_rfl)
theorem IG:TI.ok Tryz.prog 24 ⟨.ls (.st .config),64,[],24⟩:=ny (u:=92) (by kernel_rfl) (by kernel_rfl) (by kernel_rfl) (by kernel_rfl) (by kernel_rfl) (by kernel_rfl) (by kernel_rfl) (by kernel_rfl) (by kernel_rfl)
theorem IH:TI.ok Tryz.prog 26 ⟨.st .masterLog,0,[(0,1,false),(1,1,false)],32⟩:=kK (by kernel_rfl) (by kernel_rfl) (by kernel_rfl) (by kernel_rfl) (by kernel_rfl) (by kernel_rfl) (fun h=>absurd (show false=true from h) (by decide)) (fun _ xs=>gF xs (by kernel_rfl))
theorem II:TI.ok Tryz.prog 28 ⟨.st .lease,0,[(0,1,false),(1,1,false),(2,1,false)],24⟩:=kK (by kernel_rfl) (by kernel_rfl) (by kernel_rfl) (by kernel_rfl) (by kernel_rfl) (by kernel_rfl) (fun _=>⟨(by kernel_rfl),(by kernel_rfl)⟩) (fun h=>absurd (show true=false from h) (by decide))
theorem IJ:TI.ok Tryz.prog 29 ⟨.ls (.st .place),24,[],24⟩:=ny (u:=106) (by kernel_rfl) (by kernel_rfl) (by kernel_rfl) (by kernel_rfl) (by kernel_rfl) (by kernel_rfl) (by kernel_rfl) (by kernel_rfl) (by kernel_rfl)
theorem IK:TI.ok Tryz.prog 31 ⟨.st .cluster,0,[(0,1,false),(1,1,false),(2,1,false),(3,2,true),(5,1,false),(6,3,true),(9,1,false)],144⟩:=kK (by kernel_rfl) (by kernel_rfl) (by kernel_rfl) (by kernel_rfl) (by kernel_rfl) (by kernel_rfl) (fun h=>absurd (show false=true from h) (by decide)) (fun _ xs=>gF xs (by kernel_rfl))
theorem IL:TI.ok Tryz.prog 34 ⟨.ls (.st .server),152,[],24⟩:=ny (u:=61) (by kernel_rfl) (by kernel_rfl) (by kernel_rfl) (by kernel_rfl) (by kernel_rfl) (by kernel_rfl) (by kernel_rfl) (by kernel_rfl) (by kernel_rfl)
theorem IM:TI.ok Tryz.prog 35 ⟨.ls (.st .config),64,[],24⟩:=ny (u:=58) (by kernel_rfl) (by kernel_rfl) (by kernel_rfl) (by kernel_rfl) (by kernel_rfl) (by kernel_rfl) (by kernel_rfl) (by kernel_rfl) (by kernel_rfl)
theorem IP:TI.ok Tryz.prog 37 ⟨.st .masterLog,0,[(0,1,false),(1,1,false)],32⟩:=kK (by kernel_rfl) (by kernel_rfl) (by kernel_rfl) (by kernel_rfl) (by kernel_rfl) (by kernel_rfl) (fun h=>absurd (show false=true from h) (by decide)) (fun _ xs=>gF xs (by kernel_rfl))
theorem IQ:TI.ok Tryz.prog 38 ⟨.st .lease,0,[(0,1,false),(1,1,false),(2,1,false)],24⟩:=kK (by kernel_rfl) (by kernel_rfl) (by kernel_rfl) (by kernel_rfl) (by kernel_rfl) (by kernel_rfl) (fun _=>⟨(by kernel_rfl),(by kernel_rfl)⟩) (fun h=>absurd (show true=false from h) (by decide))
theorem IR:TI.ok Tryz.prog 39 ⟨.ls (.st .place),24,[],24⟩:=ny (u:=104) (by kernel_rfl) (by kernel_rfl) (by kernel_rfl) (by kernel_rfl) (by kernel_rfl) (by kernel_rfl) (by kernel_rfl) (by kernel_rfl) (by kernel_rfl)
theorem IT:TI.ok Tryz.prog 41 ⟨.st .cluster,0,[(0,1,false),(1,1,false),(2,1,false),(3,2,true),(5,1,false),(6,3,true),(9,1,false)],144⟩:=kK (by kernel_rfl) (by kernel_rfl) (by kernel_rfl) (by kernel_rfl) (by kernel_rfl) (by kernel_rfl) (fun h=>absurd (show false=true from h) (by decide)) (fun _ xs=>gF xs (by kernel_rfl))
theorem IU:TI.ok Tryz.prog 47 ⟨.ls (.st .damage),16,[],24⟩:=ny (u:=86) (by kernel_rfl) (by kernel_rfl) (by kernel_rfl) (by kernel_rfl) (by kernel_rfl) (by kernel_rfl) (by kernel_rfl) (by kernel_rfl) (by kernel_rfl)
theorem IV:TI.ok Tryz.prog 58 ⟨.st .config,0,[(0,1,false),(1,1,false),(2,1,false),(3,1,false)],64⟩:=kK (by kernel_rfl) (by kernel_rfl) (by kernel_rfl) (by kernel_rfl) (by kernel_rfl) (by kernel_rfl) (fun h=>absurd (show false=true from h) (by decide)) (fun _ xs=>gF xs (by kernel_rfl))
theorem IW:TI.ok Tryz.prog 59 ⟨.ls (.st .entry),56,[],24⟩:=ny (u:=136) (by kernel_rfl) (by kernel_rfl) (by kernel_rfl) (by kernel_rfl) (by kernel_rfl) (by kernel_rfl) (by kernel_rfl) (by kernel_rfl) (by kernel_rfl)
theorem IX:TI.ok Tryz.prog 61 ⟨.st .server,0,[(0,1,false),(1,1,false),(2,1,false),(3,1,false),(4,4,true),(8,1,false),(9,1,false),(10,1,false),(11,1,false)],152⟩:=kK (by kernel_rfl) (by kernel_rfl) (by kernel_rfl) (by kernel_rfl) (by kernel_rfl) (by kernel_rfl) (fun h=>absurd (show false=true from h) (by decide)) (fun _ xs=>gF xs (by kernel_rfl))
theorem IY:TI.ok Tryz.prog 71 ⟨.ls (.s),16,[],24⟩:=ny (u:=9) (by kernel_rfl) (by kernel_rfl) (by kernel_rfl) (by kernel_rfl) (by kernel_rfl) (by kernel_rfl) (by kernel_rfl) (by kernel_rfl) (by kernel_rfl)
theorem IZ:TI.ok Tryz.prog 86 ⟨.st .damage,0,[(0,1,false),(1,1,false)],16⟩:=kK (by kernel_rfl) (by kernel_rfl) (by kernel_rfl) (by kernel_rfl) (by kernel_rfl) (by kernel_rfl) (fun _=>⟨(by kernel_rfl),(by kernel_rfl)⟩) (fun h=>absurd (show true=false from h) (by decide))
theorem I0:TI.ok Tryz.prog 92 ⟨.st .config,0,[(0,1,false),(1,1,false),(2,1,false),(3,1,false)],64⟩:=kK (by kernel_rfl) (by kernel_rfl) (by kernel_rfl) (by kernel_rfl) (by kernel_rfl) (by kernel_rfl) (fun h=>absurd (show false=true from h) (by decide)) (fun _ xs=>gF xs (by kernel_rfl))
theorem I1:TI.ok Tryz.prog 93 ⟨.ls (.st .entry),56,[],24⟩:=ny (u:=160) (by kernel_rfl) (by kernel_rfl) (by kernel_rfl) (by kernel_rfl) (by kernel_rfl) (by kernel_rfl) (by kernel_rfl) (by kernel_rfl) (by kernel_rfl)
theorem I2:TI.ok Tryz.prog 95 ⟨.st .server,0,[(0,1,false),(1,1,false),(2,1,false),(3,1,false),(4,4,true),(8,1,false),(9,1,false),(10,1,false),(11,1,false)],152⟩:=kK (by kernel_rfl) (by kernel_rfl) (by kernel_rfl) (by kernel_rfl) (by kernel_rfl) (by kernel_rfl) (fun h=>absurd (show false=true from h) (by decide)) (fun _ xs=>gF xs (by kernel_rfl))
theorem I3:TI.ok Tryz.prog 98 ⟨.ls (.i .u8),1,[],24⟩:=ny (u:=5) (by kernel_rfl) (by kernel_rfl) (by kernel_rfl) (by kernel_rfl) (by kernel_rfl) (by kernel_rfl) (by kernel_rfl) (by kernel_rfl) (by kernel_rfl)
theorem HP:TI.ok Tryz.prog 104 ⟨.st .place,0,[(0,1,false),(1,1,false),(2,1,false)],24⟩:=kK (by kernel_rfl) (by kernel_rfl) (by kernel_rfl) (by kernel_rfl) (by kernel_rfl) (by kernel_rfl) (fun _=>⟨(by kernel_rfl),(by kernel_rfl)⟩) (fun h=>absurd (show true=false from h) (by decide))
theorem HQ:TI.ok Tryz.prog 106 ⟨.st .place,0,[(0,1,false),(1,1,false),(2,1,false)],24⟩:=kK (by kernel_rfl) (by kernel_rfl) (by kernel_rfl) (by kernel_rfl) (by kernel_rfl) (by kernel_rfl) (fun _=>⟨(by kernel_rfl),(by kernel_rfl)⟩) (fun h=>absurd (show true=false from h) (by decide))
theorem HS:TI.ok Tryz.prog 134 ⟨.st .op,0,[(0,1,false),(1,1,false),(2,1,false),(3,1,false),(4,1,false),(5,1,false)],48⟩:=kK (by kernel_rfl) (by kernel_rfl) (by kernel_rfl) (by kernel_rfl) (by kernel_rfl) (by kernel_rfl) (fun _=>⟨(by kernel_rfl),(by kernel_rfl)⟩) (fun h=>absurd (show true=false from h) (by decide))
theorem HT:TI.ok Tryz.prog 136 ⟨.st .entry,0,[(0,1,false),(1,6,true)],56⟩:=kK (by kernel_rfl) (by kernel_rfl) (by kernel_rfl) (by kernel_rfl) (by kernel_rfl) (by kernel_rfl) (fun _=>⟨(by kernel_rfl),(by kernel_rfl)⟩) (fun h=>absurd (show true=false from h) (by decide))
theorem HU:TI.ok Tryz.prog 158 ⟨.st .op,0,[(0,1,false),(1,1,false),(2,1,false),(3,1,false),(4,1,false),(5,1,false)],48⟩:=kK (by kernel_rfl) (by kernel_rfl) (by kernel_rfl) (by kernel_rfl) (by kernel_rfl) (by kernel_rfl) (fun _=>⟨(by kernel_rfl),(by kernel_rfl)⟩) (fun h=>absurd (show true=false from h) (by decide))
theorem HV:TI.ok Tryz.prog 160 ⟨.st .entry,0,[(0,1,false),(1,6,true)],56⟩:=kK (by kernel_rfl) (by kernel_rfl) (by kernel_rfl) (by kernel_rfl) (by kernel_rfl) (by kernel_rfl) (fun _=>⟨(by kernel_rfl),(by kernel_rfl)⟩) (fun h=>absurd (show true=false from h) (by decide))
theorem HW:TI.ok Tryz.prog 171 ⟨.i .u64,0,[],8⟩:=pG (by kernel_rfl) (by kernel_rfl) (by kernel_rfl)
theorem HX:TI.ok Tryz.prog 182 ⟨.i .u32,0,[],4⟩:=pG (by kernel_rfl) (by kernel_rfl) (by kernel_rfl)
theorem HY:TI.ok Tryz.prog 184 ⟨.i .u64,0,[],8⟩:=pG (by kernel_rfl) (by kernel_rfl) (by kernel_rfl)
theorem HZ:TI.ok Tryz.prog 187 ⟨.ls (.ls (.i .i64)),24,[],24⟩:=ny (u:=23) (by kernel_rfl) (by kernel_rfl) (by kernel_rfl) (by kernel_rfl) (by kernel_rfl) (by kernel_rfl) (by kernel_rfl) (by kernel_rfl) (by kernel_rfl)
theorem CY:fb Tryz.prog Θ:=
 dT JA <| dT JB <| dT JC <| dT JD <| dT JE <| dT IA <| dT IB <| dT IC <| dT IE <| dT IG <| dT IH <| dT II <| dT IJ <| dT IK <| dT IL <| dT IM <| dT IP <| dT IQ <| dT IR <| dT IT <| dT IU <| dT IV <| dT IW <| dT IX <| dT IY <| dT IZ <| dT I0 <| dT I1 <| dT I2 <| dT I3 <| dT HP <| dT HQ <| dT HS <| dT HT <| dT HU <| dT HV <| dT HW <| dT HX <| dT HY <| dT HZ <| Gw _
end Go.Proofs.YtadpelkpdaohnaaGreatDoor.En
