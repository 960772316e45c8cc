/- The seat's types (printed by wip/tools/gen_theta.py). -/
import Derived.Test.YtadpelkpdaohnaaGreatDoorProg
import Derived.Test.YtadpelkpdaohnaaGreatDoorZX11
namespace Go.Proofs.YtadpelkpdaohnaaGreatDoor.En
open Go
def Θ:jE:= [(2,⟨.i .i64,0,[],8⟩),
 (3,⟨.i .i64,0,[],8⟩),
 (4,⟨.b,0,[],1⟩),
 (5,⟨.i .u8,0,[],1⟩),
 (9,⟨.s,0,[],16⟩),
 (12,⟨.i .u64,0,[],8⟩),
 (21,⟨.i .i32,0,[],4⟩),
 (22,⟨.ls (.st .server),152,[],24⟩),
 (23,⟨.ls (.i .i64),8,[],24⟩),
 (24,⟨.ls (.st .config),64,[],24⟩),
 (26,⟨.st .masterLog,0,[(0,1,false),(1,1,false)],32⟩),
 (28,⟨.st .lease,0,[(0,1,false),(1,1,false),(2,1,false)],24⟩),
 (29,⟨.ls (.st .place),24,[],24⟩),
 (31,⟨.st .cluster,0,[(0,1,false),(1,1,false),(2,1,false),(3,2,true),(5,1,false),(6,3,true),(9,1,false)],144⟩),
 (34,⟨.ls (.st .server),152,[],24⟩),
 (35,⟨.ls (.st .config),64,[],24⟩),
 (37,⟨.st .masterLog,0,[(0,1,false),(1,1,false)],32⟩),
 (38,⟨.st .lease,0,[(0,1,false),(1,1,false),(2,1,false)],24⟩),
 (39,⟨.ls (.st .place),24,[],24⟩),
 (41,⟨.st .cluster,0,[(0,1,false),(1,1,false),(2,1,false),(3,2,true),(5,1,false),(6,3,true),(9,1,false)],144⟩),
 (58,⟨.st .config,0,[(0,1,false),(1,1,false),(2,1,false),(3,1,false)],64⟩),
 (59,⟨.ls (.st .entry),56,[],24⟩),
 (61,⟨.st .server,0,[(0,1,false),(1,1,false),(2,1,false),(3,1,false),(4,4,true),(8,1,false),(9,1,false),(10,1,false),(11,1,false)],152⟩),
 (71,⟨.ls (.s),16,[],24⟩),
 (92,⟨.st .config,0,[(0,1,false),(1,1,false),(2,1,false),(3,1,false)],64⟩),
 (93,⟨.ls (.st .entry),56,[],24⟩),
 (95,⟨.st .server,0,[(0,1,false),(1,1,false),(2,1,false),(3,1,false),(4,4,true),(8,1,false),(9,1,false),(10,1,false),(11,1,false)],152⟩),
 (98,⟨.ls (.i .u8),1,[],24⟩),
 (104,⟨.st .place,0,[(0,1,false),(1,1,false),(2,1,false)],24⟩),
 (106,⟨.st .place,0,[(0,1,false),(1,1,false),(2,1,false)],24⟩),
 (134,⟨.st .op,0,[(0,1,false),(1,1,false),(2,1,false),(3,1,false),(4,1,false),(5,1,false)],48⟩),
 (136,⟨.st .entry,0,[(0,1,false),(1,6,true)],56⟩),
 (158,⟨.st .op,0,[(0,1,false),(1,1,false),(2,1,false),(3,1,false),(4,1,false),(5,1,false)],48⟩),
 (160,⟨.st .entry,0,[(0,1,false),(1,6,true)],56⟩),
 (171,⟨.i .u64,0,[],8⟩),
 (182,⟨.i .u32,0,[],4⟩),
 (184,⟨.i .u64,0,[],8⟩),
 (187,⟨.ls (.ls (.i .i64)),24,[],24⟩)]
theorem IY:TI.ok Tryz.prog 2 ⟨.i .i64,0,[],8⟩:=oQ (by kernel_rfl) (by kernel_rfl) (by kernel_rfl)
theorem IZ:TI.ok Tryz.prog 3 ⟨.i .i64,0,[],8⟩:=oQ (by kernel_rfl) (by kernel_rfl) (by kernel_rfl)
theorem I0:TI.ok Tryz.prog 4 ⟨.b,0,[],1⟩:=oQ (by kernel_rfl) (by kernel_rfl) (by kernel_rfl)
theorem I1:TI.ok Tryz.prog 5 ⟨.i .u8,0,[],1⟩:=oQ (by kernel_rfl) (by kernel_rfl) (by kernel_rfl)
theorem I2:TI.ok Tryz.prog 9 ⟨.s,0,[],16⟩:=oQ (by kernel_rfl) (by kernel_rfl) (by kernel_rfl)
theorem HY:TI.ok Tryz.prog 12 ⟨.i .u64,0,[],8⟩:=oQ (by kernel_rfl) (by kernel_rfl) (by kernel_rfl)
theorem HZ:TI.ok Tryz.prog 21 ⟨.i .i32,0,[],4⟩:=oQ (by kernel_rfl) (by kernel_rfl) (by kernel_rfl)
theorem H0:TI.ok Tryz.prog 22 ⟨.ls (.st .server),152,[],24⟩:=nj (u:=95) (by kernel_rfl) (by kernel_rfl) (by kernel_rfl) (by kernel_rfl) (by kernel_rfl) (by kernel_rfl) (by kernel_rfl) (by kernel_rfl) (by kernel_rfl)
theorem H1:TI.ok Tryz.prog 23 ⟨.ls (.i .i64),8,[],24⟩:=nj (u:=3) (by kernel_rfl) (by kernel_rfl) (by kernel_rfl) (by kernel_rfl) (by kernel_rfl) (by kernel_rfl) (by kernel_rfl) (by kernel_rfl) (by kernel_rfl)
theorem H2:TI.ok Tryz.prog 24 ⟨.ls (.st .config),64,[],24⟩:=nj (u:=92) (by kernel_rfl) (by kernel_rfl) (by kernel_rfl) (by kernel_rfl) (by kernel_rfl) (by kernel_rfl) (by kernel_rfl) (by kernel_rfl) (by kernel_rfl)
theorem H3:TI.ok Tryz.prog 26 ⟨.st .masterLog,0,[(0,1,false),(1,1,false)],32⟩:=kH (by kernel_rfl) (by kernel_rfl) (by kernel_rfl) (by kernel_rfl) (by kernel_rfl) (by kernel_rfl) (fun h=>absurd (show false=true from h) (by decide)) (fun _ xs=>fZ xs (by kernel_rfl))
theorem H4:TI.ok Tryz.prog 28 ⟨.st .lease,0,[(0,1,false),(1,1,false),(2,1,false)],24⟩:=kH (by kernel_rfl) (by kernel_rfl) (by kernel_rfl) (by kernel_rfl) (by kernel_rfl) (by kernel_rfl) (fun _=>⟨(by kernel_rfl),(by kernel_rfl)⟩) (fun h=>absurd (show true=false from h) (by decide))
theorem H5:TI.ok Tryz.prog 29 ⟨.ls (.st .place),24,[],24⟩:=nj (u:=106) (by kernel_rfl) (by kernel_rfl) (by kernel_rfl) (by kernel_rfl) (by kernel_rfl) (by kernel_rfl) (by kernel_rfl) (by kernel_rfl) (by kernel_rfl)
theorem H6:TI.ok Tryz.prog 31 ⟨.st .cluster,0,[(0,1,false),(1,1,false),(2,1,false),(3,2,true),(5,1,false),(6,3,true),(9,1,false)],144⟩:=kH (by kernel_rfl) (by kernel_rfl) (by kernel_rfl) (by kernel_rfl) (by kernel_rfl) (by kernel_rfl) (fun h=>absurd (show false=true from h) (by decide)) (fun _ xs=>fZ xs (by kernel_rfl))
theorem H7:TI.ok Tryz.prog 34 ⟨.ls (.st .server),152,[],24⟩:=nj (u:=61) (by kernel_rfl) (by kernel_rfl) (by kernel_rfl) (by kernel_rfl) (by kernel_rfl) (by kernel_rfl) (by kernel_rfl) (by kernel_rfl) (by kernel_rfl)
theorem H8:TI.ok Tryz.prog 35 ⟨.ls (.st .config),64,[],24⟩:=nj (u:=58) (by kernel_rfl) (by kernel_rfl) (by kernel_rfl) (by kernel_rfl) (by kernel_rfl) (by kernel_rfl) (by kernel_rfl) (by kernel_rfl) (by kernel_rfl)
theorem H9:TI.ok Tryz.prog 37 ⟨.st .masterLog,0,[(0,1,false),(1,1,false)],32⟩:=kH (by kernel_rfl) (by kernel_rfl) (by kernel_rfl) (by kernel_rfl) (by kernel_rfl) (by kernel_rfl) (fun h=>absurd (show false=true from h) (by decide)) (fun _ xs=>fZ xs (by kernel_rfl))
theorem Ia:TI.ok Tryz.prog 38 ⟨.st .lease,0,[(0,1,false),(1,1,false),(2,1,false)],24⟩:=kH (by kernel_rfl) (by kernel_rfl) (by kernel_rfl) (by kernel_rfl) (by kernel_rfl) (by kernel_rfl) (fun _=>⟨(by kernel_rfl),(by kernel_rfl)⟩) (fun h=>absurd (show true=false from h) (by decide))
theorem Ib:TI.ok Tryz.prog 39 ⟨.ls (.st .place),24,[],24⟩:=nj (u:=104) (by kernel_rfl) (by kernel_rfl) (by kernel_rfl) (by kernel_rfl) (by kernel_rfl) (by kernel_rfl) (by kernel_rfl) (by kernel_rfl) (by kernel_rfl)
theorem Ic:TI.ok Tryz.prog 41 ⟨.st .cluster,0,[(0,1,false),(1,1,false),(2,1,false),(3,2,true),(5,1,false),(6,3,true),(9,1,false)],144⟩:=kH (by kernel_rfl) (by kernel_rfl) (by kernel_rfl) (by kernel_rfl) (by kernel_rfl) (by kernel_rfl) (fun h=>absurd (show false=true from h) (by decide)) (fun _ xs=>fZ xs (by kernel_rfl))
theorem Ie:TI.ok Tryz.prog 58 ⟨.st .config,0,[(0,1,false),(1,1,false),(2,1,false),(3,1,false)],64⟩:=kH (by kernel_rfl) (by kernel_rfl) (by kernel_rfl) (by kernel_rfl) (by kernel_rfl) (by kernel_rfl) (fun h=>absurd (show false=true from h) (by decide)) (fun _ xs=>fZ xs (by kernel_rfl))
theorem Ig:TI.ok Tryz.prog 59 ⟨.ls (.st .entry),56,[],24⟩:=nj (u:=136) (by kernel_rfl) (by kernel_rfl) (by kernel_rfl) (by kernel_rfl) (by kernel_rfl) (by kernel_rfl) (by kernel_rfl) (by kernel_rfl) (by kernel_rfl)
theorem Ih:TI.ok Tryz.prog 61 ⟨.st .server,0,[(0,1,false),(1,1,false),(2,1,false),(3,1,false),(4,4,true),(8,1,false),(9,1,false),(10,1,false),(11,1,false)],152⟩:=kH (by kernel_rfl) (by kernel_rfl) (by kernel_rfl) (by kernel_rfl) (by kernel_rfl) (by kernel_rfl) (fun h=>absurd (show false=true from h) (by decide)) (fun _ xs=>fZ xs (by kernel_rfl))
theorem Ii:TI.ok Tryz.prog 71 ⟨.ls (.s),16,[],24⟩:=nj (u:=9) (by kernel_rfl) (by kernel_rfl) (by kernel_rfl) (by kernel_rfl) (by kernel_rfl) (by kernel_rfl) (by kernel_rfl) (by kernel_rfl) (by kernel_rfl)
theorem Ij:TI.ok Tryz.prog 92 ⟨.st .config,0,[(0,1,false),(1,1,false),(2,1,false),(3,1,false)],64⟩:=kH (by kernel_rfl) (by kernel_rfl) (by kernel_rfl) (by kernel_rfl) (by kernel_rfl) (by kernel_rfl) (fun h=>absurd (show false=true from h) (by decide)) (fun _ xs=>fZ xs (by kernel_rfl))
theorem Ik:TI.ok Tryz.prog 93 ⟨.ls (.st .entry),56,[],24⟩:=nj (u:=160) (by kernel_rfl) (by kernel_rfl) (by kernel_rfl) (by kernel_rfl) (by kernel_rfl) (by kernel_rfl) (by kernel_rfl) (by kernel_rfl) (by kernel_rfl)
theorem Il:TI.ok Tryz.prog 95 ⟨.st .server,0,[(0,1,false),(1,1,false),(2,1,false),(3,1,false),(4,4,true),(8,1,false),(9,1,false),(10,1,false),(11,1,false)],152⟩:=kH (by kernel_rfl) (by kernel_rfl) (by kernel_rfl) (by kernel_rfl) (by kernel_rfl) (by kernel_rfl) (fun h=>absurd (show false=true from h) (by decide)) (fun _ xs=>fZ xs (by kernel_rfl))
theorem Im:TI.ok Tryz.prog 98 ⟨.ls (.i .u8),1,[],24⟩:=nj (u:=5) (by kernel_rfl) (by kernel_rfl) (by kernel_rfl) (by kernel_rfl) (by kernel_rfl) (by kernel_rfl) (by kernel_rfl) (by kernel_rfl) (by kernel_rfl)
theorem Hg:TI.ok Tryz.prog 104 ⟨.st .place,0,[(0,1,false),(1,1,false),(2,1,false)],24⟩:=kH (by kernel_rfl) (by kernel_rfl) (by kernel_rfl) (by kernel_rfl) (by kernel_rfl) (by kernel_rfl) (fun _=>⟨(by kernel_rfl),(by kernel_rfl)⟩) (fun h=>absurd (show true=false from h) (by decide))
theorem Hh:TI.ok Tryz.prog 106 ⟨.st .place,0,[(0,1,false),(1,1,false),(2,1,false)],24⟩:=kH (by kernel_rfl) (by kernel_rfl) (by kernel_rfl) (by kernel_rfl) (by kernel_rfl) (by kernel_rfl) (fun _=>⟨(by kernel_rfl),(by kernel_rfl)⟩) (fun h=>absurd (show true=false from h) (by decide))
theorem Hi:TI.ok Tryz.prog 134 ⟨.st .op,0,[(0,1,false),(1,1,false),(2,1,false),(3,1,false),(4,1,false),(5,1,false)],48⟩:=kH (by kernel_rfl) (by kernel_rfl) (by kernel_rfl) (by kernel_rfl) (by kernel_rfl) (by kernel_rfl) (fun _=>⟨(by kernel_rfl),(by kernel_rfl)⟩) (fun h=>absurd (show true=false from h) (by decide))
theorem Hj:TI.ok Tryz.prog 136 ⟨.st .entry,0,[(0,1,false),(1,6,true)],56⟩:=kH (by kernel_rfl) (by kernel_rfl) (by kernel_rfl) (by kernel_rfl) (by kernel_rfl) (by kernel_rfl) (fun _=>⟨(by kernel_rfl),(by kernel_rfl)⟩) (fun h=>absurd (show true=false from h) (by decide))
theorem Hk:TI.ok Tryz.prog 158 ⟨.st .op,0,[(0,1,false),(1,1,false),(2,1,false),(3,1,false),(4,1,false),(5,1,false)],48⟩:=kH (by kernel_rfl) (by kernel_rfl) (by kernel_rfl) (by kernel_rfl) (by kernel_rfl) (by kernel_rfl) (fun _=>⟨(by kernel_rfl),(by kernel_rfl)⟩) (fun h=>absurd (show true=false from h) (by decide))
theorem Hl:TI.ok Tryz.prog 160 ⟨.st .entry,0,[(0,1,false),(1,6,true)],56⟩:=kH (by kernel_rfl) (by kernel_rfl) (by kernel_rfl) (by kernel_rfl) (by kernel_rfl) (by kernel_rfl) (fun _=>⟨(by kernel_rfl),(by kernel_rfl)⟩) (fun h=>absurd (show true=false from h) (by decide))
theorem Hm:TI.ok Tryz.prog 171 ⟨.i .u64,0,[],8⟩:=oQ (by kernel_rfl) (by kernel_rfl) (by kernel_rfl)
theorem Hn:TI.ok Tryz.prog 182 ⟨.i .u32,0,[],4⟩:=oQ (by kernel_rfl) (by kernel_rfl) (by kernel_rfl)
theorem Ho:TI.ok Tryz.prog 184 ⟨.i .u64,0,[],8⟩:=oQ (by kernel_rfl) (by kernel_rfl) (by kernel_rfl)
theorem Hp:TI.ok Tryz.prog 187 ⟨.ls (.ls (.i .i64)),24,[],24⟩:=nj (u:=23) (by kernel_rfl) (by kernel_rfl) (by kernel_rfl) (by kernel_rfl) (by kernel_rfl) (by kernel_rfl) (by kernel_rfl) (by kernel_rfl) (by kernel_rfl)
theorem Cr:eD Tryz.prog Θ:=
 dF IY <| dF IZ <| dF I0 <| dF I1 <| dF I2 <| dF HY <| dF HZ <| dF H0 <| dF H1 <| dF H2 <| dF H3 <| dF H4 <| dF H5 <| dF H6 <| dF H7 <| dF H8 <| dF H9 <| dF Ia <| dF Ib <| dF Ic <| dF Ie <| dF Ig <| dF Ih <| dF Ii <| dF Ij <| dF Ik <| dF Il <| dF Im <| dF Hg <| dF Hh <| dF Hi <| dF Hj <| dF Hk <| dF Hl <| dF Hm <| dF Hn <| dF Ho <| dF Hp <| FU _
end Go.Proofs.YtadpelkpdaohnaaGreatDoor.En
