/- The seat's types (printed by wip/tools/gen_theta.py). -/
import Derived.Test.YtadpelkpdaohnaaGreatDoorProg
import Derived.Test.YtadpelkpdaohnaaGreatDoorZX11
namespace Go.Proofs.YtadpelkpdaohnaaGreatDoor.En
open Go
def Θ:kL:= [(2,⟨.i .i64,0,[],8⟩),
 (3,⟨.i .i64,0,[],8⟩),
 (4,⟨.b,0,[],1⟩),
 (5,⟨.i .u8,0,[],1⟩),
 (9,⟨.s,0,[],16⟩),
 (12,⟨.i .u64,0,[],8⟩),
 (21,⟨.i .i32,0,[],4⟩),
 (22,⟨.ls (.st .server),152,[],24⟩),
 (23,⟨.ls (.i .i64),8,[],24⟩),
 (24,⟨.ls (.st .config),64,[],24⟩),
 (26,⟨.st .masterLog,0,[(0,1,false),(1,1,false)],32⟩),
 (28,⟨.st .lease,0,[(0,1,false),(1,1,false),(2,1,false)],24⟩),
 (29,⟨.ls (.st .place),24,[],24⟩),
 (31,⟨.st .cluster,0,[(0,1,false),(1,1,false),(2,1,false),(3,2,true),(5,1,false),(6,3,true),(9,1,false)],144⟩),
 (34,⟨.ls (.st .server),152,[],24⟩),
 (35,⟨.ls (.st .config),64,[],24⟩),
 (37,⟨.st .masterLog,0,[(0,1,false),(1,1,false)],32⟩),
 (38,⟨.st .lease,0,[(0,1,false),(1,1,false),(2,1,false)],24⟩),
 (39,⟨.ls (.st .place),24,[],24⟩),
 (41,⟨.st .cluster,0,[(0,1,false),(1,1,false),(2,1,false),(3,2,true),(5,1,false),(6,3,true),(9,1,false)],144⟩),
 (47,⟨.ls (.st .damage),16,[],24⟩),
 (58,⟨.st .config,0,[(0,1,false),(1,1,false),(2,1,false),(3,1,false)],64⟩),
 (59,⟨.ls (.st .entry),56,[],24⟩),
 (61,⟨.st .server,0,[(0,1,false),(1,1,false),(2,1,false),(3,1,false),(4,4,true),(8,1,false),(9,1,false),(10,1,false),(11,1,false)],152⟩),
 (71,⟨.ls (.s),16,[],24⟩),
 (86,⟨.st .damage,0,[(0,1,false),(1,1,false)],16⟩),
 (92,⟨.st .config,0,[(0,1,false),(1,1,false),(2,1,false),(3,1,false)],64⟩),
 (93,⟨.ls (.st .entry),56,[],24⟩),
 (95,⟨.st .server,0,[(0,1,false),(1,1,false),(2,1,false),(3,1,false),(4,4,true),(8,1,false),(9,1,false),(10,1,false),(11,1,false)],152⟩),
 (98,⟨.ls (.i .u8),1,[],24⟩),
 (104,⟨.st .place,0,[(0,1,false),(1,1,false),(2,1,false)],24⟩),
 (106,⟨.st .place,0,[(0,1,false),(1,1,false),(2,1,false)],24⟩),
 (134,⟨.st .op,0,[(0,1,false),(1,1,false),(2,1,false),(3,1,false),(4,1,false),(5,1,false)],48⟩),
 (136,⟨.st .entry,0,[(0,1,false),(1,6,true)],56⟩),
 (158,⟨.st .op,0,[(0,1,false),(1,1,false),(2,1,false),(3,1,false),(4,1,false),(5,1,false)],48⟩),
 (160,⟨.st .entry,0,[(0,1,false),(1,6,true)],56⟩),
 (171,⟨.i .u64,0,[],8⟩),
 (182,⟨.i .u32,0,[],4⟩),
 (184,⟨.i .u64,0,[],8⟩),
 (187,⟨.ls (.ls (.i .i64)),24,[],24⟩)]
theorem K0:TI.ok Tryz.prog 2 ⟨.i .i64,0,[],8⟩:=qp (by kernel_rfl) (by kernel_rfl) (by kernel_rfl)
theorem K1:TI.ok Tryz.prog 3 ⟨.i .i64,0,[],8⟩:=qp (by kernel_rfl) (by kernel_rfl) (by kernel_rfl)
theorem K2:TI.ok Tryz.prog 4 ⟨.b,0,[],1⟩:=qp (by kernel_rfl) (by kernel_rfl) (by kernel_rfl)
theorem K3:TI.ok Tryz.prog 5 ⟨.i .u8,0,[],1⟩:=qp (by kernel_rfl) (by kernel_rfl) (by kernel_rfl)
theorem K4:TI.ok Tryz.prog 9 ⟨.s,0,[],16⟩:=qp (by kernel_rfl) (by kernel_rfl) (by kernel_rfl)
theorem J2:TI.ok Tryz.prog 12 ⟨.i .u64,0,[],8⟩:=qp (by kernel_rfl) (by kernel_rfl) (by kernel_rfl)
theorem J3:TI.ok Tryz.prog 21 ⟨.i .i32,0,[],4⟩:=qp (by kernel_rfl) (by kernel_rfl) (by kernel_rfl)
theorem J4:TI.ok Tryz.prog 22 ⟨.ls (.st .server),152,[],24⟩:=oa (u:=95) (by kernel_rfl) (by kernel_rfl) (by kernel_rfl) (by kernel_rfl) (by kernel_rfl) (by kernel_rfl) (by kernel_rfl) (by kernel_rfl) (by kernel_rfl)
theorem J5:TI.ok Tryz.prog 23 ⟨.ls (.i .i64),8,[],24⟩:=oa (u:=3) (by kernel_rfl) (by kernel_rfl) (by kernel_rfl) (by kernel_rfl) (by kernel_rfl) (by kernel_rfl) (by kernel_rfl) (by kernel_rfl) (by kernel_rfl)
theorem J6:TI.ok Tryz.prog 24 ⟨.ls (.st .config),64,[],24⟩:=oa (u:=92) (by kernel_rfl) (by kernel_rfl) (by kernel_rfl) (by kernel_rfl) (by kernel_rfl) (by kernel_rfl) (by kernel_rfl) (by kernel_rfl) (by kernel_rfl)
theorem J7:TI.ok Tryz.prog 26 ⟨.st .masterLog,0,[(0,1,false),(1,1,false)],32⟩:=lp (by kernel_rfl) (by kernel_rfl) (by kernel_rfl) (by kernel_rfl) (by kernel_rfl) (by kernel_rfl) (fun h=>absurd (show false=true from h) (by decide)) (fun _ xs=>gY xs (by kernel_rfl))
theorem J8:TI.ok Tryz.prog 28 ⟨.st .lease,0,[(0,1,false),(1,1,false),(2,1,false)],24⟩:=lp (by kernel_rfl) (by kernel_rfl) (by kernel_rfl) (by kernel_rfl) (by kernel_rfl) (by kernel_rfl) (fun _=>⟨(by kernel_rfl),(by kernel_rfl)⟩) (fun h=>absurd (show true=false from h) (by decide))
theorem J9:TI.ok Tryz.prog 29 ⟨.ls (.st .place),24,[],24⟩:=oa (u:=106) (by kernel_rfl) (by kernel_rfl) (by kernel_rfl) (by kernel_rfl) (by kernel_rfl) (by kernel_rfl) (by kernel_rfl) (by kernel_rfl) (by kernel_rfl)
theorem Ka:TI.ok Tryz.prog 31 ⟨.st .cluster,0,[(0,1,false),(1,1,false),(2,1,false),(3,2,true),(5,1,false),(6,3,true),(9,1,false)],144⟩:=lp (by kernel_rfl) (by kernel_rfl) (by kernel_rfl) (by kernel_rfl) (by kernel_rfl) (by kernel_rfl) (fun h=>absurd (show false=true from h) (by decide)) (fun _ xs=>gY xs (by kernel_rfl))
theorem Kb:TI.ok Tryz.prog 34 ⟨.ls (.st .server),152,[],24⟩:=oa (u:=61) (by kernel_rfl) (by kernel_rfl) (by kernel_rfl) (by kernel_rfl) (by kernel_rfl) (by kernel_rfl) (by kernel_rfl) (by kernel_rfl) (by kernel_rfl)
theorem Kd:TI.ok Tryz.prog 35 ⟨.ls (.st .config),64,[],24⟩:=oa (u:=58) (by kernel_rfl) (by kernel_rfl) (by kernel_rfl) (by kernel_rfl) (by kernel_rfl) (by kernel_rfl) (by kernel_rfl) (by kernel_rfl) (by kernel_rfl)
theorem Ke:TI.ok Tryz.prog 37 ⟨.st .masterLog,0,[(0,1,false),(1,1,false)],32⟩:=lp (by kernel_rfl) (by kernel_rfl) (by kernel_rfl) (by kernel_rfl) (by kernel_rfl) (by kernel_rfl) (fun h=>absurd (show false=true from h) (by decide)) (fun _ xs=>gY xs (by kernel_rfl))
theorem Kf:TI.ok Tryz.prog 38 ⟨.st .lease,0,[(0,1,false),(1,1,false),(2,1,false)],24⟩:=lp (by kernel_rfl) (by kernel_rfl) (by kernel_rfl) (by kernel_rfl) (by kernel_rfl) (by kernel_rfl) (fun _=>⟨(by kernel_rfl),(by kernel_rfl)⟩) (fun h=>absurd (show true=false from h) (by decide))
theorem Kg:TI.ok Tryz.prog 39 ⟨.ls (.st .place),24,[],24⟩:=oa (u:=104) (by kernel_rfl) (by kernel_rfl) (by kernel_rfl) (by kernel_rfl) (by kernel_rfl) (by kernel_rfl) (by kernel_rfl) (by kernel_rfl) (by kernel_rfl)
theorem Kh:TI.ok Tryz.prog 41 ⟨.st .cluster,0,[(0,1,false),(1,1,false),(2,1,false),(3,2,true),(5,1,false),(6,3,true),(9,1,false)],144⟩:=lp (by kernel_rfl) (by kernel_rfl) (by kernel_rfl) (by kernel_rfl) (by kernel_rfl) (by kernel_rfl) (fun h=>absurd (show false=true from h) (by decide)) (fun _ xs=>gY xs (by kernel_rfl))
theorem Ki:TI.ok Tryz.prog 47 ⟨.ls (.st .damage),16,[],24⟩:=oa (u:=86) (by kernel_rfl) (by kernel_rfl) (by kernel_rfl) (by kernel_rfl) (by kernel_rfl) (by kernel_rfl) (by kernel_rfl) (by kernel_rfl) (by kernel_rfl)
theorem Kj:TI.ok Tryz.prog 58 ⟨.st .config,0,[(0,1,false),(1,1,false),(2,1,false),(3,1,false)],64⟩:=lp (by kernel_rfl) (by kernel_rfl) (by kernel_rfl) (by kernel_rfl) (by kernel_rfl) (by kernel_rfl) (fun h=>absurd (show false=true from h) (by decide)) (fun _ xs=>gY xs (by kernel_rfl))
theorem Kk:TI.ok Tryz.prog 59 ⟨.ls (.st .entry),56,[],24⟩:=oa (u:=136) (by kernel_rfl) (by kernel_rfl) (by kernel_rfl) (by kernel_rfl) (by kernel_rfl) (by kernel_rfl) (by kernel_rfl) (by kernel_rfl) (by kernel_rfl)
theorem Kl:TI.ok Tryz.prog 61 ⟨.st .server,0,[(0,1,false),(1,1,false),(2,1,false),(3,1,false),(4,4,true),(8,1,false),(9,1,false),(10,1,false),(11,1,false)],152⟩:=lp (by kernel_rfl) (by kernel_rfl) (by kernel_rfl) (by kernel_rfl) (by kernel_rfl) (by kernel_rfl) (fun h=>absurd (show false=true from h) (by decide)) (fun _ xs=>gY xs (by kernel_rfl))
theorem Km:TI.ok Tryz.prog 71 ⟨.ls (.s),16,[],24⟩:=oa (u:=9) (by kernel_rfl) (by kernel_rfl) (by kernel_rfl) (by kernel_rfl) (by kernel_rfl) (by kernel_rfl) (by kernel_rfl) (by kernel_rfl) (by kernel_rfl)
theorem Kn:TI.ok Tryz.prog 86 ⟨.st .damage,0,[(0,1,false),(1,1,false)],16⟩:=lp (by kernel_rfl) (by kernel_rfl) (by kernel_rfl) (by kernel_rfl) (by kernel_rfl) (by kernel_rfl) (fun _=>⟨(by kernel_rfl),(by kernel_rfl)⟩) (fun h=>absurd (show true=false from h) (by decide))
theorem Ko:TI.ok Tryz.prog 92 ⟨.st .config,0,[(0,1,false),(1,1,false),(2,1,false),(3,1,false)],64⟩:=lp (by kernel_rfl) (by kernel_rfl) (by kernel_rfl) (by kernel_rfl) (by kernel_rfl) (by kernel_rfl) (fun h=>absurd (show false=true from h) (by decide)) (fun _ xs=>gY xs (by kernel_rfl))
theorem Kp:TI.ok Tryz.prog 93 ⟨.ls (.st .entry),56,[],24⟩:=oa (u:=160) (by kernel_rfl) (by kernel_rfl) (by kernel_rfl) (by kernel_rfl) (by kernel_rfl) (by kernel_rfl) (by kernel_rfl) (by kernel_rfl) (by kernel_rfl)
theorem Kq:TI.ok Tryz.prog 95 ⟨.st .server,0,[(0,1,false),(1,1,false),(2,1,false),(3,1,false),(4,4,true),(8,1,false),(9,1,false),(10,1,false),(11,1,false)],152⟩:=lp (by kernel_rfl) (by kernel_rfl) (by kernel_rfl) (by kernel_rfl) (by kernel_rfl) (by kernel_rfl) (fun h=>absurd (show false=true from h) (by decide)) (fun _ xs=>gY xs (by kernel_rfl))
theorem Kr:TI.ok Tryz.prog 98 ⟨.ls (.i .u8),1,[],24⟩:=oa (u:=5) (by kernel_rfl) (by kernel_rfl) (by kernel_rfl) (by kernel_rfl) (by kernel_rfl) (by kernel_rfl) (by kernel_rfl) (by kernel_rfl) (by kernel_rfl)
theorem Jm:TI.ok Tryz.prog 104 ⟨.st .place,0,[(0,1,false),(1,1,false),(2,1,false)],24⟩:=lp (by kernel_rfl) (by kernel_rfl) (by kernel_rfl) (by kernel_rfl) (by kernel_rfl) (by kernel_rfl) (fun _=>⟨(by kernel_rfl),(by kernel_rfl)⟩) (fun h=>absurd (show true=false from h) (by decide))
theorem Jn:TI.ok Tryz.prog 106 ⟨.st .place,0,[(0,1,false),(1,1,false),(2,1,false)],24⟩:=lp (by kernel_rfl) (by kernel_rfl) (by kernel_rfl) (by kernel_rfl) (by kernel_rfl) (by kernel_rfl) (fun _=>⟨(by kernel_rfl),(by kernel_rfl)⟩) (fun h=>absurd (show true=false from h) (by decide))
theorem Jo:TI.ok Tryz.prog 134 ⟨.st .op,0,[(0,1,false),(1,1,false),(2,1,false),(3,1,false),(4,1,false),(5,1,false)],48⟩:=lp (by kernel_rfl) (by kernel_rfl) (by kernel_rfl) (by kernel_rfl) (by kernel_rfl) (by kernel_rfl) (fun _=>⟨(by kernel_rfl),(by kernel_rfl)⟩) (fun h=>absurd (show true=false from h) (by decide))
theorem Jp:TI.ok Tryz.prog 136 ⟨.st .entry,0,[(0,1,false),(1,6,true)],56⟩:=lp (by kernel_rfl) (by kernel_rfl) (by kernel_rfl) (by kernel_rfl) (by kernel_rfl) (by kernel_rfl) (fun _=>⟨(by kernel_rfl),(by kernel_rfl)⟩) (fun h=>absurd (show true=false from h) (by decide))
theorem Jq:TI.ok Tryz.prog 158 ⟨.st .op,0,[(0,1,false),(1,1,false),(2,1,false),(3,1,false),(4,1,false),(5,1,false)],48⟩:=lp (by kernel_rfl) (by kernel_rfl) (by kernel_rfl) (by kernel_rfl) (by kernel_rfl) (by kernel_rfl) (fun _=>⟨(by kernel_rfl),(by kernel_rfl)⟩) (fun h=>absurd (show true=false from h) (by decide))
theorem Jr:TI.ok Tryz.prog 160 ⟨.st .entry,0,[(0,1,false),(1,6,true)],56⟩:=lp (by kernel_rfl) (by kernel_rfl) (by kernel_rfl) (by kernel_rfl) (by kernel_rfl) (by kernel_rfl) (fun _=>⟨(by kernel_rfl),(by kernel_rfl)⟩) (fun h=>absurd (show true=false from h) (by decide))
theorem Js:TI.ok Tryz.prog 171 ⟨.i .u64,0,[],8⟩:=qp (by kernel_rfl) (by kernel_rfl) (by kernel_rfl)
theorem Jt:TI.ok Tryz.prog 182 ⟨.i .u32,0,[],4⟩:=qp (by kernel_rfl) (by kernel_rfl) (by kernel_rfl)
theorem Ju:TI.ok Tryz.prog 184 ⟨.i .u64,0,[],8⟩:=qp (by kernel_rfl) (by kernel_rfl) (by kernel_rfl)
theorem Jv:TI.ok Tryz.prog 187 ⟨.ls (.ls (.i .i64)),24,[],24⟩:=oa (u:=23) (by kernel_rfl) (by kernel_rfl) (by kernel_rfl) (by kernel_rfl) (by kernel_rfl) (by kernel_rfl) (by kernel_rfl) (by kernel_rfl) (by kernel_rfl)
theorem Em:fi Tryz.prog Θ:=
 dU K0 <| dU K1 <| dU K2 <| dU K3 <| dU K4 <| dU J2 <| dU J3 <| dU J4 <| dU J5 <| dU J6 <| dU J7 <| dU J8 <| dU J9 <| dU Ka <| dU Kb <| dU Kd <| dU Ke <| dU Kf <| dU Kg <| dU Kh <| dU Ki <| dU Kj <| dU Kk <| dU Kl <| dU Km <| dU Kn <| dU Ko <| dU Kp <| dU Kq <| dU Kr <| dU Jm <| dU Jn <| dU Jo <| dU Jp <| dU Jq <| dU Jr <| dU Js <| dU Jt <| dU Ju <| dU Jv <| HQ _
end Go.Proofs.YtadpelkpdaohnaaGreatDoor.En
