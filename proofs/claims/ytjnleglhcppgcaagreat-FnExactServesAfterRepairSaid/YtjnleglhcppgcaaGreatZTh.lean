/- The seat's types (printed by wip/tools/gen_theta.py). -/
import Derived.Test.YtjnleglhcppgcaaGreatProg
import Derived.Test.YtjnleglhcppgcaaGreatZX10
namespace Go.Proofs.YtjnleglhcppgcaaGreat.En
open Go
def Θ:qG:= [(2,⟨.i .i64,0,[],8⟩),
 (3,⟨.i .i64,0,[],8⟩),
 (4,⟨.b,0,[],1⟩),
 (5,⟨.i .u8,0,[],1⟩),
 (9,⟨.s,0,[],16⟩),
 (12,⟨.i .u64,0,[],8⟩),
 (21,⟨.i .i32,0,[],4⟩),
 (22,⟨.ls (.st .server),152,[],24⟩),
 (23,⟨.ls (.i .i64),8,[],24⟩),
 (24,⟨.ls (.st .config),64,[],24⟩),
 (26,⟨.st .masterLog,0,[(0,1,false),(1,1,false)],32⟩),
 (28,⟨.st .lease,0,[(0,1,false),(1,1,false),(2,1,false)],24⟩),
 (29,⟨.ls (.st .place),24,[],24⟩),
 (31,⟨.st .cluster,0,[(0,1,false),(1,1,false),(2,1,false),(3,2,true),(5,1,false),(6,3,true),(9,1,false)],144⟩),
 (33,⟨.ls (.st .server),152,[],24⟩),
 (34,⟨.ls (.st .config),64,[],24⟩),
 (36,⟨.st .masterLog,0,[(0,1,false),(1,1,false)],32⟩),
 (37,⟨.st .lease,0,[(0,1,false),(1,1,false),(2,1,false)],24⟩),
 (38,⟨.ls (.st .place),24,[],24⟩),
 (40,⟨.st .cluster,0,[(0,1,false),(1,1,false),(2,1,false),(3,2,true),(5,1,false),(6,3,true),(9,1,false)],144⟩),
 (48,⟨.st .op,0,[(0,1,false),(1,1,false),(2,1,false),(3,1,false),(4,1,false),(5,1,false)],48⟩),
 (50,⟨.st .op,0,[(0,1,false),(1,1,false),(2,1,false),(3,1,false),(4,1,false),(5,1,false)],48⟩),
 (73,⟨.st .result,0,[(0,1,false),(1,1,false)],16⟩),
 (75,⟨.st .reply,0,[(0,1,false),(1,2,true),(3,1,false)],32⟩),
 (80,⟨.st .config,0,[(0,1,false),(1,1,false),(2,1,false),(3,1,false)],64⟩),
 (81,⟨.ls (.st .entry),56,[],24⟩),
 (83,⟨.st .server,0,[(0,1,false),(1,1,false),(2,1,false),(3,1,false),(4,4,true),(8,1,false),(9,1,false),(10,1,false),(11,1,false)],152⟩),
 (88,⟨.st .config,0,[(0,1,false),(1,1,false),(2,1,false),(3,1,false)],64⟩),
 (94,⟨.ls (.st .entry),56,[],24⟩),
 (96,⟨.st .server,0,[(0,1,false),(1,1,false),(2,1,false),(3,1,false),(4,4,true),(8,1,false),(9,1,false),(10,1,false),(11,1,false)],152⟩),
 (100,⟨.st .place,0,[(0,1,false),(1,1,false),(2,1,false)],24⟩),
 (102,⟨.st .place,0,[(0,1,false),(1,1,false),(2,1,false)],24⟩),
 (159,⟨.st .entry,0,[(0,1,false),(1,6,true)],56⟩),
 (163,⟨.ls (.st .session),32,[],24⟩),
 (165,⟨.st .machine,0,[(0,1,false),(1,1,false)],48⟩),
 (183,⟨.st .entry,0,[(0,1,false),(1,6,true)],56⟩),
 (195,⟨.st .session,0,[(0,1,false),(1,1,false),(2,2,true)],32⟩),
 (207,⟨.ls (.ls (.i .i64)),24,[],24⟩),
 (215,⟨.i .u64,0,[],8⟩),
 (226,⟨.i .u32,0,[],4⟩),
 (228,⟨.i .u64,0,[],8⟩),
 (229,⟨.ls (.ls (.st .entry)),24,[],24⟩)]
theorem Wt:TI.ok Tryz.prog 2 ⟨.i .i64,0,[],8⟩:=zE (by kernel_rfl) (by kernel_rfl) (by kernel_rfl)
theorem Wu:TI.ok Tryz.prog 3 ⟨.i .i64,0,[],8⟩:=zE (by kernel_rfl) (by kernel_rfl) (by kernel_rfl)
theorem Wv:TI.ok Tryz.prog 4 ⟨.b,0,[],1⟩:=zE (by kernel_rfl) (by kernel_rfl) (by kernel_rfl)
theorem Ww:TI.ok Tryz.prog 5 ⟨.i .u8,0,[],1⟩:=zE (by kernel_rfl) (by kernel_rfl) (by kernel_rfl)
theorem Wx:TI.ok Tryz.prog 9 ⟨.s,0,[],16⟩:=zE (by kernel_rfl) (by kernel_rfl) (by kernel_rfl)
theorem Vt:TI.ok Tryz.prog 12 ⟨.i .u64,0,[],8⟩:=zE (by kernel_rfl) (by kernel_rfl) (by kernel_rfl)
theorem Vu:TI.ok Tryz.prog 21 ⟨.i .i32,0,[],4⟩:=zE (by kernel_rfl) (by kernel_rfl) (by kernel_rfl)
theorem Vv:TI.ok Tryz.prog 22 ⟨.ls (.st .server),152,[],24⟩:=wY (u:=83) (by kernel_rfl) (by kernel_rfl) (by kernel_rfl) (by kernel_rfl) (by kernel_rfl) (by kernel_rfl) (by kernel_rfl) (by kernel_rfl)
theorem Vw:TI.ok Tryz.prog 23 ⟨.ls (.i .i64),8,[],24⟩:=wY (u:=3) (by kernel_rfl) (by kernel_rfl) (by kernel_rfl) (by kernel_rfl) (by kernel_rfl) (by kernel_rfl) (by kernel_rfl) (by kernel_rfl)
theorem Vx:TI.ok Tryz.prog 24 ⟨.ls (.st .config),64,[],24⟩:=wY (u:=80) (by kernel_rfl) (by kernel_rfl) (by kernel_rfl) (by kernel_rfl) (by kernel_rfl) (by kernel_rfl) (by kernel_rfl) (by kernel_rfl)
theorem Vy:TI.ok Tryz.prog 26 ⟨.st .masterLog,0,[(0,1,false),(1,1,false)],32⟩:=pB (by kernel_rfl) (by kernel_rfl) (by kernel_rfl) (by kernel_rfl) (by kernel_rfl) (by kernel_rfl) (fun h=>absurd (show false=true from h) (by decide)) (fun _ xs=>ko xs (by kernel_rfl))
theorem Vz:TI.ok Tryz.prog 28 ⟨.st .lease,0,[(0,1,false),(1,1,false),(2,1,false)],24⟩:=pB (by kernel_rfl) (by kernel_rfl) (by kernel_rfl) (by kernel_rfl) (by kernel_rfl) (by kernel_rfl) (fun _=>⟨(by kernel_rfl),(by kernel_rfl)⟩) (fun h=>absurd (show true=false from h) (by decide))
theorem VA:TI.ok Tryz.prog 29 ⟨.ls (.st .place),24,[],24⟩:=wY (u:=102) (by kernel_rfl) (by kernel_rfl) (by kernel_rfl) (by kernel_rfl) (by kernel_rfl) (by kernel_rfl) (by kernel_rfl) (by kernel_rfl)
theorem VB:TI.ok Tryz.prog 31 ⟨.st .cluster,0,[(0,1,false),(1,1,false),(2,1,false),(3,2,true),(5,1,false),(6,3,true),(9,1,false)],144⟩:=pB (by kernel_rfl) (by kernel_rfl) (by kernel_rfl) (by kernel_rfl) (by kernel_rfl) (by kernel_rfl) (fun h=>absurd (show false=true from h) (by decide)) (fun _ xs=>ko xs (by kernel_rfl))
theorem VD:TI.ok Tryz.prog 33 ⟨.ls (.st .server),152,[],24⟩:=wY (u:=96) (by kernel_rfl) (by kernel_rfl) (by kernel_rfl) (by kernel_rfl) (by kernel_rfl) (by kernel_rfl) (by kernel_rfl) (by kernel_rfl)
theorem VE:TI.ok Tryz.prog 34 ⟨.ls (.st .config),64,[],24⟩:=wY (u:=88) (by kernel_rfl) (by kernel_rfl) (by kernel_rfl) (by kernel_rfl) (by kernel_rfl) (by kernel_rfl) (by kernel_rfl) (by kernel_rfl)
theorem VF:TI.ok Tryz.prog 36 ⟨.st .masterLog,0,[(0,1,false),(1,1,false)],32⟩:=pB (by kernel_rfl) (by kernel_rfl) (by kernel_rfl) (by kernel_rfl) (by kernel_rfl) (by kernel_rfl) (fun h=>absurd (show false=true from h) (by decide)) (fun _ xs=>ko xs (by kernel_rfl))
theorem VG:TI.ok Tryz.prog 37 ⟨.st .lease,0,[(0,1,false),(1,1,false),(2,1,false)],24⟩:=pB (by kernel_rfl) (by kernel_rfl) (by kernel_rfl) (by kernel_rfl) (by kernel_rfl) (by kernel_rfl) (fun _=>⟨(by kernel_rfl),(by kernel_rfl)⟩) (fun h=>absurd (show true=false from h) (by decide))
theorem VH:TI.ok Tryz.prog 38 ⟨.ls (.st .place),24,[],24⟩:=wY (u:=100) (by kernel_rfl) (by kernel_rfl) (by kernel_rfl) (by kernel_rfl) (by kernel_rfl) (by kernel_rfl) (by kernel_rfl) (by kernel_rfl)
theorem VI:TI.ok Tryz.prog 40 ⟨.st .cluster,0,[(0,1,false),(1,1,false),(2,1,false),(3,2,true),(5,1,false),(6,3,true),(9,1,false)],144⟩:=pB (by kernel_rfl) (by kernel_rfl) (by kernel_rfl) (by kernel_rfl) (by kernel_rfl) (by kernel_rfl) (fun h=>absurd (show false=true from h) (by decide)) (fun _ xs=>ko xs (by kernel_rfl))
theorem VJ:TI.ok Tryz.prog 48 ⟨.st .op,0,[(0,1,false),(1,1,false),(2,1,false),(3,1,false),(4,1,false),(5,1,false)],48⟩:=pB (by kernel_rfl) (by kernel_rfl) (by kernel_rfl) (by kernel_rfl) (by kernel_rfl) (by kernel_rfl) (fun _=>⟨(by kernel_rfl),(by kernel_rfl)⟩) (fun h=>absurd (show true=false from h) (by decide))
theorem VK:TI.ok Tryz.prog 50 ⟨.st .op,0,[(0,1,false),(1,1,false),(2,1,false),(3,1,false),(4,1,false),(5,1,false)],48⟩:=pB (by kernel_rfl) (by kernel_rfl) (by kernel_rfl) (by kernel_rfl) (by kernel_rfl) (by kernel_rfl) (fun _=>⟨(by kernel_rfl),(by kernel_rfl)⟩) (fun h=>absurd (show true=false from h) (by decide))
theorem VL:TI.ok Tryz.prog 73 ⟨.st .result,0,[(0,1,false),(1,1,false)],16⟩:=pB (by kernel_rfl) (by kernel_rfl) (by kernel_rfl) (by kernel_rfl) (by kernel_rfl) (by kernel_rfl) (fun _=>⟨(by kernel_rfl),(by kernel_rfl)⟩) (fun h=>absurd (show true=false from h) (by decide))
theorem VN:TI.ok Tryz.prog 75 ⟨.st .reply,0,[(0,1,false),(1,2,true),(3,1,false)],32⟩:=pB (by kernel_rfl) (by kernel_rfl) (by kernel_rfl) (by kernel_rfl) (by kernel_rfl) (by kernel_rfl) (fun _=>⟨(by kernel_rfl),(by kernel_rfl)⟩) (fun h=>absurd (show true=false from h) (by decide))
theorem VO:TI.ok Tryz.prog 80 ⟨.st .config,0,[(0,1,false),(1,1,false),(2,1,false),(3,1,false)],64⟩:=pB (by kernel_rfl) (by kernel_rfl) (by kernel_rfl) (by kernel_rfl) (by kernel_rfl) (by kernel_rfl) (fun h=>absurd (show false=true from h) (by decide)) (fun _ xs=>ko xs (by kernel_rfl))
theorem VP:TI.ok Tryz.prog 81 ⟨.ls (.st .entry),56,[],24⟩:=wY (u:=183) (by kernel_rfl) (by kernel_rfl) (by kernel_rfl) (by kernel_rfl) (by kernel_rfl) (by kernel_rfl) (by kernel_rfl) (by kernel_rfl)
theorem VQ:TI.ok Tryz.prog 83 ⟨.st .server,0,[(0,1,false),(1,1,false),(2,1,false),(3,1,false),(4,4,true),(8,1,false),(9,1,false),(10,1,false),(11,1,false)],152⟩:=pB (by kernel_rfl) (by kernel_rfl) (by kernel_rfl) (by kernel_rfl) (by kernel_rfl) (by kernel_rfl) (fun h=>absurd (show false=true from h) (by decide)) (fun _ xs=>ko xs (by kernel_rfl))
theorem VS:TI.ok Tryz.prog 88 ⟨.st .config,0,[(0,1,false),(1,1,false),(2,1,false),(3,1,false)],64⟩:=pB (by kernel_rfl) (by kernel_rfl) (by kernel_rfl) (by kernel_rfl) (by kernel_rfl) (by kernel_rfl) (fun h=>absurd (show false=true from h) (by decide)) (fun _ xs=>ko xs (by kernel_rfl))
theorem VT:TI.ok Tryz.prog 94 ⟨.ls (.st .entry),56,[],24⟩:=wY (u:=159) (by kernel_rfl) (by kernel_rfl) (by kernel_rfl) (by kernel_rfl) (by kernel_rfl) (by kernel_rfl) (by kernel_rfl) (by kernel_rfl)
theorem VU:TI.ok Tryz.prog 96 ⟨.st .server,0,[(0,1,false),(1,1,false),(2,1,false),(3,1,false),(4,4,true),(8,1,false),(9,1,false),(10,1,false),(11,1,false)],152⟩:=pB (by kernel_rfl) (by kernel_rfl) (by kernel_rfl) (by kernel_rfl) (by kernel_rfl) (by kernel_rfl) (fun h=>absurd (show false=true from h) (by decide)) (fun _ xs=>ko xs (by kernel_rfl))
theorem UC:TI.ok Tryz.prog 100 ⟨.st .place,0,[(0,1,false),(1,1,false),(2,1,false)],24⟩:=pB (by kernel_rfl) (by kernel_rfl) (by kernel_rfl) (by kernel_rfl) (by kernel_rfl) (by kernel_rfl) (fun _=>⟨(by kernel_rfl),(by kernel_rfl)⟩) (fun h=>absurd (show true=false from h) (by decide))
theorem UD:TI.ok Tryz.prog 102 ⟨.st .place,0,[(0,1,false),(1,1,false),(2,1,false)],24⟩:=pB (by kernel_rfl) (by kernel_rfl) (by kernel_rfl) (by kernel_rfl) (by kernel_rfl) (by kernel_rfl) (fun _=>⟨(by kernel_rfl),(by kernel_rfl)⟩) (fun h=>absurd (show true=false from h) (by decide))
theorem UE:TI.ok Tryz.prog 159 ⟨.st .entry,0,[(0,1,false),(1,6,true)],56⟩:=pB (by kernel_rfl) (by kernel_rfl) (by kernel_rfl) (by kernel_rfl) (by kernel_rfl) (by kernel_rfl) (fun _=>⟨(by kernel_rfl),(by kernel_rfl)⟩) (fun h=>absurd (show true=false from h) (by decide))
theorem UF:TI.ok Tryz.prog 163 ⟨.ls (.st .session),32,[],24⟩:=wY (u:=195) (by kernel_rfl) (by kernel_rfl) (by kernel_rfl) (by kernel_rfl) (by kernel_rfl) (by kernel_rfl) (by kernel_rfl) (by kernel_rfl)
theorem UG:TI.ok Tryz.prog 165 ⟨.st .machine,0,[(0,1,false),(1,1,false)],48⟩:=pB (by kernel_rfl) (by kernel_rfl) (by kernel_rfl) (by kernel_rfl) (by kernel_rfl) (by kernel_rfl) (fun h=>absurd (show false=true from h) (by decide)) (fun _ xs=>ko xs (by kernel_rfl))
theorem UH:TI.ok Tryz.prog 183 ⟨.st .entry,0,[(0,1,false),(1,6,true)],56⟩:=pB (by kernel_rfl) (by kernel_rfl) (by kernel_rfl) (by kernel_rfl) (by kernel_rfl) (by kernel_rfl) (fun _=>⟨(by kernel_rfl),(by kernel_rfl)⟩) (fun h=>absurd (show true=false from h) (by decide))
theorem UI:TI.ok Tryz.prog 195 ⟨.st .session,0,[(0,1,false),(1,1,false),(2,2,true)],32⟩:=pB (by kernel_rfl) (by kernel_rfl) (by kernel_rfl) (by kernel_rfl) (by kernel_rfl) (by kernel_rfl) (fun _=>⟨(by kernel_rfl),(by kernel_rfl)⟩) (fun h=>absurd (show true=false from h) (by decide))
theorem UJ:TI.ok Tryz.prog 207 ⟨.ls (.ls (.i .i64)),24,[],24⟩:=wY (u:=23) (by kernel_rfl) (by kernel_rfl) (by kernel_rfl) (by kernel_rfl) (by kernel_rfl) (by kernel_rfl) (by kernel_rfl) (by kernel_rfl)
theorem UK:TI.ok Tryz.prog 215 ⟨.i .u64,0,[],8⟩:=zE (by kernel_rfl) (by kernel_rfl) (by kernel_rfl)
theorem UL:TI.ok Tryz.prog 226 ⟨.i .u32,0,[],4⟩:=zE (by kernel_rfl) (by kernel_rfl) (by kernel_rfl)
theorem UM:TI.ok Tryz.prog 228 ⟨.i .u64,0,[],8⟩:=zE (by kernel_rfl) (by kernel_rfl) (by kernel_rfl)
theorem UN:TI.ok Tryz.prog 229 ⟨.ls (.ls (.st .entry)),24,[],24⟩:=wY (u:=94) (by kernel_rfl) (by kernel_rfl) (by kernel_rfl) (by kernel_rfl) (by kernel_rfl) (by kernel_rfl) (by kernel_rfl) (by kernel_rfl)
theorem OZ:iq Tryz.prog Θ:=
 eS Wt <| eS Wu <| eS Wv <| eS Ww <| eS Wx <| eS Vt <| eS Vu <| eS Vv <| eS Vw <| eS Vx <| eS Vy <| eS Vz <| eS VA <| eS VB <| eS VD <| eS VE <| eS VF <| eS VG <| eS VH <| eS VI <| eS VJ <| eS VK <| eS VL <| eS VN <| eS VO <| eS VP <| eS VQ <| eS VS <| eS VT <| eS VU <| eS UC <| eS UD <| eS UE <| eS UF <| eS UG <| eS UH <| eS UI <| eS UJ <| eS UK <| eS UL <| eS UM <| eS UN <| S6 _
end Go.Proofs.YtjnleglhcppgcaaGreat.En
