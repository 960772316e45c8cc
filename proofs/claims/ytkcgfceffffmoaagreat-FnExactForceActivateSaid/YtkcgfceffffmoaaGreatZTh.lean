/- The seat's types (printed by wip/tools/gen_theta.py). -/
import Derived.Test.YtkcgfceffffmoaaGreatProg
import Derived.Test.YtkcgfceffffmoaaGreatZX9
namespace Go.Proofs.YtkcgfceffffmoaaGreat.En
open Go
def Θ:to:= [(2,⟨.i .i64,0,[],8⟩),
 (3,⟨.i .i64,0,[],8⟩),
 (4,⟨.b,0,[],1⟩),
 (5,⟨.i .u8,0,[],1⟩),
 (9,⟨.s,0,[],16⟩),
 (12,⟨.i .u64,0,[],8⟩),
 (21,⟨.i .i32,0,[],4⟩),
 (22,⟨.ls (.st .server),152,[],24⟩),
 (23,⟨.ls (.i .i64),8,[],24⟩),
 (24,⟨.ls (.st .config),64,[],24⟩),
 (26,⟨.st .masterLog,0,[(0,1,false),(1,1,false)],32⟩),
 (28,⟨.st .lease,0,[(0,1,false),(1,1,false),(2,1,false)],24⟩),
 (29,⟨.ls (.st .place),24,[],24⟩),
 (31,⟨.st .cluster,0,[(0,1,false),(1,1,false),(2,1,false),(3,2,true),(5,1,false),(6,3,true),(9,1,false)],144⟩),
 (34,⟨.ls (.st .server),152,[],24⟩),
 (35,⟨.ls (.st .config),64,[],24⟩),
 (37,⟨.st .masterLog,0,[(0,1,false),(1,1,false)],32⟩),
 (38,⟨.st .lease,0,[(0,1,false),(1,1,false),(2,1,false)],24⟩),
 (39,⟨.ls (.st .place),24,[],24⟩),
 (41,⟨.st .cluster,0,[(0,1,false),(1,1,false),(2,1,false),(3,2,true),(5,1,false),(6,3,true),(9,1,false)],144⟩),
 (49,⟨.ls (.st .entry),56,[],24⟩),
 (59,⟨.st .op,0,[(0,1,false),(1,1,false),(2,1,false),(3,1,false),(4,1,false),(5,1,false)],48⟩),
 (61,⟨.st .op,0,[(0,1,false),(1,1,false),(2,1,false),(3,1,false),(4,1,false),(5,1,false)],48⟩),
 (70,⟨.st .config,0,[(0,1,false),(1,1,false),(2,1,false),(3,1,false)],64⟩),
 (74,⟨.st .server,0,[(0,1,false),(1,1,false),(2,1,false),(3,1,false),(4,4,true),(8,1,false),(9,1,false),(10,1,false),(11,1,false)],152⟩),
 (98,⟨.st .entry,0,[(0,1,false),(1,6,true)],56⟩),
 (117,⟨.st .result,0,[(0,1,false),(1,1,false)],16⟩),
 (119,⟨.st .reply,0,[(0,1,false),(1,2,true),(3,1,false)],32⟩),
 (123,⟨.st .config,0,[(0,1,false),(1,1,false),(2,1,false),(3,1,false)],64⟩),
 (124,⟨.ls (.st .entry),56,[],24⟩),
 (126,⟨.st .server,0,[(0,1,false),(1,1,false),(2,1,false),(3,1,false),(4,4,true),(8,1,false),(9,1,false),(10,1,false),(11,1,false)],152⟩),
 (139,⟨.st .place,0,[(0,1,false),(1,1,false),(2,1,false)],24⟩),
 (141,⟨.st .place,0,[(0,1,false),(1,1,false),(2,1,false)],24⟩),
 (147,⟨.ls (.ls (.i .i64)),24,[],24⟩),
 (189,⟨.ls (.st .session),32,[],24⟩),
 (191,⟨.st .machine,0,[(0,1,false),(1,1,false)],48⟩),
 (200,⟨.st .entry,0,[(0,1,false),(1,6,true)],56⟩),
 (204,⟨.i .u64,0,[],8⟩),
 (212,⟨.st .session,0,[(0,1,false),(1,1,false),(2,2,true)],32⟩),
 (225,⟨.i .u32,0,[],4⟩),
 (227,⟨.i .u64,0,[],8⟩),
 (245,⟨.ls (.ls (.st .entry)),24,[],24⟩)]
theorem aea:TI.ok Tryz.prog 2 ⟨.i .i64,0,[],8⟩:=CV (by kernel_rfl) (by kernel_rfl) (by kernel_rfl)
theorem aeb:TI.ok Tryz.prog 3 ⟨.i .i64,0,[],8⟩:=CV (by kernel_rfl) (by kernel_rfl) (by kernel_rfl)
theorem aec:TI.ok Tryz.prog 4 ⟨.b,0,[],1⟩:=CV (by kernel_rfl) (by kernel_rfl) (by kernel_rfl)
theorem aed:TI.ok Tryz.prog 5 ⟨.i .u8,0,[],1⟩:=CV (by kernel_rfl) (by kernel_rfl) (by kernel_rfl)
theorem aee:TI.ok Tryz.prog 9 ⟨.s,0,[],16⟩:=CV (by kernel_rfl) (by kernel_rfl) (by kernel_rfl)
theorem adn:TI.ok Tryz.prog 12 ⟨.i .u64,0,[],8⟩:=CV (by kernel_rfl) (by kernel_rfl) (by kernel_rfl)
theorem ado:TI.ok Tryz.prog 21 ⟨.i .i32,0,[],4⟩:=CV (by kernel_rfl) (by kernel_rfl) (by kernel_rfl)
theorem adp:TI.ok Tryz.prog 22 ⟨.ls (.st .server),152,[],24⟩:=zx (u:=126) (by kernel_rfl) (by kernel_rfl) (by kernel_rfl) (by kernel_rfl) (by kernel_rfl) (by kernel_rfl) (by kernel_rfl) (by kernel_rfl)
theorem adq:TI.ok Tryz.prog 23 ⟨.ls (.i .i64),8,[],24⟩:=zx (u:=3) (by kernel_rfl) (by kernel_rfl) (by kernel_rfl) (by kernel_rfl) (by kernel_rfl) (by kernel_rfl) (by kernel_rfl) (by kernel_rfl)
theorem adr:TI.ok Tryz.prog 24 ⟨.ls (.st .config),64,[],24⟩:=zx (u:=123) (by kernel_rfl) (by kernel_rfl) (by kernel_rfl) (by kernel_rfl) (by kernel_rfl) (by kernel_rfl) (by kernel_rfl) (by kernel_rfl)
theorem ads:TI.ok Tryz.prog 26 ⟨.st .masterLog,0,[(0,1,false),(1,1,false)],32⟩:=rT (by kernel_rfl) (by kernel_rfl) (by kernel_rfl) (by kernel_rfl) (by kernel_rfl) (by kernel_rfl) (fun h=>absurd (show false=true from h) (by decide)) (fun _ xs=>km xs (by kernel_rfl))
theorem adt:TI.ok Tryz.prog 28 ⟨.st .lease,0,[(0,1,false),(1,1,false),(2,1,false)],24⟩:=rT (by kernel_rfl) (by kernel_rfl) (by kernel_rfl) (by kernel_rfl) (by kernel_rfl) (by kernel_rfl) (fun _=>⟨(by kernel_rfl),(by kernel_rfl)⟩) (fun h=>absurd (show true=false from h) (by decide))
theorem adu:TI.ok Tryz.prog 29 ⟨.ls (.st .place),24,[],24⟩:=zx (u:=141) (by kernel_rfl) (by kernel_rfl) (by kernel_rfl) (by kernel_rfl) (by kernel_rfl) (by kernel_rfl) (by kernel_rfl) (by kernel_rfl)
theorem adv:TI.ok Tryz.prog 31 ⟨.st .cluster,0,[(0,1,false),(1,1,false),(2,1,false),(3,2,true),(5,1,false),(6,3,true),(9,1,false)],144⟩:=rT (by kernel_rfl) (by kernel_rfl) (by kernel_rfl) (by kernel_rfl) (by kernel_rfl) (by kernel_rfl) (fun h=>absurd (show false=true from h) (by decide)) (fun _ xs=>km xs (by kernel_rfl))
theorem adw:TI.ok Tryz.prog 34 ⟨.ls (.st .server),152,[],24⟩:=zx (u:=74) (by kernel_rfl) (by kernel_rfl) (by kernel_rfl) (by kernel_rfl) (by kernel_rfl) (by kernel_rfl) (by kernel_rfl) (by kernel_rfl)
theorem adx:TI.ok Tryz.prog 35 ⟨.ls (.st .config),64,[],24⟩:=zx (u:=70) (by kernel_rfl) (by kernel_rfl) (by kernel_rfl) (by kernel_rfl) (by kernel_rfl) (by kernel_rfl) (by kernel_rfl) (by kernel_rfl)
theorem ady:TI.ok Tryz.prog 37 ⟨.st .masterLog,0,[(0,1,false),(1,1,false)],32⟩:=rT (by kernel_rfl) (by kernel_rfl) (by kernel_rfl) (by kernel_rfl) (by kernel_rfl) (by kernel_rfl) (fun h=>absurd (show false=true from h) (by decide)) (fun _ xs=>km xs (by kernel_rfl))
theorem adz:TI.ok Tryz.prog 38 ⟨.st .lease,0,[(0,1,false),(1,1,false),(2,1,false)],24⟩:=rT (by kernel_rfl) (by kernel_rfl) (by kernel_rfl) (by kernel_rfl) (by kernel_rfl) (by kernel_rfl) (fun _=>⟨(by kernel_rfl),(by kernel_rfl)⟩) (fun h=>absurd (show true=false from h) (by decide))
theorem adA:TI.ok Tryz.prog 39 ⟨.ls (.st .place),24,[],24⟩:=zx (u:=139) (by kernel_rfl) (by kernel_rfl) (by kernel_rfl) (by kernel_rfl) (by kernel_rfl) (by kernel_rfl) (by kernel_rfl) (by kernel_rfl)
theorem adB:TI.ok Tryz.prog 41 ⟨.st .cluster,0,[(0,1,false),(1,1,false),(2,1,false),(3,2,true),(5,1,false),(6,3,true),(9,1,false)],144⟩:=rT (by kernel_rfl) (by kernel_rfl) (by kernel_rfl) (by kernel_rfl) (by kernel_rfl) (by kernel_rfl) (fun h=>absurd (show false=true from h) (by decide)) (fun _ xs=>km xs (by kernel_rfl))
theorem adC:TI.ok Tryz.prog 49 ⟨.ls (.st .entry),56,[],24⟩:=zx (u:=98) (by kernel_rfl) (by kernel_rfl) (by kernel_rfl) (by kernel_rfl) (by kernel_rfl) (by kernel_rfl) (by kernel_rfl) (by kernel_rfl)
theorem adD:TI.ok Tryz.prog 59 ⟨.st .op,0,[(0,1,false),(1,1,false),(2,1,false),(3,1,false),(4,1,false),(5,1,false)],48⟩:=rT (by kernel_rfl) (by kernel_rfl) (by kernel_rfl) (by kernel_rfl) (by kernel_rfl) (by kernel_rfl) (fun _=>⟨(by kernel_rfl),(by kernel_rfl)⟩) (fun h=>absurd (show true=false from h) (by decide))
theorem adE:TI.ok Tryz.prog 61 ⟨.st .op,0,[(0,1,false),(1,1,false),(2,1,false),(3,1,false),(4,1,false),(5,1,false)],48⟩:=rT (by kernel_rfl) (by kernel_rfl) (by kernel_rfl) (by kernel_rfl) (by kernel_rfl) (by kernel_rfl) (fun _=>⟨(by kernel_rfl),(by kernel_rfl)⟩) (fun h=>absurd (show true=false from h) (by decide))
theorem adF:TI.ok Tryz.prog 70 ⟨.st .config,0,[(0,1,false),(1,1,false),(2,1,false),(3,1,false)],64⟩:=rT (by kernel_rfl) (by kernel_rfl) (by kernel_rfl) (by kernel_rfl) (by kernel_rfl) (by kernel_rfl) (fun h=>absurd (show false=true from h) (by decide)) (fun _ xs=>km xs (by kernel_rfl))
theorem adG:TI.ok Tryz.prog 74 ⟨.st .server,0,[(0,1,false),(1,1,false),(2,1,false),(3,1,false),(4,4,true),(8,1,false),(9,1,false),(10,1,false),(11,1,false)],152⟩:=rT (by kernel_rfl) (by kernel_rfl) (by kernel_rfl) (by kernel_rfl) (by kernel_rfl) (by kernel_rfl) (fun h=>absurd (show false=true from h) (by decide)) (fun _ xs=>km xs (by kernel_rfl))
theorem adH:TI.ok Tryz.prog 98 ⟨.st .entry,0,[(0,1,false),(1,6,true)],56⟩:=rT (by kernel_rfl) (by kernel_rfl) (by kernel_rfl) (by kernel_rfl) (by kernel_rfl) (by kernel_rfl) (fun _=>⟨(by kernel_rfl),(by kernel_rfl)⟩) (fun h=>absurd (show true=false from h) (by decide))
theorem acy:TI.ok Tryz.prog 117 ⟨.st .result,0,[(0,1,false),(1,1,false)],16⟩:=rT (by kernel_rfl) (by kernel_rfl) (by kernel_rfl) (by kernel_rfl) (by kernel_rfl) (by kernel_rfl) (fun _=>⟨(by kernel_rfl),(by kernel_rfl)⟩) (fun h=>absurd (show true=false from h) (by decide))
theorem acz:TI.ok Tryz.prog 119 ⟨.st .reply,0,[(0,1,false),(1,2,true),(3,1,false)],32⟩:=rT (by kernel_rfl) (by kernel_rfl) (by kernel_rfl) (by kernel_rfl) (by kernel_rfl) (by kernel_rfl) (fun _=>⟨(by kernel_rfl),(by kernel_rfl)⟩) (fun h=>absurd (show true=false from h) (by decide))
theorem acA:TI.ok Tryz.prog 123 ⟨.st .config,0,[(0,1,false),(1,1,false),(2,1,false),(3,1,false)],64⟩:=rT (by kernel_rfl) (by kernel_rfl) (by kernel_rfl) (by kernel_rfl) (by kernel_rfl) (by kernel_rfl) (fun h=>absurd (show false=true from h) (by decide)) (fun _ xs=>km xs (by kernel_rfl))
theorem acB:TI.ok Tryz.prog 124 ⟨.ls (.st .entry),56,[],24⟩:=zx (u:=200) (by kernel_rfl) (by kernel_rfl) (by kernel_rfl) (by kernel_rfl) (by kernel_rfl) (by kernel_rfl) (by kernel_rfl) (by kernel_rfl)
theorem acC:TI.ok Tryz.prog 126 ⟨.st .server,0,[(0,1,false),(1,1,false),(2,1,false),(3,1,false),(4,4,true),(8,1,false),(9,1,false),(10,1,false),(11,1,false)],152⟩:=rT (by kernel_rfl) (by kernel_rfl) (by kernel_rfl) (by kernel_rfl) (by kernel_rfl) (by kernel_rfl) (fun h=>absurd (show false=true from h) (by decide)) (fun _ xs=>km xs (by kernel_rfl))
theorem acD:TI.ok Tryz.prog 139 ⟨.st .place,0,[(0,1,false),(1,1,false),(2,1,false)],24⟩:=rT (by kernel_rfl) (by kernel_rfl) (by kernel_rfl) (by kernel_rfl) (by kernel_rfl) (by kernel_rfl) (fun _=>⟨(by kernel_rfl),(by kernel_rfl)⟩) (fun h=>absurd (show true=false from h) (by decide))
theorem acE:TI.ok Tryz.prog 141 ⟨.st .place,0,[(0,1,false),(1,1,false),(2,1,false)],24⟩:=rT (by kernel_rfl) (by kernel_rfl) (by kernel_rfl) (by kernel_rfl) (by kernel_rfl) (by kernel_rfl) (fun _=>⟨(by kernel_rfl),(by kernel_rfl)⟩) (fun h=>absurd (show true=false from h) (by decide))
theorem acF:TI.ok Tryz.prog 147 ⟨.ls (.ls (.i .i64)),24,[],24⟩:=zx (u:=23) (by kernel_rfl) (by kernel_rfl) (by kernel_rfl) (by kernel_rfl) (by kernel_rfl) (by kernel_rfl) (by kernel_rfl) (by kernel_rfl)
theorem acG:TI.ok Tryz.prog 189 ⟨.ls (.st .session),32,[],24⟩:=zx (u:=212) (by kernel_rfl) (by kernel_rfl) (by kernel_rfl) (by kernel_rfl) (by kernel_rfl) (by kernel_rfl) (by kernel_rfl) (by kernel_rfl)
theorem acH:TI.ok Tryz.prog 191 ⟨.st .machine,0,[(0,1,false),(1,1,false)],48⟩:=rT (by kernel_rfl) (by kernel_rfl) (by kernel_rfl) (by kernel_rfl) (by kernel_rfl) (by kernel_rfl) (fun h=>absurd (show false=true from h) (by decide)) (fun _ xs=>km xs (by kernel_rfl))
theorem acI:TI.ok Tryz.prog 200 ⟨.st .entry,0,[(0,1,false),(1,6,true)],56⟩:=rT (by kernel_rfl) (by kernel_rfl) (by kernel_rfl) (by kernel_rfl) (by kernel_rfl) (by kernel_rfl) (fun _=>⟨(by kernel_rfl),(by kernel_rfl)⟩) (fun h=>absurd (show true=false from h) (by decide))
theorem acJ:TI.ok Tryz.prog 204 ⟨.i .u64,0,[],8⟩:=CV (by kernel_rfl) (by kernel_rfl) (by kernel_rfl)
theorem acK:TI.ok Tryz.prog 212 ⟨.st .session,0,[(0,1,false),(1,1,false),(2,2,true)],32⟩:=rT (by kernel_rfl) (by kernel_rfl) (by kernel_rfl) (by kernel_rfl) (by kernel_rfl) (by kernel_rfl) (fun _=>⟨(by kernel_rfl),(by kernel_rfl)⟩) (fun h=>absurd (show true=false from h) (by decide))
theorem acL:TI.ok Tryz.prog 225 ⟨.i .u32,0,[],4⟩:=CV (by kernel_rfl) (by kernel_rfl) (by kernel_rfl)
theorem acM:TI.ok Tryz.prog 227 ⟨.i .u64,0,[],8⟩:=CV (by kernel_rfl) (by kernel_rfl) (by kernel_rfl)
theorem acN:TI.ok Tryz.prog 245 ⟨.ls (.ls (.st .entry)),24,[],24⟩:=zx (u:=49) (by kernel_rfl) (by kernel_rfl) (by kernel_rfl) (by kernel_rfl) (by kernel_rfl) (by kernel_rfl) (by kernel_rfl) (by kernel_rfl)
theorem aG:fk Tryz.prog Θ:=
 bK aea <| bK aeb <| bK aec <| bK aed <| bK aee <| bK adn <| bK ado <| bK adp <| bK adq <| bK adr <| bK ads <| bK adt <| bK adu <| bK adv <| bK adw <| bK adx <| bK ady <| bK adz <| bK adA <| bK adB <| bK adC <| bK adD <| bK adE <| bK adF <| bK adG <| bK adH <| bK acy <| bK acz <| bK acA <| bK acB <| bK acC <| bK acD <| bK acE <| bK acF <| bK acG <| bK acH <| bK acI <| bK acJ <| bK acK <| bK acL <| bK acM <| bK acN <| abl _
end Go.Proofs.YtkcgfceffffmoaaGreat.En
