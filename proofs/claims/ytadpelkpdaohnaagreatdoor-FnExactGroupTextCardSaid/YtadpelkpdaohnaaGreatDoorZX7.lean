import Derived.Test.YtadpelkpdaohnaaGreatDoorZX6
namespace Go.Proofs.YtadpelkpdaohnaaGreatDoor.En
section
open Go
structure Op where
 client:Int
 seq:Int
 kind:Int
 object:Int
 old:Int
 value:Int
 deriving DecidableEq,Inhabited
structure Result where
 done:Bool
 value:Int
 deriving DecidableEq,Inhabited
structure t8 where
 client:Int
 seq:Int
 result:Result
 deriving DecidableEq,Inhabited
structure ua where
 objects:List Int
 sessions:List t8
 deriving DecidableEq,Inhabited
structure fO where
 epoch:Int
 op:Op
 deriving DecidableEq,Inhabited
structure uT where
 count:Int
 digest:Int
 machine:ua
 deriving DecidableEq,Inhabited
structure dM where
 epoch:Int
 primary:Int
 replicas:List Int
 witnesses:List Int
 deriving DecidableEq,Inhabited
structure fZ where
 rack:Int
 capacity:Int
 load:Int
 deriving DecidableEq,Inhabited
structure ec where
 configs:List dM
 activated:Int
 deriving DecidableEq,Inhabited
structure mF where
 epoch:Int
 holder:Int
 ends:Int
 deriving DecidableEq,Inhabited
structure eL where
 up:Bool
 intact:Bool
 version:Int
 epoch:Int
 config:dM
 first:Int
 log:List fO
 commit:Int
 learned:List fO
 deriving DecidableEq,Inhabited
structure dX where
 now:Int
 servers:List eL
 sides:List Int
 master:ec
 masterUp:Int
 lease:mF
 places:List fZ
 deriving DecidableEq,Inhabited
structure Fp where
 code:Int
 result:Result
 index:Int
 deriving DecidableEq,Inhabited
structure KP where
 op:Op
 index:Int
 deriving DecidableEq,Inhabited
structure Fq where
 kind:Int
 server:Int
 other:Int
 n:Int
 op:Op
 deriving DecidableEq,Inhabited
structure B0 where
 server:Int
 index:Int
 deriving DecidableEq,Inhabited
structure IX where
 start:Int
 event:Int
 read:Bool
 index:Int
 value:Int
 op:Op
 deriving DecidableEq,Inhabited
inductive Sn where
 |op|result|session|machine|entry|snapshot|config|place|masterLog|lease|server|cluster|reply|ack|event|damage|mark
 deriving DecidableEq,Inhabited
abbrev Sn.D:Sn->Type
 | .op=>Op
 | .result=>Result
 | .session=>t8
 | .machine=>ua
 | .entry=>fO
 | .snapshot=>uT
 | .config=>dM
 | .place=>fZ
 | .masterLog=>ec
 | .lease=>mF
 | .server=>eL
 | .cluster=>dX
 | .reply=>Fp
 | .ack=>KP
 | .event=>Fq
 | .damage=>B0
 | .mark=>IX
inductive Ty where|i (k:IntKind)|b|s|st (n:Sn)|ls (t:Ty)
 deriving DecidableEq,Inhabited
abbrev Ty.D:Ty->Type
 | .i _=>Int| .b=>Bool| .s=>ByteArray| .st n=>n.D| .ls t=>List t.D
inductive C where|sc (v:Value)|ls (t:Ty) (l:List t.D)
 deriving Inhabited
def Sn.flat: (n:Sn)->n.D->List C
 | .op,x=> [.sc (.int .i64 x.client), .sc (.int .i64 x.seq), .sc (.int .i64 x.kind), .sc (.int .i64 x.object), .sc (.int .i64 x.old), .sc (.int .i64 x.value)]
 | .result,x=> [.sc (.bool x.done), .sc (.int .i64 x.value)]
 | .session,x=> [.sc (.int .i64 x.client), .sc (.int .i64 x.seq), .sc (.bool x.result.done), .sc (.int .i64 x.result.value)]
 | .machine,x=> [.ls (.i .i64) x.objects, .ls (.st .session) x.sessions]
 | .entry,x=> [.sc (.int .i64 x.epoch), .sc (.int .i64 x.op.client), .sc (.int .i64 x.op.seq), .sc (.int .i64 x.op.kind), .sc (.int .i64 x.op.object), .sc (.int .i64 x.op.old), .sc (.int .i64 x.op.value)]
 | .snapshot,x=> [.sc (.int .i64 x.count), .sc (.int .i64 x.digest), .ls (.i .i64) x.machine.objects, .ls (.st .session) x.machine.sessions]
 | .config,x=> [.sc (.int .i64 x.epoch), .sc (.int .i64 x.primary), .ls (.i .i64) x.replicas, .ls (.i .i64) x.witnesses]
 | .place,x=> [.sc (.int .i64 x.rack), .sc (.int .i64 x.capacity), .sc (.int .i64 x.load)]
 | .masterLog,x=> [.ls (.st .config) x.configs, .sc (.int .i64 x.activated)]
 | .lease,x=> [.sc (.int .i64 x.epoch), .sc (.int .i64 x.holder), .sc (.int .i64 x.ends)]
 | .server,x=> [.sc (.bool x.up), .sc (.bool x.intact), .sc (.int .i64 x.version), .sc (.int .i64 x.epoch), .sc (.int .i64 x.config.epoch), .sc (.int .i64 x.config.primary), .ls (.i .i64) x.config.replicas, .ls (.i .i64) x.config.witnesses, .sc (.int .i64 x.first), .ls (.st .entry) x.log, .sc (.int .i64 x.commit), .ls (.st .entry) x.learned]
 | .cluster,x=> [.sc (.int .i64 x.now), .ls (.st .server) x.servers, .ls (.i .i64) x.sides, .ls (.st .config) x.master.configs, .sc (.int .i64 x.master.activated), .sc (.int .i64 x.masterUp), .sc (.int .i64 x.lease.epoch), .sc (.int .i64 x.lease.holder), .sc (.int .i64 x.lease.ends), .ls (.st .place) x.places]
 | .reply,x=> [.sc (.int .i64 x.code), .sc (.bool x.result.done), .sc (.int .i64 x.result.value), .sc (.int .i64 x.index)]
 | .ack,x=> [.sc (.int .i64 x.op.client), .sc (.int .i64 x.op.seq), .sc (.int .i64 x.op.kind), .sc (.int .i64 x.op.object), .sc (.int .i64 x.op.old), .sc (.int .i64 x.op.value), .sc (.int .i64 x.index)]
 | .event,x=> [.sc (.int .i64 x.kind), .sc (.int .i64 x.server), .sc (.int .i64 x.other), .sc (.int .i64 x.n), .sc (.int .i64 x.op.client), .sc (.int .i64 x.op.seq), .sc (.int .i64 x.op.kind), .sc (.int .i64 x.op.object), .sc (.int .i64 x.op.old), .sc (.int .i64 x.op.value)]
 | .damage,x=> [.sc (.int .i64 x.server), .sc (.int .i64 x.index)]
 | .mark,x=> [.sc (.int .i64 x.start), .sc (.int .i64 x.event), .sc (.bool x.read), .sc (.int .i64 x.index), .sc (.int .i64 x.value), .sc (.int .i64 x.op.client), .sc (.int .i64 x.op.seq), .sc (.int .i64 x.op.kind), .sc (.int .i64 x.op.object), .sc (.int .i64 x.op.old), .sc (.int .i64 x.op.value)]
def Ty.flat: (t:Ty)->t.D->List C
 | .i k,n=> [.sc (.int k n)] | .b,v=> [.sc (.bool v)] | .s,v=> [.sc (.string v)] | .st n,x=>n.flat x| .ls t,l=> [.ls t l]
def Sn.width:Sn->Nat
 | .op=>6| .result=>2| .session=>4| .machine=>2| .entry=>7| .snapshot=>4| .config=>4| .place=>3| .masterLog=>2| .lease=>3| .server=>12| .cluster=>10| .reply=>4| .ack=>7| .event=>10| .damage=>2| .mark=>11
def Ty.width:Ty->Nat| .st n=>n.width| _=>1
def Sn.csh:Sn->List (Option Ty)
 | .op=> [none,none,none,none,none,none]
 | .result=> [none,none]
 | .session=> [none,none,none,none]
 | .machine=> [some (.i .i64),some (.st .session)]
 | .entry=> [none,none,none,none,none,none,none]
 | .snapshot=> [none,none,some (.i .i64),some (.st .session)]
 | .config=> [none,none,some (.i .i64),some (.i .i64)]
 | .place=> [none,none,none]
 | .masterLog=> [some (.st .config),none]
 | .lease=> [none,none,none]
 | .server=> [none,none,none,none,none,none,some (.i .i64),some (.i .i64),none,some (.st .entry),none,some (.st .entry)]
 | .cluster=> [none,some (.st .server),some (.i .i64),some (.st .config),none,none,none,none,none,some (.st .place)]
 | .reply=> [none,none,none,none]
 | .ack=> [none,none,none,none,none,none,none]
 | .event=> [none,none,none,none,none,none,none,none,none,none]
 | .damage=> [none,none]
 | .mark=> [none,none,none,none,none,none,none,none,none,none,none]
def Ty.csh:Ty->List (Option Ty)| .st n=>n.csh| .ls t=> [some t] | _=> [none]
def Sn.zvs:Sn->List Value
 | .op=> [.int .i64 0, .int .i64 0, .int .i64 0, .int .i64 0, .int .i64 0, .int .i64 0]
 | .result=> [.bool false, .int .i64 0]
 | .session=> [.int .i64 0, .int .i64 0, .bool false, .int .i64 0]
 | .machine=> [.slice none 0 0, .slice none 0 0]
 | .entry=> [.int .i64 0, .int .i64 0, .int .i64 0, .int .i64 0, .int .i64 0, .int .i64 0, .int .i64 0]
 | .snapshot=> [.int .i64 0, .int .i64 0, .slice none 0 0, .slice none 0 0]
 | .config=> [.int .i64 0, .int .i64 0, .slice none 0 0, .slice none 0 0]
 | .place=> [.int .i64 0, .int .i64 0, .int .i64 0]
 | .masterLog=> [.slice none 0 0, .int .i64 0]
 | .lease=> [.int .i64 0, .int .i64 0, .int .i64 0]
 | .server=> [.bool false, .bool false, .int .i64 0, .int .i64 0, .int .i64 0, .int .i64 0, .slice none 0 0, .slice none 0 0, .int .i64 0, .slice none 0 0, .int .i64 0, .slice none 0 0]
 | .cluster=> [.int .i64 0, .slice none 0 0, .slice none 0 0, .slice none 0 0, .int .i64 0, .int .i64 0, .int .i64 0, .int .i64 0, .int .i64 0, .slice none 0 0]
 | .reply=> [.int .i64 0, .bool false, .int .i64 0, .int .i64 0]
 | .ack=> [.int .i64 0, .int .i64 0, .int .i64 0, .int .i64 0, .int .i64 0, .int .i64 0, .int .i64 0]
 | .event=> [.int .i64 0, .int .i64 0, .int .i64 0, .int .i64 0, .int .i64 0, .int .i64 0, .int .i64 0, .int .i64 0, .int .i64 0, .int .i64 0]
 | .damage=> [.int .i64 0, .int .i64 0]
 | .mark=> [.int .i64 0, .int .i64 0, .bool false, .int .i64 0, .int .i64 0, .int .i64 0, .int .i64 0, .int .i64 0, .int .i64 0, .int .i64 0, .int .i64 0]
def Ty.zvs:Ty->List Value| .i k=> [.int k 0] | .b=> [.bool false] | .s=> [.string ByteArray.empty] | .st n=>n.zvs| .ls _=> [.slice none 0 0]
def gI (k:IntKind) {α:Type} (cs:List C) (f:Int->List C->Option α):Option α:=match cs with | .sc (.int k' n)::r=>if k'=k then f n r else none| _=>none
def gB {α:Type} (cs:List C) (f:Bool->List C->Option α):Option α:=match cs with | .sc (.bool v)::r=>f v r| _=>none
def gS {α:Type} (cs:List C) (f:ByteArray->List C->Option α):Option α:=match cs with | .sc (.string v)::r=>f v r| _=>none
def gL (t:Ty) {α:Type} (cs:List C) (f:List t.D->List C->Option α):Option α:=match cs with | .ls t' l::r=>if h:t'=t then f (h ▸ l) r else none| _=>none
def gN {α:Type} (cs:List C) (x:α):Option α:=match cs with | [] =>some x| _=>none
def Sn.unflat: (n:Sn)->List C->Option n.D
 | .op,cs=>gI .i64 cs fun a0 r0=>gI .i64 r0 fun a1 r1=>gI .i64 r1 fun a2 r2=>gI .i64 r2 fun a3 r3=>gI .i64 r3 fun a4 r4=>gI .i64 r4 fun a5 r5=>gN r5 (⟨a0,a1,a2,a3,a4,a5⟩:Op)
 | .result,cs=>gB cs fun a0 r0=>gI .i64 r0 fun a1 r1=>gN r1 (⟨a0,a1⟩:Result)
 | .session,cs=>gI .i64 cs fun a0 r0=>gI .i64 r0 fun a1 r1=>gB r1 fun a2 r2=>gI .i64 r2 fun a3 r3=>gN r3 (⟨a0,a1,⟨a2,a3⟩⟩:t8)
 | .machine,cs=>gL (.i .i64) cs fun a0 r0=>gL (.st .session) r0 fun a1 r1=>gN r1 (⟨a0,a1⟩:ua)
 | .entry,cs=>gI .i64 cs fun a0 r0=>gI .i64 r0 fun a1 r1=>gI .i64 r1 fun a2 r2=>gI .i64 r2 fun a3 r3=>gI .i64 r3 fun a4 r4=>gI .i64 r4 fun a5 r5=>gI .i64 r5 fun a6 r6=>gN r6 (⟨a0,⟨a1,a2,a3,a4,a5,a6⟩⟩:fO)
 | .snapshot,cs=>gI .i64 cs fun a0 r0=>gI .i64 r0 fun a1 r1=>gL (.i .i64) r1 fun a2 r2=>gL (.st .session) r2 fun a3 r3=>gN r3 (⟨a0,a1,⟨a2,a3⟩⟩:uT)
 | .config,cs=>gI .i64 cs fun a0 r0=>gI .i64 r0 fun a1 r1=>gL (.i .i64) r1 fun a2 r2=>gL (.i .i64) r2 fun a3 r3=>gN r3 (⟨a0,a1,a2,a3⟩:dM)
 | .place,cs=>gI .i64 cs fun a0 r0=>gI .i64 r0 fun a1 r1=>gI .i64 r1 fun a2 r2=>gN r2 (⟨a0,a1,a2⟩:fZ)
 | .masterLog,cs=>gL (.st .config) cs fun a0 r0=>gI .i64 r0 fun a1 r1=>gN r1 (⟨a0,a1⟩:ec)
 | .lease,cs=>gI .i64 cs fun a0 r0=>gI .i64 r0 fun a1 r1=>gI .i64 r1 fun a2 r2=>gN r2 (⟨a0,a1,a2⟩:mF)
 | .server,cs=>gB cs fun a0 r0=>gB r0 fun a1 r1=>gI .i64 r1 fun a2 r2=>gI .i64 r2 fun a3 r3=>gI .i64 r3 fun a4 r4=>gI .i64 r4 fun a5 r5=>gL (.i .i64) r5 fun a6 r6=>gL (.i .i64) r6 fun a7 r7=>gI .i64 r7 fun a8 r8=>gL (.st .entry) r8 fun a9 r9=>gI .i64 r9 fun a10 r10=>gL (.st .entry) r10 fun a11 r11=>gN r11 (⟨a0,a1,a2,a3,⟨a4,a5,a6,a7⟩,a8,a9,a10,a11⟩:eL)
 | .cluster,cs=>gI .i64 cs fun a0 r0=>gL (.st .server) r0 fun a1 r1=>gL (.i .i64) r1 fun a2 r2=>gL (.st .config) r2 fun a3 r3=>gI .i64 r3 fun a4 r4=>gI .i64 r4 fun a5 r5=>gI .i64 r5 fun a6 r6=>gI .i64 r6 fun a7 r7=>gI .i64 r7 fun a8 r8=>gL (.st .place) r8 fun a9 r9=>gN r9 (⟨a0,a1,a2,⟨a3,a4⟩,a5,⟨a6,a7,a8⟩,a9⟩:dX)
 | .reply,cs=>gI .i64 cs fun a0 r0=>gB r0 fun a1 r1=>gI .i64 r1 fun a2 r2=>gI .i64 r2 fun a3 r3=>gN r3 (⟨a0,⟨a1,a2⟩,a3⟩:Fp)
 | .ack,cs=>gI .i64 cs fun a0 r0=>gI .i64 r0 fun a1 r1=>gI .i64 r1 fun a2 r2=>gI .i64 r2 fun a3 r3=>gI .i64 r3 fun a4 r4=>gI .i64 r4 fun a5 r5=>gI .i64 r5 fun a6 r6=>gN r6 (⟨⟨a0,a1,a2,a3,a4,a5⟩,a6⟩:KP)
 | .event,cs=>gI .i64 cs fun a0 r0=>gI .i64 r0 fun a1 r1=>gI .i64 r1 fun a2 r2=>gI .i64 r2 fun a3 r3=>gI .i64 r3 fun a4 r4=>gI .i64 r4 fun a5 r5=>gI .i64 r5 fun a6 r6=>gI .i64 r6 fun a7 r7=>gI .i64 r7 fun a8 r8=>gI .i64 r8 fun a9 r9=>gN r9 (⟨a0,a1,a2,a3,⟨a4,a5,a6,a7,a8,a9⟩⟩:Fq)
 | .damage,cs=>gI .i64 cs fun a0 r0=>gI .i64 r0 fun a1 r1=>gN r1 (⟨a0,a1⟩:B0)
 | .mark,cs=>gI .i64 cs fun a0 r0=>gI .i64 r0 fun a1 r1=>gB r1 fun a2 r2=>gI .i64 r2 fun a3 r3=>gI .i64 r3 fun a4 r4=>gI .i64 r4 fun a5 r5=>gI .i64 r5 fun a6 r6=>gI .i64 r6 fun a7 r7=>gI .i64 r7 fun a8 r8=>gI .i64 r8 fun a9 r9=>gI .i64 r9 fun a10 r10=>gN r10 (⟨a0,a1,a2,a3,a4,⟨a5,a6,a7,a8,a9,a10⟩⟩:IX)
def Ty.unflat: (t:Ty)->List C->Option t.D
 | .i k,cs=>gI k cs fun n r=>gN r n| .b,cs=>gB cs fun n r=>gN r n| .s,cs=>gS cs fun n r=>gN r n| .st n,cs=>n.unflat cs| .ls t,cs=>gL t cs fun l r=>gN r l
def JL (x:Op):List T:= [.sc (.int .i64 x.client), .sc (.int .i64 x.seq), .sc (.int .i64 x.kind), .sc (.int .i64 x.object), .sc (.int .i64 x.old), .sc (.int .i64 x.value)]
def DZ (x:Result):List T:= [.sc (.bool x.done), .sc (.int .i64 x.value)]
def qQ (x:t8):List T:= [.sc (.int .i64 x.client), .sc (.int .i64 x.seq), .sc (.bool x.result.done), .sc (.int .i64 x.result.value)]
def B3 (x:ua):List T:= [.sl 1 (x.objects.map fun n=> [.sc (.int .i64 n)]), .sl 4 (x.sessions.map qQ)]
def uU (x:fO):List T:= [.sc (.int .i64 x.epoch), .sc (.int .i64 x.op.client), .sc (.int .i64 x.op.seq), .sc (.int .i64 x.op.kind), .sc (.int .i64 x.op.object), .sc (.int .i64 x.op.old), .sc (.int .i64 x.op.value)]
def z8 (x:uT):List T:= [.sc (.int .i64 x.count), .sc (.int .i64 x.digest), .sl 1 (x.machine.objects.map fun n=> [.sc (.int .i64 n)]), .sl 4 (x.machine.sessions.map qQ)]
def n5 (x:dM):List T:= [.sc (.int .i64 x.epoch), .sc (.int .i64 x.primary), .sl 1 (x.replicas.map fun n=> [.sc (.int .i64 n)]), .sl 1 (x.witnesses.map fun n=> [.sc (.int .i64 n)])]
def Aa (x:fZ):List T:= [.sc (.int .i64 x.rack), .sc (.int .i64 x.capacity), .sc (.int .i64 x.load)]
def ye (x:ec):List T:= [.sl 4 (x.configs.map n5), .sc (.int .i64 x.activated)]
def Fr (x:mF):List T:= [.sc (.int .i64 x.epoch), .sc (.int .i64 x.holder), .sc (.int .i64 x.ends)]
def xd (x:eL):List T:= [.sc (.bool x.up), .sc (.bool x.intact), .sc (.int .i64 x.version), .sc (.int .i64 x.epoch), .sc (.int .i64 x.config.epoch), .sc (.int .i64 x.config.primary), .sl 1 (x.config.replicas.map fun n=> [.sc (.int .i64 n)]), .sl 1 (x.config.witnesses.map fun n=> [.sc (.int .i64 n)]), .sc (.int .i64 x.first), .sl 7 (x.log.map uU), .sc (.int .i64 x.commit), .sl 7 (x.learned.map uU)]
def B4 (x:dX):List T:= [.sc (.int .i64 x.now), .sl 12 (x.servers.map xd), .sl 1 (x.sides.map fun n=> [.sc (.int .i64 n)]), .sl 4 (x.master.configs.map n5), .sc (.int .i64 x.master.activated), .sc (.int .i64 x.masterUp), .sc (.int .i64 x.lease.epoch), .sc (.int .i64 x.lease.holder), .sc (.int .i64 x.lease.ends), .sl 3 (x.places.map Aa)]
def Fs (x:Fp):List T:= [.sc (.int .i64 x.code), .sc (.bool x.result.done), .sc (.int .i64 x.result.value), .sc (.int .i64 x.index)]
def IY (x:KP):List T:= [.sc (.int .i64 x.op.client), .sc (.int .i64 x.op.seq), .sc (.int .i64 x.op.kind), .sc (.int .i64 x.op.object), .sc (.int .i64 x.op.old), .sc (.int .i64 x.op.value), .sc (.int .i64 x.index)]
def Ft (x:Fq):List T:= [.sc (.int .i64 x.kind), .sc (.int .i64 x.server), .sc (.int .i64 x.other), .sc (.int .i64 x.n), .sc (.int .i64 x.op.client), .sc (.int .i64 x.op.seq), .sc (.int .i64 x.op.kind), .sc (.int .i64 x.op.object), .sc (.int .i64 x.op.old), .sc (.int .i64 x.op.value)]
def D0 (x:B0):List T:= [.sc (.int .i64 x.server), .sc (.int .i64 x.index)]
def G9 (x:IX):List T:= [.sc (.int .i64 x.start), .sc (.int .i64 x.event), .sc (.bool x.read), .sc (.int .i64 x.index), .sc (.int .i64 x.value), .sc (.int .i64 x.op.client), .sc (.int .i64 x.op.seq), .sc (.int .i64 x.op.kind), .sc (.int .i64 x.op.object), .sc (.int .i64 x.op.old), .sc (.int .i64 x.op.value)]
def Sn.row: (n:Sn)->n.D->List T
 | .op,x=>JL x
 | .result,x=>DZ x
 | .session,x=>qQ x
 | .machine,x=>B3 x
 | .entry,x=>uU x
 | .snapshot,x=>z8 x
 | .config,x=>n5 x
 | .place,x=>Aa x
 | .masterLog,x=>ye x
 | .lease,x=>Fr x
 | .server,x=>xd x
 | .cluster,x=>B4 x
 | .reply,x=>Fs x
 | .ack,x=>IY x
 | .event,x=>Ft x
 | .damage,x=>D0 x
 | .mark,x=>G9 x
def Ty.row: (t:Ty)->t.D->List T
 | .i k,n=> [.sc (.int k n)] | .b,v=> [.sc (.bool v)] | .s,v=> [.sc (.string v)] | .st n,x=>n.row x| .ls t,l=> [.sl t.width (l.map t.row)]
def C.tree:C->T| .sc v=> .sc v| .ls t l=> .sl t.width (l.map t.row)
def C.good:C->Bool| .sc v=>kt v| .ls _ _=>true
theorem Ty.row_flat (t:Ty) (x:t.D):t.row x=(t.flat x).map C.tree:=by
 cases t with
 |st n=>cases n<;>rfl
 | _=>rfl
theorem Ty.flat_length (t:Ty) (x:t.D): (t.flat x).length=t.width:=by
 cases t with
 |st n=>cases n<;>rfl
 | _=>rfl
theorem Ty.row_length (t:Ty) (x:t.D): (t.row x).length=t.width:=by rw[t.row_flat,aB,t.flat_length]
theorem dK {k:IntKind} {α:Type} {cs:List C} {f:Int->List C->Option α} {y:α} (h:gI k cs f=some y): ∃n r,cs= .sc (.int k n)::r/\f n r=some y:=by
 unfold gI at h;split at h
 ·split at h
  ·rename_i hk; subst hk; exact⟨_,_,rfl,h⟩
  ·cases h
 ·cases h
theorem oE {α:Type} {cs:List C} {f:Bool->List C->Option α} {y:α} (h:gB cs f=some y): ∃n r,cs= .sc (.bool n)::r/\f n r=some y:=by
 unfold gB at h;split at h
 ·exact⟨_,_,rfl,h⟩
 ·cases h
theorem Ha {α:Type} {cs:List C} {f:ByteArray->List C->Option α} {y:α} (h:gS cs f=some y): ∃n r,cs= .sc (.string n)::r/\f n r=some y:=by
 unfold gS at h;split at h
 ·exact⟨_,_,rfl,h⟩
 ·cases h
theorem ic {t:Ty} {α:Type} {cs:List C} {f:List t.D->List C->Option α} {y:α} (h:gL t cs f=some y): ∃n r,cs= .ls t n::r/\f n r=some y:=by
 unfold gL at h;split at h
 ·split at h
  ·rename_i hk; subst hk; exact⟨_,_,rfl,h⟩
  ·cases h
 ·cases h
theorem fM {α:Type} {cs:List C} {x y:α} (h:gN cs x=some y):cs= [] /\x=y:=by
 unfold gN at h;split at h
 ·simp only[ae] at h; exact⟨rfl,h⟩
 ·cases h
theorem Sn.unflat_some: ∀ (n:Sn) (cs:List C) (x:n.D),n.unflat cs=some x->n.flat x=cs
 | .op,cs,x,h=>by unfold Sn.unflat at h;obtain⟨a0,r0,h0,h⟩:=dK h;obtain⟨a1,r1,h1,h⟩:=dK h;obtain⟨a2,r2,h2,h⟩:=dK h;obtain⟨a3,r3,h3,h⟩:=dK h;obtain⟨a4,r4,h4,h⟩:=dK h;obtain⟨a5,r5,h5,h⟩:=dK h;obtain⟨e,h⟩:=fM h;subst h e h5 h4 h3 h2 h1 h0;rfl
 | .result,cs,x,h=>by unfold Sn.unflat at h;obtain⟨a0,r0,h0,h⟩:=oE h;obtain⟨a1,r1,h1,h⟩:=dK h;obtain⟨e,h⟩:=fM h;subst h e h1 h0;rfl
 | .session,cs,x,h=>by unfold Sn.unflat at h;obtain⟨a0,r0,h0,h⟩:=dK h;obtain⟨a1,r1,h1,h⟩:=dK h;obtain⟨a2,r2,h2,h⟩:=oE h;obtain⟨a3,r3,h3,h⟩:=dK h;obtain⟨e,h⟩:=fM h;subst h e h3 h2 h1 h0;rfl
 | .machine,cs,x,h=>by unfold Sn.unflat at h;obtain⟨a0,r0,h0,h⟩:=ic h;obtain⟨a1,r1,h1,h⟩:=ic h;obtain⟨e,h⟩:=fM h;subst h e h1 h0;rfl
 | .entry,cs,x,h=>by unfold Sn.unflat at h;obtain⟨a0,r0,h0,h⟩:=dK h;obtain⟨a1,r1,h1,h⟩:=dK h;obtain⟨a2,r2,h2,h⟩:=dK h;obtain⟨a3,r3,h3,h⟩:=dK h;obtain⟨a4,r4,h4,h⟩:=dK h;obtain⟨a5,r5,h5,h⟩:=dK h;obtain⟨a6,r6,h6,h⟩:=dK h;obtain⟨e,h⟩:=fM h;subst h e h6 h5 h4 h3 h2 h1 h0;rfl
 | .snapshot,cs,x,h=>by unfold Sn.unflat at h;obtain⟨a0,r0,h0,h⟩:=dK h;obtain⟨a1,r1,h1,h⟩:=dK h;obtain⟨a2,r2,h2,h⟩:=ic h;obtain⟨a3,r3,h3,h⟩:=ic h;obtain⟨e,h⟩:=fM h;subst h e h3 h2 h1 h0;rfl
 | .config,cs,x,h=>by unfold Sn.unflat at h;obtain⟨a0,r0,h0,h⟩:=dK h;obtain⟨a1,r1,h1,h⟩:=dK h;obtain⟨a2,r2,h2,h⟩:=ic h;obtain⟨a3,r3,h3,h⟩:=ic h;obtain⟨e,h⟩:=fM h;subst h e h3 h2 h1 h0;rfl
 | .place,cs,x,h=>by unfold Sn.unflat at h;obtain⟨a0,r0,h0,h⟩:=dK h;obtain⟨a1,r1,h1,h⟩:=dK h;obtain⟨a2,r2,h2,h⟩:=dK h;obtain⟨e,h⟩:=fM h;subst h e h2 h1 h0;rfl
 | .masterLog,cs,x,h=>by unfold Sn.unflat at h;obtain⟨a0,r0,h0,h⟩:=ic h;obtain⟨a1,r1,h1,h⟩:=dK h;obtain⟨e,h⟩:=fM h;subst h e h1 h0;rfl
 | .lease,cs,x,h=>by unfold Sn.unflat at h;obtain⟨a0,r0,h0,h⟩:=dK h;obtain⟨a1,r1,h1,h⟩:=dK h;obtain⟨a2,r2,h2,h⟩:=dK h;obtain⟨e,h⟩:=fM h;subst h e h2 h1 h0;rfl
 | .server,cs,x,h=>by unfold Sn.unflat at h;obtain⟨a0,r0,h0,h⟩:=oE h;obtain⟨a1,r1,h1,h⟩:=oE h;obtain⟨a2,r2,h2,h⟩:=dK h;obtain⟨a3,r3,h3,h⟩:=dK h;obtain⟨a4,r4,h4,h⟩:=dK h;obtain⟨a5,r5,h5,h⟩:=dK h;obtain⟨a6,r6,h6,h⟩:=ic h;obtain⟨a7,r7,h7,h⟩:=ic h;obtain⟨a8,r8,h8,h⟩:=dK h;obtain⟨a9,r9,h9,h⟩:=ic h;obtain⟨a10,r10,h10,h⟩:=dK h;obtain⟨a11,r11,h11,h⟩:=ic h;obtain⟨e,h⟩:=fM h;subst h e h11 h10 h9 h8 h7 h6 h5 h4 h3 h2 h1 h0;rfl
 | .cluster,cs,x,h=>by unfold Sn.unflat at h;obtain⟨a0,r0,h0,h⟩:=dK h;obtain⟨a1,r1,h1,h⟩:=ic h;obtain⟨a2,r2,h2,h⟩:=ic h;obtain⟨a3,r3,h3,h⟩:=ic h;obtain⟨a4,r4,h4,h⟩:=dK h;obtain⟨a5,r5,h5,h⟩:=dK h;obtain⟨a6,r6,h6,h⟩:=dK h;obtain⟨a7,r7,h7,h⟩:=dK h;obtain⟨a8,r8,h8,h⟩:=dK h;obtain⟨a9,r9,h9,h⟩:=ic h;obtain⟨e,h⟩:=fM h;subst h e h9 h8 h7 h6 h5 h4 h3 h2 h1 h0;rfl
 | .reply,cs,x,h=>by unfold Sn.unflat at h;obtain⟨a0,r0,h0,h⟩:=dK h;obtain⟨a1,r1,h1,h⟩:=oE h;obtain⟨a2,r2,h2,h⟩:=dK h;obtain⟨a3,r3,h3,h⟩:=dK h;obtain⟨e,h⟩:=fM h;subst h e h3 h2 h1 h0;rfl
 | .ack,cs,x,h=>by unfold Sn.unflat at h;obtain⟨a0,r0,h0,h⟩:=dK h;obtain⟨a1,r1,h1,h⟩:=dK h;obtain⟨a2,r2,h2,h⟩:=dK h;obtain⟨a3,r3,h3,h⟩:=dK h;obtain⟨a4,r4,h4,h⟩:=dK h;obtain⟨a5,r5,h5,h⟩:=dK h;obtain⟨a6,r6,h6,h⟩:=dK h;obtain⟨e,h⟩:=fM h;subst h e h6 h5 h4 h3 h2 h1 h0;rfl
 | .event,cs,x,h=>by unfold Sn.unflat at h;obtain⟨a0,r0,h0,h⟩:=dK h;obtain⟨a1,r1,h1,h⟩:=dK h;obtain⟨a2,r2,h2,h⟩:=dK h;obtain⟨a3,r3,h3,h⟩:=dK h;obtain⟨a4,r4,h4,h⟩:=dK h;obtain⟨a5,r5,h5,h⟩:=dK h;obtain⟨a6,r6,h6,h⟩:=dK h;obtain⟨a7,r7,h7,h⟩:=dK h;obtain⟨a8,r8,h8,h⟩:=dK h;obtain⟨a9,r9,h9,h⟩:=dK h;obtain⟨e,h⟩:=fM h;subst h e h9 h8 h7 h6 h5 h4 h3 h2 h1 h0;rfl
 | .damage,cs,x,h=>by unfold Sn.unflat at h;obtain⟨a0,r0,h0,h⟩:=dK h;obtain⟨a1,r1,h1,h⟩:=dK h;obtain⟨e,h⟩:=fM h;subst h e h1 h0;rfl
 | .mark,cs,x,h=>by unfold Sn.unflat at h;obtain⟨a0,r0,h0,h⟩:=dK h;obtain⟨a1,r1,h1,h⟩:=dK h;obtain⟨a2,r2,h2,h⟩:=oE h;obtain⟨a3,r3,h3,h⟩:=dK h;obtain⟨a4,r4,h4,h⟩:=dK h;obtain⟨a5,r5,h5,h⟩:=dK h;obtain⟨a6,r6,h6,h⟩:=dK h;obtain⟨a7,r7,h7,h⟩:=dK h;obtain⟨a8,r8,h8,h⟩:=dK h;obtain⟨a9,r9,h9,h⟩:=dK h;obtain⟨a10,r10,h10,h⟩:=dK h;obtain⟨e,h⟩:=fM h;subst h e h10 h9 h8 h7 h6 h5 h4 h3 h2 h1 h0;rfl
theorem Ty.unflat_some (t:Ty) (cs:List C) (x:t.D) (h:t.unflat cs=some x):t.flat x=cs:=by
 cases t with
 |i k=>obtain⟨n,r,h1,h⟩:=dK h; obtain⟨h2,h⟩:=fM h; subst h h2 h1; rfl
 |b=>obtain⟨n,r,h1,h⟩:=oE h; obtain⟨h2,h⟩:=fM h; subst h h2 h1; rfl
 |s=>obtain⟨n,r,h1,h⟩:=Ha h; obtain⟨h2,h⟩:=fM h; subst h h2 h1; rfl
 |st n=>exact n.unflat_some cs x h
 |ls t=>have h:gL t cs (fun l r=>gN r l)=some x:=h; obtain⟨n,r,h1,h⟩:=ic h; obtain⟨h2,h⟩:=fM h; subst h h2 h1; rfl
end
section
open Go
inductive Cl where
 |c (x:C)
 |em
 |own (p:eb) (sz lo len:Nat) (w:Bool)
 |pro (cs:List C)
 |ptrB (n j:Nat)
 |ptrT (p:eb) (sz i j:Nat)
 |dead
 deriving Inhabited
inductive V1 where
 |cl (x:Cl)
 |agg (cs:List Cl)
 |fn (f:FuncId) (cs:List Cl)
 deriving Inhabited
inductive V where
 |v (x:V1)
 |tup (l:List V1)
 deriving Inhabited
structure en where
 t:Ty
 l:List t.D
 hole:Option (Nat×Nat)
structure TS where
 env:List (Nat×V)
 bx:List (List Cl)
 gh:List (Option en)
 fz:Nat
 nt:Nat
structure TI where
 ty:Ty
 el:Nat
 fds:List (Nat×Nat×Bool)
 bytes:Nat
abbrev kL:=List (Nat×TI)
@[reducible] def V.c (x:C):V:= .v (.cl (.c x))
@[reducible] def V.sc (x:Value):V:= .v (.cl (.c (.sc x)))
@[reducible] def V.dead:V:= .v (.cl .dead)
def gn:List (Nat×V)->Nat->V
 | [],_=>V.dead
 | (t,v)::l,u=>bif Nat.beq t u then v else gn l u
def jh:kL->Nat->Option TI
 | [],_=>none
 | (t,v)::l,u=>bif Nat.beq t u then some v else jh l u
def kJ {α:Type}:List α->Nat->Option α
 | [],_=>none
 |a::l,n=>bif Nat.beq n 0 then some a else kJ l (n-1)
def cC (v:Value):Cl:=bif kt v then .c (.sc v) else match v with | .slice none 0 0=> .em| _=> .dead
def cV:Value->V
 | .agg cs=>bif cs.toList.all Value.oneCell' then .v (.agg (cs.toList.map cC)) else V.dead
 |v=> .v (.cl (cC v))
def TS.opd (S:TS):Operand->V
 | .tmp t=>gn S.env t
 | .const v=>cV v
 | .func f=>V.sc (.func (.func f) #[] #[])
 | .global _=>V.dead
def V1.cells:V1->List Cl
 | .cl x=> [x]
 | .agg cs=>cs
 | .fn _ _=> [.dead]
def C.flatB:C->Bool| .sc _=>true| _=>false
def Ty.flatB (t:Ty):Bool:=t.csh.all (·.isNone)
section
variable {ρ:Type}
def br {α:Type} (b:Bool) (x y:α):α:=cond b x y
def dJ {α:Type} (c:Prop) [Decidable c] (x y:α):α:=if c then x else y
def Ab (S:TS) (x:Operand) (κ:Bool->TS->Option ρ):Option ρ:=match x with
 | .tmp t=>match gn S.env t with
   | .v (.cl (.c (.sc (.bool b))))=>br b (κ true { S with env:=(t,V.sc (.bool true))::S.env }) (κ false { S with env:=(t,V.sc (.bool false))::S.env })
   | _=>none
 | .const (.bool b)=>κ b S
 | _=>none
def B5 (v:V) (κ:Int->Option ρ):Option ρ:=match v with | .v (.cl (.c (.sc (.int _ n))))=>κ n| _=>none
def np (S:TS) (p:eb) (κ: (t:Ty)->List t.D->Option ρ):Option ρ:=match kJ S.gh p.r with
 |some (some tr)=>match tr.hole with
  |none=>match p.l with
   | [] =>κ tr.t tr.l
   | [(i,j)] =>(tr.l[i]?).bind fun x=>match kJ (tr.t.flat x) j with
     |some (.ls t l)=>κ t l
     | _=>none
   | _=>none
  |some _=>none
 | _=>none
def C.ro:C->Cl:=Cl.c
def B6 (p:eb) (i j:Nat):C->Cl
 | .sc v=> .c (.sc v)
 | .ls t l=> .own ⟨p.r,p.l++ [(i,j)]⟩ t.width 0 l.length false
def sB {α β:Type} (f:Nat->α->β):Nat->List α->List β
 | _,[] => []
 |n,a::l=>f n a::sB f (n+1) l
def B7 (S:TS) (n:Nat) (v:Cl) (κ:List Cl->Option ρ):Option ρ:=match v with
 | .ptrB b j=>match kJ S.bx b with
   |some cs=>bif Nat.ble (j+n) cs.length then κ ((cs.drop j).take n) else none
   |none=>none
 | .pro cells=>bif Nat.ble n cells.length then κ ((cells.take n).map Cl.c) else none
 | .ptrT p sz i j=>np S p fun t l=>bif Nat.beq t.width sz&&Nat.ble (j+n) sz then (l[i]?).bind fun x=>κ (sB (B6 p i) j (((t.flat x).drop j).take n)) else none
 | _=>none
def KC (ag:Bool) (cs:List Cl) (κ:V->Option ρ):Option ρ:=bif ag then κ (.v (.agg cs)) else match cs with | [c] =>κ (.v (.cl c))| _=>none
def Ty.ag:Ty->Bool| .st _=>true| _=>false
def Ad (Θ:kL) (S:TS) (t:TypeId) (v:V) (κ:V->Option ρ):Option ρ:=match jh Θ t with
 |some ti=>match v with | .v (.cl a)=>B7 S ti.ty.width a fun cs=>KC ti.ty.ag cs κ| _=>none
 |none=>none
def Fu (S:TS) (p:eb) (κ:Int->Option ρ):Option ρ:=match p.l with
 | [] =>(match kJ S.gh p.r with |some (some tr)=>κ tr.l.length| _=>none)
 | _=>none
def IZ (n:Nat) (i:Int) (S:TS) (v:Cl) (κ:Cl->Option ρ):Option ρ:=match v with
 | .c (.ls t l)=>bif Nat.beq t.width n then dJ (0<=i) ((l[i.toNat]?).bind fun x=>κ (.pro (t.flat x))) none else none
 | .own p sz _ _ true=>bif Nat.beq sz n then Fu S p fun m=>dJ (0<=i/\i<m) (κ (.ptrT p sz i.toNat 0)) none else none
 | .own p sz lo len false=>bif Nat.beq sz n then dJ (0<=i/\i<len) (κ (.ptrT p sz (lo+i.toNat) 0)) none else none
 | _=>none
def Hb (S:TS) (v:Cl) (κ:Int->Option ρ):Option ρ:=match v with
 | .c (.ls _ l)=>κ l.length
 | .own p _ _ _ true=>np S p fun _ l=>κ l.length
 | .own _ _ _ len false=>κ len
 | .em=>κ 0
 | _=>none
def I0 (n:Nat) (lo hi:Int) (v:Cl) (κ:Cl->Option ρ):Option ρ:=match v with
 | .em=>dJ (lo=0/\hi=0) (κ .em) none
 | .c (.ls t l)=>bif Nat.beq t.width n then dJ (0<=lo/\lo<=hi/\hi<=l.length) (κ (.c (.ls t ((l.drop lo.toNat).take (hi.toNat-lo.toNat))))) none else none
 | .own p sz l len _=>bif Nat.beq sz n then dJ (0<=lo/\lo<=hi/\hi<=len) (κ (.own p sz (l+lo.toNat) (hi.toNat-lo.toNat) false)) none else none
 | _=>none
def yf (S:TS) (d:Int) (x:Option Operand) (κ:Int->Option ρ):Option ρ:=match x with
 |none=>κ d
 |some x=>B5 (S.opd x) κ
def D3:List (Nat×Nat×Bool)->List Cl->List (Nat×V)->Option (List Cl)
 | _,cs,[] =>some cs
 |pl,cs,(k,v)::r=>match kJ pl k with
  |some (off,n,_)=>match v with
   | .v x=>match x with
     | .cl .dead=>none
     | .fn _ _=>none
     |x=>bif Nat.beq x.cells.length n&&Nat.ble (off+n) cs.length then D3 pl (cs.take off++x.cells++cs.drop (off+n)) r else none
   | _=>none
  |none=>none
def Ae:Value->Value->Option Bool
 | .int _ a, .int _ b=>some (a==b)
 | .bool a, .bool b=>some (a==b)
 | _,_=>none
def pQ:List Cl->List Cl->Option Bool
 | [],[] =>some true
 | .c (.sc a)::l, .c (.sc b)::m=>match Ae a b,pQ l m with
   |some x,some y=>some (x&&y)
   | _,_=>none
 | _,_=>none
def ja:List Value->List Cl->Bool
 | [],[] =>true
 | .int k _::zs, .c (.sc (.int k' _))::cs=>bif decide (k=k') then ja zs cs else false
 | .bool _::zs, .c (.sc (.bool _))::cs=>ja zs cs
 | _,_=>false
def V.ints (f:IntKind->Int->Int->Option ρ):V->V->Option ρ
 | .v (.cl (.c (.sc (.int k a)))), .v (.cl (.c (.sc (.int k' b))))=>if k=k' then f k a b else none
 | _,_=>none
def KD (a b:ByteArray):Bool:=a.toList==b.toList
def JG (Θ:kL) (t:TypeId) (x y:V) (κ:Bool->Option ρ):Option ρ:=match x,y with
 | .v (.cl (.c (.sc (.int k a)))), .v (.cl (.c (.sc (.int k' b))))=>if k=k' then κ (a==b) else none
 | .v (.cl (.c (.sc (.bool a)))), .v (.cl (.c (.sc (.bool b))))=>match jh Θ t with
   |some ti=>match ti.ty with | .b=>κ (a==b)| _=>none
   |none=>none
 | .v (.cl (.c (.sc (.string a)))), .v (.cl (.c (.sc (.string b))))=>κ (KD a b)
 | .v (.agg a), .v (.agg b)=>match jh Θ t with
   |some ti=>bif ti.ty.ag&&ti.ty.flatB&&ja ti.ty.zvs a&&ja ti.ty.zvs b then (match pQ a b with |some r=>κ r|none=>none) else none
   |none=>none
 | _,_=>none
def I1 (x y:V) (κ:V->Option ρ):Option ρ:=match x,y with
 | .v (.cl (.c (.sc (.string a)))), .v (.cl (.c (.sc (.string b))))=>dJ (a.size+b.size<=2 ^ 40) (κ (V.sc (.string (a++b)))) none
 | _,_=>V.ints (fun k a b=>κ (V.sc (.int k (k.wrap (a+b))))) x y
def I2 (Θ:kL) (op:BinOp) (t:TypeId) (x y:V) (κ:V->Option ρ):Option ρ:=match op with
 | .lss=>V.ints (fun _ a b=>κ (V.sc (.bool (decide (a<b))))) x y
 | .leq=>V.ints (fun _ a b=>κ (V.sc (.bool (decide (a<=b))))) x y
 | .gtr=>V.ints (fun _ a b=>κ (V.sc (.bool (decide (a>b))))) x y
 | .geq=>V.ints (fun _ a b=>κ (V.sc (.bool (decide (a≥b))))) x y
 | .add=>I1 x y κ
 | .sub=>V.ints (fun k a b=>κ (V.sc (.int k (k.wrap (a-b))))) x y
 | .mul=>V.ints (fun k a b=>κ (V.sc (.int k (k.wrap (a*b))))) x y
 | .quo=>V.ints (fun k a b=>if b=0 then none else κ (V.sc (.int k (k.wrap (a.tdiv b))))) x y
 | .rem=>V.ints (fun k a b=>if b=0 then none else κ (V.sc (.int k (a.tmod b)))) x y
 | .eql=>JG Θ t x y fun r=>κ (V.sc (.bool r))
 | .neq=>JG Θ t x y fun r=>κ (V.sc (.bool (!r)))
 | _=>none
def Af:List V->Option (List Cl)
 | [] =>some []
 | .v (.cl c)::l=>match Af l with |some r=>some (c::r)|none=>none
 | _=>none
def qR (Θ:kL) (S:TS) (o:Oper) (κ:V->TS->Option ρ):Option ρ:=
 let e:=S.opd
 match o.op with
 | .move x| .assign x=>κ (e x) S
 | .pick c a b=>Ab S c fun t S=>bif t then κ (S.opd a) S else κ (S.opd b) S
 | .load t a=>Ad Θ S t (e a) (fun v=>κ v S)
 | .nilCheck x=>match e x with
   | .v (.cl (.ptrB n j))=>κ (.v (.cl (.ptrB n j))) S
   | .v (.cl (.ptrT p sz i j))=>κ (.v (.cl (.ptrT p sz i j))) S
   | .v (.cl (.pro cs))=>κ (.v (.cl (.pro cs))) S
   | .v (.fn f cs)=>κ (.v (.fn f cs)) S
   | .v (.cl (.c (.sc (.func (.func f) a b))))=>κ (.v (.cl (.c (.sc (.func (.func f) a b))))) S
   | _=>none
 | .fieldAddr t x k=>match jh Θ t with
   |some ti=>match kJ ti.fds k with
    |some (off,n,_)=>bif Nat.beq n 0 then none else match e x with
     | .v (.cl (.ptrB b j))=>κ (.v (.cl (.ptrB b (j+off)))) S
     | .v (.cl (.ptrT p sz i j))=>κ (.v (.cl (.ptrT p sz i (j+off)))) S
     | .v (.cl (.pro cs))=>κ (.v (.cl (.pro (cs.drop off)))) S
     | _=>none
    |none=>none
   |none=>none
 | .field t x k=>match jh Θ t with
   |some ti=>match kJ ti.fds k with
    |some (off,n,ag)=>match e x with
     | .v (.agg cs)=>bif Nat.ble (off+n) cs.length&&Nat.blt 0 n then KC ag ((cs.drop off).take n) (fun v=>κ v S) else none
     | _=>none
    |none=>none
   |none=>none
 | .indexAddr t x ix=>match jh Θ t with
   |some ti=>match ti.ty with
    | .ls el=>B5 (e ix) fun i=>match e x with | .v (.cl a)=>IZ el.width i S a (fun c=>κ (.v (.cl c)) S)| _=>none
    | _=>none
   |none=>none
 | .build t parts=>match jh Θ t with
   |some ti=>bif ti.ty.ag then (match D3 ti.fds (ti.ty.zvs.map cC) (parts.toList.map fun x=>(x.1,e x.2)) with |some cs=>κ (.v (.agg cs)) S|none=>none) else none
   |none=>none
 | .slice t x lo hi none=>match jh Θ t with
   |some ti=>match ti.ty with
    | .ls el=>match e x with
      | .v (.cl a)=>Hb S a fun n=>yf S 0 lo fun l=>yf S n hi fun h=>I0 el.width l h a (fun c=>κ (.v (.cl c)) S)
      | _=>none
    | _=>none
   |none=>none
 | .convert s d x=>match jh Θ s,jh Θ d with
   |some _,some di=>match di.ty with
    | .i k'=>(match e x with | .v (.cl (.c (.sc (.int _ n))))=>κ (V.sc (.int k' (k'.wrap n))) S| _=>none)
    | _=>none
   | _,_=>none
 | .index t x ix=>match jh Θ t with
   |some ti=>match ti.ty with
    | .s=>(match e x,e ix with | .v (.cl (.c (.sc (.string s)))), .v (.cl (.c (.sc (.int _ i))))=>dJ (0<=i) ((s[i.toNat]?).bind fun b=>κ (V.sc (.int .u8 b.toNat)) S) none| _,_=>none)
    | _=>none
   |none=>none
 | .extract x k=>match e x with | .tup vs=>(match kJ vs k with |some v=>κ (.v v) S|none=>none)| _=>none
 | .makeFunc (.func f) first caps=>bif first.isEmpty then (match Af (caps.toList.map e) with |some cs=>κ (.v (.fn f cs)) S|none=>none) else none
 | .call { callee:= .builtin .len,args:=as,argTypes:=ts } =>match as.toList,ts.toList with
   | [x],[t] =>match jh Θ t with
     |some ti=>match ti.ty with
      | .ls _=>(match e x with | .v (.cl a)=>Hb S a fun n=>κ (V.sc (.int .i64 n)) S| _=>none)
      | _=>none
     |none=>none
   | _,_=>none
 | .call { callee:= .builtin .cap,args:=as,argTypes:=ts } =>match as.toList,ts.toList with
   | [x],[t] =>match jh Θ t with
     |some ti=>match ti.ty with
      | .ls _=>(match e x with | .v (.cl .em)=>κ (V.sc (.int .i64 0)) S| _=>none)
      | _=>none
     |none=>none
   | _,_=>none
 | .call { callee:= .builtin .max,args:=as,argTypes:=_ } =>match as.toList with
   | [x,y] =>V.ints (fun k a b=>κ (V.sc (.int k (if b>a then b else a))) S) (e x) (e y)
   | _=>none
 | .call { callee:= .builtin .min,args:=as,argTypes:=_ } =>match as.toList with
   | [x,y] =>V.ints (fun k a b=>κ (V.sc (.int k (if b<a then b else a))) S) (e x) (e y)
   | _=>none
 | .binOp op t x y _=>I2 Θ op t (e x) (e y) (fun v=>κ v S)
 | .unOp .neg _ x=>match e x with | .v (.cl (.c (.sc (.int k n))))=>κ (V.sc (.int k (k.wrap (0-n)))) S| _=>none
 | .unOp .not _ x=>match e x with | .v (.cl (.c (.sc (.bool b))))=>κ (V.sc (.bool (!b))) S| _=>none
 | _=>none
end
end
section
open Go
def C.av:C->AV
 | .sc v=> .sc v
 | .ls t l=> .ro t.width (l.map t.row)
def Cl.av:Cl->AV
 | .c x=>x.av
 | .em=> .em
 | .own p sz lo len _=> .own p sz lo len
 | .pro cs=> .pro (cs.map C.tree)
 | .ptrB n j=> .ptrB n j
 | .ptrT p sz i j=> .ptrT p sz i j
 | .dead=> .dead
def V1.av:V1->AV
 | .cl x=>x.av
 | .agg cs=> .agg (cs.map Cl.av)
 | .fn f cs=> .fn f (cs.map Cl.av)
def V.av:V->AV
 | .v x=>x.av
 | .tup l=> .tup (l.map V1.av)
def en.tree (x:en):T:=match x.hole with
 |none=> .sl x.t.width (x.l.map x.t.row)
 |some (i,j)=> .sl x.t.width ((x.l.map x.t.row).set i (((x.l.map x.t.row).getD i []).set j .dd))
def eM (G:List (Option en)) (r:Nat):Option en:=(kJ G r).getD none
def TS.st (S:TS):St where
 env:=fun t=>(gn S.env t).av
 bx:=fun n=>(kJ S.bx n).map fun cs=>cs.map Cl.av
 gh:=fun r=>(eM S.gh r).map en.tree
 nb:=S.bx.length
 ng:=S.gh.length
 fz:=S.fz
 orc:=none
 nt:=S.nt
structure sf where
 f:FuncId->List V1->(ρ:Type)->(V->List en->Option ρ)->Option ρ
 kd:FuncId->Nat
instance:CoeFun sf fun _=>FuncId->List V1->(ρ:Type)->(V->List en->Option ρ)->Option ρ:=⟨sf.f⟩
def gy:Nat:=1048576
def xe:Nat:=gy+gy
def uV (g:Nat):Nat:=g+gy
def Ag (g:Nat):Nat:=g+xe
def yg (n:Nat):Cl->Cl
 | .own p sz lo len w=> .own ⟨p.r+n,p.l⟩ sz lo len w
 | .c (.sc v)=> .c (.sc v)
 | _=> .dead
def pR (n:Nat):V1->V1
 | .agg cs=> .agg (cs.map (yg n))
 | .cl c=> .cl (yg n c)
 | .fn _ _=> .cl .dead
def oF (n:Nat):V->V
 | .tup vs=> .tup (vs.map (pR n))
 | .v x=> .v (pR n x)
def eI {α:Type}:List α->Nat->α->List α
 | [],_,_=> []
 |a::l,n,x=>bif Nat.beq n 0 then x::l else a::eI l (n-1) x
def ph (t t':Ty) (l:List t.D):Option (List t'.D):=if h:t=t' then some (h ▸ l) else none
def lT (r j:Nat):Cl->Cl
 | .own p sz lo len w=>match p.l with | (_,j')::_=>bif Nat.beq p.r r&&Nat.beq j j' then .dead else .own p sz lo len w| [] => .own p sz lo len w
 | .ptrT p sz a b=>match p.l with | (_,j')::_=>bif Nat.beq p.r r&&Nat.beq j j' then .dead else .ptrT p sz a b| [] => .ptrT p sz a b
 |c=>c
def nI (r j:Nat):V1->V1
 | .cl c=> .cl (lT r j c)
 | .agg cs=> .agg (cs.map (lT r j))
 | .fn f cs=> .fn f (cs.map (lT r j))
def xf (r j:Nat):V->V
 | .v x=> .v (nI r j x)
 | .tup vs=> .tup (vs.map (nI r j))
def TS.kill (S:TS) (r j:Nat):TS:= { S with env:=S.env.map fun x=>(x.1,xf r j x.2),bx:=S.bx.map fun cs=>cs.map (lT r j) }
def gz (S:TS) (no j:Nat) (et:Option Ty) (c:Cl):Option (C×TS):=match c,et with
 | .c (.sc v),none=>some (.sc v,S)
 | .em,some t=>some (.ls t [],S.kill no j)
 | .own p sz _ _ true,some t=>match p.l with
   | [] =>bif Nat.beq t.width sz&&Nat.ble S.fz p.r&& !(Nat.beq p.r no) then match kJ S.gh p.r with
     |some (some tr)=>match tr.hole with
      |none=>bif Nat.beq tr.t.width sz then some (.ls tr.t tr.l,{ S with gh:=eI S.gh p.r none }.kill no j) else none
      |some _=>none
     | _=>none else none
   | _=>none
 | _,_=>none
def lU (no:Nat):Nat->TS->List (Option Ty)->List Cl->Option (List C×TS)
 |j,S,et::ets,c::cs=>match gz S no j et c with
  |some (x,S1)=>match lU no (j+1) S1 ets cs with
   |some (xs,S2)=>some (x::xs,S2)
   |none=>none
  |none=>none
 | _,S,[],[] =>some ([],S)
 | _,_,_,_=>none
def Lh (et:Option Ty) (v:Value):C:=match et with |some t=> .ls t [] |none=> .sc v
def Ty.zcs (t:Ty):List C:=List.zipWith Lh t.csh t.zvs
def I3:List Cl->Option (List C)
 | [] =>some []
 | .c (.sc v)::l=>match I3 l with |some r=>some (.sc v::r)|none=>none
 | _=>none
section
variable {ρ:Type}
def uW {α β:Type} (f:α->(β->Option ρ)->Option ρ):List α->(List β->Option ρ)->Option ρ
 | [],κ=>κ []
 |a::l,κ=>f a fun b=>uW f l fun bs=>κ (b::bs)
def B8 (Θ:kL) (S:TS) (t:TypeId) (a v:V) (κ:TS->Option ρ):Option ρ:=match jh Θ t with
 |none=>none
 |some ti=>match v with
  | .tup _=>none
  | .v (.cl .dead)=>none
  | .v (.fn _ _)=>none
  | .v x=>bif Nat.beq x.cells.length ti.ty.width then match a with
    | .v (.cl (.ptrB b j))=>match kJ S.bx b with
      |some cs=>bif Nat.ble (j+x.cells.length) cs.length then κ { S with bx:=eI S.bx b (cs.take j++x.cells++cs.drop (j+x.cells.length)) } else none
      |none=>none
    | .v (.cl (.ptrT p sz i j))=>match p.l with
      | [] =>match kJ S.gh p.r with
        |some (some tr)=>bif Nat.beq tr.t.width sz&&Nat.ble (j+ti.ty.width) sz&&Nat.beq x.cells.length ti.ty.width then
         bif ti.ty.flatB then
          match tr.hole,I3 x.cells with
          |none,some vs=>(tr.l[i]?).bind fun y=>match tr.t.unflat ((tr.t.flat y).take j++vs++(tr.t.flat y).drop (j+ti.ty.width)) with
           |some z=>κ { S with gh:=eI S.gh p.r (some ⟨tr.t,tr.l.set i z,none⟩) }
           |none=>none
          | _,_=>none
         else bif Nat.ble S.fz p.r then match lU p.r j S ti.ty.csh x.cells with
          |some (vs,S1)=>(tr.l[i]?).bind fun y=>match tr.t.unflat ((tr.t.flat y).take j++vs++(tr.t.flat y).drop (j+ti.ty.width)) with
           |some z=>match tr.hole with
            |none=>κ { S1 with gh:=eI S1.gh p.r (some ⟨tr.t,tr.l.set i z,none⟩) }
            |some (i0,j0)=>bif Nat.beq j j0&&Nat.beq ti.ty.width 1 then dJ (i=i0) (κ { S1 with gh:=eI S1.gh p.r (some ⟨tr.t,tr.l.set i z,none⟩) }) none else none
           |none=>none
          |none=>none else none
         else none
        | _=>none
      | _=>none
    | _=>none
    else none
def D4 (S:TS) (et:Option Ty) (c:Cl) (κ:Cl->Option ρ):Option ρ:=match c with
 | .c x=>κ (.c x)
 | .em=>match et with |some t=>κ (.c (.ls t []))|none=>none
 | .own p sz _ _ true=>np S p fun t l=>bif Nat.beq t.width sz then κ (.c (.ls t l)) else none
 | .own p sz lo len false=>np S p fun t l=>bif Nat.beq t.width sz then dJ (lo+len<=l.length) (κ (.c (.ls t ((l.drop lo).take len)))) none else none
 | .pro cs=>κ (.pro cs)
 | .ptrT p sz i j=>np S p fun t l=>bif Nat.beq t.width sz then (l[i]?).bind fun x=>κ (.pro ((t.flat x).drop j)) else none
 | .ptrB b j=>match kJ S.bx b with
   |some cs=>uW (fun c κ=>match c with
    | .c x=>κ x
    | .own p sz _ _ true=>np S p fun t l=>bif Nat.beq t.width sz then κ (.ls t l) else none
    | _=>none) (cs.drop j) fun cs=>κ (.pro cs)
   |none=>none
 | .dead=>κ .dead
def Hc (S:TS):List (Option Ty)->List Cl->(List Cl->Option ρ)->Option ρ
 |et::ets,c::cs,κ=>D4 S et c fun c'=>Hc S ets cs fun cs'=>κ (c'::cs')
 | [],[],κ=>κ []
 | _,_,_=>none
def KQ (Θ:kL) (S:TS) (t:TypeId) (v:V) (κ:V1->Option ρ):Option ρ:=match v with
 | .tup _=>none
 | .v (.fn f cs)=>uW (D4 S none) cs fun cs'=>κ (.fn f cs')
 | .v (.agg cs)=>match jh Θ t with |some ti=>Hc S ti.ty.csh cs fun cs'=>κ (.agg cs')|none=>none
 | .v (.cl .em)=>κ (.cl .em)
 | .v (.cl c)=>match jh Θ t with |some ti=>D4 S (ti.ty.csh.headD none) c fun c'=>κ (.cl c')|none=>D4 S none c fun c'=>κ (.cl c')
def n6 (Θ:kL) (S:TS):List TypeId->List Operand->(List V1->Option ρ)->Option ρ
 |t::ts,a::as,κ=>KQ Θ S t (S.opd a) fun v=>n6 Θ S ts as fun vs=>κ (v::vs)
 | [],[],κ=>κ []
 | _,_,_=>none
def CU (Θ:kL) (Y:sf) (S:TS) (f:Operand) (ts:List TypeId) (as:List Operand) (κ:V->TS->Option ρ):Option ρ:=match S.opd f with
 | .v (.cl (.c (.sc (.func (.func g) _ _))))=>bif Nat.blt g gy then n6 Θ S ts as fun vs=>Y g vs ρ fun res out=>κ (oF S.gh.length res) { S with gh:=S.gh++out.map some } else none
 | .v (.fn g caps)=>bif Nat.blt g gy then n6 Θ S ts as fun vs=>uW (D4 S none) caps fun cs=>Y g (vs++cs.map .cl) ρ fun res out=>κ (oF S.gh.length res) { S with gh:=S.gh++out.map some } else none
 | _=>none
def Fv (S:TS) (el:Ty) (v:Cl) (κ:List el.D->TS->Option ρ):Option ρ:=match v with
 | .em=>κ [] S
 | .c (.ls t l)=>bif el.flatB then match ph t el l with |some l=>κ l S|none=>none else none
 | .own p sz lo len w=>bif Nat.beq el.width sz then (bif el.flatB then np S p fun t l=>match ph t el l with
   |some l=>bif w then κ l S else dJ (lo+len<=l.length) (κ ((l.drop lo).take len) S) none
   |none=>none
   else match p.l with
   | [] =>bif w&&Nat.ble S.fz p.r then np S p fun t l=>match ph t el l with |some l=>κ l { S with gh:=eI S.gh p.r none } |none=>none else none
   | _=>none) else none
 | _=>none
def Ah (S:TS) (el:Ty) (v:Cl) (more:List el.D) (κ:List el.D->TS->Option ρ):Option ρ:=match v with
 | .em=>κ more S
 | .own p sz lo len w=>bif Nat.ble S.fz p.r&&Nat.beq el.width sz then match p.l with
   | [] =>np S p fun t l=>match ph t el l with
     |some l=>bif w then κ (l++more) { S with gh:=eI S.gh p.r none }
      else dJ (lo=0) (dJ (l.length<len) none (κ (l.take len++more) { S with gh:=eI S.gh p.r none })) none
     |none=>none
   | [(i,j)] =>match kJ S.gh p.r with
     |some (some tr)=>match tr.hole with
      |none=>np S p fun t l=>match ph t el l with
       |some l=>dJ (lo=0) (dJ (l.length<len) none (κ (l.take len++more) { S with gh:=eI S.gh p.r (some ⟨tr.t,tr.l,some (i,j)⟩) })) none
       |none=>none
      |some _=>none
     | _=>none
   | _=>none else none
 | _=>none
def Hd (Θ:kL) (S:TS) (t:TypeId) (s x:V) (κ:V->TS->Option ρ):Option ρ:=match jh Θ t with
 |some ti=>match ti.ty,s,x with
  | .ls el, .v (.cl s), .v (.cl x)=>Fv S el x fun more S1=>Ah S1 el s more fun l S2=>dJ (l.length*ti.el<=2 ^ 40) (κ (.v (.cl (.own ⟨S2.gh.length,[]⟩ el.width 0 l.length true))) { S2 with gh:=S2.gh++ [some ⟨el,l,none⟩] }) none
  | _,_,_=>none
 |none=>none
def JM:List Nat->List Nat->Bool
 | [],[] =>true
 |a::l,b::m=>bif Nat.beq a b then JM l m else false
 | _,_=>false
def nJ (el:Ty):TS->List V->Option (List el.D×TS)
 |S,[] =>some ([],S)
 |S, .v x::r=>match lU S.gh.length 0 S el.csh x.cells with
  |some (vs,S1)=>match el.unflat vs,nJ el S1 r with
   |some y,some (ys,S2)=>some (y::ys,S2)
   | _,_=>none
  |none=>none
 | _,_=>none
def B9:Cl->Bool| .c (.ls _ _)=>true| _=>false
def uX:V->Bool| .v x=>x.cells.any B9| _=>false
def jO:List (Option Ty)->List Cl->Option (List C)
 | _::ets, .c x::cs=>(match jO ets cs with |some r=>some (x::r)|none=>none)
 |some t::ets, .em::cs=>(match jO ets cs with |some r=>some (.ls t []::r)|none=>none)
 | [],[] =>some []
 | _,_=>none
def n7 (el:Ty):List V->Option (List el.D)
 | [] =>some []
 | .v x::r=>(match jO el.csh x.cells with
   |some xs=>(match el.unflat xs,n7 el r with |some y,some ys=>some (y::ys)| _,_=>none)
   |none=>none)
 | _=>none
def Iu (Θ:kL) (S:TS) (t:TypeId) (s x:V) (κ:V->TS->Option ρ):Option ρ:=match jh Θ t with
 |some ti=>match ti.ty,s with
  | .ls el, .v (.cl .em)=>B5 x fun n=>match el.unflat el.zcs with
    |some z=>dJ (0<n/\n*ti.el<=2 ^ 40) (κ (.v (.cl (.own ⟨S.gh.length,[]⟩ el.width 0 n.toNat true))) { S with gh:=S.gh++ [some ⟨el,List.replicate n.toNat z,none⟩] }) none
    |none=>none
  | _,_=>none
 |none=>none
def JN (t:Ty) (l:List t.D) (sz lo len:Nat) (κ:ByteArray->Option ρ):Option ρ:=match t,l with
 | .i .u8,l=>bif Nat.beq sz 1 then dJ (0<len/\lo+len<=l.length) (κ (DD ((l.drop lo).take len))) none else none
 | _,_=>none
def qo (Θ:kL) (Y:sf) (S:TS) (o:Oper) (κ:V->TS->Option ρ):Option ρ:=
 let e:=S.opd
 match o.op with
 | .alloc t=>match jh Θ t with |some ti=>κ (.v (.cl (.ptrB S.bx.length 0))) { S with bx:=S.bx++ [ti.ty.zvs.map cC] } |none=>none
 | .box _ x=>match e x with
   | .v (.cl .dead)=>none
   | .v (.cl c)=>κ (.v (.cl (.ptrB S.bx.length 0))) { S with bx:=S.bx++ [[c]] }
   | .v (.agg cs)=>κ (.v (.cl (.ptrB S.bx.length 0))) { S with bx:=S.bx++ [cs] }
   | _=>none
 | .store t a x=>B8 Θ S t (e a) (e x) fun S'=>κ V.dead S'
 | .makeSlice t l c=>match jh Θ t with
   |some ti=>match ti.ty with
    | .ls el=>B5 (e l) fun n=>B5 (e c) fun m=>match el.unflat el.zcs with
      |some z=>dJ (0<=n/\n=m/\n*ti.el<=2 ^ 40) (κ (.v (.cl (.own ⟨S.gh.length,[]⟩ el.width 0 n.toNat true))) { S with gh:=S.gh++ [some ⟨el,List.replicate n.toNat z,none⟩] }) none
      |none=>none
    | _=>none
   |none=>none
 | .buildSlice t len parts=>match jh Θ t with
   |some ti=>match ti.ty with
    | .ls el=>bif Nat.ble (len*el.width) 1048576&&JM (parts.toList.map (·.1)) (List.range len) then (bif (parts.toList.map fun x=>e x.2).any uX then (match n7 el (parts.toList.map fun x=>e x.2) with |some l=>κ (.v (.cl (.c (.ls el l)))) S|none=>none) else match nJ el S (parts.toList.map fun x=>e x.2) with
      |some (l,S1)=>κ (.v (.cl (.own ⟨S1.gh.length,[]⟩ el.width 0 l.length true))) { S1 with gh:=S1.gh++ [some ⟨el,l,none⟩] }
      |none=>none) else none
    | _=>none
   |none=>none
 | .call { callee:= .builtin .append,args:=as,argTypes:=ts } =>match as.toList,ts.toList with
   | [s,x],[t,t'] =>bif Nat.beq t t' then Hd Θ S t (e s) (e x) κ else Iu Θ S t (e s) (e x) κ
   | _,_=>none
 | .call { callee:= .value f,args:=as,argTypes:=ts } =>CU Θ Y S f ts.toList as.toList κ
 | .convert s d x=>match e x with
   | .v (.cl (.own p sz lo len _))=>match jh Θ s,jh Θ d with
     |some si,some di=>match si.ty,di.ty with
      | .ls (.i .u8), .s=>np S p fun t l=>JN t l sz lo len fun b=>κ (V.sc (.string b)) S
      | _,_=>none
     | _,_=>none
   | _=>qR Θ S o κ
 | _=>qR Θ S o κ
def ni (S:TS) (d:Option Tmp) (v:V) (κ:TS->Option ρ):Option ρ:=match d with
 |some t=>bif Nat.blt t S.nt then κ { S with env:=(t,v)::S.env } else none
 |none=>κ S
def CV (S:TS) (all:List Oper) (o:Oper) (κ:Bool->TS->Option ρ):Option ρ:=match o.guard with
 |none=>κ true S
 |some (j,want)=>match kJ all j with
  |some oj=>match oj.dst with
   |some d=>match gn S.env d with
    | .tup [] =>κ false S
    | _=>Ab S (.tmp d) fun b S1=>κ (b==want) S1
   |none=>none
  |none=>none
noncomputable def He {α:Type} (x y:α) (z:α):α:=open Classical in if x=y then x else z
def I4 {α β:Type} (l:List α) (x y:β):β:=match l with | [] =>x| _::_=>y
def ub (o:Oper):Option (TypeId×Operand):=match o.op with
 | .binOp .eql t x (.const (.slice none 0 0)) _=>(match o.guard with |none=>some (t,x)|some _=>none)
 | _=>none
def JO (Θ:kL) (t:TypeId):Bool:=match jh Θ t with |some ti=>(match ti.ty with | .ls _=>true| _=>false)|none=>false
def Ai (Y:sf) (S:TS) (o:Oper):Option (Nat×FuncId×List Cl×Nat×Nat×List TypeId×List Operand):=match o.op with
 | .call { callee:= .value f,args:=as,argTypes:=ts } =>(match o.guard with
   |some _=>none
   |none=>match as.toList,ts.toList with
    |x::xs,_::us=>(match S.opd x with
     | .v (.cl (.own ⟨r,[]⟩ sz _ _ true))=>(match S.opd f with
       | .v (.cl (.c (.sc (.func (.func g) _ _))))=>bif Nat.blt g gy&& !Nat.beq (Y.kd g) 0 then some (Y.kd g,g,[],r,sz,us,xs) else none
       | .v (.fn g caps)=>bif Nat.blt g gy&& !Nat.beq (Y.kd g) 0 then some (Y.kd g,g,caps,r,sz,us,xs) else none
       | _=>none)
     | _=>none)
    | _,_=>none)
 | _=>none
def Ca:V->Bool
 | .v (.cl (.c (.sc _)))=>true
 | .tup [] =>true
 | _=>false
def Fw (Θ:kL) (Y:sf) (S:TS) (k:Nat) (g:FuncId) (caps:List Cl) (r sz:Nat) (us:List TypeId) (xs:List Operand) (dst:Option Tmp) (κ:TS->Option ρ):Option ρ:=match eM S.gh r with
 |some ⟨el,l,none⟩=>bif Nat.beq sz el.width then n6 Θ { S with gh:=eI S.gh r none } us xs fun vs=>uW (D4 { S with gh:=eI S.gh r none } none) caps fun cs=>
  bif Nat.beq k 1 then Y (uV g) (.cl (.c (.ls el l)):: (vs++cs.map .cl)) ρ fun res out=>(match out with
   | [⟨t,l',none⟩] =>bif decide (t=el)&&Ca res then dJ (l'.length=l.length) (ni { S with gh:=eI S.gh r (some ⟨t,l',none⟩) } dst res κ) none else none
   | _=>none)
  else bif Nat.ble S.fz r then Y (Ag g) (.cl (.c (.ls el l)):: (vs++cs.map .cl)) ρ fun res out=>ni { S with gh:=eI S.gh r none++out.map some } dst (oF S.gh.length res) κ
  else none else none
 | _=>none
inductive Cb where
 |nest (r i j sz lo len:Nat)
 |agg (cs:List Cl)
def yh:V->Option Cb
 | .v (.cl (.own ⟨r,[(i,j)]⟩ sz lo len _))=>some (.nest r i j sz lo len)
 | .v (.agg cs)=>some (.agg cs)
 | _=>none
def uY (Y:sf) (S:TS) (o:Oper):Option (FuncId×List Cl×Cb×List TypeId×List Operand):=match o.op with
 | .call { callee:= .value f,args:=as,argTypes:=ts } =>(match o.guard with
   |some _=>none
   |none=>match as.toList,ts.toList with
    |x::xs,_::us=>(match yh (S.opd x) with
     |some a=>(match S.opd f with
      | .v (.cl (.c (.sc (.func (.func g) _ _))))=>bif Nat.blt g gy&&Nat.beq (Y.kd g) 1 then some (g,[],a,us,xs) else none
      | .v (.fn g caps)=>bif Nat.blt g gy&&Nat.beq (Y.kd g) 1 then some (g,caps,a,us,xs) else none
      | _=>none)
     |none=>none)
    | _,_=>none)
 | _=>none
def pS (S:TS):List Cl->Option (List C×List Nat)
 | [] =>some ([],[])
 | .c (.sc v)::cs=>(match pS S cs with |some (xs,L)=>some (.sc v::xs,L)|none=>none)
 | .own ⟨r,[]⟩ sz _ _ true::cs=>(match eM S.gh r with
   |some ⟨el,l,none⟩=>bif Nat.beq sz el.width then (match pS S cs with |some (xs,L)=>some (.ls el l::xs,r::L)|none=>none) else none
   | _=>none)
 | _=>none
def Fx (G:List (Option en)) (L:List Nat):List (Option en):=L.foldl (fun G r=>eI G r none) G
def uZ (S:TS):List Nat->List en->(TS->Option ρ)->Option ρ
 | [],[],κ=>κ S
 |r::L,⟨t,l',none⟩::out,κ=>(match eM S.gh r with
  |some ⟨el,l,none⟩=>bif decide (t=el) then dJ (l'.length=l.length) (uZ { S with gh:=eI S.gh r (some ⟨t,l',none⟩) } L out κ) none else none
  | _=>none)
 | _,_,_=>none
def yi (Θ:kL) (Y:sf) (S:TS) (g:FuncId) (caps:List Cl) (a:Cb) (us:List TypeId) (xs:List Operand) (dst:Option Tmp) (κ:TS->Option ρ):Option ρ:=match a with
 | .agg cs=>(match pS S cs with
   |some (ys,L)=>bif IM L then n6 Θ { S with gh:=Fx S.gh L } us xs fun vs=>uW (D4 { S with gh:=Fx S.gh L } none) caps fun ks=>Y (uV g) (.agg (ys.map .c):: (vs++ks.map .cl)) ρ fun res out=>bif Ca res then uZ S L out fun S3=>ni S3 dst res κ else none else none
   |none=>none)
 | .nest r i j sz lo len=>(match eM S.gh r with
   |some ⟨t,l,none⟩=>(l[i]?).bind fun y=>(match kJ (t.flat y) j with
    |some (.ls el v)=>bif Nat.beq sz el.width then dJ (lo=0/\len=v.length) (n6 Θ { S with gh:=eI S.gh r (some ⟨t,l,some (i,j)⟩) } us xs fun vs=>uW (D4 { S with gh:=eI S.gh r (some ⟨t,l,some (i,j)⟩) } none) caps fun ks=>
     Y (uV g) (.cl (.c (.ls el v)):: (vs++ks.map .cl)) ρ fun res out=>(match out with
       | [⟨t',v',none⟩] =>bif decide (t'=el)&&Ca res then dJ (v'.length=v.length) (match t.unflat (eI (t.flat y) j (.ls t' v')) with
         |some z=>ni { S with gh:=eI S.gh r (some ⟨t,l.set i z,none⟩) } dst res κ
         |none=>none) none else none
       | _=>none)) none else none
    | _=>none)
   | _=>none)
def yj (S:TS) (o:Oper):Option (TypeId×Nat×Nat×Nat×Nat):=match o.op with
 | .call { callee:= .builtin .clear,args:=as,argTypes:=ts } =>(match o.guard with
   |some _=>none
   |none=>match as.toList,ts.toList with
    | [x],[t] =>(match S.opd x with
      | .v (.cl (.own ⟨r,[]⟩ sz lo len _))=>some (t,r,sz,lo,len)
      | _=>none)
    | _,_=>none)
 | _=>none
def Cc (Θ:kL) (S:TS) (t:TypeId) (r sz lo len:Nat) (dst:Option Tmp) (κ:TS->Option ρ):Option ρ:=match jh Θ t with
 |some ti=>match eM S.gh r with
  |some ⟨el,l,none⟩=>bif decide (ti.ty= .ls el)&&Nat.beq el.width 1&&Nat.beq sz 1&&el.flatB then (match el.unflat el.zcs with
   |some z=>dJ (lo+len<=l.length) (ni { S with gh:=eI S.gh r (some ⟨el,l.take lo++List.replicate len z++l.drop (lo+len),none⟩) } dst (.tup []) κ) none
   |none=>none) else none
  | _=>none
 |none=>none
def Aj (b:Bool):V:= .v (.cl (.c (.sc (.bool b))))
noncomputable def tN (Θ:kL) (Y:sf) (all:List Oper):List Oper->TS->(TS->Option ρ)->Option ρ
 | [],S,κ=>κ S
 |o::os,S,κ=>match ub o with
  |some (t,x)=>bif JO Θ t then (match S.opd x with
   | .v (.cl (.c (.ls _ l)))=>I4 l (He (ni S o.dst (Aj true) fun S3=>tN Θ Y all os S3 κ) (ni S o.dst (Aj false) fun S3=>tN Θ Y all os S3 κ) none) (ni S o.dst (Aj false) fun S3=>tN Θ Y all os S3 κ)
   | _=>none) else none
  |none=>match yj S o with
  |some (t,r,sz,lo,len)=>Cc Θ S t r sz lo len o.dst fun S3=>tN Θ Y all os S3 κ
  |none=>match Ai Y S o with
  |some (k,g,caps,r,sz,us,xs)=>Fw Θ Y S k g caps r sz us xs o.dst fun S3=>tN Θ Y all os S3 κ
  |none=>match uY Y S o with
  |some (g,caps,a,us,xs)=>yi Θ Y S g caps a us xs o.dst fun S3=>tN Θ Y all os S3 κ
  |none=>CV S all o fun b S1=>bif b then qo Θ Y S1 o fun v S2=>ni S2 o.dst v fun S3=>tN Θ Y all os S3 κ else ni S1 o.dst (V.tup []) fun S3=>tN Θ Y all os S3 κ
def gone:Nat->List (Option en)->List (Option en)->List Nat
 |n,some _::l,none::m=>n::gone (n+1) l m
 |n,_::l,_::m=>gone (n+1) l m
 | _,_,_=> []
def Fy (l:List (Option en)):List T:=l.map fun x=>match x with |some tr=>tr.tree|none=> .dd
def sC (S S':TS):gm:=⟨S.gh.length,Fy (S'.gh.drop S.gh.length),gone 0 S.gh S'.gh⟩
def Iv (d:Nat) (o:Oper):Bool:=match o.dst with |some d'=> !(Nat.beq d d')|none=>true
def JP (o:Oper) (os:List Oper):Bool:=match o.dst with |some d=>os.all (Iv d)|none=>false
def KE (Θ:kL) (t:TypeId):Bool:=match jh Θ t with
 |some ti=>(match ti.ty with | .ls _=>true| _=>false)
 |none=>false
def JQ (Θ:kL) (o:Oper):Bool:=match o.op with
 | .buildSlice t _ _=>KE Θ t
 | .call { callee:= .builtin .append,args:=_,argTypes:=ts } =>(match ts.toList with |t::_=>KE Θ t| [] =>false)
 | _=>true
def CW:V->Bool
 | .v (.cl (.own p _ _ _ _))=>(match p.l with | [] =>true| _=>false)
 | _=>true
def Iw (S:TS) (o:Oper):Bool:=match o.op with
 | .buildSlice _ _ parts=> !(parts.toList.map fun x=>S.opd x.2).any uX
 | .call { callee:= .builtin .append,args:=as,argTypes:=ts } =>(match ts.toList with | [t,t'] =>Nat.beq t t'| _=>true)&&(match as.toList with |s::_=>CW (S.opd s)| [] =>true)
 | _=>true
def Fz (Θ:kL):List Oper->TS->(TS->Option ρ)->Option ρ
 | [],S,κ=>κ S
 |o::os,S,κ=>match o.op with
  | .alloc t=>match jh Θ t with |some ti=>Fz Θ os { S with bx:=S.bx++ [ti.ty.zvs.map cC] } κ|none=>none
  | _=>Fz Θ os S κ
def Ak (Θ:kL) (Y:sf) (all:List Oper):List Oper->TS->List gm->(TS->List gm->Option ρ)->Option ρ
 | [],S,ms,κ=>κ S ms
 |o::os,S,ms,κ=>bif dF o then Ak Θ Y all os S (ms++ [⟨S.gh.length,[],[]⟩]) κ else bif eO o then (bif o.guard.isNone then ni S o.dst (V.v (.cl (.ptrB (S.bx.length-1-eJ os) 0))) fun S3=>Ak Θ Y all os S3 (ms++ [⟨S.gh.length,[],[]⟩]) κ else none) else
   CV S all o fun b S1=>bif b then
    (bif ez o then (bif JP o os&&JQ Θ o&&Iw S1 o then qo Θ Y S1 o fun v S2=>ni S2 o.dst v fun S3=>Ak Θ Y all os S3 (ms++ [sC S1 S2]) κ else none)
    else qR Θ S1 o fun v S2=>ni S2 o.dst v fun S3=>Ak Θ Y all os S3 (ms++ [⟨S1.gh.length,[],[]⟩]) κ)
    else ni S1 o.dst (V.tup []) fun S3=>Ak Θ Y all os S3 (ms++ [⟨S1.gh.length,[],[]⟩]) κ
def FA (Θ:kL) (Y:sf):List Oper->TS->(TS->Option ρ)->Option ρ
 | [],S,κ=>κ S
 |o::os,S,κ=>bif dF o then (bif o.guard.isNone&&o.dst.isNone then qo Θ Y S o fun _ S1=>FA Θ Y os S1 κ else none) else FA Θ Y os S κ
def FB (Θ:kL) (t:TypeId):Bool:=match jh Θ t with |some ti=>ti.ty.flatB|none=>false
def FC (Θ:kL) (Y:sf) (n0:Nat) (ops:List Oper) (B:List (List Nat)):Nat->List Oper->TS->(TS->Option ρ)->Option ρ
 | _,[],S,κ=>κ S
 |k,o::os,S,κ=>bif ez o||dF o then qo Θ Y S o fun v S2=>ni S2 o.dst v fun S3=>FC Θ Y n0 ops B (k+1) os S3 κ
  else bif yb n0 (BO ops B k) S.st o then qR Θ S o fun v S2=>ni S2 o.dst v fun S3=>FC Θ Y n0 ops B (k+1) os S3 κ else none
def I5 (Θ:kL) (Y:sf) (ops:List Oper) (S:TS) (κ:TS->Option ρ):Option ρ:=
 bif uN ops.toArray then FC Θ Y S.gh.length ops (eY ops) 0 ops S κ else
 Fz Θ ops S fun S0=>Ak Θ Y ops ops S0 [] fun SV ms=>bif BB (FB Θ) ops (eY ops) S0.st ms SV.st then FA Θ Y ops SV κ else none
def fG:Code->Nat
 | .region id _ _=>id
 | .seq a _=>fG a
 | .block _ c=>fG c
 | .loop c=>fG c
 | _=>0
abbrev nq:=Nat->TS->(ρ:Type)->(X->TS->Option ρ)->Option ρ
noncomputable def rA (Θ:kL) (Y:sf) (Λ:nq):Code->TS->(X->TS->Option ρ)->Option ρ
 | .skip,S,κ=>κ .nor S
 | .region _ ops false,S,κ=>tN Θ Y ops.toList ops.toList S (κ .nor)
 | .region _ ops true,S,κ=>I5 Θ Y ops.toList S (κ .nor)
 | .seq a b,S,κ=>rA Θ Y Λ a S fun x S1=>match x with | .nor=>rA Θ Y Λ b S1 κ|x=>κ x S1
 | .cond c a b,S,κ=>Ab S c fun t S1=>bif t then rA Θ Y Λ a S1 κ else rA Θ Y Λ b S1 κ
 | .block id c,S,κ=>rA Θ Y Λ c S fun x S1=>match x with | .ext i=>bif Nat.beq i id then κ .nor S1 else κ (.ext i) S1|x=>κ x S1
 | .loop c,S,κ=>Λ (fG c) S ρ κ
 | .exit id,S,κ=>κ (.ext id) S
 | .ret,S,κ=>κ .ret S
 | _,_,_=>none
def Hf (S:TS) (gs:List en) (et:Option Ty) (c:Cl) (κ:Cl->List en->TS->Option ρ):Option ρ:=match c,et with
 | .c (.sc v),_=>κ (.c (.sc v)) gs S
 | .em,some t=>κ (.own ⟨gs.length,[]⟩ t.width 0 0 true) (gs++ [⟨t,[],none⟩]) S
 | .own p sz lo len w,some t'=>match p.l with
   | [] =>bif Nat.ble S.fz p.r&&Nat.beq t'.width sz then np S p fun t l=>bif Nat.beq t.width sz then
     (bif w then κ (.own ⟨gs.length,[]⟩ sz 0 l.length true) (gs++ [⟨t,l,none⟩]) { S with gh:=eI S.gh p.r none }
     else dJ (lo=0/\len<=l.length) (κ (.own ⟨gs.length,[]⟩ sz 0 (l.take len).length true) (gs++ [⟨t,l.take len,none⟩]) { S with gh:=eI S.gh p.r none }) none) else none
     else none
   | _=>none
 | _,_=>none
def CX:TS->List en->List (Option Ty)->List Cl->(List Cl->List en->TS->Option ρ)->Option ρ
 |S,gs,et::ets,c::cs,κ=>Hf S gs et c fun c' gs' S'=>CX S' gs' ets cs fun cs' gs'' S''=>κ (c'::cs') gs'' S''
 |S,gs,[],[],κ=>κ [] gs S
 | _,_,_,_,_=>none
def I6 (Θ:kL) (S:TS) (gs:List en) (t:TypeId) (v:V) (κ:V1->List en->TS->Option ρ):Option ρ:=match jh Θ t with
 |none=>none
 |some ti=>match v with
  | .v (.agg cs)=>CX S gs ti.ty.csh cs fun cs' gs' S'=>κ (.agg cs') gs' S'
  | .v (.cl c)=>Hf S gs (ti.ty.csh.headD none) c fun c' gs' S'=>κ (.cl c') gs' S'
  | _=>none
def pi (Θ:kL):TS->List en->List (TypeId×V)->(List V1->List en->Option ρ)->Option ρ
 | _,gs,[],κ=>κ [] gs
 |S,gs,(t,v)::r,κ=>I6 Θ S gs t v fun v' gs' S'=>pi Θ S' gs' r fun vs gs''=>κ (v'::vs) gs''
def wo (Θ:kL) (S:TS):List ResultVar->List TypeId->(List (TypeId×V)->Option ρ)->Option ρ
 | .tmp a::rs,t::ts,κ=>wo Θ S rs ts fun l=>κ ((t,gn S.env a)::l)
 | .cell a t'::rs,t::ts,κ=>Ad Θ S t' (gn S.env a) fun v=>wo Θ S rs ts fun l=>κ ((t,v)::l)
 | [],[],κ=>κ []
 | _,_,_=>none
def rB:List V1->V
 | [v] => .v v
 |vs=> .tup vs
def kz:Nat->List V1->List (Nat×V)
 | _,[] => []
 |n,v::l=>(n, .v v)::kz (n+1) l
noncomputable def JR (Θ:kL) (Y:sf) (Λ:nq) (fn:Func) (args:List V1) (κ:V->List en->Option ρ):Option ρ:=match fn.body with
 |none=>none
 |some c=>rA Θ Y Λ c { env:=kz 0 args,bx:= [],gh:= [],fz:=0,nt:=args.length+(fn.ntmps-args.length) } fun x S=>match x with
  | .ext _=>none
  | _=>wo Θ S fn.results.toList fn.resultTypes.toList fun rs=>pi Θ S [] rs fun vs gs=>κ (rB vs) gs
def yk:List Cl->Option (List C)
 | [] =>some []
 | .c x::l=>match yk l with |some r=>some (x::r)|none=>none
 | _=>none
def un (t:Ty) (a:V1) (κ:t.D->Option ρ):Option ρ:=match a with
 | .agg cs=>bif t.ag then (match yk cs with
   |some xs=>(match t.unflat xs with |some x=>κ x|none=>none)
   |none=>none) else none
 | .cl (.c y)=>bif t.ag then none else (match t.unflat [y] with |some x=>κ x|none=>none)
 | _=>none
def qS:List C->Nat->List Cl
 | [],_=> []
 | .sc v::r,n=> .c (.sc v)::qS r n
 | .ls t l::r,n=> .own ⟨n,[]⟩ t.width 0 l.length true::qS r (n+1)
def l6:List C->List en
 | [] => []
 | .sc _::r=>l6 r
 | .ls t l::r=>⟨t,l,none⟩::l6 r
def D5 (t:Ty) (x:t.D) (n:Nat):V1:=bif t.ag then .agg (qS (t.flat x) n) else match qS (t.flat x) n with | [c] => .cl c| _=> .cl .dead
def rC:Nat->List ((t:Ty)×t.D)->List V1
 | _,[] => []
 |n,⟨t,x⟩::r=>D5 t x n::rC (n+(l6 (t.flat x)).length) r
def pj:List ((t:Ty)×t.D)->List en
 | [] => []
 | ⟨t,x⟩::r=>l6 (t.flat x)++pj r
def ret (l:List ((t:Ty)×t.D)) (κ:V->List en->Option ρ):Option ρ:=κ (rB (rC 0 l)) (pj l)
end
abbrev FD:=List V1->(ρ:Type)->(V->List en->Option ρ)->Option ρ
def I7:List (Nat×FD)->FuncId->List V1->(ρ:Type)->(V->List en->Option ρ)->Option ρ
 | [],_,_,_,_=>none
 | (g,e)::l,f,as,ρ,κ=>bif Nat.beq g f then e as ρ κ else I7 l f as ρ κ
def I8:List (Nat×FD)->Nat->Bool
 | [],_=>false
 | (g,_)::l,f=>bif Nat.beq g f then true else I8 l f
def yl (l:List (Nat×FD)):sf:=⟨I7 l,fun g=>bif I8 l (uV g) then 1 else bif I8 l (Ag g) then 2 else 0⟩
noncomputable def D6 {ρ:Type} (Θ:kL) (Y:sf) (Λ:nq) (fn:Func) (m:Nat) (el:Ty) (l:List el.D) (args:List V1) (κ:V->List en->Option ρ):Option ρ:=match fn.body with
 |none=>none
 |some c=>rA Θ Y Λ c { env:=kz 0 (.cl (.own ⟨0,[]⟩ el.width 0 l.length true)::args),bx:= [],gh:= [some ⟨el,l,none⟩],fz:=m,nt:=(args.length+1)+(fn.ntmps-(args.length+1)) } fun x S=>match x with
  | .ext _=>none
  | _=>wo Θ S fn.results.toList fn.resultTypes.toList fun rs=>bif Nat.beq m 0 then pi Θ S [] rs fun vs gs=>κ (rB vs) gs else match eM S.gh 0 with
    |some ⟨t,l',none⟩=>pi Θ S [⟨t,l',none⟩] rs fun vs gs=>κ (rB vs) gs
    | _=>none
def ym (t:Ty) (x:t.D):V1:=bif t.ag then .agg ((t.flat x).map .c) else match (t.flat x).map Cl.c with | [c] => .cl c| _=> .cl .dead
end
section
open Go
theorem eW {α:Type}: ∀ (l:List α) (n:Nat),kJ l n=l[n]?
 | [],n=>by simp[kJ]
 |a::l,0=>by simp[kJ]
 |a::l,n+1=>by show kJ l n=_; rw[eW l]; simp
theorem fH {α:Type}: ∀ (l:List α) (n:Nat) (x:α),eI l n x=l.set n x
 | [],n,x=>by simp[eI]
 |a::l,0,x=>by simp[eI]
 |a::l,n+1,x=>by show a::eI l n x=_; rw[fH l]; simp
theorem Al: ∀ {l:List (Nat×V)} {t:Nat},gn l t=V.dead\/(t,gn l t)∈l
 | [],t=> .inl rfl
 | (u,v)::l,t=>by
   simp only[gn];cases h:Nat.beq u t with
   |true=>have :u=t:=ap h;subst this;exact .inr (aH)
   |false=>
    rcases Al (l:=l) (t:=t) with h'|h'
    ·exact .inl h'
    ·exact .inr (aE _ h')
def Cl.ok (G:List (Option en)):Cl->Prop
 | .own p _ lo len w=>p.r<G.length/\(w=true->p.l= [] /\lo=0/\ ∀tr,eM G p.r=some tr->len=tr.l.length)
 | .ptrT p _ _ _=>p.r<G.length
 | _=>True
def V1.ok (G:List (Option en)):V1->Prop
 | .cl c=>c.ok G
 | .agg cs=> ∀c∈cs,c.ok G
 | .fn _ cs=> ∀c∈cs,c.ok G
def V.ok (G:List (Option en)):V->Prop
 | .v x=>x.ok G
 | .tup l=> ∀x∈l,x.ok G
structure TS.ok (S:TS):Prop where
 env: ∀x∈S.env,x.2.ok S.gh
 bx: ∀cs∈S.bx,∀c∈cs,c.ok S.gh
def f7 (G G':List (Option en)):Prop:=G.length<=G'.length/\ ∀r tr',r<G.length->eM G' r=some tr'-> ∃tr,eM G r=some tr/\tr.l.length=tr'.l.length
theorem f7.refl (G:List (Option en)):f7 G G:=⟨aw _,fun _ tr _ h=>⟨tr,h,rfl⟩⟩
theorem f7.trans {G H K:List (Option en)} (h:f7 G H) (k:f7 H K):f7 G K:=⟨bE h.1 k.1,fun r tr hr hK=>by obtain⟨t1,h1,h2⟩:=k.2 r tr (aW hr h.1) hK;obtain⟨t2,h3,h4⟩:=h.2 r t1 hr h1;exact⟨t2,h3,h4.trans h2⟩⟩
theorem Cl.ok_mono {G G':List (Option en)} (h:f7 G G') {c:Cl} (hc:c.ok G):c.ok G':=by
 cases c with
 |own p sz lo len w=>obtain⟨h1,h2⟩:=hc;refine⟨aW h1 h.1,fun hw=> ?_⟩;obtain⟨a,b,c⟩:=h2 hw;refine⟨a,b,fun tr htr=> ?_⟩;obtain⟨tr0,k1,k2⟩:=h.2 _ tr h1 htr;rw[c tr0 k1,k2]
 |ptrT p sz i j=>exact aW hc h.1
 | _=>trivial
theorem V1.ok_mono {G G':List (Option en)} (h:f7 G G') {v:V1} (hv:v.ok G):v.ok G':=by
 cases v with
 |cl c=>exact Cl.ok_mono h hv
 |agg cs=>exact fun c hc=>Cl.ok_mono h (hv c hc)
 |fn f cs=>exact fun c hc=>Cl.ok_mono h (hv c hc)
theorem V.ok_mono {G G':List (Option en)} (h:f7 G G') {v:V} (hv:v.ok G):v.ok G':=by
 cases v with
 |v x=>exact V1.ok_mono h hv
 |tup l=>exact fun x hx=>V1.ok_mono h (hv x hx)
theorem V.ok_dead (G:List (Option en)):V.dead.ok G:=trivial
theorem V.ok_sc (G:List (Option en)) (v:Value): (V.sc v).ok G:=trivial
theorem uc {S:TS} (hS:S.ok) (t:Nat): (gn S.env t).ok S.gh:=by
 rcases Al (l:=S.env) (t:=t) with h|h
 ·rw[h]; trivial
 ·exact hS.env _ h
theorem lV (v:Value): (cC v).av=tZ v:=by
 unfold cC tZ;cases h:kt v with
 |true=>rfl
 |false=>
  simp only[cond_false,aX,if_false];split
  ·rfl
  ·split
   ·exact absurd rfl ‹_›
   ·rfl
theorem JS (v:Value): (cV v).av=vZ v:=by
 cases v with
 |agg cs=>
  simp only[cV,vZ];cases h:cs.toList.all Value.oneCell' with
  |true=>
   simp only[cond_true,if_true];simp only[V.av,V1.av,bi]
   congr 1
   exact aG fun x _=>lV x
  |false=>rfl
 |bool b=>exact lV (.bool b)
 |int k n=>exact lV (.int k n)
 |float k n=>exact lV (.float k n)
 |complex k n m=>exact lV (.complex k n m)
 |string x=>exact lV (.string x)
 |pointer x=>exact lV (.pointer x)
 |slice x y z=>exact lV (.slice x y z)
 |map x=>exact lV (.map x)
 |chan x=>exact lV (.chan x)
 |func x y z=>exact lV (.func x y z)
 |nilFunc=>exact lV .nilFunc
 |iface x y=>exact lV (.iface x y)
 |nilIface=>exact lV .nilIface
 |tuple x=>exact lV (.tuple x)
theorem CY (G:List (Option en)) (v:Value): (cC v).ok G:=by
 unfold cC;cases kt v with
 |true=>trivial
 |false=>simp only[cond_false]; split<;>trivial
theorem JT (G:List (Option en)) (v:Value): (cV v).ok G:=by
 unfold cV;split
 ·rename_i cs;cases cs.toList.all Value.oneCell' with
  |true=>intro c hc; simp only[aL] at hc; obtain⟨x,_,rfl⟩:=hc; exact CY _ _
  |false=>trivial
 ·exact CY _ _
theorem dL {S:TS} (x:Operand):opd S.st x=(S.opd x).av:=by
 cases x with
 |tmp t=>rfl
 |const v=>exact (JS v).symm
 |func f=>rfl
 |global g=>rfl
theorem ji {S:TS} (hS:S.ok) (x:Operand): (S.opd x).ok S.gh:=by
 cases x with
 |tmp t=>exact uc hS t
 |const v=>exact JT _ _
 |func f=>trivial
 |global g=>trivial
section
variable {ρ:Type}
theorem Hg {α:Type} {b:Bool} {x y:Option α} {r:α} (h:br b x y=some r): (b=true/\x=some r)\/(b=false/\y=some r):=by
 cases b with
 |true=>exact .inl ⟨rfl,h⟩
 |false=>exact .inr ⟨rfl,h⟩
theorem eE {α:Type} {c:Prop} [Decidable c] {x:Option α} {r:α} (h:dJ c x none=some r):c/\x=some r:=by
 unfold dJ at h;split at h
 ·exact⟨‹_›,h⟩
 ·cases h
theorem sD {α:Type} {c:Prop} [Decidable c] {x:Option α} {r:α} (h:dJ c none x=some r): ¬c/\x=some r:=by
 unfold dJ at h;split at h
 ·cases h
 ·exact⟨‹_›,h⟩
theorem dG {α:Type} {c:Bool} {x:Option α} {r:α} (h: (bif c then x else none)=some r):c=true/\x=some r:=by
 cases c with
 |true=>exact⟨rfl,h⟩
 |false=>cases h
theorem Am {S:TS} {t:Nat} {b:Bool} (h:gn S.env t=V.sc (.bool b)): ({ S with env:=(t,V.sc (.bool b))::S.env }:TS).st=S.st:=by
 unfold TS.st;simp only
 congr 1
 funext u
 simp only[gn];cases hb:Nat.beq t u with
 |true=>have :t=u:=ap hb;subst this;rw[h];rfl
 |false=>rfl
theorem An {S:TS} (hS:S.ok) (t:Nat) (b:Bool): ({ S with env:=(t,V.sc (.bool b))::S.env }:TS).ok:=
 ⟨fun x hx=>by
  simp only[aR] at hx;rcases hx with rfl|hx
  ·trivial
  ·exact hS.env x hx,hS.bx⟩
theorem u3 {S:TS} (hS:S.ok) {x:Operand} {κ:Bool->TS->Option ρ} {r:ρ} (h:Ab S x κ=some r):
  ∃b S',opd S.st x= .sc (.bool b)/\S'.st=S.st/\S'.ok/\S'.gh=S.gh/\κ b S'=some r:=by
 unfold Ab at h;split at h
 ·rename_i t;split at h
  ·rename_i b hb;rcases Hg h with ⟨rfl,h⟩| ⟨rfl,h⟩
   ·exact⟨true,_,by show (gn S.env t).av=_; rw[hb]; rfl,Am hb,An hS _ _,rfl,h⟩
   ·exact⟨false,_,by show (gn S.env t).av=_; rw[hb]; rfl,Am hb,An hS _ _,rfl,h⟩
  ·cases h
 ·rename_i b;exact⟨b,S,rfl,rfl,hS,rfl,h⟩
 ·cases h
theorem rD {v:V} {κ:Int->Option ρ} {r:ρ} (h:B5 v κ=some r): ∃n,uj v.av=some n/\κ n=some r:=by
 unfold B5 at h;split at h
 ·exact⟨_,rfl,h⟩
 ·cases h
theorem en.look {G:List (Option en)} {r:Nat} {tr:en} (h:kJ G r=some (some tr)):eM G r=some tr:=by unfold eM;rw[h];rfl
theorem fu {S:TS} {p:eb} {κ: (t:Ty)->List t.D->Option ρ} {r:ρ} (h:np S p κ=some r):
  ∃ (t:Ty) (l:List t.D),S.st.look p= .sl t.width (l.map t.row)/\(p.l= [] ->eM S.gh p.r=some ⟨t,l,none⟩)/\κ t l=some r:=by
 unfold np at h;split at h
 ·rename_i tr htr;have hg:=en.look htr;split at h
  ·rename_i hh;obtain⟨t,l,hole⟩:=tr;simp only at hh;subst hh;split at h
   ·rename_i hp;refine⟨t,l,?_,fun _=>hg,h⟩;unfold St.look;have :S.st.gh p.r=some (.sl t.width (l.map t.row)):=by show (eM S.gh p.r).map en.tree=_; rw[hg]; rfl
    rw[this,hp];rfl
   ·rename_i i j hp;simp only[aj] at h;obtain⟨x,hx,h⟩:=h;split at h
    ·rename_i t' l' hj;refine⟨t',l',?_,(fun h0=>by rw[hp] at h0; cases h0),h⟩;unfold St.look;have :S.st.gh p.r=some (.sl t.width (l.map t.row)):=by show (eM S.gh p.r).map en.tree=_; rw[hg]; rfl
     rw[this,hp];simp only[T.go,T.cell];have e1: (l.map t.row).getD i [] =t.row x:=by simp[ar,hx]
     rw[e1,t.row_flat];rw[eW] at hj;simp[ar,hj,C.tree]
    ·cases h
   ·cases h
  ·cases h
 ·cases h
end
end
section
open Go
def Ty.shs (t:Ty):List Nat:=t.csh.map fun |some e=>e.width|none=>0
structure TI.ok (P:Program) (t:TypeId) (ti:TI):Prop where
 ag:vY P t=some ti.ty.ag
 cells:P.cellsOf t=ti.ty.width
 sh:ku P 9 t=ti.ty.shs
 ze:se P t=some ti.ty.zvs
 fd: ∀k,EV P t k=kJ ti.fds k
 pl:ti.ty.ag=true->JH P t=some (ti.fds.map fun x=>(x.1,x.2.1))
 el: ∀e,ti.ty= .ls e-> ∃el,o6 P t=some el/\P.cellsOf el=e.width/\P.bytesOf el=ti.el/\0<ti.el/\ku P 9 el=e.shs/\se P el=some e.zvs
 bool:ti.ty= .b->P.underlying t=some .bool
 gu:ti.ty.ag=true->ti.ty.flatB=true->P.eqGuardType P.depth t=false
 eq:ti.ty.ag=true-> ∀ (a b:List Cl) (r:Bool) (xs ys:List Value),ja ti.ty.zvs a=true->ja ti.ty.zvs b=true->pQ a b=some r->a=xs.map (fun x=> .c (.sc x))->b=ys.map (fun x=> .c (.sc x))->dR P (Op.equal t (.agg xs.toArray) (.agg ys.toArray))=some r
 str:tH P t=(match ti.ty with | .s=>true| _=>false)
 int: ∀k,ti.ty= .i k->P.underlying t=some (.int k)
 el8: ∀k u,ti.ty= .ls (.i k)->o6 P t=some u->P.underlying u=some (.int k)
def fi (P:Program) (Θ:kL):Prop:= ∀t ti,jh Θ t=some ti->ti.ok P t
theorem Ty.width_pos (t:Ty):0<t.width:=by
 cases t with
 |st n=>cases n<;>decide
 | _=>exact Nat.one_pos
theorem C.ro_tree (c:C):T.ro c.tree=c.av:=by cases c<;>rfl
theorem C.own_tree (p:eb) (i m:Nat) (c:C):EX p i m c.tree=(B6 p i m c).av:=by
 cases c with
 |sc v=>rfl
 |ls t l=>simp[EX,C.tree,B6,Cl.av]
theorem sE {α β:Type} (f:Nat->α->β): ∀ (j:Nat) (l:List α) (k:Nat),(sB f j l)[k]? =(l[k]?).map (f (j+k))
 |j,[],k=>by simp[sB]
 |j,a::l,0=>by simp[sB]
 |j,a::l,k+1=>by simp only[sB,bV]; rw[sE f (j+1) l k]; congr 2; omega
section
variable {ρ:Type} {P:Program} {Θ:kL} {S:TS}
theorem i7 {p:eb} {sz:Nat} {rows:List (List T)} (h:S.st.look p= .sl sz rows):S.st.rows p sz=some rows:=by unfold St.rows;rw[h];simp
theorem D7 (hS:S.ok) {n:Nat} {v:Cl} (hv:v.ok S.gh) {κ:List Cl->Option ρ} {r:ρ} (h:B7 S n v κ=some r):
  ∃cs:List Cl,ew S.st n v.av=some (cs.map Cl.av)/\(∀c∈cs,c.ok S.gh)/\κ cs=some r:=by
 unfold B7 at h;split at h
 ·rename_i b j;split at h
  ·rename_i cs hcs;obtain⟨h1,h⟩:=dG h;have h1:j+n<=cs.length:=ax h1;refine⟨_,?_,fun c hc=> ?_,h⟩
   ·simp only[Cl.av,ew,TS.st,hcs,az,af,aB];rw[if_pos h1];simp[bI,bO]
   ·rw[eW] at hcs;exact hS.bx cs (aq hcs) c (bX (ce hc))
  ·cases h
 ·rename_i cells;obtain⟨h1,h⟩:=dG h;have h1:n<=cells.length:=ax h1;refine⟨_,?_,fun c hc=> ?_,h⟩
  ·simp only[Cl.av,ew,aB];rw[if_pos h1]
   congr 1
   rw[<-bI,bi,bi];exact aG fun c _=>C.ro_tree c
  ·obtain⟨x,_,rfl⟩:=aL.1 hc;trivial
 ·rename_i p sz i j;obtain⟨t,l,h1,_,h5⟩:=fu h;obtain⟨h2,h6⟩:=dG h5;clear h h5;simp only[ao] at h2;have h3:t.width=sz:=ap h2.1;have h4:j+n<=sz:=ax h2.2;subst h3;obtain⟨x,hx,h⟩:=aj.1 h6;have hil:i<l.length:=(ai.1 hx).1;have hfl: (t.flat x).length=t.width:=t.flat_length x;refine⟨_,?_,fun c hc=> ?_,h⟩
  ·have e1: (l.map t.row).getD i [] =t.row x:=by simp[ar,hx]
   simp only[Cl.av,ew,i7 h1];rw[e1,if_pos ⟨by simpa using hil,by rw[t.row_length]; exact h4⟩]
   congr 1
   apply bK;intro k;rw[an,an,sE];by_cases hk:k<n
   ·have hjk:j+k< (t.flat x).length:=by omega
    rw[List.getElem?_range hk,aZ,if_pos hk,aN,ah hjk];simp only[az];rw[t.row_flat,ar,an,ah hjk];simp only[az,aK];rw[C.own_tree]
   ·rw[aZ,if_neg hk,bA (by simp; omega)];rfl
  ·obtain⟨k,hk⟩:=List.getElem?_of_mem hc;rw[sE] at hk;simp only[ak] at hk;obtain⟨y,_,rfl⟩:=hk;cases y with
   |sc v=>trivial
   |ls t' l'=>exact⟨hv,fun h=>by cases h⟩
 ·cases h
theorem FE {G:List (Option en)} {ag:Bool} {cs:List Cl} (hcs: ∀c∈cs,c.ok G) {κ:V->Option ρ} {r:ρ} (h:KC ag cs κ=some r): ∃v,Il ag (cs.map Cl.av)=some v.av/\v.ok G/\κ v=some r:=by
 unfold KC at h;cases ag with
 |true=>refine⟨_,rfl,?_,h⟩; exact hcs
 |false=>
  simp only[cond_false] at h;split at h
  ·rename_i c;refine⟨_,rfl,?_,h⟩; exact hcs c (by simp)
  ·cases h
theorem Ao (hΘ:fi P Θ) (hS:S.ok) {t:TypeId} {v:V} (hv:v.ok S.gh) {κ:V->Option ρ} {r:ρ} (h:Ad Θ S t v κ=some r):
  ∃u,load P S.st t v.av=some u.av/\u.ok S.gh/\κ u=some r:=by
 unfold Ad at h;split at h
 ·rename_i ti hti;have hok:=hΘ _ _ hti;split at h
  ·rename_i a;obtain⟨cs,h1,h2,h⟩:=D7 hS hv h;obtain⟨u,h3,h4,h⟩:=FE h2 h;refine⟨u,?_,h4,h⟩;unfold load;rw[hok.ag,hok.cells];simp only[af,V.av,V1.av,h1];exact h3
  ·cases h
 ·cases h
theorem FF {p:eb} {κ:Int->Option ρ} {r:ρ} (h:Fu S p κ=some r): ∃tr,eM S.gh p.r=some tr/\κ tr.l.length=some r:=by
 unfold Fu at h;split at h
 ·split at h
  ·rename_i tr htr;exact⟨tr,en.look htr,h⟩
  ·cases h
 ·cases h
theorem Hh {n:Nat} {i:Int} {v:Cl} (hv:v.ok S.gh) {κ:Cl->Option ρ} {r:ρ} (h:IZ n i S v κ=some r): ∃c,rl n i v.av=some c.av/\c.ok S.gh/\κ c=some r:=by
 unfold IZ at h;split at h
 ·rename_i t l;obtain⟨h1,h⟩:=dG h;have h1:t.width=n:=ap h1;obtain⟨h2,h⟩:=eE h;obtain⟨x,hx,h⟩:=aj.1 h;have hil:=(ai.1 hx).1;refine⟨_,?_,?_,h⟩
  rotate_left
  ·trivial
  simp only[Cl.av,C.av,rl,aB];rw[if_pos ⟨h2,by omega,h1⟩]
  congr 1
  simp[ar,hx,t.row_flat]
 ·rename_i p sz lo len;obtain⟨h1,h⟩:=dG h;have h1:sz=n:=ap h1;obtain⟨tr,h3,h⟩:=FF h;obtain⟨h4,h⟩:=eE h;obtain⟨h5,h6⟩:=hv;obtain⟨h7,h8,h9⟩:=h6 rfl;have h10:=h9 _ h3;refine⟨_,?_,?_,h⟩
  rotate_left
  ·exact h5
  simp only[Cl.av,rl];rw[if_pos ⟨h4.1,by omega,h1⟩,h8,aV]
 ·rename_i p sz lo len;obtain⟨h1,h⟩:=dG h;have h1:sz=n:=ap h1;obtain⟨h4,h⟩:=eE h;refine⟨_,?_,?_,h⟩
  rotate_left
  ·exact hv.1
  simp only[Cl.av,rl];rw[if_pos ⟨h4.1,h4.2,h1⟩]
 ·cases h
theorem CZ {v:Cl} (hv:v.ok S.gh) {κ:Int->Option ρ} {r:ρ} (h:Hb S v κ=some r): ∃n,oQ v.av=some n/\κ n=some r:=by
 unfold Hb at h;split at h
 ·exact⟨_,by simp[Cl.av,C.av,oQ],h⟩
 ·obtain⟨t,l,h2,h3,h⟩:=fu h;obtain⟨h5,h6⟩:=hv;obtain⟨h7,h8,h9⟩:=h6 rfl;have h10:=h9 _ (h3 h7);simp only at h10;exact⟨_,by simp[Cl.av,oQ,h10],h⟩
 ·exact⟨_,rfl,h⟩
 ·exact⟨_,rfl,h⟩
 ·cases h
theorem Hi {n:Nat} {lo hi:Int} {v:Cl} (hv:v.ok S.gh) {κ:Cl->Option ρ} {r:ρ} (h:I0 n lo hi v κ=some r): ∃c,Im n lo hi v.av=some c.av/\c.ok S.gh/\κ c=some r:=by
 unfold I0 at h;split at h
 ·obtain⟨h1,h⟩:=eE h;exact⟨.em,by simp[Cl.av,Im,h1],trivial,h⟩
 ·rename_i t l;obtain⟨h1,h⟩:=dG h;have h1:t.width=n:=ap h1;obtain⟨h2,h⟩:=eE h;refine⟨_,?_,?_,h⟩
  rotate_left
  ·trivial
  simp only[Cl.av,C.av,Im,aB];rw[if_pos ⟨h1,h2⟩];simp[bI,bO]
 ·rename_i p sz l len w;obtain⟨h1,h⟩:=dG h;have h1:sz=n:=ap h1;obtain⟨h2,h⟩:=eE h;refine⟨_,?_,?_,h⟩
  rotate_left
  ·exact⟨hv.1,fun h=>by cases h⟩
  simp only[Cl.av,Im];rw[if_pos ⟨h1,h2⟩]
 ·cases h
theorem xg {d:Int} {x:Option Operand} {κ:Int->Option ρ} {r:ρ} (h:yf S d x κ=some r): ∃n,i6 S.st d x=some n/\κ n=some r:=by
 unfold yf at h;split at h
 ·exact⟨_,rfl,h⟩
 ·obtain⟨n,h1,h⟩:=rD h;exact⟨n,by simp only[i6,dL]; exact h1,h⟩
theorem Hj {G:List (Option en)}: ∀ (parts:List (Nat×V)) (pl:List (Nat×Nat×Bool)) (cs cs':List Cl),(∀c∈cs,c.ok G)->(∀x∈parts,x.2.ok G)->D3 pl cs parts=some cs'->
  GQ (pl.map fun x=>(x.1,x.2.1)) (cs.map Cl.av) (parts.map fun x=>(x.1,x.2.av))=some (cs'.map Cl.av)/\ ∀c∈cs',c.ok G:=by
 intro parts
 induction parts with
 |nil=>intro pl cs cs' hcs _ h;simp only[D3,ae] at h;subst h;exact⟨rfl,hcs⟩
 |cons x parts ih=>
  intro pl cs cs' hcs hp h;obtain⟨k,v⟩:=x;simp only[D3] at h;split at h
  ·rename_i off n ag hk;split at h
   ·rename_i x;have hx:x.ok G:=hp (k, .v x) (by simp)
    have fG: ∀ (hd: (V.v x).av.isDead=false) (hcell: (V.v x).av.cells=x.cells.map Cl.av) (hcok: ∀c∈x.cells,c.ok G)
      (h: (bif Nat.beq x.cells.length n&&Nat.ble (off+n) cs.length then D3 pl (cs.take off++x.cells++cs.drop (off+n)) parts else none)=some cs'),
      GQ (pl.map fun x=>(x.1,x.2.1)) (cs.map Cl.av) (((k,V.v x)::parts).map fun x=>(x.1,x.2.av))=some (cs'.map Cl.av)/\ ∀c∈cs',c.ok G:=by
     intro hd hcell hcok h;obtain⟨h1,h⟩:=dG h;simp only[ao] at h1;have h2:x.cells.length=n:=ap h1.1;have h3:off+n<=cs.length:=ax h1.2
     obtain⟨g1,g2⟩:=ih pl _ cs' (fun c hc=>by
      simp only[bz] at hc;rcases hc with (hc|hc)|hc
      ·exact hcs c (ce hc)
      ·exact hcok c hc
      ·exact hcs c (bX hc)) (fun y hy=>hp y (aE _ hy)) h
     refine⟨?_,g2⟩;rw[eW] at hk;simp only[aP,GQ,an,hk,az];rw[if_pos ⟨hd,by rw[hcell]; simpa using h2,by simpa using h3⟩,<-g1,hcell];simp[bI,bO]
    cases x with
    |cl c=>cases c with
     |dead=>cases h
     |c y=>cases y<;>exact fG rfl rfl (fun c hc=>by simp only[V1.cells,ay] at hc; subst hc; exact hx) h
     |em=>exact fG rfl rfl (fun c hc=>by simp only[V1.cells,ay] at hc; subst hc; exact hx) h
     |own p sz lo len w=>exact fG rfl rfl (fun c hc=>by simp only[V1.cells,ay] at hc; subst hc; exact hx) h
     |pro cs=>exact fG rfl rfl (fun c hc=>by simp only[V1.cells,ay] at hc; subst hc; exact hx) h
     |ptrB n j=>exact fG rfl rfl (fun c hc=>by simp only[V1.cells,ay] at hc; subst hc; exact hx) h
     |ptrT p sz i j=>exact fG rfl rfl (fun c hc=>by simp only[V1.cells,ay] at hc; subst hc; exact hx) h
    |agg cs2=>exact fG rfl rfl hx h
    |fn f cs2=>cases h
   ·cases h
  ·cases h
end
end
section
open Go
theorem dP {α β:Type} {P:Program} (s:Sem α) (f:α->Sem β):dR P (s >>=f)=(dR P s).bind fun a=>dR P (f a):=by
 show dR P (s.bind f)=_
 induction s with
 |pure a=>rfl
 |program k ih=>exact ih P
 | _=>rfl
theorem dS {α:Type} {P:Program} (a:α):dR P (pure a)=some a:=rfl
theorem pT: ∀ {zs:List Value} {a:List Cl},ja zs a=true-> ∃xs:List Value,a=xs.map (fun x=>Cl.c (.sc x))
 | [],[],_=>⟨[],rfl⟩
 | .int k n::zs,a,h=>by
   unfold ja at h;split at h
   ·rename_i heq;cases heq
   ·rename_i k1 n1 zs1 k2 n2 cs h1;have hd:=h;cases hk:decide (k1=k2) with
    |false=>rw[hk] at h; cases h
    |true=>rw[hk] at h;obtain⟨xs,hx⟩:=pT (zs:=zs1) (a:=cs) h;exact⟨.int k2 n2::xs,by rw[hx]; rfl⟩
   ·rename_i b1 zs1 b2 cs h1;cases h1
   ·cases h
 | .bool b::zs,a,h=>by
   unfold ja at h;split at h
   ·rename_i heq;cases heq
   ·rename_i h1;cases h1
   ·rename_i b1 zs1 b2 cs h1;obtain⟨xs,hx⟩:=pT (zs:=zs1) (a:=cs) h;exact⟨.bool b2::xs,by rw[hx]; rfl⟩
   ·cases h
 | .float _ _::_,_,h=>by simp[ja] at h
 | .complex _ _ _::_,_,h=>by simp[ja] at h
 | .string _::_,_,h=>by simp[ja] at h
 | .pointer _::_,_,h=>by simp[ja] at h
 | .slice _ _ _::_,_,h=>by simp[ja] at h
 | .map _::_,_,h=>by simp[ja] at h
 | .chan _::_,_,h=>by simp[ja] at h
 | .func _ _ _::_,_,h=>by simp[ja] at h
 | .nilFunc::_,_,h=>by simp[ja] at h
 | .iface _ _::_,_,h=>by simp[ja] at h
 | .nilIface::_,_,h=>by simp[ja] at h
 | .agg _::_,_,h=>by simp[ja] at h
 | .tuple _::_,_,h=>by simp[ja] at h
 | [],_::_,h=>by simp[ja] at h
theorem C0 (f:AV->Option Value) (hf: ∀v,f (.sc v)=some v): ∀xs:List Value,((xs.map fun x=>Cl.c (.sc x)).map Cl.av).mapM f=some xs
 | [] =>rfl
 |x::xs=>by simp only[aP,cR,C0 f hf xs];show (f (.sc x)).bind _=_;rw[hf];rfl
theorem C1 (xs:List Value):nj (V.v (.agg (xs.map fun x=>Cl.c (.sc x)))).av=some (.agg xs.toArray):=by simp only[V.av,V1.av,nj];rw[C0 _ (fun _=>rfl)];rfl
theorem eN {P:Program} {t:TypeId} {d:TypeDesc} (h:P.underlying t=some d):dR P (underlying t)=some d:=by simp only[underlying,dP,program,dR,af,h];rfl
section
variable {ρ:Type} {P:Program} {Θ:kL} {S:TS}
theorem FG (hΘ:fi P Θ) {t:TypeId} {x y:V} {κ:Bool->Option ρ} {r:ρ} (h:JG Θ t x y κ=some r):
  ∃b,κ b=some r/\((∃k a c,x.av= .sc (.int k a)/\y.av= .sc (.int k c)/\b=(a==c))\/
   ((∀k a k' c,¬ (x.av= .sc (.int k a)/\y.av= .sc (.int k' c)))/\ ∃xv yv,nj x.av=some xv/\nj y.av=some yv/\(∀op xo yo,dR P (eqGuard op t xo yo xv yv)=some ())/\dR P (binOp .eql t xv yv)=some (.bool b)/\dR P (binOp .neq t xv yv)=some (.bool (!b)))):=by
 unfold JG at h;split at h
 ·rename_i k a k' c;split at h
  ·rename_i hk;subst hk;exact⟨_,h, .inl ⟨k,a,c,rfl,rfl,rfl⟩⟩
  ·cases h
 ·rename_i a c;split at h
  ·rename_i ti hti;split at h
   ·rename_i hb;have hu:=(hΘ _ _ hti).bool hb
    have hE:dR P (Op.equal t (.bool a) (.bool c))=some (a==c):=by show dR P (Op.equalIn (9999+1) t (.bool a) (.bool c))=_;rw[Op.equalIn];simp only[dP,eN hu,af,dS]
    refine⟨_,h, .inr ⟨fun k a k' c hc=>by simp[V.av,V1.av,Cl.av,C.av] at hc, .bool a, .bool c,rfl,rfl,fun op xo yo=> ?_,?_,?_⟩⟩
    ·cases op<;>simp[eqGuard,dS]<;>rfl
    ·simp only[binOp,dP,hE,af,dS]
    ·simp only[binOp,dP,hE,af,dS]
   ·cases h
  ·cases h
 ·rename_i a c;refine⟨_,h, .inr ⟨fun k a k' c hc=>by simp[V.av,V1.av,Cl.av,C.av] at hc, .string a, .string c,rfl,rfl,fun op xo yo=> ?_,?_,?_⟩⟩
  ·cases op<;>simp[eqGuard,dS]<;>rfl
  ·simp only[binOp,Op.stringOp,dS];rfl
  ·simp only[binOp,Op.stringOp,dS];rfl
 ·rename_i a c;split at h
  ·rename_i ti hti;obtain⟨h1,h'⟩:=dG h;simp only[ao] at h1;obtain⟨⟨⟨h1,hfl⟩,h2⟩,h3⟩:=h1;split at h'
   ·rename_i b hb;obtain⟨xs,hx⟩:=pT h2;obtain⟨ys,hy⟩:=pT h3;have hok:=hΘ _ _ hti;have hE:=hok.eq h1 a c b xs ys h2 h3 hb hx hy;have hg:=hok.gu h1 hfl;refine⟨_,h', .inr ⟨fun k a k' c hc=>by simp[V.av,V1.av] at hc, .agg xs.toArray, .agg ys.toArray,by rw[hx]; exact C1 xs,by rw[hy]; exact C1 ys,fun op xo yo=> ?_,?_,?_⟩⟩
    ·cases op<;>simp[eqGuard,dP,dS,program,dR,hg]
    ·simp only[binOp,dP,hE,af,dS]
    ·simp only[binOp,dP,hE,af,dS]
   ·cases h'
  ·cases h
 ·cases h
theorem kA {f:IntKind->Int->Int->Option ρ} {x y:V} {r:ρ} (h:V.ints f x y=some r): ∃k a b,x.av= .sc (.int k a)/\y.av= .sc (.int k b)/\f k a b=some r:=by
 unfold V.ints at h;split at h
 ·split at h
  ·rename_i k a k' b hk;subst hk;exact⟨k,a,b,rfl,rfl,h⟩
  ·cases h
 ·cases h
theorem Hk (hΘ:fi P Θ) {D:mu} {op:BinOp} {t t':TypeId} {x y:Operand} {κ:V->Option ρ} {r:ρ} (h:I2 Θ op t (S.opd x) (S.opd y) κ=some r) {dst:Option Tmp} {ty:TypeId} {pos:String} {aft:Array Edge} {gd:Option (Nat×Bool)}:
  ∃v:V,dH D P S.st ⟨dst, .binOp op t x y t',ty,pos,aft,gd⟩=some v.av/\(∀G,v.ok G)/\κ v=some r:=by
 have eqs: ∀ (b:Bool) (xv yv:Value),nj (opd S.st x)=some xv->nj (opd S.st y)=some yv->dR P (eqGuard op t x y xv yv)=some ()->dR P (binOp op t xv yv)=some (.bool b)->
   dZ P S.st ⟨dst, .binOp op t x y t',ty,pos,aft,gd⟩=some (.sc (.bool b)):=by
  intro b xv yv h1 h2 h3 h4;unfold dZ;rw[if_pos (by simp[Op.operands,h1,h2])];simp only[execOp,h1,h2,aK,dP,h3,h4,af,dS,JI,kt,if_true]
 cases op with
 |lss=>obtain⟨k,a,b,h1,h2,h3⟩:=kA h; exact⟨_,by simp only[dH,dL,h1,h2,if_true]; rfl,fun G=>V.ok_sc G _,h3⟩
 |leq=>obtain⟨k,a,b,h1,h2,h3⟩:=kA h; exact⟨_,by simp only[dH,dL,h1,h2,if_true]; rfl,fun G=>V.ok_sc G _,h3⟩
 |gtr=>obtain⟨k,a,b,h1,h2,h3⟩:=kA h; exact⟨_,by simp only[dH,dL,h1,h2,if_true]; rfl,fun G=>V.ok_sc G _,h3⟩
 |geq=>obtain⟨k,a,b,h1,h2,h3⟩:=kA h; exact⟨_,by simp only[dH,dL,h1,h2,if_true]; rfl,fun G=>V.ok_sc G _,h3⟩
 |add=>
  have h:I1 (S.opd x) (S.opd y) κ=some r:=h;unfold I1 at h;split at h
  ·rename_i a b g1 g2;obtain⟨h0,h⟩:=eE h;have hx:nj (opd S.st x)=some (.string a):=by rw[dL,g1]; rfl
   have hy:nj (opd S.st y)=some (.string b):=by rw[dL,g2]; rfl
   refine⟨_,?_,fun G=>V.ok_sc G _,h⟩;simp only[dH,dL,g1,g2];show dZ P S.st ⟨dst, .binOp .add t x y t',ty,pos,aft,gd⟩=_
   have hz: ¬ ((a.size+b.size:Nat):Int)>IntKind.i64.max:=by have :IntKind.i64.max=9223372036854775807:=rfl;omega
   have e:dR P (binOp .add t (.string a) (.string b))=some (.string (a++b)):=by simp only[binOp,Op.stringOp,if_neg hz,dS]
   have g:dR P (eqGuard .add t x y (.string a) (.string b))=some ():=rfl;unfold dZ;rw[if_pos (by simp[Op.operands,hx,hy])];simp only[execOp,hx,hy,aK,dP,g,e,af,dS,JI,kt,if_true];rfl
  ·obtain⟨k,a,b,h1,h2,h3⟩:=kA h; exact⟨_,by simp only[dH,dL,h1,h2,if_true]; rfl,fun G=>V.ok_sc G _,h3⟩
 |sub=>obtain⟨k,a,b,h1,h2,h3⟩:=kA h; exact⟨_,by simp only[dH,dL,h1,h2,if_true]; rfl,fun G=>V.ok_sc G _,h3⟩
 |mul=>obtain⟨k,a,b,h1,h2,h3⟩:=kA h; exact⟨_,by simp only[dH,dL,h1,h2,if_true]; rfl,fun G=>V.ok_sc G _,h3⟩
 |eql=>
  have h':JG Θ t (S.opd x) (S.opd y) (fun r=>κ (V.sc (.bool r)))=some r:=h;obtain⟨b,h1,h2⟩:=FG hΘ h';refine⟨_,?_,fun G=>V.ok_sc G _,h1⟩;rcases h2 with ⟨k,a,c,e1,e2,rfl⟩| ⟨hn,xv,yv,e1,e2,e3,e4,e5⟩
  ·simp only[dH,dL,e1,e2,if_true]; rfl
  ·simp only[dH];split
   ·rename_i k a k' c g1 g2;exact absurd ⟨by rw[<-dL]; exact g1,by rw[<-dL]; exact g2⟩ (hn k a k' c)
   ·exact eqs b xv yv (by rw[dL]; exact e1) (by rw[dL]; exact e2) (e3 _ _ _) e4
 |neq=>
  have h':JG Θ t (S.opd x) (S.opd y) (fun r=>κ (V.sc (.bool (!r))))=some r:=h;obtain⟨b,h1,h2⟩:=FG hΘ h';refine⟨_,?_,fun G=>V.ok_sc G _,h1⟩;rcases h2 with ⟨k,a,c,e1,e2,rfl⟩| ⟨hn,xv,yv,e1,e2,e3,e4,e5⟩
  ·simp only[dH,dL,e1,e2,if_true]; rfl
  ·simp only[dH];split
   ·rename_i k a k' c g1 g2;exact absurd ⟨by rw[<-dL]; exact g1,by rw[<-dL]; exact g2⟩ (hn k a k' c)
   ·exact eqs (!b) xv yv (by rw[dL]; exact e1) (by rw[dL]; exact e2) (e3 _ _ _) e5
 |quo=>
  have h':V.ints (fun k a b=>if b=0 then none else κ (V.sc (.int k (k.wrap (a.tdiv b))))) (S.opd x) (S.opd y)=some r:=h;obtain⟨k,a,b,h1,h2,h3⟩:=kA h';split at h3
  ·cases h3
  ·rename_i hb;refine⟨_,?_,fun G=>V.ok_sc G _,h3⟩;have hx:nj (opd S.st x)=some (.int k a):=by rw[dL,h1]; rfl
   have hy:nj (opd S.st y)=some (.int k b):=by rw[dL,h2]; rfl
   simp only[dH];unfold dZ;rw[if_pos (by simp[Op.operands,hx,hy])]
   have e:dR P (binOp .quo t (.int k a) (.int k b))=some (.int k (k.wrap (a.tdiv b))):=by simp only[binOp,ne_eq,not_true,if_false,Op.intDiv,if_neg hb,dS]
   have e2:dR P (execOp (fun x=>(nj (opd S.st x)).getD undef) ⟨dst, .binOp .quo t x y t',ty,pos,aft,gd⟩)=some (.value (.int k (k.wrap (a.tdiv b)))):=by show dR P (do pure (Next.value (<-(do eqGuard .quo t x y ((nj (opd S.st x)).getD undef) ((nj (opd S.st y)).getD undef); binOp .quo t ((nj (opd S.st x)).getD undef) ((nj (opd S.st y)).getD undef)))))=_;rw[hx,hy];have g:dR P (eqGuard .quo t x y (.int k a) (.int k b))=some ():=rfl;simp only[dP,aK,g,e,af,dS]
   rw[e2];rfl
 |rem=>
  have h':V.ints (fun k a b=>if b=0 then none else κ (V.sc (.int k (a.tmod b)))) (S.opd x) (S.opd y)=some r:=h;obtain⟨k,a,b,h1,h2,h3⟩:=kA h';split at h3
  ·cases h3
  ·rename_i hb;refine⟨_,?_,fun G=>V.ok_sc G _,h3⟩;have hx:nj (opd S.st x)=some (.int k a):=by rw[dL,h1]; rfl
   have hy:nj (opd S.st y)=some (.int k b):=by rw[dL,h2]; rfl
   simp only[dH];unfold dZ;rw[if_pos (by simp[Op.operands,hx,hy])]
   have e:dR P (binOp .rem t (.int k a) (.int k b))=some (.int k (a.tmod b)):=by simp only[binOp,ne_eq,not_true,if_false,Op.intDiv,if_neg hb,dS]
   have e2:dR P (execOp (fun x=>(nj (opd S.st x)).getD undef) ⟨dst, .binOp .rem t x y t',ty,pos,aft,gd⟩)=some (.value (.int k (a.tmod b))):=by show dR P (do pure (Next.value (<-(do eqGuard .rem t x y ((nj (opd S.st x)).getD undef) ((nj (opd S.st y)).getD undef); binOp .rem t ((nj (opd S.st x)).getD undef) ((nj (opd S.st y)).getD undef)))))=_;rw[hx,hy];have g:dR P (eqGuard .rem t x y (.int k a) (.int k b))=some ():=rfl;simp only[dP,aK,g,e,af,dS]
   rw[e2];rfl
 | _=>simp[I2] at h
end
end
section
open Go
theorem Ap {G:List (Option en)}: ∀ (l:List V) (cs:List Cl),(∀v∈l,v.ok G)->Af l=some cs->l.map V.av=cs.map Cl.av/\ ∀c∈cs,c.ok G
 | [],cs,_,h=>by simp only[Af,ae] at h;subst h;exact⟨rfl,fun c hc=>by cases hc⟩
 |v::l,cs,hl,h=>by
  unfold Af at h;split at h
  ·rename_i heq; cases heq
  ·rename_i c l' heq;cases heq;split at h
   ·rename_i r hr;simp only[ae] at h;subst h;obtain⟨h1,h2⟩:=Ap l r (fun v hv=>hl v (aE _ hv)) hr;refine⟨by simp only[aP,h1]; rfl,fun x hx=> ?_⟩;rcases aR.1 hx with rfl|hx
    ·exact hl _ aH
    ·exact h2 x hx
   ·cases h
  ·cases h
section
variable {ρ:Type} {P:Program} {Θ:kL} {S:TS} {D:mu}
theorem sF (hΘ:fi P Θ) (hS:S.ok) {o:Oper} {κ:V->TS->Option ρ} {r:ρ} (h:qR Θ S o κ=some r):
  ∃v S',dH D P S.st o=some v.av/\S'.st=S.st/\S'.ok/\S'.gh=S.gh/\v.ok S.gh/\κ v S'=some r:=by
 have ok: ∀x,(S.opd x).ok S.gh:=fun x=>ji hS x;have done: ∀ {v:V},dH D P S.st o=some v.av->v.ok S.gh->κ v S=some r-> ∃v S',dH D P S.st o=some v.av/\S'.st=S.st/\S'.ok/\S'.gh=S.gh/\v.ok S.gh/\κ v S'=some r:=fun h1 h2 h3=>⟨_,S,h1,rfl,hS,rfl,h2,h3⟩
 obtain⟨dst,op,ty,pos,aft,gd⟩:=o;unfold qR at h;cases op with
 |move x=>exact done (by simp only[dH,dL]) (ok x) h
 |assign x=>exact done (by simp only[dH,dL]) (ok x) h
 |pick c a b=>
  simp only at h;obtain⟨t,S1,h1,h2,h3,h4,h⟩:=u3 hS h;cases t with
  |true=>exact⟨_,S1,by simp only[dH,h1,if_true]; rw[<-h2,dL],h2,h3,h4,by rw[<-h4]; exact ji h3 _,h⟩
  |false=>exact⟨_,S1,by simp only[dH,h1,aX,if_false]; rw[<-h2,dL],h2,h3,h4,by rw[<-h4]; exact ji h3 _,h⟩
 |load t a=>simp only at h;obtain⟨u,h1,h2,h⟩:=Ao hΘ hS (ok a) h;exact done (by simp only[dH,dL]; exact h1) h2 h
 |nilCheck x=>
  simp only at h;split at h<;>rename_i hx
  ·exact done (by simp only[dH,dL,hx]; rfl) (by rw[<-hx]; exact ok x) h
  ·exact done (by simp only[dH,dL,hx]; rfl) (by rw[<-hx]; exact ok x) h
  ·exact done (by simp only[dH,dL,hx]; rfl) (by rw[<-hx]; exact ok x) h
  ·exact done (by simp only[dH,dL,hx]; rfl) (by rw[<-hx]; exact ok x) h
  ·exact done (by simp only[dH,dL,hx]; rfl) (by rw[<-hx]; exact ok x) h
  ·cases h
 |fieldAddr t x k=>
  simp only at h;split at h
  ·rename_i ti hti;split at h
   ·rename_i off n ag hk;have hfd:=(hΘ _ _ hti).fd k;rw[hk] at hfd;cases hn:Nat.beq n 0 with
    |true=>rw[hn] at h; cases h
    |false=>
     rw[hn] at h;have hn': ¬n=0:=by intro h0; subst h0; cases hn
     simp only[cond_false] at h;split at h<;>rename_i hx
     ·refine done ?_ ?_ h
      ·simp only[dH,hfd,af,dL,hx];rw[if_neg hn'];rfl
      ·trivial
     ·refine done ?_ ?_ h
      ·simp only[dH,hfd,af,dL,hx];rw[if_neg hn'];rfl
      ·have:=ok x;rw[hx] at this;exact this
     ·refine done ?_ ?_ h
      ·simp only[dH,hfd,af,dL,hx];rw[if_neg hn'];simp[V.av,V1.av,Cl.av,bO]
      ·trivial
     ·cases h
   ·cases h
  ·cases h
 |field t x k=>
  simp only at h;split at h
  ·rename_i ti hti;split at h
   ·rename_i off n ag hk;have hfd:=(hΘ _ _ hti).fd k;rw[hk] at hfd;split at h
    ·rename_i cs hx;obtain⟨h1,h⟩:=dG h;simp only[ao] at h1;have h2:off+n<=cs.length:=ax h1.1;have h3:0<n:=ax h1.2;have hcs:=ok x;rw[hx] at hcs;obtain⟨v,h4,h5,h⟩:=FE (G:=S.gh) (fun c hc=>hcs c (bX (ce hc))) h;refine done ?_ h5 h;simp only[dH,hfd,af,dL,hx,V.av,V1.av,aB];rw[if_pos ⟨h2,h3⟩,<-bO,<-bI];exact h4
    ·cases h
   ·cases h
  ·cases h
 |indexAddr t x ix=>
  simp only at h;split at h
  ·rename_i ti hti;split at h
   ·rename_i e he;obtain⟨el,g1,g2,_⟩:=(hΘ _ _ hti).el e he;obtain⟨i,h1,h⟩:=rD h;split at h
    ·rename_i a hx;have ha:=ok x;rw[hx] at ha;obtain⟨c,h2,h3,h⟩:=Hh ha h;refine done ?_ ?_ h
     ·simp only[dH,g1,af,dL,h1,hx,g2];exact h2
     ·exact h3
    ·cases h
   ·cases h
  ·cases h
 |build t parts=>
  simp only at h;split at h
  ·rename_i ti hti;obtain⟨h1,h⟩:=dG h;split at h
   ·rename_i cs hcs;have hok:=hΘ _ _ hti
    obtain⟨g1,g2⟩:=Hj (G:=S.gh) _ _ _ _ (fun c hc=>by
     obtain⟨v,_,rfl⟩:=aL.1 hc;exact CY _ _) (fun y hy=>by
     obtain⟨z,_,rfl⟩:=aL.1 hy;exact ok z.2) hcs
    refine done ?_ ?_ h
    ·simp only[dH,hok.pl h1,hok.ze,af]
     have e1:ti.ty.zvs.map tZ=(ti.ty.zvs.map cC).map Cl.av:=by rw[bi];exact aG fun v _=>(lV v).symm
     have e2:parts.toList.map (fun x=>(x.1,opd S.st x.2))=(parts.toList.map fun x=>(x.1,S.opd x.2)).map fun x=>(x.1,x.2.av):=by rw[bi];exact aG fun x _=>by simp[dL]
     rw[e1,e2,g1];rfl
    ·exact g2
   ·cases h
  ·cases h
 |slice t x lo hi mx=>
  cases mx with
  |some m=>simp at h
  |none=>
   simp only at h;split at h
   ·rename_i ti hti;split at h
    ·rename_i e he;obtain⟨el,g1,g2,_⟩:=(hΘ _ _ hti).el e he;split at h
     ·rename_i a hx;have ha:=ok x;rw[hx] at ha;obtain⟨n,h1,h⟩:=CZ ha h;obtain⟨l,h2,h⟩:=xg h;obtain⟨m,h3,h⟩:=xg h;obtain⟨c,h4,h5,h⟩:=Hi ha h;refine done ?_ ?_ h
      ·simp only[dH,dL,hx];split
       ·rename_i s hs;have hs':a.av= .sc (.string s):=hs;rw[hs'] at h1;cases h1
       ·show (o6 P t).bind _=_;rw[g1];simp only[af];show (oQ a.av).bind _=_;rw[h1];simp only[af,h2,h3,g2];exact h4
      ·exact h5
     ·cases h
    ·cases h
   ·cases h
 |extract x k=>
  simp only at h;split at h
  ·rename_i vs hx;split at h
   ·rename_i v hv;have hvs:=ok x;rw[hx] at hvs;rw[eW] at hv;refine done ?_ ?_ h
    ·simp only[dH,dL,hx,V.av,an,hv,az]
    ·exact hvs v (aq hv)
   ·cases h
  ·cases h
 |makeFunc fn first caps=>
  cases fn with
  |func f=>
   simp only at h;obtain⟨h1,h⟩:=dG h;split at h
   ·rename_i cs hcs
    obtain⟨g1,g2⟩:=Ap (G:=S.gh) _ _ (fun v hv=>by obtain⟨y,_,rfl⟩:=aL.1 hv;exact ok y) hcs
    refine done ?_ ?_ h
    ·simp only[dH,h1,if_true]
     have e:caps.toList.map (opd S.st)=(caps.toList.map S.opd).map V.av:=by rw[bi];exact aG fun x _=>dL x
     rw[e,g1];rfl
    ·exact g2
   ·cases h
  | _=>simp at h
 |unOp op t x=>
  cases op with
  |not=>
   simp only at h;split at h
   ·rename_i b hx;refine done ?_ ?_ h
    ·simp only[dH,dL,hx]; rfl
    ·trivial
   ·cases h
  |neg=>
   simp only at h;split at h
   ·rename_i k n hx;refine done ?_ (V.ok_sc _ _) h;have hxv:nj (opd S.st x)=some (.int k n):=by rw[dL,hx]; rfl
    simp only[dH];unfold dZ;rw[if_pos (by simp[Op.operands,hxv])]
    have e2:dR P (execOp (fun x=>(nj (opd S.st x)).getD undef) ⟨dst, .unOp .neg t x,ty,pos,aft,gd⟩)=some (.value (.int k (k.wrap (0-n)))):=by show dR P (do pure (Next.value (<-Go.Op.unary .neg ((nj (opd S.st x)).getD undef))))=_;rw[hxv];rfl
    rw[e2];rfl
   ·cases h
  | _=>simp at h
 |binOp op t x y t'=>simp only at h;obtain⟨v,h1,h2,h⟩:=Hk (D:=D) (t':=t') (dst:=dst) (ty:=ty) (pos:=pos) (aft:=aft) (gd:=gd) hΘ h;exact done h1 (h2 _) h
 |call c=>
  obtain⟨cl,as,ts⟩:=c;cases cl with
  |value f=>simp at h
  |invoke a b=>simp at h
  |builtin b=>
   cases b with
   |cap=>
    simp only at h;split at h
    ·rename_i x t e1 e2;split at h
     ·rename_i ti hti;split at h
      ·rename_i e he;obtain⟨el,g1,g2,_⟩:=(hΘ _ _ hti).el e he;split at h
       ·rename_i hx;refine done ?_ ?_ h
        ·simp only[dH,e1,e2,g1,Option.isSome_some,if_true,dL,hx];rfl
        ·trivial
       ·cases h
      ·cases h
     ·cases h
    ·cases h
   |len=>
    simp only at h;split at h
    ·rename_i x t e1 e2;split at h
     ·rename_i ti hti;split at h
      ·rename_i e he;obtain⟨el,g1,g2,_⟩:=(hΘ _ _ hti).el e he;split at h
       ·rename_i a hx;have ha:=ok x;rw[hx] at ha;obtain⟨n,h1,h⟩:=CZ ha h;refine done ?_ ?_ h
        ·simp only[dH,e1,e2,g1,Option.isSome_some,if_true,dL,hx];show (oQ a.av).map _=_;rw[h1];rfl
        ·trivial
       ·cases h
      ·cases h
     ·cases h
    ·cases h
   |max=>
    simp only at h;split at h
    ·rename_i x y e1;obtain⟨k,a,b,h1,h2,h⟩:=kA h;refine done ?_ (V.ok_sc _ _) h;simp only[dH,e1,aP,cb,dL,h1,h2];rfl
    ·cases h
   |min=>
    simp only at h;split at h
    ·rename_i x y e1;obtain⟨k,a,b,h1,h2,h⟩:=kA h;refine done ?_ (V.ok_sc _ _) h;simp only[dH,e1,aP,cb,dL,h1,h2];rfl
    ·cases h
   | _=>simp at h
 |convert s d x=>
  simp only at h;split at h
  ·rename_i si di hs hd;split at h
   ·rename_i k' hk;split at h
    ·rename_i k n hx;refine done ?_ (V.ok_sc _ _) h;have hud:=(hΘ _ _ hd).int _ hk
     obtain⟨ds,hus⟩: ∃ds,P.underlying s=some ds:=by
      have:=(hΘ _ _ hs).ag;unfold vY at this;cases hu:P.underlying s with
      |none=>rw[hu] at this; cases this
      |some ds=>exact⟨ds,rfl⟩
     have hxv:nj (opd S.st x)=some (.int k n):=by rw[dL,hx]; rfl
     simp only[dH];unfold dZ;rw[if_pos (by simp[Op.operands,hxv])]
     have e:dR P (Go.convert s d (.int k n))=some (.int k' (k'.wrap n)):=by unfold Go.convert;simp only[dP,eN hus,eN hud,af];cases ds<;>rfl
     have e2:dR P (execOp (fun x=>(nj (opd S.st x)).getD undef) ⟨dst, .convert s d x,ty,pos,aft,gd⟩)=some (.value (.int k' (k'.wrap n))):=by show dR P (do pure (Next.value (<-Go.convert s d ((nj (opd S.st x)).getD undef))))=_;rw[hxv];simp only[dP,aK,e,af,dS]
     rw[e2];rfl
    ·cases h
   ·cases h
  ·cases h
 |index t x ix=>
  simp only at h;split at h
  ·rename_i ti hti;split at h
   ·rename_i hs;split at h
    ·rename_i s k i hx hi;unfold dJ at h;split at h
     ·rename_i h0;obtain⟨b,hb,h⟩:=aj.1 h;refine done ?_ (V.ok_sc _ _) h
      have hus:P.underlying t=some .string:=by
       have:=(hΘ _ _ hti).str;rw[hs] at this;unfold tH at this;split at this
       ·assumption
       ·cases this
      have hxv:nj (opd S.st x)=some (.string s):=by rw[dL,hx]; rfl
      have hiv:nj (opd S.st ix)=some (.int k i):=by rw[dL,hi]; rfl
      have hxa:opd S.st x= .sc (.string s):=by rw[dL,hx]; rfl
      simp only[dH,hxa];unfold dZ;rw[if_pos (by simp[Op.operands,hxv,hiv])]
      have e:dR P (Instr.index t (.string s) (.int k i))=some (.int .u8 b.toNat):=by unfold Instr.index;simp only[dP,asIntOf,dS,af,eN hus];rw[if_pos h0,hb];rfl
      have e2:dR P (execOp (fun x=>(nj (opd S.st x)).getD undef) ⟨dst, .index t x ix,ty,pos,aft,gd⟩)=some (.value (.int .u8 b.toNat)):=by show dR P (do pure (Next.value (<-Instr.index t ((nj (opd S.st x)).getD undef) ((nj (opd S.st ix)).getD undef))))=_;rw[hxv,hiv];simp only[dP,aK,e,af,dS]
      rw[e2];rfl
     ·cases h
    ·cases h
   ·cases h
  ·cases h
 | _=>simp at h
end
end
end Go.Proofs.YtadpelkpdaohnaaGreatDoor.En
