import Derived.Test.YtadabkgmdllbfabGreatZX5
import Derived.Lib.Overlaps
namespace Go.Proofs.YtadabkgmdllbfabGreat.En
section
open Go Go.RowKit
section
variable {P:Program} {w w':World} {W:Nat->Prop} {bt:Bt}
structure TX (P:Program) (f t e tn:Nat) (sz:Nat) (i:TypeInfo) (z:Value):Prop where
 enter: ∀ (args:Array Value) (w:World),(callFunc f args).run P w= .ok (.enter f args) w
 ht:P.underlying t=some (.slice e)
 hi:P.info? e=some i
 hz:i.zero=some z
 zs:z.cells.size=i.size
 z1: ∀u∈z.cells.toList,u.oneCell'=true
 hs:i.size=sz
 pos:0<sz
 htn:P.underlying tn=some (.int .i64)
 toEnd: ∀ (ab:Option Addr) (n c:Nat) (ad:Addr) (vc:Nat) (w w':World) (v:Value),n<=c->(ab=none->n=0)->n<=2 ^ 40->
  (∀ty,(Builtin.append_ #[t,t] ty #[.slice ab n c, .slice (some ad) 1 vc]).run P w= .ok v w')->
  Calls P f #[.slice ab n c, .int .i64 n, .slice (some ad) 1 vc] w fun e w1=>e= .returned v/\w1=w'
 shift: ∀ (b n c i:Nat) (ad:Addr) (vc:Nat) (w W1 W2:World) (u1 u2:Value),i<n->n+1<=c->n<=2 ^ 40->ad.block≠b->
  (∃ra ta fa,w.heap[ad.block]? =some (.cells ra ta fa)/\0<ra.size)->(∃rb tb,w.heap[b]? =some (.cells rb tb (0,0)))->
  (∀ty dc sc,(Builtin.copy_ #[t,t] ty #[.slice (some ⟨b,(i+1)*sz,none⟩) (n-i) dc, .slice (some ⟨b,i*sz,none⟩) (n+1-i) sc]).run P w.drew= .ok u1 W1)->
  (∀ty dc,(Builtin.copy_ #[t,t] ty #[.slice (some ⟨b,i*sz,none⟩) (n+1-i) dc, .slice (some ad) 1 vc]).run P W1= .ok u2 W2)->
  Calls P f #[.slice (some ⟨b,0,none⟩) n c, .int .i64 i, .slice (some ad) 1 vc] w fun e w1=>e= .returned (.slice (some ⟨b,0,none⟩) (n+1) c)/\w1=W2
 grow: ∀ (b g n c G i:Nat) (ad:Addr) (vc:Nat) (w W0 W1 W2:World) (u1 u2:Value),i<n->n<=c->c<n+1->n+1<=G->n<=2 ^ 40->
  (∀ty,(Builtin.append_ #[t,tn] ty #[.slice (some ⟨b,0,none⟩) i c, .int .i64 ((n:Int)+1-(i:Int))]).run P w= .ok (.slice (some ⟨g,0,none⟩) (n+1) G) W0)->
  (∀ty dc,(Builtin.copy_ #[t,t] ty #[.slice (some ⟨g,i*sz,none⟩) (n+1-i) dc, .slice (some ad) 1 vc]).run P W0= .ok u1 W1)->
  (∀ty dc sc,(Builtin.copy_ #[t,t] ty #[.slice (some ⟨g,(i+1)*sz,none⟩) (n-i) dc, .slice (some ⟨b,i*sz,none⟩) (n-i) sc]).run P W1.drew= .ok u2 W2)->
  Calls P f #[.slice (some ⟨b,0,none⟩) n c, .int .i64 i, .slice (some ad) 1 vc] w fun e w1=>e= .returned (.slice (some ⟨g,0,none⟩) (n+1) G)/\w1=W2
end
end
section
open Go
structure Hd where
 a:Option Addr
 n:Nat
 c:Nat
 deriving DecidableEq,Inhabited
structure Op where
 client:Int
 seq:Int
 kind:Int
 object:Int
 old:Int
 value:Int
 deriving DecidableEq,Inhabited
structure Result where
 done:Bool
 value:Int
 deriving DecidableEq,Inhabited
structure eD where
 client:Int
 seq:Int
 result:Result
 deriving DecidableEq,Inhabited
structure gf where
 objects:List Int
 sessions:List eD
 deriving DecidableEq,Inhabited
structure ek where
 epoch:Int
 op:Op
 deriving DecidableEq,Inhabited
structure BT where
 count:Int
 digest:Int
 machine:gf
 deriving DecidableEq,Inhabited
structure ed where
 epoch:Int
 primary:Int
 replicas:List Int
 witnesses:List Int
 deriving DecidableEq,Inhabited
structure eO where
 rack:Int
 capacity:Int
 load:Int
 deriving DecidableEq,Inhabited
structure eh where
 configs:List ed
 activated:Int
 deriving DecidableEq,Inhabited
structure fR where
 epoch:Int
 holder:Int
 ends:Int
 deriving DecidableEq,Inhabited
structure dZ where
 up:Bool
 intact:Bool
 version:Int
 epoch:Int
 config:ed
 first:Int
 log:List ek
 commit:Int
 learned:List ek
 deriving DecidableEq,Inhabited
structure dX where
 now:Int
 servers:List dZ
 sides:List Int
 master:eh
 masterUp:Int
 lease:fR
 places:List eO
 deriving DecidableEq,Inhabited
structure kO where
 code:Int
 result:Result
 index:Int
 deriving DecidableEq,Inhabited
structure T9 where
 op:Op
 index:Int
 deriving DecidableEq,Inhabited
structure fL where
 kind:Int
 server:Int
 other:Int
 n:Int
 op:Op
 deriving DecidableEq,Inhabited
structure Je where
 server:Int
 index:Int
 deriving DecidableEq,Inhabited
structure Rz where
 start:Int
 event:Int
 read:Bool
 index:Int
 value:Int
 op:Op
 deriving DecidableEq,Inhabited
structure gE where
 b:Hd
 i:Int
 h:Int
 deriving DecidableEq,Inhabited
inductive Sn where
 |op|result|session|machine|entry|snapshot|config|place|masterLog|lease|server|cluster|reply|ack|event|damage|mark|cur
 deriving DecidableEq,Inhabited
abbrev Sn.D:Sn->Type
 | .op=>Op
 | .result=>Result
 | .session=>eD
 | .machine=>gf
 | .entry=>ek
 | .snapshot=>BT
 | .config=>ed
 | .place=>eO
 | .masterLog=>eh
 | .lease=>fR
 | .server=>dZ
 | .cluster=>dX
 | .reply=>kO
 | .ack=>T9
 | .event=>fL
 | .damage=>Je
 | .mark=>Rz
 | .cur=>gE
inductive Ty where|i (k:IntKind)|b|s|h|st (n:Sn)|ls (t:Ty)
 deriving DecidableEq,Inhabited
abbrev Ty.D:Ty->Type
 | .i _=>Int| .b=>Bool| .s=>ByteArray| .h=>Hd| .st n=>n.D| .ls t=>List t.D
inductive C where|sc (v:Value)|ls (t:Ty) (l:List t.D)
 deriving Inhabited
def Sn.flat: (n:Sn)->n.D->List C
 | .op,x=> [.sc (.int .i64 x.client), .sc (.int .i64 x.seq), .sc (.int .i64 x.kind), .sc (.int .i64 x.object), .sc (.int .i64 x.old), .sc (.int .i64 x.value)]
 | .result,x=> [.sc (.bool x.done), .sc (.int .i64 x.value)]
 | .session,x=> [.sc (.int .i64 x.client), .sc (.int .i64 x.seq), .sc (.bool x.result.done), .sc (.int .i64 x.result.value)]
 | .machine,x=> [.ls (.i .i64) x.objects, .ls (.st .session) x.sessions]
 | .entry,x=> [.sc (.int .i64 x.epoch), .sc (.int .i64 x.op.client), .sc (.int .i64 x.op.seq), .sc (.int .i64 x.op.kind), .sc (.int .i64 x.op.object), .sc (.int .i64 x.op.old), .sc (.int .i64 x.op.value)]
 | .snapshot,x=> [.sc (.int .i64 x.count), .sc (.int .i64 x.digest), .ls (.i .i64) x.machine.objects, .ls (.st .session) x.machine.sessions]
 | .config,x=> [.sc (.int .i64 x.epoch), .sc (.int .i64 x.primary), .ls (.i .i64) x.replicas, .ls (.i .i64) x.witnesses]
 | .place,x=> [.sc (.int .i64 x.rack), .sc (.int .i64 x.capacity), .sc (.int .i64 x.load)]
 | .masterLog,x=> [.ls (.st .config) x.configs, .sc (.int .i64 x.activated)]
 | .lease,x=> [.sc (.int .i64 x.epoch), .sc (.int .i64 x.holder), .sc (.int .i64 x.ends)]
 | .server,x=> [.sc (.bool x.up), .sc (.bool x.intact), .sc (.int .i64 x.version), .sc (.int .i64 x.epoch), .sc (.int .i64 x.config.epoch), .sc (.int .i64 x.config.primary), .ls (.i .i64) x.config.replicas, .ls (.i .i64) x.config.witnesses, .sc (.int .i64 x.first), .ls (.st .entry) x.log, .sc (.int .i64 x.commit), .ls (.st .entry) x.learned]
 | .cluster,x=> [.sc (.int .i64 x.now), .ls (.st .server) x.servers, .ls (.i .i64) x.sides, .ls (.st .config) x.master.configs, .sc (.int .i64 x.master.activated), .sc (.int .i64 x.masterUp), .sc (.int .i64 x.lease.epoch), .sc (.int .i64 x.lease.holder), .sc (.int .i64 x.lease.ends), .ls (.st .place) x.places]
 | .reply,x=> [.sc (.int .i64 x.code), .sc (.bool x.result.done), .sc (.int .i64 x.result.value), .sc (.int .i64 x.index)]
 | .ack,x=> [.sc (.int .i64 x.op.client), .sc (.int .i64 x.op.seq), .sc (.int .i64 x.op.kind), .sc (.int .i64 x.op.object), .sc (.int .i64 x.op.old), .sc (.int .i64 x.op.value), .sc (.int .i64 x.index)]
 | .event,x=> [.sc (.int .i64 x.kind), .sc (.int .i64 x.server), .sc (.int .i64 x.other), .sc (.int .i64 x.n), .sc (.int .i64 x.op.client), .sc (.int .i64 x.op.seq), .sc (.int .i64 x.op.kind), .sc (.int .i64 x.op.object), .sc (.int .i64 x.op.old), .sc (.int .i64 x.op.value)]
 | .damage,x=> [.sc (.int .i64 x.server), .sc (.int .i64 x.index)]
 | .mark,x=> [.sc (.int .i64 x.start), .sc (.int .i64 x.event), .sc (.bool x.read), .sc (.int .i64 x.index), .sc (.int .i64 x.value), .sc (.int .i64 x.op.client), .sc (.int .i64 x.op.seq), .sc (.int .i64 x.op.kind), .sc (.int .i64 x.op.object), .sc (.int .i64 x.op.old), .sc (.int .i64 x.op.value)]
 | .cur,x=> [.sc (.slice x.b.a x.b.n x.b.c), .sc (.int .i64 x.i), .sc (.int .i64 x.h)]
def Ty.flat: (t:Ty)->t.D->List C
 | .i k,n=> [.sc (.int k n)] | .b,v=> [.sc (.bool v)] | .s,v=> [.sc (.string v)] | .h,v=> [.sc (.slice v.a v.n v.c)] | .st n,x=>n.flat x| .ls t,l=> [.ls t l]
def Sn.width:Sn->Nat
 | .op=>6| .result=>2| .session=>4| .machine=>2| .entry=>7| .snapshot=>4| .config=>4| .place=>3| .masterLog=>2| .lease=>3| .server=>12| .cluster=>10| .reply=>4| .ack=>7| .event=>10| .damage=>2| .mark=>11| .cur=>3
def Ty.width:Ty->Nat| .st n=>n.width| _=>1
def Sn.csh:Sn->List (Option Ty)
 | .op=> [none,none,none,none,none,none]
 | .result=> [none,none]
 | .session=> [none,none,none,none]
 | .machine=> [some (.i .i64),some (.st .session)]
 | .entry=> [none,none,none,none,none,none,none]
 | .snapshot=> [none,none,some (.i .i64),some (.st .session)]
 | .config=> [none,none,some (.i .i64),some (.i .i64)]
 | .place=> [none,none,none]
 | .masterLog=> [some (.st .config),none]
 | .lease=> [none,none,none]
 | .server=> [none,none,none,none,none,none,some (.i .i64),some (.i .i64),none,some (.st .entry),none,some (.st .entry)]
 | .cluster=> [none,some (.st .server),some (.i .i64),some (.st .config),none,none,none,none,none,some (.st .place)]
 | .reply=> [none,none,none,none]
 | .ack=> [none,none,none,none,none,none,none]
 | .event=> [none,none,none,none,none,none,none,none,none,none]
 | .damage=> [none,none]
 | .mark=> [none,none,none,none,none,none,none,none,none,none,none]
 | .cur=> [none,none,none]
def Ty.csh:Ty->List (Option Ty)| .st n=>n.csh| .ls t=> [some t] | _=> [none]
def Sn.zvs:Sn->List Value
 | .op=> [.int .i64 0, .int .i64 0, .int .i64 0, .int .i64 0, .int .i64 0, .int .i64 0]
 | .result=> [.bool false, .int .i64 0]
 | .session=> [.int .i64 0, .int .i64 0, .bool false, .int .i64 0]
 | .machine=> [.slice none 0 0, .slice none 0 0]
 | .entry=> [.int .i64 0, .int .i64 0, .int .i64 0, .int .i64 0, .int .i64 0, .int .i64 0, .int .i64 0]
 | .snapshot=> [.int .i64 0, .int .i64 0, .slice none 0 0, .slice none 0 0]
 | .config=> [.int .i64 0, .int .i64 0, .slice none 0 0, .slice none 0 0]
 | .place=> [.int .i64 0, .int .i64 0, .int .i64 0]
 | .masterLog=> [.slice none 0 0, .int .i64 0]
 | .lease=> [.int .i64 0, .int .i64 0, .int .i64 0]
 | .server=> [.bool false, .bool false, .int .i64 0, .int .i64 0, .int .i64 0, .int .i64 0, .slice none 0 0, .slice none 0 0, .int .i64 0, .slice none 0 0, .int .i64 0, .slice none 0 0]
 | .cluster=> [.int .i64 0, .slice none 0 0, .slice none 0 0, .slice none 0 0, .int .i64 0, .int .i64 0, .int .i64 0, .int .i64 0, .int .i64 0, .slice none 0 0]
 | .reply=> [.int .i64 0, .bool false, .int .i64 0, .int .i64 0]
 | .ack=> [.int .i64 0, .int .i64 0, .int .i64 0, .int .i64 0, .int .i64 0, .int .i64 0, .int .i64 0]
 | .event=> [.int .i64 0, .int .i64 0, .int .i64 0, .int .i64 0, .int .i64 0, .int .i64 0, .int .i64 0, .int .i64 0, .int .i64 0, .int .i64 0]
 | .damage=> [.int .i64 0, .int .i64 0]
 | .mark=> [.int .i64 0, .int .i64 0, .bool false, .int .i64 0, .int .i64 0, .int .i64 0, .int .i64 0, .int .i64 0, .int .i64 0, .int .i64 0, .int .i64 0]
 | .cur=> [.nilFunc, .int .i64 0, .int .i64 0]
def Ty.zvs:Ty->List Value| .i k=> [.int k 0] | .b=> [.bool false] | .s=> [.string ByteArray.empty] | .h=> [.nilFunc] | .st n=>n.zvs| .ls _=> [.slice none 0 0]
def gI (k:IntKind) {α:Type} (cs:List C) (f:Int->List C->Option α):Option α:=match cs with | .sc (.int k' n)::r=>if k'=k then f n r else none| _=>none
def gB {α:Type} (cs:List C) (f:Bool->List C->Option α):Option α:=match cs with | .sc (.bool v)::r=>f v r| _=>none
def gS {α:Type} (cs:List C) (f:ByteArray->List C->Option α):Option α:=match cs with | .sc (.string v)::r=>f v r| _=>none
def gH {α:Type} (cs:List C) (f:Hd->List C->Option α):Option α:=match cs with | .sc (.slice a n c)::r=>f ⟨a,n,c⟩ r| _=>none
def gL (t:Ty) {α:Type} (cs:List C) (f:List t.D->List C->Option α):Option α:=match cs with | .ls t' l::r=>if h:t'=t then f (h ▸ l) r else none| _=>none
def gN {α:Type} (cs:List C) (x:α):Option α:=match cs with | [] =>some x| _=>none
def Sn.unflat: (n:Sn)->List C->Option n.D
 | .op,cs=>gI .i64 cs fun a0 r0=>gI .i64 r0 fun a1 r1=>gI .i64 r1 fun a2 r2=>gI .i64 r2 fun a3 r3=>gI .i64 r3 fun a4 r4=>gI .i64 r4 fun a5 r5=>gN r5 (⟨a0,a1,a2,a3,a4,a5⟩:Op)
 | .result,cs=>gB cs fun a0 r0=>gI .i64 r0 fun a1 r1=>gN r1 (⟨a0,a1⟩:Result)
 | .session,cs=>gI .i64 cs fun a0 r0=>gI .i64 r0 fun a1 r1=>gB r1 fun a2 r2=>gI .i64 r2 fun a3 r3=>gN r3 (⟨a0,a1,⟨a2,a3⟩⟩:eD)
 | .machine,cs=>gL (.i .i64) cs fun a0 r0=>gL (.st .session) r0 fun a1 r1=>gN r1 (⟨a0,a1⟩:gf)
 | .entry,cs=>gI .i64 cs fun a0 r0=>gI .i64 r0 fun a1 r1=>gI .i64 r1 fun a2 r2=>gI .i64 r2 fun a3 r3=>gI .i64 r3 fun a4 r4=>gI .i64 r4 fun a5 r5=>gI .i64 r5 fun a6 r6=>gN r6 (⟨a0,⟨a1,a2,a3,a4,a5,a6⟩⟩:ek)
 | .snapshot,cs=>gI .i64 cs fun a0 r0=>gI .i64 r0 fun a1 r1=>gL (.i .i64) r1 fun a2 r2=>gL (.st .session) r2 fun a3 r3=>gN r3 (⟨a0,a1,⟨a2,a3⟩⟩:BT)
 | .config,cs=>gI .i64 cs fun a0 r0=>gI .i64 r0 fun a1 r1=>gL (.i .i64) r1 fun a2 r2=>gL (.i .i64) r2 fun a3 r3=>gN r3 (⟨a0,a1,a2,a3⟩:ed)
 | .place,cs=>gI .i64 cs fun a0 r0=>gI .i64 r0 fun a1 r1=>gI .i64 r1 fun a2 r2=>gN r2 (⟨a0,a1,a2⟩:eO)
 | .masterLog,cs=>gL (.st .config) cs fun a0 r0=>gI .i64 r0 fun a1 r1=>gN r1 (⟨a0,a1⟩:eh)
 | .lease,cs=>gI .i64 cs fun a0 r0=>gI .i64 r0 fun a1 r1=>gI .i64 r1 fun a2 r2=>gN r2 (⟨a0,a1,a2⟩:fR)
 | .server,cs=>gB cs fun a0 r0=>gB r0 fun a1 r1=>gI .i64 r1 fun a2 r2=>gI .i64 r2 fun a3 r3=>gI .i64 r3 fun a4 r4=>gI .i64 r4 fun a5 r5=>gL (.i .i64) r5 fun a6 r6=>gL (.i .i64) r6 fun a7 r7=>gI .i64 r7 fun a8 r8=>gL (.st .entry) r8 fun a9 r9=>gI .i64 r9 fun a10 r10=>gL (.st .entry) r10 fun a11 r11=>gN r11 (⟨a0,a1,a2,a3,⟨a4,a5,a6,a7⟩,a8,a9,a10,a11⟩:dZ)
 | .cluster,cs=>gI .i64 cs fun a0 r0=>gL (.st .server) r0 fun a1 r1=>gL (.i .i64) r1 fun a2 r2=>gL (.st .config) r2 fun a3 r3=>gI .i64 r3 fun a4 r4=>gI .i64 r4 fun a5 r5=>gI .i64 r5 fun a6 r6=>gI .i64 r6 fun a7 r7=>gI .i64 r7 fun a8 r8=>gL (.st .place) r8 fun a9 r9=>gN r9 (⟨a0,a1,a2,⟨a3,a4⟩,a5,⟨a6,a7,a8⟩,a9⟩:dX)
 | .reply,cs=>gI .i64 cs fun a0 r0=>gB r0 fun a1 r1=>gI .i64 r1 fun a2 r2=>gI .i64 r2 fun a3 r3=>gN r3 (⟨a0,⟨a1,a2⟩,a3⟩:kO)
 | .ack,cs=>gI .i64 cs fun a0 r0=>gI .i64 r0 fun a1 r1=>gI .i64 r1 fun a2 r2=>gI .i64 r2 fun a3 r3=>gI .i64 r3 fun a4 r4=>gI .i64 r4 fun a5 r5=>gI .i64 r5 fun a6 r6=>gN r6 (⟨⟨a0,a1,a2,a3,a4,a5⟩,a6⟩:T9)
 | .event,cs=>gI .i64 cs fun a0 r0=>gI .i64 r0 fun a1 r1=>gI .i64 r1 fun a2 r2=>gI .i64 r2 fun a3 r3=>gI .i64 r3 fun a4 r4=>gI .i64 r4 fun a5 r5=>gI .i64 r5 fun a6 r6=>gI .i64 r6 fun a7 r7=>gI .i64 r7 fun a8 r8=>gI .i64 r8 fun a9 r9=>gN r9 (⟨a0,a1,a2,a3,⟨a4,a5,a6,a7,a8,a9⟩⟩:fL)
 | .damage,cs=>gI .i64 cs fun a0 r0=>gI .i64 r0 fun a1 r1=>gN r1 (⟨a0,a1⟩:Je)
 | .mark,cs=>gI .i64 cs fun a0 r0=>gI .i64 r0 fun a1 r1=>gB r1 fun a2 r2=>gI .i64 r2 fun a3 r3=>gI .i64 r3 fun a4 r4=>gI .i64 r4 fun a5 r5=>gI .i64 r5 fun a6 r6=>gI .i64 r6 fun a7 r7=>gI .i64 r7 fun a8 r8=>gI .i64 r8 fun a9 r9=>gI .i64 r9 fun a10 r10=>gN r10 (⟨a0,a1,a2,a3,a4,⟨a5,a6,a7,a8,a9,a10⟩⟩:Rz)
 | .cur,cs=>gH cs fun a0 r0=>gI .i64 r0 fun a1 r1=>gI .i64 r1 fun a2 r2=>gN r2 (⟨a0,a1,a2⟩:gE)
def Ty.unflat: (t:Ty)->List C->Option t.D
 | .i k,cs=>gI k cs fun n r=>gN r n| .b,cs=>gB cs fun n r=>gN r n| .s,cs=>gS cs fun n r=>gN r n| .h,cs=>gH cs fun n r=>gN r n| .st n,cs=>n.unflat cs| .ls t,cs=>gL t cs fun l r=>gN r l
def SK (x:Op):List T:= [.sc (.int .i64 x.client), .sc (.int .i64 x.seq), .sc (.int .i64 x.kind), .sc (.int .i64 x.object), .sc (.int .i64 x.old), .sc (.int .i64 x.value)]
def LD (x:Result):List T:= [.sc (.bool x.done), .sc (.int .i64 x.value)]
def xw (x:eD):List T:= [.sc (.int .i64 x.client), .sc (.int .i64 x.seq), .sc (.bool x.result.done), .sc (.int .i64 x.result.value)]
def Jf (x:gf):List T:= [.sl 1 (x.objects.map fun n=> [.sc (.int .i64 n)]), .sl 4 (x.sessions.map xw)]
def BU (x:ek):List T:= [.sc (.int .i64 x.epoch), .sc (.int .i64 x.op.client), .sc (.int .i64 x.op.seq), .sc (.int .i64 x.op.kind), .sc (.int .i64 x.op.object), .sc (.int .i64 x.op.old), .sc (.int .i64 x.op.value)]
def Hh (x:BT):List T:= [.sc (.int .i64 x.count), .sc (.int .i64 x.digest), .sl 1 (x.machine.objects.map fun n=> [.sc (.int .i64 n)]), .sl 4 (x.machine.sessions.map xw)]
def zq (x:ed):List T:= [.sc (.int .i64 x.epoch), .sc (.int .i64 x.primary), .sl 1 (x.replicas.map fun n=> [.sc (.int .i64 n)]), .sl 1 (x.witnesses.map fun n=> [.sc (.int .i64 n)])]
def Hi (x:eO):List T:= [.sc (.int .i64 x.rack), .sc (.int .i64 x.capacity), .sc (.int .i64 x.load)]
def Fp (x:eh):List T:= [.sl 4 (x.configs.map zq), .sc (.int .i64 x.activated)]
def M4 (x:fR):List T:= [.sc (.int .i64 x.epoch), .sc (.int .i64 x.holder), .sc (.int .i64 x.ends)]
def ED (x:dZ):List T:= [.sc (.bool x.up), .sc (.bool x.intact), .sc (.int .i64 x.version), .sc (.int .i64 x.epoch), .sc (.int .i64 x.config.epoch), .sc (.int .i64 x.config.primary), .sl 1 (x.config.replicas.map fun n=> [.sc (.int .i64 n)]), .sl 1 (x.config.witnesses.map fun n=> [.sc (.int .i64 n)]), .sc (.int .i64 x.first), .sl 7 (x.log.map BU), .sc (.int .i64 x.commit), .sl 7 (x.learned.map BU)]
def Jg (x:dX):List T:= [.sc (.int .i64 x.now), .sl 12 (x.servers.map ED), .sl 1 (x.sides.map fun n=> [.sc (.int .i64 n)]), .sl 4 (x.master.configs.map zq), .sc (.int .i64 x.master.activated), .sc (.int .i64 x.masterUp), .sc (.int .i64 x.lease.epoch), .sc (.int .i64 x.lease.holder), .sc (.int .i64 x.lease.ends), .sl 3 (x.places.map Hi)]
def M5 (x:kO):List T:= [.sc (.int .i64 x.code), .sc (.bool x.result.done), .sc (.int .i64 x.result.value), .sc (.int .i64 x.index)]
def RA (x:T9):List T:= [.sc (.int .i64 x.op.client), .sc (.int .i64 x.op.seq), .sc (.int .i64 x.op.kind), .sc (.int .i64 x.op.object), .sc (.int .i64 x.op.old), .sc (.int .i64 x.op.value), .sc (.int .i64 x.index)]
def M6 (x:fL):List T:= [.sc (.int .i64 x.kind), .sc (.int .i64 x.server), .sc (.int .i64 x.other), .sc (.int .i64 x.n), .sc (.int .i64 x.op.client), .sc (.int .i64 x.op.seq), .sc (.int .i64 x.op.kind), .sc (.int .i64 x.op.object), .sc (.int .i64 x.op.old), .sc (.int .i64 x.op.value)]
def LF (x:Je):List T:= [.sc (.int .i64 x.server), .sc (.int .i64 x.index)]
def Pi (x:Rz):List T:= [.sc (.int .i64 x.start), .sc (.int .i64 x.event), .sc (.bool x.read), .sc (.int .i64 x.index), .sc (.int .i64 x.value), .sc (.int .i64 x.op.client), .sc (.int .i64 x.op.seq), .sc (.int .i64 x.op.kind), .sc (.int .i64 x.op.object), .sc (.int .i64 x.op.old), .sc (.int .i64 x.op.value)]
def nn (x:gE):List T:= [.sc (.slice x.b.a x.b.n x.b.c), .sc (.int .i64 x.i), .sc (.int .i64 x.h)]
def Sn.row: (n:Sn)->n.D->List T
 | .op,x=>SK x
 | .result,x=>LD x
 | .session,x=>xw x
 | .machine,x=>Jf x
 | .entry,x=>BU x
 | .snapshot,x=>Hh x
 | .config,x=>zq x
 | .place,x=>Hi x
 | .masterLog,x=>Fp x
 | .lease,x=>M4 x
 | .server,x=>ED x
 | .cluster,x=>Jg x
 | .reply,x=>M5 x
 | .ack,x=>RA x
 | .event,x=>M6 x
 | .damage,x=>LF x
 | .mark,x=>Pi x
 | .cur,x=>nn x
def Ty.row: (t:Ty)->t.D->List T
 | .i k,n=> [.sc (.int k n)] | .b,v=> [.sc (.bool v)] | .s,v=> [.sc (.string v)] | .h,v=> [.sc (.slice v.a v.n v.c)] | .st n,x=>n.row x| .ls t,l=> [.sl t.width (l.map t.row)]
def C.tree:C->T| .sc v=> .sc v| .ls t l=> .sl t.width (l.map t.row)
def C.good:C->Bool| .sc v=>o5 v| .ls _ _=>true
theorem Ty.row_flat (t:Ty) (x:t.D):t.row x=(t.flat x).map C.tree:=by
 cases t with
 |st n=>cases n<;>rfl
 | _=>rfl
theorem Ty.flat_length (t:Ty) (x:t.D): (t.flat x).length=t.width:=by
 cases t with
 |st n=>cases n<;>rfl
 | _=>rfl
theorem Ty.row_length (t:Ty) (x:t.D): (t.row x).length=t.width:=by rw[t.row_flat,aN,t.flat_length]
theorem ey {k:IntKind} {α:Type} {cs:List C} {f:Int->List C->Option α} {y:α} (h:gI k cs f=some y): ∃n r,cs= .sc (.int k n)::r/\f n r=some y:=by
 unfold gI at h;split at h
 ·split at h
  ·rename_i hk; subst hk; exact⟨_,_,rfl,h⟩
  ·cases h
 ·cases h
theorem ug {α:Type} {cs:List C} {f:Bool->List C->Option α} {y:α} (h:gB cs f=some y): ∃n r,cs= .sc (.bool n)::r/\f n r=some y:=by
 unfold gB at h;split at h
 ·exact⟨_,_,rfl,h⟩
 ·cases h
theorem Pj {α:Type} {cs:List C} {f:ByteArray->List C->Option α} {y:α} (h:gS cs f=some y): ∃n r,cs= .sc (.string n)::r/\f n r=some y:=by
 unfold gS at h;split at h
 ·exact⟨_,_,rfl,h⟩
 ·cases h
theorem Kn {α:Type} {cs:List C} {f:Hd->List C->Option α} {y:α} (h:gH cs f=some y): ∃n r,cs= .sc (.slice n.a n.n n.c)::r/\f n r=some y:=by
 unfold gH at h;split at h
 ·exact⟨_,_,rfl,h⟩
 ·cases h
theorem ko {t:Ty} {α:Type} {cs:List C} {f:List t.D->List C->Option α} {y:α} (h:gL t cs f=some y): ∃n r,cs= .ls t n::r/\f n r=some y:=by
 unfold gL at h;split at h
 ·split at h
  ·rename_i hk; subst hk; exact⟨_,_,rfl,h⟩
  ·cases h
 ·cases h
theorem ij {α:Type} {cs:List C} {x y:α} (h:gN cs x=some y):cs= [] /\x=y:=by
 unfold gN at h;split at h
 ·simp only[af] at h; exact⟨rfl,h⟩
 ·cases h
theorem Sn.unflat_some: ∀ (n:Sn) (cs:List C) (x:n.D),n.unflat cs=some x->n.flat x=cs
 | .op,cs,x,h=>by unfold Sn.unflat at h;obtain⟨a0,r0,h0,h⟩:=ey h;obtain⟨a1,r1,h1,h⟩:=ey h;obtain⟨a2,r2,h2,h⟩:=ey h;obtain⟨a3,r3,h3,h⟩:=ey h;obtain⟨a4,r4,h4,h⟩:=ey h;obtain⟨a5,r5,h5,h⟩:=ey h;obtain⟨e,h⟩:=ij h;subst h e h5 h4 h3 h2 h1 h0;rfl
 | .result,cs,x,h=>by unfold Sn.unflat at h;obtain⟨a0,r0,h0,h⟩:=ug h;obtain⟨a1,r1,h1,h⟩:=ey h;obtain⟨e,h⟩:=ij h;subst h e h1 h0;rfl
 | .session,cs,x,h=>by unfold Sn.unflat at h;obtain⟨a0,r0,h0,h⟩:=ey h;obtain⟨a1,r1,h1,h⟩:=ey h;obtain⟨a2,r2,h2,h⟩:=ug h;obtain⟨a3,r3,h3,h⟩:=ey h;obtain⟨e,h⟩:=ij h;subst h e h3 h2 h1 h0;rfl
 | .machine,cs,x,h=>by unfold Sn.unflat at h;obtain⟨a0,r0,h0,h⟩:=ko h;obtain⟨a1,r1,h1,h⟩:=ko h;obtain⟨e,h⟩:=ij h;subst h e h1 h0;rfl
 | .entry,cs,x,h=>by unfold Sn.unflat at h;obtain⟨a0,r0,h0,h⟩:=ey h;obtain⟨a1,r1,h1,h⟩:=ey h;obtain⟨a2,r2,h2,h⟩:=ey h;obtain⟨a3,r3,h3,h⟩:=ey h;obtain⟨a4,r4,h4,h⟩:=ey h;obtain⟨a5,r5,h5,h⟩:=ey h;obtain⟨a6,r6,h6,h⟩:=ey h;obtain⟨e,h⟩:=ij h;subst h e h6 h5 h4 h3 h2 h1 h0;rfl
 | .snapshot,cs,x,h=>by unfold Sn.unflat at h;obtain⟨a0,r0,h0,h⟩:=ey h;obtain⟨a1,r1,h1,h⟩:=ey h;obtain⟨a2,r2,h2,h⟩:=ko h;obtain⟨a3,r3,h3,h⟩:=ko h;obtain⟨e,h⟩:=ij h;subst h e h3 h2 h1 h0;rfl
 | .config,cs,x,h=>by unfold Sn.unflat at h;obtain⟨a0,r0,h0,h⟩:=ey h;obtain⟨a1,r1,h1,h⟩:=ey h;obtain⟨a2,r2,h2,h⟩:=ko h;obtain⟨a3,r3,h3,h⟩:=ko h;obtain⟨e,h⟩:=ij h;subst h e h3 h2 h1 h0;rfl
 | .place,cs,x,h=>by unfold Sn.unflat at h;obtain⟨a0,r0,h0,h⟩:=ey h;obtain⟨a1,r1,h1,h⟩:=ey h;obtain⟨a2,r2,h2,h⟩:=ey h;obtain⟨e,h⟩:=ij h;subst h e h2 h1 h0;rfl
 | .masterLog,cs,x,h=>by unfold Sn.unflat at h;obtain⟨a0,r0,h0,h⟩:=ko h;obtain⟨a1,r1,h1,h⟩:=ey h;obtain⟨e,h⟩:=ij h;subst h e h1 h0;rfl
 | .lease,cs,x,h=>by unfold Sn.unflat at h;obtain⟨a0,r0,h0,h⟩:=ey h;obtain⟨a1,r1,h1,h⟩:=ey h;obtain⟨a2,r2,h2,h⟩:=ey h;obtain⟨e,h⟩:=ij h;subst h e h2 h1 h0;rfl
 | .server,cs,x,h=>by unfold Sn.unflat at h;obtain⟨a0,r0,h0,h⟩:=ug h;obtain⟨a1,r1,h1,h⟩:=ug h;obtain⟨a2,r2,h2,h⟩:=ey h;obtain⟨a3,r3,h3,h⟩:=ey h;obtain⟨a4,r4,h4,h⟩:=ey h;obtain⟨a5,r5,h5,h⟩:=ey h;obtain⟨a6,r6,h6,h⟩:=ko h;obtain⟨a7,r7,h7,h⟩:=ko h;obtain⟨a8,r8,h8,h⟩:=ey h;obtain⟨a9,r9,h9,h⟩:=ko h;obtain⟨a10,r10,h10,h⟩:=ey h;obtain⟨a11,r11,h11,h⟩:=ko h;obtain⟨e,h⟩:=ij h;subst h e h11 h10 h9 h8 h7 h6 h5 h4 h3 h2 h1 h0;rfl
 | .cluster,cs,x,h=>by unfold Sn.unflat at h;obtain⟨a0,r0,h0,h⟩:=ey h;obtain⟨a1,r1,h1,h⟩:=ko h;obtain⟨a2,r2,h2,h⟩:=ko h;obtain⟨a3,r3,h3,h⟩:=ko h;obtain⟨a4,r4,h4,h⟩:=ey h;obtain⟨a5,r5,h5,h⟩:=ey h;obtain⟨a6,r6,h6,h⟩:=ey h;obtain⟨a7,r7,h7,h⟩:=ey h;obtain⟨a8,r8,h8,h⟩:=ey h;obtain⟨a9,r9,h9,h⟩:=ko h;obtain⟨e,h⟩:=ij h;subst h e h9 h8 h7 h6 h5 h4 h3 h2 h1 h0;rfl
 | .reply,cs,x,h=>by unfold Sn.unflat at h;obtain⟨a0,r0,h0,h⟩:=ey h;obtain⟨a1,r1,h1,h⟩:=ug h;obtain⟨a2,r2,h2,h⟩:=ey h;obtain⟨a3,r3,h3,h⟩:=ey h;obtain⟨e,h⟩:=ij h;subst h e h3 h2 h1 h0;rfl
 | .ack,cs,x,h=>by unfold Sn.unflat at h;obtain⟨a0,r0,h0,h⟩:=ey h;obtain⟨a1,r1,h1,h⟩:=ey h;obtain⟨a2,r2,h2,h⟩:=ey h;obtain⟨a3,r3,h3,h⟩:=ey h;obtain⟨a4,r4,h4,h⟩:=ey h;obtain⟨a5,r5,h5,h⟩:=ey h;obtain⟨a6,r6,h6,h⟩:=ey h;obtain⟨e,h⟩:=ij h;subst h e h6 h5 h4 h3 h2 h1 h0;rfl
 | .event,cs,x,h=>by unfold Sn.unflat at h;obtain⟨a0,r0,h0,h⟩:=ey h;obtain⟨a1,r1,h1,h⟩:=ey h;obtain⟨a2,r2,h2,h⟩:=ey h;obtain⟨a3,r3,h3,h⟩:=ey h;obtain⟨a4,r4,h4,h⟩:=ey h;obtain⟨a5,r5,h5,h⟩:=ey h;obtain⟨a6,r6,h6,h⟩:=ey h;obtain⟨a7,r7,h7,h⟩:=ey h;obtain⟨a8,r8,h8,h⟩:=ey h;obtain⟨a9,r9,h9,h⟩:=ey h;obtain⟨e,h⟩:=ij h;subst h e h9 h8 h7 h6 h5 h4 h3 h2 h1 h0;rfl
 | .damage,cs,x,h=>by unfold Sn.unflat at h;obtain⟨a0,r0,h0,h⟩:=ey h;obtain⟨a1,r1,h1,h⟩:=ey h;obtain⟨e,h⟩:=ij h;subst h e h1 h0;rfl
 | .mark,cs,x,h=>by unfold Sn.unflat at h;obtain⟨a0,r0,h0,h⟩:=ey h;obtain⟨a1,r1,h1,h⟩:=ey h;obtain⟨a2,r2,h2,h⟩:=ug h;obtain⟨a3,r3,h3,h⟩:=ey h;obtain⟨a4,r4,h4,h⟩:=ey h;obtain⟨a5,r5,h5,h⟩:=ey h;obtain⟨a6,r6,h6,h⟩:=ey h;obtain⟨a7,r7,h7,h⟩:=ey h;obtain⟨a8,r8,h8,h⟩:=ey h;obtain⟨a9,r9,h9,h⟩:=ey h;obtain⟨a10,r10,h10,h⟩:=ey h;obtain⟨e,h⟩:=ij h;subst h e h10 h9 h8 h7 h6 h5 h4 h3 h2 h1 h0;rfl
 | .cur,cs,x,h=>by unfold Sn.unflat at h;obtain⟨a0,r0,h0,h⟩:=Kn h;obtain⟨a1,r1,h1,h⟩:=ey h;obtain⟨a2,r2,h2,h⟩:=ey h;obtain⟨e,h⟩:=ij h;subst h e h2 h1 h0;rfl
theorem Ty.unflat_some (t:Ty) (cs:List C) (x:t.D) (h:t.unflat cs=some x):t.flat x=cs:=by
 cases t with
 |i k=>obtain⟨n,r,h1,h⟩:=ey h; obtain⟨h2,h⟩:=ij h; subst h h2 h1; rfl
 |b=>obtain⟨n,r,h1,h⟩:=ug h; obtain⟨h2,h⟩:=ij h; subst h h2 h1; rfl
 |s=>obtain⟨n,r,h1,h⟩:=Pj h; obtain⟨h2,h⟩:=ij h; subst h h2 h1; rfl
 |h=>have h:gH cs (fun n r=>gN r n)=some x:=h; obtain⟨n,r,h1,h⟩:=Kn h; obtain⟨h2,h⟩:=ij h; subst h h2 h1; rfl
 |st n=>exact n.unflat_some cs x h
 |ls t=>have h:gL t cs (fun l r=>gN r l)=some x:=h; obtain⟨n,r,h1,h⟩:=ko h; obtain⟨h2,h⟩:=ij h; subst h h2 h1; rfl
end
section
open Go
inductive Cl where
 |c (x:C)
 |em
 |own (p:ff) (sz lo len:Nat) (w:Bool)
 |pro (cs:List C)
 |ptrB (n j:Nat)
 |ptrT (p:ff) (sz i j:Nat)
 |dead
 deriving Inhabited
inductive V1 where
 |cl (x:Cl)
 |agg (cs:List Cl)
 |fn (f:FuncId) (cs:List Cl)
 deriving Inhabited
inductive V where
 |v (x:V1)
 |tup (l:List V1)
 deriving Inhabited
structure eS where
 t:Ty
 l:List t.D
 hole:Option (Nat×Nat)
structure TS where
 env:List (Nat×V)
 bx:List (List Cl)
 gh:List (Option eS)
 fz:Nat
 nt:Nat
structure TI where
 ty:Ty
 el:Nat
 fds:List (Nat×Nat×Bool)
 bytes:Nat
abbrev nC:=List (Nat×TI)
@[reducible] def V.c (x:C):V:= .v (.cl (.c x))
@[reducible] def V.sc (x:Value):V:= .v (.cl (.c (.sc x)))
@[reducible] def V.dead:V:= .v (.cl .dead)
def jx:List (Nat×V)->Nat->V
 | [],_=>V.dead
 | (t,v)::l,u=>bif Nat.beq t u then v else jx l u
def lP:nC->Nat->Option TI
 | [],_=>none
 | (t,v)::l,u=>bif Nat.beq t u then some v else lP l u
def o0 {α:Type}:List α->Nat->Option α
 | [],_=>none
 |a::l,n=>bif Nat.beq n 0 then some a else o0 l (n-1)
def cC (v:Value):Cl:=match v with | .slice none 0 0=> .em|v=>bif o5 v then .c (.sc v) else .dead
def cV:Value->V
 | .agg cs=>bif cs.toList.all Value.oneCell' then .v (.agg (cs.toList.map cC)) else V.dead
 |v=> .v (.cl (cC v))
def TS.opd (S:TS):Operand->V
 | .tmp t=>jx S.env t
 | .const v=>cV v
 | .func f=>V.sc (.func (.func f) #[] #[])
 | .global _=>V.dead
def V1.cells:V1->List Cl
 | .cl x=> [x]
 | .agg cs=>cs
 | .fn _ _=> [.dead]
def C.flatB:C->Bool| .sc _=>true| _=>false
def Ty.flatB (t:Ty):Bool:=t.csh.all (·.isNone)
section
variable {ρ:Type}
def br {α:Type} (b:Bool) (x y:α):α:=cond b x y
def iteP {α:Type} (c:Prop) [Decidable c] (x y:α):α:=if c then x else y
def Hj (S:TS) (x:Operand) (κ:Bool->TS->Option ρ):Option ρ:=match x with
 | .tmp t=>match jx S.env t with
   | .v (.cl (.c (.sc (.bool b))))=>br b (κ true { S with env:=(t,V.sc (.bool true))::S.env }) (κ false { S with env:=(t,V.sc (.bool false))::S.env })
   | _=>none
 | .const (.bool b)=>κ b S
 | _=>none
def Jh (v:V) (κ:Int->Option ρ):Option ρ:=match v with | .v (.cl (.c (.sc (.int _ n))))=>κ n| _=>none
def q8 (S:TS) (p:ff) (κ: (t:Ty)->List t.D->Option ρ):Option ρ:=match o0 S.gh p.r with
 |some (some tr)=>match tr.hole with
  |none=>match p.l with
   | [] =>κ tr.t tr.l
   | [(i,j)] =>(tr.l[i]?).bind fun x=>match o0 (tr.t.flat x) j with
     |some (.ls t l)=>κ t l
     | _=>none
   | _=>none
  |some _=>none
 | _=>none
def C.ro:C->Cl:=Cl.c
def Ji (p:ff) (i j:Nat):C->Cl
 | .sc v=> .c (.sc v)
 | .ls t l=> .own ⟨p.r,p.l++ [(i,j)]⟩ t.width 0 l.length false
def zt {α β:Type} (f:Nat->α->β):Nat->List α->List β
 | _,[] => []
 |n,a::l=>f n a::zt f (n+1) l
def Jj (S:TS) (n:Nat) (v:Cl) (κ:List Cl->Option ρ):Option ρ:=match v with
 | .ptrB b j=>match o0 S.bx b with
   |some cs=>bif Nat.ble (j+n) cs.length then κ ((cs.drop j).take n) else none
   |none=>none
 | .pro cells=>bif Nat.ble n cells.length then κ ((cells.take n).map Cl.c) else none
 | .ptrT p sz i j=>q8 S p fun t l=>bif Nat.beq t.width sz&&Nat.ble (j+n) sz then (l[i]?).bind fun x=>κ (zt (Ji p i) j (((t.flat x).drop j).take n)) else none
 | _=>none
def TY (ag:Bool) (cs:List Cl) (κ:V->Option ρ):Option ρ:=bif ag then κ (.v (.agg cs)) else match cs with | [c] =>κ (.v (.cl c))| _=>none
def Ty.ag:Ty->Bool| .st _=>true| _=>false
def Hk (Θ:nC) (S:TS) (t:TypeId) (v:V) (κ:V->Option ρ):Option ρ:=match lP Θ t with
 |some ti=>match v with | .v (.cl a)=>Jj S ti.ty.width a fun cs=>TY ti.ty.ag cs κ| _=>none
 |none=>none
def M7 (S:TS) (p:ff) (κ:Int->Option ρ):Option ρ:=match p.l with
 | [] =>(match o0 S.gh p.r with |some (some tr)=>κ tr.l.length| _=>none)
 | _=>none
def RB (n:Nat) (i:Int) (S:TS) (v:Cl) (κ:Cl->Option ρ):Option ρ:=match v with
 | .c (.ls t l)=>bif Nat.beq t.width n then iteP (0<=i) ((l[i.toNat]?).bind fun x=>κ (.pro (t.flat x))) none else none
 | .own p sz _ _ true=>bif Nat.beq sz n then M7 S p fun m=>iteP (0<=i/\i<m) (κ (.ptrT p sz i.toNat 0)) none else none
 | .own p sz lo len false=>bif Nat.beq sz n then iteP (0<=i/\i<len) (κ (.ptrT p sz (lo+i.toNat) 0)) none else none
 | _=>none
def Pk (S:TS) (v:Cl) (κ:Int->Option ρ):Option ρ:=match v with
 | .c (.ls _ l)=>κ l.length
 | .own p _ _ _ true=>q8 S p fun _ l=>κ l.length
 | .own _ _ _ len false=>κ len
 | .em=>κ 0
 | _=>none
def RC (n:Nat) (lo hi:Int) (v:Cl) (κ:Cl->Option ρ):Option ρ:=match v with
 | .em=>iteP (lo=0/\hi=0) (κ .em) none
 | .c (.ls t l)=>bif Nat.beq t.width n then iteP (0<=lo/\lo<=hi/\hi<=l.length) (κ (.c (.ls t ((l.drop lo.toNat).take (hi.toNat-lo.toNat))))) none else none
 | .own p sz l len _=>bif Nat.beq sz n then iteP (0<=lo/\lo<=hi/\hi<=len) (κ (.own p sz (l+lo.toNat) (hi.toNat-lo.toNat) false)) none else none
 | _=>none
def Fq (S:TS) (d:Int) (x:Option Operand) (κ:Int->Option ρ):Option ρ:=match x with
 |none=>κ d
 |some x=>Jh (S.opd x) κ
def LG:List (Nat×Nat×Bool)->List Cl->List (Nat×V)->Option (List Cl)
 | _,cs,[] =>some cs
 |pl,cs,(k,v)::r=>match o0 pl k with
  |some (off,n,_)=>match v with
   | .v x=>match x with
     | .cl .dead=>none
     | .fn _ _=>none
     |x=>bif Nat.beq x.cells.length n&&Nat.ble (off+n) cs.length then LG pl (cs.take off++x.cells++cs.drop (off+n)) r else none
   | _=>none
  |none=>none
def Hl:Value->Value->Option Bool
 | .int _ a, .int _ b=>some (a==b)
 | .bool a, .bool b=>some (a==b)
 | _,_=>none
def v9:List Cl->List Cl->Option Bool
 | [],[] =>some true
 | .c (.sc a)::l, .c (.sc b)::m=>match Hl a b,v9 l m with
   |some x,some y=>some (x&&y)
   | _,_=>none
 | _,_=>none
def lQ:List Value->List Cl->Bool
 | [],[] =>true
 | .int k _::zs, .c (.sc (.int k' _))::cs=>bif decide (k=k') then lQ zs cs else false
 | .bool _::zs, .c (.sc (.bool _))::cs=>lQ zs cs
 | _,_=>false
def V.ints (f:IntKind->Int->Int->Option ρ):V->V->Option ρ
 | .v (.cl (.c (.sc (.int k a)))), .v (.cl (.c (.sc (.int k' b))))=>if k=k' then f k a b else none
 | _,_=>none
def UN (a b:ByteArray):Bool:=a.toList==b.toList
def SC (Θ:nC) (t:TypeId) (x y:V) (κ:Bool->Option ρ):Option ρ:=match x,y with
 | .v (.cl (.c (.sc (.int k a)))), .v (.cl (.c (.sc (.int k' b))))=>if k=k' then κ (a==b) else none
 | .v (.cl (.c (.sc (.bool a)))), .v (.cl (.c (.sc (.bool b))))=>match lP Θ t with
   |some ti=>match ti.ty with | .b=>κ (a==b)| _=>none
   |none=>none
 | .v (.cl (.c (.sc (.string a)))), .v (.cl (.c (.sc (.string b))))=>κ (UN a b)
 | .v (.agg a), .v (.agg b)=>match lP Θ t with
   |some ti=>bif ti.ty.ag&&ti.ty.flatB&&lQ ti.ty.zvs a&&lQ ti.ty.zvs b then (match v9 a b with |some r=>κ r|none=>none) else none
   |none=>none
 | _,_=>none
def RD (x y:V) (κ:V->Option ρ):Option ρ:=match x,y with
 | .v (.cl (.c (.sc (.string a)))), .v (.cl (.c (.sc (.string b))))=>iteP (a.size+b.size<=2 ^ 40) (κ (V.sc (.string (a++b)))) none
 | _,_=>V.ints (fun k a b=>κ (V.sc (.int k (k.wrap (a+b))))) x y
def RE (Θ:nC) (op:BinOp) (t:TypeId) (x y:V) (κ:V->Option ρ):Option ρ:=match op with
 | .lss=>V.ints (fun _ a b=>κ (V.sc (.bool (decide (a<b))))) x y
 | .leq=>V.ints (fun _ a b=>κ (V.sc (.bool (decide (a<=b))))) x y
 | .gtr=>V.ints (fun _ a b=>κ (V.sc (.bool (decide (a>b))))) x y
 | .geq=>V.ints (fun _ a b=>κ (V.sc (.bool (decide (a≥b))))) x y
 | .add=>RD x y κ
 | .sub=>V.ints (fun k a b=>κ (V.sc (.int k (k.wrap (a-b))))) x y
 | .mul=>V.ints (fun k a b=>κ (V.sc (.int k (k.wrap (a*b))))) x y
 | .quo=>V.ints (fun k a b=>if b=0 then none else κ (V.sc (.int k (k.wrap (a.tdiv b))))) x y
 | .rem=>V.ints (fun k a b=>if b=0 then none else κ (V.sc (.int k (a.tmod b)))) x y
 | .eql=>SC Θ t x y fun r=>κ (V.sc (.bool r))
 | .neq=>SC Θ t x y fun r=>κ (V.sc (.bool (!r)))
 | _=>none
def Hm:List V->Option (List Cl)
 | [] =>some []
 | .v (.cl c)::l=>match Hm l with |some r=>some (c::r)|none=>none
 | _=>none
def xx (Θ:nC) (S:TS) (o:Oper) (κ:V->TS->Option ρ):Option ρ:=
 let e:=S.opd
 match o.op with
 | .move x| .assign x=>κ (e x) S
 | .pick c a b=>Hj S c fun t S=>bif t then κ (S.opd a) S else κ (S.opd b) S
 | .load t a=>Hk Θ S t (e a) (fun v=>κ v S)
 | .nilCheck x=>match e x with
   | .v (.cl (.ptrB n j))=>κ (.v (.cl (.ptrB n j))) S
   | .v (.cl (.ptrT p sz i j))=>κ (.v (.cl (.ptrT p sz i j))) S
   | .v (.cl (.pro cs))=>κ (.v (.cl (.pro cs))) S
   | .v (.fn f cs)=>κ (.v (.fn f cs)) S
   | .v (.cl (.c (.sc (.func (.func f) a b))))=>κ (.v (.cl (.c (.sc (.func (.func f) a b))))) S
   | _=>none
 | .fieldAddr t x k=>match lP Θ t with
   |some ti=>match o0 ti.fds k with
    |some (off,n,_)=>bif Nat.beq n 0 then none else match e x with
     | .v (.cl (.ptrB b j))=>κ (.v (.cl (.ptrB b (j+off)))) S
     | .v (.cl (.ptrT p sz i j))=>κ (.v (.cl (.ptrT p sz i (j+off)))) S
     | .v (.cl (.pro cs))=>κ (.v (.cl (.pro (cs.drop off)))) S
     | _=>none
    |none=>none
   |none=>none
 | .field t x k=>match lP Θ t with
   |some ti=>match o0 ti.fds k with
    |some (off,n,ag)=>match e x with
     | .v (.agg cs)=>bif Nat.ble (off+n) cs.length&&Nat.blt 0 n then TY ag ((cs.drop off).take n) (fun v=>κ v S) else none
     | _=>none
    |none=>none
   |none=>none
 | .indexAddr t x ix=>match lP Θ t with
   |some ti=>match ti.ty with
    | .ls el=>Jh (e ix) fun i=>match e x with | .v (.cl a)=>RB el.width i S a (fun c=>κ (.v (.cl c)) S)| _=>none
    | _=>none
   |none=>none
 | .build t parts=>match lP Θ t with
   |some ti=>bif ti.ty.ag then (match LG ti.fds (ti.ty.zvs.map cC) (parts.toList.map fun x=>(x.1,e x.2)) with |some cs=>κ (.v (.agg cs)) S|none=>none) else none
   |none=>none
 | .slice t x lo hi none=>match lP Θ t with
   |some ti=>match ti.ty with
    | .ls el=>match e x with
      | .v (.cl a)=>Pk S a fun n=>Fq S 0 lo fun l=>Fq S n hi fun h=>RC el.width l h a (fun c=>κ (.v (.cl c)) S)
      | _=>none
    | _=>none
   |none=>none
 | .convert s d x=>match lP Θ s,lP Θ d with
   |some _,some di=>match di.ty with
    | .i k'=>(match e x with | .v (.cl (.c (.sc (.int _ n))))=>κ (V.sc (.int k' (k'.wrap n))) S| _=>none)
    | _=>none
   | _,_=>none
 | .index t x ix=>match lP Θ t with
   |some ti=>match ti.ty with
    | .s=>(match e x,e ix with | .v (.cl (.c (.sc (.string s)))), .v (.cl (.c (.sc (.int _ i))))=>iteP (0<=i) ((s[i.toNat]?).bind fun b=>κ (V.sc (.int .u8 b.toNat)) S) none| _,_=>none)
    | _=>none
   |none=>none
 | .extract x k=>match e x with | .tup vs=>(match o0 vs k with |some v=>κ (.v v) S|none=>none)| _=>none
 | .makeFunc (.func f) first caps=>bif first.isEmpty then (match Hm (caps.toList.map e) with |some cs=>κ (.v (.fn f cs)) S|none=>none) else none
 | .call { callee:= .builtin .len,args:=as,argTypes:=ts } =>match as.toList,ts.toList with
   | [x],[t] =>match lP Θ t with
     |some ti=>match ti.ty with
      | .ls _=>(match e x with | .v (.cl a)=>Pk S a fun n=>κ (V.sc (.int .i64 n)) S| _=>none)
      | .s=>(match e x with | .v (.cl (.c (.sc (.string s))))=>κ (V.sc (.int .i64 s.size)) S| _=>none)
      | _=>none
     |none=>none
   | _,_=>none
 | .call { callee:= .builtin .cap,args:=as,argTypes:=ts } =>match as.toList,ts.toList with
   | [x],[t] =>match lP Θ t with
     |some ti=>match ti.ty with
      | .ls _=>(match e x with | .v (.cl .em)=>κ (V.sc (.int .i64 0)) S| _=>none)
      | _=>none
     |none=>none
   | _,_=>none
 | .call { callee:= .builtin .max,args:=as,argTypes:=_ } =>match as.toList with
   | [x,y] =>V.ints (fun k a b=>κ (V.sc (.int k (if b>a then b else a))) S) (e x) (e y)
   | _=>none
 | .call { callee:= .builtin .min,args:=as,argTypes:=_ } =>match as.toList with
   | [x,y] =>V.ints (fun k a b=>κ (V.sc (.int k (if b<a then b else a))) S) (e x) (e y)
   | _=>none
 | .binOp op t x y _=>RE Θ op t (e x) (e y) (fun v=>κ v S)
 | .unOp .neg _ x=>match e x with | .v (.cl (.c (.sc (.int k n))))=>κ (V.sc (.int k (k.wrap (0-n)))) S| _=>none
 | .unOp .not _ x=>match e x with | .v (.cl (.c (.sc (.bool b))))=>κ (V.sc (.bool (!b))) S| _=>none
 | _=>none
end
end
section
open Go
def C.av:C->AV
 | .sc v=> .sc v
 | .ls t l=> .ro t.width (l.map t.row)
def Cl.av:Cl->AV
 | .c x=>x.av
 | .em=> .em
 | .own p sz lo len _=> .own p sz lo len
 | .pro cs=> .pro (cs.map C.tree)
 | .ptrB n j=> .ptrB n j
 | .ptrT p sz i j=> .ptrT p sz i j
 | .dead=> .dead
def V1.av:V1->AV
 | .cl x=>x.av
 | .agg cs=> .agg (cs.map Cl.av)
 | .fn f cs=> .fn f (cs.map Cl.av)
def V.av:V->AV
 | .v x=>x.av
 | .tup l=> .tup (l.map V1.av)
def eS.tree (x:eS):T:=match x.hole with
 |none=> .sl x.t.width (x.l.map x.t.row)
 |some (i,j)=> .sl x.t.width ((x.l.map x.t.row).set i (((x.l.map x.t.row).getD i []).set j .dd))
def fW (G:List (Option eS)) (r:Nat):Option eS:=(o0 G r).getD none
def TS.st (S:TS):St where
 env:=fun t=>(jx S.env t).av
 bx:=fun n=>(o0 S.bx n).map fun cs=>cs.map Cl.av
 gh:=fun r=>(fW S.gh r).map eS.tree
 nb:=S.bx.length
 ng:=S.gh.length
 fz:=S.fz
 orc:=none
 nt:=S.nt
structure xZ where
 f:FuncId->List V1->(ρ:Type)->(V->List eS->Option ρ)->Option ρ
 kd:FuncId->Nat
instance:CoeFun xZ fun _=>FuncId->List V1->(ρ:Type)->(V->List eS->Option ρ)->Option ρ:=⟨xZ.f⟩
def jy:Nat:=1048576
def Hn:Nat:=jy+jy
def Ko:Nat:=Hn+jy
def AP (g:Nat):Nat:=g+jy
def DK (g:Nat):Nat:=g+Hn
def BV (g:Nat):Nat:=g+Ko
def Fr (n:Nat):Cl->Cl
 | .own p sz lo len w=> .own ⟨p.r+n,p.l⟩ sz lo len w
 | .ptrT p sz i j=> .ptrT ⟨p.r+n,p.l⟩ sz i j
 | .c (.sc v)=> .c (.sc v)
 | _=> .dead
def wc (n:Nat):V1->V1
 | .agg cs=> .agg (cs.map (Fr n))
 | .cl c=> .cl (Fr n c)
 | .fn _ _=> .cl .dead
def q9 (n:Nat):V->V
 | .tup vs=> .tup (vs.map (wc n))
 | .v x=> .v (wc n x)
def AQ:Cl->Cl
 | .own p sz lo len w=>bif Nat.ble 1 p.r then .own ⟨p.r-1,p.l⟩ sz lo len w else .dead
 | .ptrT p sz i j=>bif Nat.ble 1 p.r then .ptrT ⟨p.r-1,p.l⟩ sz i j else .dead
 | .c (.sc v)=> .c (.sc v)
 | _=> .dead
def Ho:V1->V1
 | .agg cs=> .agg (cs.map AQ)
 | .cl c=> .cl (AQ c)
 | .fn _ _=> .cl .dead
def M8:V->V
 | .tup vs=> .tup (vs.map Ho)
 | .v x=> .v (Ho x)
def fK {α:Type}:List α->Nat->α->List α
 | [],_,_=> []
 |a::l,n,x=>bif Nat.beq n 0 then x::l else a::fK l (n-1) x
def vj (t t':Ty) (l:List t.D):Option (List t'.D):=if h:t=t' then some (h ▸ l) else none
def qp (r j:Nat):Cl->Cl
 | .own p sz lo len w=>match p.l with | (_,j')::_=>bif Nat.beq p.r r&&Nat.beq j j' then .dead else .own p sz lo len w| [] => .own p sz lo len w
 | .ptrT p sz a b=>match p.l with | (_,j')::_=>bif Nat.beq p.r r&&Nat.beq j j' then .dead else .ptrT p sz a b| [] => .ptrT p sz a b
 |c=>c
def sK (r j:Nat):V1->V1
 | .cl c=> .cl (qp r j c)
 | .agg cs=> .agg (cs.map (qp r j))
 | .fn f cs=> .fn f (cs.map (qp r j))
def EE (r j:Nat):V->V
 | .v x=> .v (sK r j x)
 | .tup vs=> .tup (vs.map (sK r j))
def TS.kill (S:TS) (r j:Nat):TS:= { S with env:=S.env.map fun x=>(x.1,EE r j x.2),bx:=S.bx.map fun cs=>cs.map (qp r j) }
def jG (S:TS) (no j:Nat) (et:Option Ty) (c:Cl):Option (C×TS):=match c,et with
 | .c (.sc v),none=>some (.sc v,S)
 | .em,some t=>some (.ls t [],S.kill no j)
 | .own p sz _ _ true,some t=>match p.l with
   | [] =>bif Nat.beq t.width sz&&Nat.ble S.fz p.r&& !(Nat.beq p.r no) then match o0 S.gh p.r with
     |some (some tr)=>match tr.hole with
      |none=>bif Nat.beq tr.t.width sz then some (.ls tr.t tr.l,{ S with gh:=fK S.gh p.r none }.kill no j) else none
      |some _=>none
     | _=>none else none
   | _=>none
 | _,_=>none
def qq (no:Nat):Nat->TS->List (Option Ty)->List Cl->Option (List C×TS)
 |j,S,et::ets,c::cs=>match jG S no j et c with
  |some (x,S1)=>match qq no (j+1) S1 ets cs with
   |some (xs,S2)=>some (x::xs,S2)
   |none=>none
  |none=>none
 | _,S,[],[] =>some ([],S)
 | _,_,_,_=>none
def UO (et:Option Ty) (v:Value):C:=match et with |some t=> .ls t [] |none=> .sc v
def Ty.zcs (t:Ty):List C:=List.zipWith UO t.csh t.zvs
def RF:List Cl->Option (List C)
 | [] =>some []
 | .c (.sc v)::l=>match RF l with |some r=>some (.sc v::r)|none=>none
 | _=>none
section
variable {ρ:Type}
def Hp {α β:Type} (f:α->(β->Option ρ)->Option ρ):List α->(List β->Option ρ)->Option ρ
 | [],κ=>κ []
 |a::l,κ=>f a fun b=>Hp f l fun bs=>κ (b::bs)
def Jk (Θ:nC) (S:TS) (t:TypeId) (a v:V) (κ:TS->Option ρ):Option ρ:=match lP Θ t with
 |none=>none
 |some ti=>match v with
  | .tup _=>none
  | .v (.cl .dead)=>none
  | .v (.fn _ _)=>none
  | .v x=>bif Nat.beq x.cells.length ti.ty.width then match a with
    | .v (.cl (.ptrB b j))=>match o0 S.bx b with
      |some cs=>bif Nat.ble (j+x.cells.length) cs.length then κ { S with bx:=fK S.bx b (cs.take j++x.cells++cs.drop (j+x.cells.length)) } else none
      |none=>none
    | .v (.cl (.ptrT p sz i j))=>match p.l with
      | [] =>match o0 S.gh p.r with
        |some (some tr)=>bif Nat.beq tr.t.width sz&&Nat.ble (j+ti.ty.width) sz&&Nat.beq x.cells.length ti.ty.width then
         bif ti.ty.flatB then
          match tr.hole,RF x.cells with
          |none,some vs=>(tr.l[i]?).bind fun y=>match tr.t.unflat ((tr.t.flat y).take j++vs++(tr.t.flat y).drop (j+ti.ty.width)) with
           |some z=>κ { S with gh:=fK S.gh p.r (some ⟨tr.t,tr.l.set i z,none⟩) }
           |none=>none
          | _,_=>none
         else bif Nat.ble S.fz p.r then match qq p.r j S ti.ty.csh x.cells with
          |some (vs,S1)=>(tr.l[i]?).bind fun y=>match tr.t.unflat ((tr.t.flat y).take j++vs++(tr.t.flat y).drop (j+ti.ty.width)) with
           |some z=>match tr.hole with
            |none=>κ { S1 with gh:=fK S1.gh p.r (some ⟨tr.t,tr.l.set i z,none⟩) }
            |some (i0,j0)=>bif Nat.beq j j0&&Nat.beq ti.ty.width 1 then iteP (i=i0) (κ { S1 with gh:=fK S1.gh p.r (some ⟨tr.t,tr.l.set i z,none⟩) }) none else none
           |none=>none
          |none=>none else none
         else none
        | _=>none
      | _=>none
    | _=>none
    else none
def O0 (S:TS) (et:Option Ty) (c:Cl) (κ:Cl->Option ρ):Option ρ:=match c with
 | .c x=>κ (.c x)
 | .em=>match et with |some t=>κ (.c (.ls t []))|none=>none
 | .own p sz _ _ true=>q8 S p fun t l=>bif Nat.beq t.width sz then κ (.c (.ls t l)) else none
 | .own p sz lo len false=>q8 S p fun t l=>bif Nat.beq t.width sz then iteP (lo+len<=l.length) (κ (.c (.ls t ((l.drop lo).take len)))) none else none
 | .pro cs=>κ (.pro cs)
 | .ptrT p sz i j=>q8 S p fun t l=>bif Nat.beq t.width sz then (l[i]?).bind fun x=>κ (.pro ((t.flat x).drop j)) else none
 | .ptrB b j=>match o0 S.bx b with
   |some cs=>Hp (fun c κ=>match c with
    | .c x=>κ x
    | .own p sz _ _ true=>q8 S p fun t l=>bif Nat.beq t.width sz then κ (.ls t l) else none
    | _=>none) (cs.drop j) fun cs=>κ (.pro cs)
   |none=>none
 | .dead=>κ .dead
def Pm (S:TS):List (Option Ty)->List Cl->(List Cl->Option ρ)->Option ρ
 |et::ets,c::cs,κ=>O0 S et c fun c'=>Pm S ets cs fun cs'=>κ (c'::cs')
 | [],[],κ=>κ []
 | _,_,_=>none
def Ua (Θ:nC) (S:TS) (t:TypeId) (v:V) (κ:V1->Option ρ):Option ρ:=match v with
 | .tup _=>none
 | .v (.fn f cs)=>Hp (O0 S none) cs fun cs'=>κ (.fn f cs')
 | .v (.agg cs)=>match lP Θ t with |some ti=>Pm S ti.ty.csh cs fun cs'=>κ (.agg cs')|none=>none
 | .v (.cl .em)=>κ (.cl .em)
 | .v (.cl c)=>match lP Θ t with |some ti=>O0 S (ti.ty.csh.headD none) c fun c'=>κ (.cl c')|none=>O0 S none c fun c'=>κ (.cl c')
def wJ (Θ:nC) (S:TS):List TypeId->List Operand->(List V1->Option ρ)->Option ρ
 |t::ts,a::as,κ=>Ua Θ S t (S.opd a) fun v=>wJ Θ S ts as fun vs=>κ (v::vs)
 | [],[],κ=>κ []
 | _,_,_=>none
def Kq (Θ:nC) (Y:xZ) (S:TS) (f:Operand) (ts:List TypeId) (as:List Operand) (κ:V->TS->Option ρ):Option ρ:=match S.opd f with
 | .v (.cl (.c (.sc (.func (.func g) _ _))))=>bif Nat.blt g jy then wJ Θ S ts as fun vs=>Y g vs ρ fun res out=>κ (q9 S.gh.length res) { S with gh:=S.gh++out.map some } else none
 | .v (.fn g caps)=>bif Nat.blt g jy then wJ Θ S ts as fun vs=>Hp (O0 S none) caps fun cs=>Y g (vs++cs.map .cl) ρ fun res out=>κ (q9 S.gh.length res) { S with gh:=S.gh++out.map some } else none
 | _=>none
def M9 (S:TS) (el:Ty) (v:Cl) (κ:List el.D->TS->Option ρ):Option ρ:=match v with
 | .em=>κ [] S
 | .c (.ls t l)=>bif el.flatB then match vj t el l with |some l=>κ l S|none=>none else none
 | .own p sz lo len w=>bif Nat.beq el.width sz then (bif el.flatB then q8 S p fun t l=>match vj t el l with
   |some l=>bif w then κ l S else iteP (lo+len<=l.length) (κ ((l.drop lo).take len) S) none
   |none=>none
   else match p.l with
   | [] =>bif w&&Nat.ble S.fz p.r then q8 S p fun t l=>match vj t el l with |some l=>κ l { S with gh:=fK S.gh p.r none } |none=>none else none
   | _=>none) else none
 | _=>none
def Hq (S:TS) (el:Ty) (v:Cl) (more:List el.D) (κ:List el.D->TS->Option ρ):Option ρ:=match v with
 | .em=>κ more S
 | .own p sz lo len w=>bif Nat.ble S.fz p.r&&Nat.beq el.width sz then match p.l with
   | [] =>q8 S p fun t l=>match vj t el l with
     |some l=>bif w then κ (l++more) { S with gh:=fK S.gh p.r none }
      else iteP (lo=0) (iteP (l.length<len) none (κ (l.take len++more) { S with gh:=fK S.gh p.r none })) none
     |none=>none
   | [(i,j)] =>match o0 S.gh p.r with
     |some (some tr)=>match tr.hole with
      |none=>q8 S p fun t l=>match vj t el l with
       |some l=>iteP (lo=0) (iteP (l.length<len) none (κ (l.take len++more) { S with gh:=fK S.gh p.r (some ⟨tr.t,tr.l,some (i,j)⟩) })) none
       |none=>none
      |some _=>none
     | _=>none
   | _=>none else none
 | _=>none
def Pn (Θ:nC) (S:TS) (t:TypeId) (s x:V) (κ:V->TS->Option ρ):Option ρ:=match lP Θ t with
 |some ti=>match ti.ty,s,x with
  | .ls el, .v (.cl s), .v (.cl x)=>M9 S el x fun more S1=>Hq S1 el s more fun l S2=>iteP (l.length*ti.el<=2 ^ 40) (κ (.v (.cl (.own ⟨S2.gh.length,[]⟩ el.width 0 l.length true))) { S2 with gh:=S2.gh++ [some ⟨el,l,none⟩] }) none
  | _,_,_=>none
 |none=>none
def SM:List Nat->List Nat->Bool
 | [],[] =>true
 |a::l,b::m=>bif Nat.beq a b then SM l m else false
 | _,_=>false
def sL (el:Ty):TS->List V->Option (List el.D×TS)
 |S,[] =>some ([],S)
 |S, .v x::r=>match qq S.gh.length 0 S el.csh x.cells with
  |some (vs,S1)=>match el.unflat vs,sL el S1 r with
   |some y,some (ys,S2)=>some (y::ys,S2)
   | _,_=>none
  |none=>none
 | _,_=>none
def Jl:Cl->Bool| .c (.ls _ _)=>true| _=>false
def BW:V->Bool| .v x=>x.cells.any Jl| _=>false
def n8:List (Option Ty)->List Cl->Option (List C)
 | _::ets, .c x::cs=>(match n8 ets cs with |some r=>some (x::r)|none=>none)
 |some t::ets, .em::cs=>(match n8 ets cs with |some r=>some (.ls t []::r)|none=>none)
 | [],[] =>some []
 | _,_=>none
def td (el:Ty):List V->Option (List el.D)
 | [] =>some []
 | .v x::r=>(match n8 el.csh x.cells with
   |some xs=>(match el.unflat xs,td el r with |some y,some ys=>some (y::ys)| _,_=>none)
   |none=>none)
 | _=>none
def QX (Θ:nC) (S:TS) (t:TypeId) (s x:V) (κ:V->TS->Option ρ):Option ρ:=match lP Θ t with
 |some ti=>match ti.ty,s with
  | .ls el, .v (.cl .em)=>Jh x fun n=>match el.unflat el.zcs with
    |some z=>iteP (0<n/\n*ti.el<=2 ^ 40) (κ (.v (.cl (.own ⟨S.gh.length,[]⟩ el.width 0 n.toNat true))) { S with gh:=S.gh++ [some ⟨el,List.replicate n.toNat z,none⟩] }) none
    |none=>none
  | _,_=>none
 |none=>none
def SN (t:Ty) (l:List t.D) (sz lo len:Nat) (κ:ByteArray->Option ρ):Option ρ:=match t,l with
 | .i .u8,l=>bif Nat.beq sz 1 then iteP (0<len/\lo+len<=l.length) (κ (Lj ((l.drop lo).take len))) none else none
 | _,_=>none
def uK (Θ:nC) (Y:xZ) (S:TS) (o:Oper) (κ:V->TS->Option ρ):Option ρ:=
 let e:=S.opd
 match o.op with
 | .alloc t=>match lP Θ t with |some ti=>κ (.v (.cl (.ptrB S.bx.length 0))) { S with bx:=S.bx++ [ti.ty.zvs.map cC] } |none=>none
 | .box _ x=>match e x with
   | .v (.cl .dead)=>none
   | .v (.cl c)=>κ (.v (.cl (.ptrB S.bx.length 0))) { S with bx:=S.bx++ [[c]] }
   | .v (.agg cs)=>κ (.v (.cl (.ptrB S.bx.length 0))) { S with bx:=S.bx++ [cs] }
   | _=>none
 | .store t a x=>Jk Θ S t (e a) (e x) fun S'=>κ V.dead S'
 | .makeSlice t l c=>match lP Θ t with
   |some ti=>match ti.ty with
    | .ls el=>Jh (e l) fun n=>Jh (e c) fun m=>match el.unflat el.zcs with
      |some z=>iteP (0<=n/\n=m/\n*ti.el<=2 ^ 40) (κ (.v (.cl (.own ⟨S.gh.length,[]⟩ el.width 0 n.toNat true))) { S with gh:=S.gh++ [some ⟨el,List.replicate n.toNat z,none⟩] }) none
      |none=>none
    | _=>none
   |none=>none
 | .buildSlice t len parts=>match lP Θ t with
   |some ti=>match ti.ty with
    | .ls el=>bif Nat.ble (len*el.width) 1048576&&SM (parts.toList.map (·.1)) (List.range len) then (bif (parts.toList.map fun x=>e x.2).any BW then (match td el (parts.toList.map fun x=>e x.2) with |some l=>κ (.v (.cl (.c (.ls el l)))) S|none=>none) else match sL el S (parts.toList.map fun x=>e x.2) with
      |some (l,S1)=>κ (.v (.cl (.own ⟨S1.gh.length,[]⟩ el.width 0 l.length true))) { S1 with gh:=S1.gh++ [some ⟨el,l,none⟩] }
      |none=>none) else none
    | _=>none
   |none=>none
 | .call { callee:= .builtin .append,args:=as,argTypes:=ts } =>match as.toList,ts.toList with
   | [s,x],[t,t'] =>bif Nat.beq t t' then Pn Θ S t (e s) (e x) κ else QX Θ S t (e s) (e x) κ
   | _,_=>none
 | .call { callee:= .value f,args:=as,argTypes:=ts } =>Kq Θ Y S f ts.toList as.toList κ
 | .convert s d x=>match e x with
   | .v (.cl (.own p sz lo len _))=>match lP Θ s,lP Θ d with
     |some si,some di=>match si.ty,di.ty with
      | .ls (.i .u8), .s=>q8 S p fun t l=>SN t l sz lo len fun b=>κ (V.sc (.string b)) S
      | _,_=>none
     | _,_=>none
   | _=>xx Θ S o κ
 | _=>xx Θ S o κ
def rc (S:TS) (d:Option Tmp) (v:V) (κ:TS->Option ρ):Option ρ:=match d with
 |some t=>bif Nat.blt t S.nt then κ { S with env:=(t,v)::S.env } else none
 |none=>κ S
def Kr (S:TS) (all:List Oper) (o:Oper) (κ:Bool->TS->Option ρ):Option ρ:=match o.guard with
 |none=>κ true S
 |some (j,want)=>match o0 all j with
  |some oj=>match oj.dst with
   |some d=>match jx S.env d with
    | .tup [] =>κ false S
    | _=>Hj S (.tmp d) fun b S1=>κ (b==want) S1
   |none=>none
  |none=>none
noncomputable def Po {α:Type} (x y:α) (z:α):α:=open Classical in if x=y then x else z
def RG {α β:Type} (l:List α) (x y:β):β:=match l with | [] =>x| _::_=>y
def Bk (o:Oper):Option (TypeId×Operand):=match o.op with
 | .binOp .eql t x (.const (.slice none 0 0)) _=>(match o.guard with |none=>some (t,x)|some _=>none)
 | _=>none
def SO (Θ:nC) (t:TypeId):Bool:=match lP Θ t with |some ti=>(match ti.ty with | .ls _=>true| _=>false)|none=>false
inductive Fs where
 |own (r sz:Nat)
 |pt (r sz:Nat)
 |nest (r i j sz lo len:Nat)
 |agg (cs:List Cl)
def zu:V->Option Fs
 | .v (.cl (.own ⟨r,[]⟩ sz _ _ true))=>some (.own r sz)
 | .v (.cl (.ptrT ⟨r,[]⟩ sz 0 0))=>some (.pt r sz)
 | .v (.cl (.own ⟨r,[(i,j)]⟩ sz lo len _))=>some (.nest r i j sz lo len)
 | .v (.agg cs)=>some (.agg cs)
 | _=>none
def Fs.fit (k:Nat):Fs->Bool
 | .own _ _=>Nat.beq k 1||Nat.beq k 2
 | .pt _ _=>Nat.beq k 3
 | _=>Nat.beq k 1
def BX (Y:xZ) (S:TS) (o:Oper):Option (Nat×FuncId×List Cl×Fs×List TypeId×List Operand):=match o.op with
 | .call { callee:= .value f,args:=as,argTypes:=ts } =>(match as.toList,ts.toList with
   |x::xs,_::us=>(match zu (S.opd x) with
    |some a=>(match S.opd f with
     | .v (.cl (.c (.sc (.func (.func g) _ _))))=>bif Nat.blt g jy&&a.fit (Y.kd g) then some (Y.kd g,g,[],a,us,xs) else none
     | .v (.fn g caps)=>bif Nat.blt g jy&&a.fit (Y.kd g) then some (Y.kd g,g,caps,a,us,xs) else none
     | _=>none)
    |none=>none)
   | _,_=>none)
 | _=>none
def Pp:V->Bool
 | .v (.cl (.c (.sc _)))=>true
 | .tup [] =>true
 | _=>false
def wd (S:TS):List Cl->Option (List C×List Nat)
 | [] =>some ([],[])
 | .c (.sc v)::cs=>(match wd S cs with |some (xs,L)=>some (.sc v::xs,L)|none=>none)
 | .own ⟨r,[]⟩ sz _ _ true::cs=>(match fW S.gh r with
   |some ⟨el,l,none⟩=>bif Nat.beq sz el.width then (match wd S cs with |some (xs,L)=>some (.ls el l::xs,r::L)|none=>none) else none
   | _=>none)
 | _=>none
def QY (G:List (Option eS)) (L:List Nat):List (Option eS):=L.foldl (fun G r=>fK G r none) G
def BZ (S:TS):List Nat->List eS->(TS->Option ρ)->Option ρ
 | [],[],κ=>κ S
 |r::L,⟨t,l',none⟩::out,κ=>(match fW S.gh r with
  |some ⟨el,l,none⟩=>bif decide (t=el) then iteP (l'.length=l.length) (BZ { S with gh:=fK S.gh r (some ⟨t,l',none⟩) } L out κ) none else none
  | _=>none)
 | _,_,_=>none
def yk (Θ:nC) (S:TS) (us:List TypeId) (xs:List Operand) (caps:List Cl) (κ:List V1->Option ρ):Option ρ:=wJ Θ S us xs fun vs=>Hp (O0 S none) caps fun ks=>κ (vs++ks.map .cl)
def Ks (S:TS) (r:Nat) (el:Ty) (l:List el.D) (res:V) (out:List eS) (dst:Option Tmp) (κ:TS->Option ρ):Option ρ:=match out with
 | ⟨t,l',none⟩::more=>bif decide (t=el) then iteP (l'.length=l.length) (rc { S with gh:=fK S.gh r (some ⟨t,l',none⟩)++more.map some } dst (q9 S.gh.length (M8 res)) κ) none else none
 | _=>none
def B0 (Θ:nC) (Y:xZ) (S:TS) (k:Nat) (g:FuncId) (caps:List Cl) (a:Fs) (us:List TypeId) (xs:List Operand) (dst:Option Tmp) (κ:TS->Option ρ):Option ρ:=match a with
 | .own r sz=>(match fW S.gh r with
   |some ⟨el,l,none⟩=>bif Nat.beq sz el.width then yk Θ { S with gh:=fK S.gh r none } us xs caps fun vs=>
    bif Nat.beq k 1 then Y (AP g) (.cl (.c (.ls el l))::vs) ρ fun res out=>Ks S r el l res out dst κ
    else bif Nat.ble S.fz r then Y (DK g) (.cl (.c (.ls el l))::vs) ρ fun res out=>rc { S with gh:=fK S.gh r none++out.map some } dst (q9 S.gh.length res) κ
    else none else none
   | _=>none)
 | .pt r sz=>(match fW S.gh r with
   |some ⟨el,l,none⟩=>bif Nat.beq sz el.width then yk Θ { S with gh:=fK S.gh r none } us xs caps fun vs=>Y (BV g) (.cl (.c (.ls el l))::vs) ρ fun res out=>Ks S r el l res out dst κ else none
   | _=>none)
 | .agg cs=>(match wd S cs with
   |some (ys,L)=>bif Rl L then yk Θ { S with gh:=QY S.gh L } us xs caps fun vs=>Y (AP g) (.agg (ys.map .c)::vs) ρ fun res out=>bif Pp res then BZ S L out fun S3=>rc S3 dst res κ else none else none
   |none=>none)
 | .nest r i j sz lo len=>(match fW S.gh r with
   |some ⟨t,l,none⟩=>(l[i]?).bind fun y=>(match o0 (t.flat y) j with
    |some (.ls el v)=>bif Nat.beq sz el.width then iteP (lo=0/\len=v.length) (yk Θ { S with gh:=fK S.gh r (some ⟨t,l,some (i,j)⟩) } us xs caps fun vs=>
     Y (AP g) (.cl (.c (.ls el v))::vs) ρ fun res out=>(match out with
       | [⟨t',v',none⟩] =>bif decide (t'=el)&&Pp res then iteP (v'.length=v.length) (match t.unflat (fK (t.flat y) j (.ls t' v')) with
         |some z=>rc { S with gh:=fK S.gh r (some ⟨t,l.set i z,none⟩) } dst res κ
         |none=>none) none else none
       | _=>none)) none else none
    | _=>none)
   | _=>none)
def Ft (S:TS) (o:Oper):Option (TypeId×Nat×Nat×Nat×Nat):=match o.op with
 | .call { callee:= .builtin .clear,args:=as,argTypes:=ts } =>(match o.guard with
   |some _=>none
   |none=>match as.toList,ts.toList with
    | [x],[t] =>(match S.opd x with
      | .v (.cl (.own ⟨r,[]⟩ sz lo len _))=>some (t,r,sz,lo,len)
      | _=>none)
    | _,_=>none)
 | _=>none
def Jm (Θ:nC) (S:TS) (t:TypeId) (r sz lo len:Nat) (dst:Option Tmp) (κ:TS->Option ρ):Option ρ:=match lP Θ t with
 |some ti=>match fW S.gh r with
  |some ⟨el,l,none⟩=>bif decide (ti.ty= .ls el)&&Nat.beq el.width 1&&Nat.beq sz 1&&el.flatB then (match el.unflat el.zcs with
   |some z=>iteP (lo+len<=l.length) (rc { S with gh:=fK S.gh r (some ⟨el,l.take lo++List.replicate len z++l.drop (lo+len),none⟩) } dst (.tup []) κ) none
   |none=>none) else none
  | _=>none
 |none=>none
def Hs (b:Bool):V:= .v (.cl (.c (.sc (.bool b))))
noncomputable def B3 (Θ:nC) (Y:xZ) (all:List Oper):List Oper->TS->(TS->Option ρ)->Option ρ
 | [],S,κ=>κ S
 |o::os,S,κ=>match Bk o with
  |some (t,x)=>bif SO Θ t then (match S.opd x with
   | .v (.cl (.c (.ls _ l)))=>RG l (Po (rc S o.dst (Hs true) fun S3=>B3 Θ Y all os S3 κ) (rc S o.dst (Hs false) fun S3=>B3 Θ Y all os S3 κ) none) (rc S o.dst (Hs false) fun S3=>B3 Θ Y all os S3 κ)
   | _=>none) else none
  |none=>match Ft S o with
  |some (t,r,sz,lo,len)=>Jm Θ S t r sz lo len o.dst fun S3=>B3 Θ Y all os S3 κ
  |none=>Kr S all o fun b S1=>bif b then (match BX Y S1 o with
   |some (k,g,caps,a,us,xs)=>B0 Θ Y S1 k g caps a us xs o.dst fun S3=>B3 Θ Y all os S3 κ
   |none=>uK Θ Y S1 o fun v S2=>rc S2 o.dst v fun S3=>B3 Θ Y all os S3 κ) else rc S1 o.dst (V.tup []) fun S3=>B3 Θ Y all os S3 κ
def gone:Nat->List (Option eS)->List (Option eS)->List Nat
 |n,some _::l,none::m=>n::gone (n+1) l m
 |n,_::l,_::m=>gone (n+1) l m
 | _,_,_=> []
def Na (l:List (Option eS)):List T:=l.map fun x=>match x with |some tr=>tr.tree|none=> .dd
def xy (S S':TS):jl:=⟨S.gh.length,Na (S'.gh.drop S.gh.length),gone 0 S.gh S'.gh⟩
def QZ (d:Nat) (o:Oper):Bool:=match o.dst with |some d'=> !(Nat.beq d d')|none=>true
def SP (o:Oper) (os:List Oper):Bool:=match o.dst with |some d=>os.all (QZ d)|none=>false
def SD (Θ:nC) (t:TypeId):Bool:=match lP Θ t with
 |some ti=>(match ti.ty with | .ls _=>true| _=>false)
 |none=>false
def Pq (Θ:nC) (o:Oper):Bool:=match o.op with
 | .buildSlice t _ _=>SD Θ t
 | .call { callee:= .builtin .append,args:=_,argTypes:=ts } =>(match ts.toList with |t::_=>SD Θ t| [] =>false)
 | _=>true
def Kt:V->Bool
 | .v (.cl (.own p _ _ _ _))=>(match p.l with | [] =>true| _=>false)
 | _=>true
def Ku (S:TS) (o:Oper):Bool:=match o.op with
 | .buildSlice _ _ parts=> !(parts.toList.map fun x=>S.opd x.2).any BW
 | .call { callee:= .builtin .append,args:=as,argTypes:=ts } =>(match ts.toList with | [t,t'] =>Nat.beq t t'| _=>true)&&(match as.toList with |s::_=>Kt (S.opd s)| [] =>true)
 | _=>true
def Nb (Θ:nC):List Oper->TS->(TS->Option ρ)->Option ρ
 | [],S,κ=>κ S
 |o::os,S,κ=>match o.op with
  | .alloc t=>match lP Θ t with |some ti=>Nb Θ os { S with bx:=S.bx++ [ti.ty.zvs.map cC] } κ|none=>none
  | _=>Nb Θ os S κ
def Ht (Θ:nC) (Y:xZ) (all:List Oper):List Oper->TS->List jl->(TS->List jl->Option ρ)->Option ρ
 | [],S,ms,κ=>κ S ms
 |o::os,S,ms,κ=>bif eg o then Ht Θ Y all os S (ms++ [⟨S.gh.length,[],[]⟩]) κ else bif fZ o then (bif o.guard.isNone then rc S o.dst (V.v (.cl (.ptrB (S.bx.length-1-gG os) 0))) fun S3=>Ht Θ Y all os S3 (ms++ [⟨S.gh.length,[],[]⟩]) κ else none) else
   Kr S all o fun b S1=>bif b then
    (bif hZ o then (bif SP o os&&Pq Θ o&&Ku S1 o then uK Θ Y S1 o fun v S2=>rc S2 o.dst v fun S3=>Ht Θ Y all os S3 (ms++ [xy S1 S2]) κ else none)
    else xx Θ S1 o fun v S2=>rc S2 o.dst v fun S3=>Ht Θ Y all os S3 (ms++ [⟨S1.gh.length,[],[]⟩]) κ)
    else rc S1 o.dst (V.tup []) fun S3=>Ht Θ Y all os S3 (ms++ [⟨S1.gh.length,[],[]⟩]) κ
def Nc (Θ:nC) (Y:xZ):List Oper->TS->(TS->Option ρ)->Option ρ
 | [],S,κ=>κ S
 |o::os,S,κ=>bif eg o then (bif o.guard.isNone&&o.dst.isNone then uK Θ Y S o fun _ S1=>Nc Θ Y os S1 κ else none) else Nc Θ Y os S κ
def Kv (Θ:nC) (t:TypeId):Bool:=match lP Θ t with |some ti=>ti.ty.flatB|none=>false
def Nd (Θ:nC) (S:TS) (o:Oper):Bool:=match o.op with
 | .store t x _=>(match S.opd x with | .v (.cl (.ptrB _ _))=>true| .v (.cl (.ptrT _ _ _ _))=>Kv Θ t| _=>false)
 | _=>false
def Fu (Θ:nC) (o:Oper):Bool:=match o.op with
 | .buildSlice t _ _=>(match lP Θ t with |some ti=>(match ti.ty with | .ls el=>el.flatB| _=>false)|none=>false)
 | _=>true
def Hu (Θ:nC) (Y:xZ) (n0:Nat) (ops:List Oper) (B:List (List Nat)):Nat->List Oper->TS->(TS->Option ρ)->Option ρ
 | _,[],S,κ=>κ S
 |k,o::os,S,κ=>match BX Y S o with
  |some (kd,g,caps,a,us,xs)=>B0 Θ Y S kd g caps a us xs o.dst fun S3=>Hu Θ Y n0 ops B (k+1) os S3 κ
  |none=>bif eg o then
    (bif Nd Θ S o||(os.isEmpty&&(List.range k).all fun j=>(B.getD k []).contains j) then uK Θ Y S o fun v S2=>rc S2 o.dst v fun S3=>Hu Θ Y n0 ops B (k+1) os S3 κ else none)
   else bif hZ o then uK Θ Y S o fun v S2=>bif (!qU o&&Fu Θ o)||(Pq Θ o&&Ku S o&&(vi o||(gone 0 S.gh S2.gh).all fun r=>Nat.ble n0 r)) then rc S2 o.dst v fun S3=>Hu Θ Y n0 ops B (k+1) os S3 κ else none
   else bif I5 n0 (MW ops B k) S.st o then xx Θ S o fun v S2=>rc S2 o.dst v fun S3=>Hu Θ Y n0 ops B (k+1) os S3 κ else none
def TZ (Y:xZ) (o:Oper):Bool:=match o.op with
 | .call { callee:= .value (.func g), .. } =>Nat.beq (Y.kd g) 3
 | _=>false
def RH (Θ:nC) (Y:xZ) (ops:List Oper) (S:TS) (κ:TS->Option ρ):Option ρ:=
 bif G7 ops.toArray||(ops.any (TZ Y)&&QW ops.toArray) then Hu Θ Y S.gh.length ops (gn ops) 0 ops S κ else
 bif Ki ops.toArray then Nb Θ ops S fun S0=>Ht Θ Y ops ops S0 [] fun SV ms=>bif IP (Kv Θ) ops (gn ops) S0.st ms SV.st then Nc Θ Y ops SV κ else none else none
def gO:Code->Nat
 | .region id _ _=>id
 | .seq a _=>gO a
 | .block _ c=>gO c
 | .loop c=>gO c
 | _=>0
abbrev n9:=Nat->TS->(ρ:Type)->(X->TS->Option ρ)->Option ρ
noncomputable def zw (Θ:nC) (Y:xZ) (Λ:n9):Code->TS->(X->TS->Option ρ)->Option ρ
 | .skip,S,κ=>κ .nor S
 | .region _ ops false,S,κ=>B3 Θ Y ops.toList ops.toList S (κ .nor)
 | .region _ ops true,S,κ=>RH Θ Y ops.toList S (κ .nor)
 | .seq a b,S,κ=>zw Θ Y Λ a S fun x S1=>match x with | .nor=>zw Θ Y Λ b S1 κ|x=>κ x S1
 | .cond c a b,S,κ=>Hj S c fun t S1=>bif t then zw Θ Y Λ a S1 κ else zw Θ Y Λ b S1 κ
 | .block id c,S,κ=>zw Θ Y Λ c S fun x S1=>match x with | .ext i=>bif Nat.beq i id then κ .nor S1 else κ (.ext i) S1|x=>κ x S1
 | .loop c,S,κ=>Λ (gO c) S ρ κ
 | .exit id,S,κ=>κ (.ext id) S
 | .ret,S,κ=>κ .ret S
 | _,_,_=>none
def Nf (S:TS) (gs:List eS) (et:Option Ty) (c:Cl) (κ:Cl->List eS->TS->Option ρ):Option ρ:=match c,et with
 | .c (.sc v),_=>κ (.c (.sc v)) gs S
 | .em,some t=>κ (.own ⟨gs.length,[]⟩ t.width 0 0 true) (gs++ [⟨t,[],none⟩]) S
 | .own p sz lo len w,some t'=>match p.l with
   | [] =>bif Nat.ble S.fz p.r&&Nat.beq t'.width sz then q8 S p fun t l=>bif Nat.beq t.width sz then
     (bif w then κ (.own ⟨gs.length,[]⟩ sz 0 l.length true) (gs++ [⟨t,l,none⟩]) { S with gh:=fK S.gh p.r none }
     else iteP (lo=0/\len<=l.length) (κ (.own ⟨gs.length,[]⟩ sz 0 (l.take len).length true) (gs++ [⟨t,l.take len,none⟩]) { S with gh:=fK S.gh p.r none })
      (bif t.flatB&&Nat.ble sz 3 then iteP (lo+len<=l.length) (κ (.own ⟨gs.length,[]⟩ sz 0 ((l.drop lo).take len).length true) (gs++ [⟨t,(l.drop lo).take len,none⟩]) { S with gh:=fK S.gh p.r none }) none else none)) else none
     else none
   | _=>none
 | .ptrT p sz i j,none=>match p.l with
   | [] =>bif Nat.ble S.fz p.r then q8 S p fun t l=>bif Nat.beq t.width sz then κ (.ptrT ⟨gs.length,[]⟩ sz i j) (gs++ [⟨t,l,none⟩]) { S with gh:=fK S.gh p.r none } else none else none
   | _=>none
 | _,_=>none
def Kw:TS->List eS->List (Option Ty)->List Cl->(List Cl->List eS->TS->Option ρ)->Option ρ
 |S,gs,et::ets,c::cs,κ=>Nf S gs et c fun c' gs' S'=>Kw S' gs' ets cs fun cs' gs'' S''=>κ (c'::cs') gs'' S''
 |S,gs,[],[],κ=>κ [] gs S
 | _,_,_,_,_=>none
def RI (Θ:nC) (S:TS) (gs:List eS) (t:TypeId) (v:V) (κ:V1->List eS->TS->Option ρ):Option ρ:=match v with
 | .v (.cl (.ptrT p sz i j))=>Nf S gs none (.ptrT p sz i j) fun c' gs' S'=>κ (.cl c') gs' S'
 |v=>match lP Θ t with
  |none=>none
  |some ti=>match v with
   | .v (.agg cs)=>Kw S gs ti.ty.csh cs fun cs' gs' S'=>κ (.agg cs') gs' S'
   | .v (.cl c)=>Nf S gs (ti.ty.csh.headD none) c fun c' gs' S'=>κ (.cl c') gs' S'
   | _=>none
def Hv (Θ:nC):TS->List eS->List (TypeId×V)->(List V1->List eS->Option ρ)->Option ρ
 | _,gs,[],κ=>κ [] gs
 |S,gs,(t,v)::r,κ=>RI Θ S gs t v fun v' gs' S'=>Hv Θ S' gs' r fun vs gs''=>κ (v'::vs) gs''
def Jn (Θ:nC) (S:TS):List ResultVar->List TypeId->(List (TypeId×V)->Option ρ)->Option ρ
 | .tmp a::rs,t::ts,κ=>Jn Θ S rs ts fun l=>κ ((t,jx S.env a)::l)
 | .cell a t'::rs,t::ts,κ=>Hk Θ S t' (jx S.env a) fun v=>Jn Θ S rs ts fun l=>κ ((t,v)::l)
 | [],[],κ=>κ []
 | _,_,_=>none
def Fv:List V1->V
 | [v] => .v v
 |vs=> .tup vs
def rd:Nat->List V1->List (Nat×V)
 | _,[] => []
 |n,v::l=>(n, .v v)::rd (n+1) l
def we (S:TS):Nat->Nat->Option (List eS)
 | _,0=>some []
 |r,n+1=>(match fW S.gh r with
  |some ⟨t,l,none⟩=>(match we S (r+1) n with |some ts=>some (⟨t,l,none⟩::ts)|none=>none)
  | _=>none)
noncomputable def SQ (Θ:nC) (Y:xZ) (Λ:n9) (fn:Func) (args:List V1) (G:List eS) (m:Nat) (κ:V->List eS->Option ρ):Option ρ:=match fn.body with
 |none=>none
 |some c=>zw Θ Y Λ c { env:=rd 0 args,bx:= [],gh:=G.map some,fz:=m,nt:=args.length+(fn.ntmps-args.length) } fun x S=>match x with
  | .ext _=>none
  | _=>Jn Θ S fn.results.toList fn.resultTypes.toList fun rs=>match we S 0 m with
    |some gs=>Hv Θ S gs rs fun vs gs'=>κ (Fv vs) gs'
    |none=>none
noncomputable abbrev T0 (Θ:nC) (Y:xZ) (Λ:n9) (fn:Func) (args:List V1) (κ:V->List eS->Option ρ):Option ρ:=SQ Θ Y Λ fn args [] 0 κ
def Jo:List Cl->Option (List C)
 | [] =>some []
 | .c x::l=>match Jo l with |some r=>some (x::r)|none=>none
 | _=>none
def un (t:Ty) (a:V1) (κ:t.D->Option ρ):Option ρ:=match a with
 | .agg cs=>bif t.ag then (match Jo cs with
   |some xs=>(match t.unflat xs with |some x=>κ x|none=>none)
   |none=>none) else none
 | .cl (.c y)=>bif t.ag then none else (match t.unflat [y] with |some x=>κ x|none=>none)
 | _=>none
def xz:List C->Nat->List Cl
 | [],_=> []
 | .sc v::r,n=> .c (.sc v)::xz r n
 | .ls t l::r,n=> .own ⟨n,[]⟩ t.width 0 l.length true::xz r (n+1)
def qy:List C->List eS
 | [] => []
 | .sc _::r=>qy r
 | .ls t l::r=>⟨t,l,none⟩::qy r
def LH (t:Ty) (x:t.D) (n:Nat):V1:=bif t.ag then .agg (xz (t.flat x) n) else match xz (t.flat x) n with | [c] => .cl c| _=> .cl .dead
def wK:Nat->List ((t:Ty)×t.D)->List V1
 | _,[] => []
 |n,⟨t,x⟩::r=>LH t x n::wK (n+(qy (t.flat x)).length) r
def uL:List ((t:Ty)×t.D)->List eS
 | [] => []
 | ⟨t,x⟩::r=>qy (t.flat x)++uL r
def ret (l:List ((t:Ty)×t.D)) (κ:V->List eS->Option ρ):Option ρ:=κ (Fv (wK 0 l)) (uL l)
end
abbrev MA:=List V1->(ρ:Type)->(V->List eS->Option ρ)->Option ρ
def RJ:List (Nat×MA)->FuncId->List V1->(ρ:Type)->(V->List eS->Option ρ)->Option ρ
 | [],_,_,_,_=>none
 | (g,e)::l,f,as,ρ,κ=>bif Nat.beq g f then e as ρ κ else RJ l f as ρ κ
def Pr:List (Nat×MA)->Nat->Bool
 | [],_=>false
 | (g,_)::l,f=>bif Nat.beq g f then true else Pr l f
def DL (l:List (Nat×MA)):xZ:=⟨RJ l,fun g=>bif Pr l (AP g) then 1 else bif Pr l (DK g) then 2 else bif Pr l (BV g) then 3 else 0⟩
noncomputable abbrev Ng {ρ:Type} (Θ:nC) (Y:xZ) (Λ:n9) (fn:Func) (m:Nat) (el:Ty) (l:List el.D) (args:List V1) (κ:V->List eS->Option ρ):Option ρ:=SQ Θ Y Λ fn (.cl (.own ⟨0,[]⟩ el.width 0 l.length true)::args) [⟨el,l,none⟩] m κ
noncomputable abbrev RK {ρ:Type} (Θ:nC) (Y:xZ) (Λ:n9) (fn:Func) (el:Ty) (l:List el.D) (args:List V1) (κ:V->List eS->Option ρ):Option ρ:=SQ Θ Y Λ fn (.cl (.ptrT ⟨0,[]⟩ el.width 0 0)::args) [⟨el,l,none⟩] 1 κ
def Kx (t:Ty) (x:t.D):V1:=bif t.ag then .agg ((t.flat x).map .c) else match (t.flat x).map Cl.c with | [c] => .cl c| _=> .cl .dead
end
section
open Go
theorem gv {α:Type}: ∀ (l:List α) (n:Nat),o0 l n=l[n]?
 | [],n=>by simp[o0]
 |a::l,0=>by simp[o0]
 |a::l,n+1=>by show o0 l n=_; rw[gv l]; simp
theorem ik {α:Type}: ∀ (l:List α) (n:Nat) (x:α),fK l n x=l.set n x
 | [],n,x=>by simp[fK]
 |a::l,0,x=>by simp[fK]
 |a::l,n+1,x=>by show a::fK l n x=_; rw[ik l]; simp
theorem Hw: ∀ {l:List (Nat×V)} {t:Nat},jx l t=V.dead\/(t,jx l t)∈l
 | [],t=> .inl rfl
 | (u,v)::l,t=>by
   simp only[jx];cases h:Nat.beq u t with
   |true=>have :u=t:=ao h;subst this;exact .inr (aK)
   |false=>
    rcases Hw (l:=l) (t:=t) with h'|h'
    ·exact .inl h'
    ·exact .inr (aL _ h')
def Cl.ok (G:List (Option eS)):Cl->Prop
 | .own p _ lo len w=>p.r<G.length/\(w=true->p.l= [] /\lo=0/\ ∀tr,fW G p.r=some tr->len=tr.l.length)
 | .ptrT p _ _ _=>p.r<G.length
 | _=>True
def V1.ok (G:List (Option eS)):V1->Prop
 | .cl c=>c.ok G
 | .agg cs=> ∀c∈cs,c.ok G
 | .fn _ cs=> ∀c∈cs,c.ok G
def V.ok (G:List (Option eS)):V->Prop
 | .v x=>x.ok G
 | .tup l=> ∀x∈l,x.ok G
structure TS.ok (S:TS):Prop where
 env: ∀x∈S.env,x.2.ok S.gh
 bx: ∀cs∈S.bx,∀c∈cs,c.ok S.gh
def jb (G G':List (Option eS)):Prop:=G.length<=G'.length/\ ∀r tr',r<G.length->fW G' r=some tr'-> ∃tr,fW G r=some tr/\tr.l.length=tr'.l.length
theorem jb.refl (G:List (Option eS)):jb G G:=⟨aq _,fun _ tr _ h=>⟨tr,h,rfl⟩⟩
theorem jb.trans {G H K:List (Option eS)} (h:jb G H) (k:jb H K):jb G K:=⟨aO h.1 k.1,fun r tr hr hK=>by obtain⟨t1,h1,h2⟩:=k.2 r tr (aU hr h.1) hK;obtain⟨t2,h3,h4⟩:=h.2 r t1 hr h1;exact⟨t2,h3,h4.trans h2⟩⟩
theorem Cl.ok_mono {G G':List (Option eS)} (h:jb G G') {c:Cl} (hc:c.ok G):c.ok G':=by
 cases c with
 |own p sz lo len w=>obtain⟨h1,h2⟩:=hc;refine⟨aU h1 h.1,fun hw=> ?_⟩;obtain⟨a,b,c⟩:=h2 hw;refine⟨a,b,fun tr htr=> ?_⟩;obtain⟨tr0,k1,k2⟩:=h.2 _ tr h1 htr;rw[c tr0 k1,k2]
 |ptrT p sz i j=>exact aU hc h.1
 | _=>trivial
theorem V1.ok_mono {G G':List (Option eS)} (h:jb G G') {v:V1} (hv:v.ok G):v.ok G':=by
 cases v with
 |cl c=>exact Cl.ok_mono h hv
 |agg cs=>exact fun c hc=>Cl.ok_mono h (hv c hc)
 |fn f cs=>exact fun c hc=>Cl.ok_mono h (hv c hc)
theorem V.ok_mono {G G':List (Option eS)} (h:jb G G') {v:V} (hv:v.ok G):v.ok G':=by
 cases v with
 |v x=>exact V1.ok_mono h hv
 |tup l=>exact fun x hx=>V1.ok_mono h (hv x hx)
theorem V.ok_dead (G:List (Option eS)):V.dead.ok G:=trivial
theorem V.ok_sc (G:List (Option eS)) (v:Value): (V.sc v).ok G:=trivial
theorem Bl {S:TS} (hS:S.ok) (t:Nat): (jx S.env t).ok S.gh:=by
 rcases Hw (l:=S.env) (t:=t) with h|h
 ·rw[h]; trivial
 ·exact hS.env _ h
theorem qs (v:Value): (cC v).av=Bg v:=by
 unfold cC Bg;split
 ·rfl
 ·rename_i hn;split
  ·exact absurd rfl hn
  ·cases h:o5 v<;>rfl
theorem SR (v:Value): (cV v).av=Dx v:=by
 cases v with
 |agg cs=>
  simp only[cV,Dx];cases h:cs.toList.all Value.oneCell' with
  |true=>simp_all [V.av,V1.av,qs]
  |false=>rfl
 |bool b=>exact qs (.bool b)
 |int k n=>exact qs (.int k n)
 |float k n=>exact qs (.float k n)
 |complex k n m=>exact qs (.complex k n m)
 |string x=>exact qs (.string x)
 |pointer x=>exact qs (.pointer x)
 |slice x y z=>exact qs (.slice x y z)
 |map x=>exact qs (.map x)
 |chan x=>exact qs (.chan x)
 |func x y z=>exact qs (.func x y z)
 |nilFunc=>exact qs .nilFunc
 |iface x y=>exact qs (.iface x y)
 |nilIface=>exact qs .nilIface
 |tuple x=>exact qs (.tuple x)
theorem Ky (G:List (Option eS)) (v:Value): (cC v).ok G:=by
 unfold cC;split
 ·trivial
 ·cases o5 _<;>trivial
theorem ST (G:List (Option eS)) (v:Value): (cV v).ok G:=by
 unfold cV;split
 ·rename_i cs;cases cs.toList.all Value.oneCell' with
  |true=>intro c hc; simp only[aM] at hc; obtain⟨x,_,rfl⟩:=hc; exact Ky _ _
  |false=>trivial
 ·exact Ky _ _
theorem ez {S:TS} (x:Operand):opd S.st x=(S.opd x).av:=by
 cases x with
 |tmp t=>rfl
 |const v=>exact (SR v).symm
 |func f=>rfl
 |global g=>rfl
theorem np {S:TS} (hS:S.ok) (x:Operand): (S.opd x).ok S.gh:=by
 cases x with
 |tmp t=>exact Bl hS t
 |const v=>exact ST _ _
 |func f=>trivial
 |global g=>trivial
section
variable {ρ:Type}
theorem Ps {α:Type} {b:Bool} {x y:Option α} {r:α} (h:br b x y=some r): (b=true/\x=some r)\/(b=false/\y=some r):=by
 cases b with
 |true=>exact .inl ⟨rfl,h⟩
 |false=>exact .inr ⟨rfl,h⟩
theorem fw {α:Type} {c:Prop} [Decidable c] {x:Option α} {r:α} (h:iteP c x none=some r):c/\x=some r:=by grind [iteP]
theorem Pt {α:Type} {c:Prop} [Decidable c] {x y:Option α} {r:α} (h:iteP c x y=some r):c/\x=some r\/ ¬c/\y=some r:=by grind [iteP]
theorem zx {α:Type} {c:Prop} [Decidable c] {x:Option α} {r:α} (h:iteP c none x=some r): ¬c/\x=some r:=by grind [iteP]
theorem ej {α:Type} {c:Bool} {x:Option α} {r:α} (h: (bif c then x else none)=some r):c=true/\x=some r:=by grind
theorem Hx {S:TS} {t:Nat} {b:Bool} (h:jx S.env t=V.sc (.bool b)): ({ S with env:=(t,V.sc (.bool b))::S.env }:TS).st=S.st:=by
 unfold TS.st;simp only
 congr 1
 funext u
 simp only[jx];cases hb:Nat.beq t u with
 |true=>simp_all
 |false=>rfl
theorem Hy {S:TS} (hS:S.ok) (t:Nat) (b:Bool): ({ S with env:=(t,V.sc (.bool b))::S.env }:TS).ok:=
 ⟨fun x hx=>by
  simp only[aX] at hx;rcases hx with rfl|hx
  ·trivial
  ·exact hS.env x hx,hS.bx⟩
theorem B4 {S:TS} (hS:S.ok) {x:Operand} {κ:Bool->TS->Option ρ} {r:ρ} (h:Hj S x κ=some r):
  ∃b S',opd S.st x= .sc (.bool b)/\S'.st=S.st/\S'.ok/\S'.gh=S.gh/\κ b S'=some r:=by
 unfold Hj at h;split at h
 ·rename_i t;split at h
  ·rename_i b hb;rcases Ps h with ⟨rfl,h⟩| ⟨rfl,h⟩
   ·exact⟨true,_,by show (jx S.env t).av=_; rw[hb]; rfl,Hx hb,Hy hS _ _,rfl,h⟩
   ·exact⟨false,_,by show (jx S.env t).av=_; rw[hb]; rfl,Hx hb,Hy hS _ _,rfl,h⟩
  ·cases h
 ·rename_i b;exact⟨b,S,rfl,rfl,hS,rfl,h⟩
 ·cases h
theorem uh {v:V} {κ:Int->Option ρ} {r:ρ} (h:Jh v κ=some r): ∃n,zb v.av=some n/\κ n=some r:=by
 unfold Jh at h;split at h
 ·exact⟨_,rfl,h⟩
 ·cases h
theorem eS.look {G:List (Option eS)} {r:Nat} {tr:eS} (h:o0 G r=some (some tr)):fW G r=some tr:=by unfold fW;rw[h];rfl
theorem ic {S:TS} {p:ff} {κ: (t:Ty)->List t.D->Option ρ} {r:ρ} (h:q8 S p κ=some r):
  ∃ (t:Ty) (l:List t.D),S.st.look p= .sl t.width (l.map t.row)/\(p.l= [] ->fW S.gh p.r=some ⟨t,l,none⟩)/\κ t l=some r:=by
 unfold q8 at h;split at h
 ·rename_i tr htr;have hg:=eS.look htr;split at h
  ·rename_i hh;obtain⟨t,l,hole⟩:=tr;simp only at hh;subst hh;split at h
   ·rename_i hp;refine⟨t,l,?_,fun _=>hg,h⟩;unfold St.look;have :S.st.gh p.r=some (.sl t.width (l.map t.row)):=by show (fW S.gh p.r).map eS.tree=_; rw[hg]; rfl
    rw[this,hp];rfl
   ·rename_i i j hp;simp only[ai] at h;obtain⟨x,hx,h⟩:=h;split at h
    ·rename_i t' l' hj;refine⟨t',l',?_,(fun h0=>by rw[hp] at h0; cases h0),h⟩;unfold St.look;have :S.st.gh p.r=some (.sl t.width (l.map t.row)):=by show (fW S.gh p.r).map eS.tree=_; rw[hg]; rfl
     rw[this,hp];simp only[T.go,T.cell];have e1: (l.map t.row).getD i [] =t.row x:=by simp[aF,hx]
     rw[e1,t.row_flat]
     grind [gv,C.tree]
    ·cases h
   ·cases h
  ·cases h
 ·cases h
end
end
section
open Go
def Ty.shs (t:Ty):List Nat:=t.csh.map fun |some e=>e.width|none=>0
structure TI.ok (P:Program) (t:TypeId) (ti:TI):Prop where
 ag:Dw P t=some ti.ty.ag
 cells:P.cellsOf t=ti.ty.width
 sh:nT P 9 t=ti.ty.shs
 ze:yX P t=some ti.ty.zvs
 fd: ∀k,My P t k=o0 ti.fds k
 pl:ti.ty.ag=true->SE P t=some (ti.fds.map fun x=>(x.1,x.2.1))
 el: ∀e,ti.ty= .ls e-> ∃el,tY P t=some el/\P.cellsOf el=e.width/\P.bytesOf el=ti.el/\0<ti.el/\nT P 9 el=e.shs/\yX P el=some e.zvs
 bool:ti.ty= .b->P.underlying t=some .bool
 gu:ti.ty.ag=true->ti.ty.flatB=true->P.eqGuardType P.depth t=false
 eq:ti.ty.ag=true-> ∀ (a b:List Cl) (r:Bool) (xs ys:List Value),lQ ti.ty.zvs a=true->lQ ti.ty.zvs b=true->v9 a b=some r->a=xs.map (fun x=> .c (.sc x))->b=ys.map (fun x=> .c (.sc x))->eK P (Op.equal t (.agg xs.toArray) (.agg ys.toArray))=some r
 str:yZ P t=(match ti.ty with | .s=>true| _=>false)
 int: ∀k,ti.ty= .i k->P.underlying t=some (.int k)
 el8: ∀k u,ti.ty= .ls (.i k)->tY P t=some u->P.underlying u=some (.int k)
def gz (P:Program) (Θ:nC):Prop:= ∀t ti,lP Θ t=some ti->ti.ok P t
theorem Ty.width_pos (t:Ty):0<t.width:=by
 cases t with
 |st n=>cases n<;>decide
 | _=>exact dT
theorem C.ro_tree (c:C):T.ro c.tree=c.av:=by cases c<;>rfl
theorem C.own_tree (p:ff) (i m:Nat) (c:C):MC p i m c.tree=(Ji p i m c).av:=by
 cases c with
 |sc v=>rfl
 |ls t l=>simp[MC,C.tree,Ji,Cl.av]
theorem zy {α β:Type} (f:Nat->α->β): ∀ (j:Nat) (l:List α) (k:Nat),(zt f j l)[k]? =(l[k]?).map (f (j+k))
 |j,[],k=>by simp[zt]
 |j,a::l,0=>by simp[zt]
 |j,a::l,k+1=>by simp only[zt,cG]; rw[zy f (j+1) l k]; congr 2; omega
section
variable {ρ:Type} {P:Program} {Θ:nC} {S:TS}
theorem kV {p:ff} {sz:Nat} {rows:List (List T)} (h:S.st.look p= .sl sz rows):S.st.rows p sz=some rows:=by unfold St.rows;rw[h];simp
theorem LI (hS:S.ok) {n:Nat} {v:Cl} (hv:v.ok S.gh) {κ:List Cl->Option ρ} {r:ρ} (h:Jj S n v κ=some r):
  ∃cs:List Cl,fv S.st n v.av=some (cs.map Cl.av)/\(∀c∈cs,c.ok S.gh)/\κ cs=some r:=by
 unfold Jj at h;split at h
 ·rename_i b j;split at h
  ·rename_i cs hcs;obtain⟨h1,h⟩:=ej h;have h1:j+n<=cs.length:=ar h1;refine⟨_,?_,fun c hc=> ?_,h⟩
   ·simp_all [Cl.av,fv,TS.st]
   ·rw[gv] at hcs;exact hS.bx cs (au hcs) c (bV (bW hc))
  ·cases h
 ·rename_i cells;obtain⟨h1,h⟩:=ej h;have h1:n<=cells.length:=ar h1;refine⟨_,?_,fun c hc=> ?_,h⟩
  ·simp only[Cl.av,fv,aN];rw[if_pos h1]
   congr 1
   rw[<-cz,bK,bK];exact aI fun c _=>C.ro_tree c
  ·obtain⟨x,_,rfl⟩:=aM.1 hc;trivial
 ·rename_i p sz i j;obtain⟨t,l,h1,_,h5⟩:=ic h;obtain⟨h2,h6⟩:=ej h5;clear h h5;simp only[al] at h2;have h3:t.width=sz:=ao h2.1;have h4:j+n<=sz:=ar h2.2;subst h3;obtain⟨x,hx,h⟩:=ai.1 h6;have hil:i<l.length:=(aj.1 hx).1;have hfl: (t.flat x).length=t.width:=t.flat_length x;refine⟨_,?_,fun c hc=> ?_,h⟩
  ·have e1: (l.map t.row).getD i [] =t.row x:=by simp[aF,hx]
   simp only[Cl.av,fv,kV h1];rw[e1,if_pos ⟨by simpa using hil,by rw[t.row_length]; exact h4⟩]
   congr 1
   apply bI;intro k;rw[ap,ap,zy];by_cases hk:k<n
   ·have hjk:j+k< (t.flat x).length:=by omega
    rw[List.getElem?_range hk,bu,if_pos hk,bw,ah hjk];simp only[aH];rw[t.row_flat,aF,ap,ah hjk]
    grind [C.own_tree]
   grind
  ·obtain⟨k,hk⟩:=List.getElem?_of_mem hc;rw[zy] at hk;simp only[ak] at hk;obtain⟨y,_,rfl⟩:=hk;cases y with
   |sc v=>trivial
   |ls t' l'=>exact⟨hv,fun h=>by cases h⟩
 ·cases h
theorem Nh {G:List (Option eS)} {ag:Bool} {cs:List Cl} (hcs: ∀c∈cs,c.ok G) {κ:V->Option ρ} {r:ρ} (h:TY ag cs κ=some r): ∃v,QQ ag (cs.map Cl.av)=some v.av/\v.ok G/\κ v=some r:=by
 unfold TY at h;cases ag with
 |true=>refine⟨_,rfl,?_,h⟩; exact hcs
 |false=>
  simp only[cond_false] at h;split at h
  ·rename_i c;refine⟨_,rfl,?_,h⟩; exact hcs c (by simp)
  ·cases h
theorem Hz (hΘ:gz P Θ) (hS:S.ok) {t:TypeId} {v:V} (hv:v.ok S.gh) {κ:V->Option ρ} {r:ρ} (h:Hk Θ S t v κ=some r):
  ∃u,load P S.st t v.av=some u.av/\u.ok S.gh/\κ u=some r:=by
 unfold Hk at h;split at h
 ·rename_i ti hti;have hok:=hΘ _ _ hti;split at h
  ·rename_i a;obtain⟨cs,h1,h2,h⟩:=LI hS hv h;obtain⟨u,h3,h4,h⟩:=Nh h2 h;refine⟨u,?_,h4,h⟩;unfold load;rw[hok.ag,hok.cells]
   grind [V.av,V1.av]
  ·cases h
 ·cases h
theorem Ni {p:ff} {κ:Int->Option ρ} {r:ρ} (h:M7 S p κ=some r): ∃tr,fW S.gh p.r=some tr/\κ tr.l.length=some r:=by grind [M7,eS.look]
theorem Pu {n:Nat} {i:Int} {v:Cl} (hv:v.ok S.gh) {κ:Cl->Option ρ} {r:ρ} (h:RB n i S v κ=some r): ∃c,x0 n i v.av=some c.av/\c.ok S.gh/\κ c=some r:=by
 unfold RB at h;split at h
 ·rename_i t l;obtain⟨h1,h⟩:=ej h;have h1:t.width=n:=ao h1;obtain⟨h2,h⟩:=fw h;obtain⟨x,hx,h⟩:=ai.1 h;have hil:=(aj.1 hx).1;refine⟨_,?_,?_,h⟩
  rotate_left
  ·trivial
  simp only[Cl.av,C.av,x0,aN];rw[if_pos ⟨h2,by omega,h1⟩]
  congr 1
  simp[aF,hx,t.row_flat]
 ·rename_i p sz lo len;obtain⟨h1,h⟩:=ej h;have h1:sz=n:=ao h1;obtain⟨tr,h3,h⟩:=Ni h;obtain⟨h4,h⟩:=fw h;obtain⟨h5,h6⟩:=hv;obtain⟨h7,h8,h9⟩:=h6 rfl;have h10:=h9 _ h3;refine⟨_,?_,?_,h⟩
  rotate_left
  ·exact h5
  simp_all [Cl.av,x0]
 ·rename_i p sz lo len;obtain⟨h1,h⟩:=ej h;have h1:sz=n:=ao h1;obtain⟨h4,h⟩:=fw h;refine⟨_,?_,?_,h⟩
  rotate_left
  ·exact hv.1
  simp_all [Cl.av,x0]
 ·cases h
theorem Kz {v:Cl} (hv:v.ok S.gh) {κ:Int->Option ρ} {r:ρ} (h:Pk S v κ=some r): ∃n,uD v.av=some n/\κ n=some r:=by
 unfold Pk at h;split at h
 ·grind [Cl.av,C.av,uD]
 ·obtain⟨t,l,h2,h3,h⟩:=ic h;obtain⟨h5,h6⟩:=hv
  simp_all [Cl.av,uD]
 ·exact⟨_,rfl,h⟩
 ·exact⟨_,rfl,h⟩
 ·cases h
theorem Pv {n:Nat} {lo hi:Int} {v:Cl} (hv:v.ok S.gh) {κ:Cl->Option ρ} {r:ρ} (h:RC n lo hi v κ=some r): ∃c,Mz n lo hi v.av=some c.av/\c.ok S.gh/\κ c=some r:=by
 unfold RC at h;split at h
 ·obtain⟨h1,h⟩:=fw h;exact⟨.em,by simp[Cl.av,Mz,h1],trivial,h⟩
 ·rename_i t l;obtain⟨h1,h⟩:=ej h;have h1:t.width=n:=ao h1;obtain⟨h2,h⟩:=fw h;refine⟨_,?_,?_,h⟩
  rotate_left
  ·trivial
  simp_all [Cl.av,C.av,Mz]
 ·rename_i p sz l len w;obtain⟨h1,h⟩:=ej h;have h1:sz=n:=ao h1;obtain⟨h2,h⟩:=fw h;refine⟨_,?_,?_,h⟩
  rotate_left
  ·exact⟨hv.1,fun h=>by cases h⟩
  simp_all [Cl.av,Mz]
 ·cases h
theorem EF {d:Int} {x:Option Operand} {κ:Int->Option ρ} {r:ρ} (h:Fq S d x κ=some r): ∃n,nA S.st d x=some n/\κ n=some r:=by
 unfold Fq at h;split at h
 all_goals simp_all [uh,nA,ez]
theorem Pw {G:List (Option eS)}: ∀ (parts:List (Nat×V)) (pl:List (Nat×Nat×Bool)) (cs cs':List Cl),(∀c∈cs,c.ok G)->(∀x∈parts,x.2.ok G)->LG pl cs parts=some cs'->
  O3 (pl.map fun x=>(x.1,x.2.1)) (cs.map Cl.av) (parts.map fun x=>(x.1,x.2.av))=some (cs'.map Cl.av)/\ ∀c∈cs',c.ok G:=by
 intro parts
 induction parts with
 |nil=>intro pl cs cs' hcs _ h;simp only[LG,af] at h;subst h;exact⟨rfl,hcs⟩
 |cons x parts ih=>
  intro pl cs cs' hcs hp h;obtain⟨k,v⟩:=x;simp only[LG] at h;split at h
  ·rename_i off n ag hk;split at h
   ·rename_i x;have hx:x.ok G:=hp (k, .v x) (by simp)
    have gO: ∀ (hd: (V.v x).av.isDead=false) (hcell: (V.v x).av.cells=x.cells.map Cl.av) (hcok: ∀c∈x.cells,c.ok G)
      (h: (bif Nat.beq x.cells.length n&&Nat.ble (off+n) cs.length then LG pl (cs.take off++x.cells++cs.drop (off+n)) parts else none)=some cs'),
      O3 (pl.map fun x=>(x.1,x.2.1)) (cs.map Cl.av) (((k,V.v x)::parts).map fun x=>(x.1,x.2.av))=some (cs'.map Cl.av)/\ ∀c∈cs',c.ok G:=by
     intro hd hcell hcok h;obtain⟨h1,h⟩:=ej h;simp only[al] at h1;have h2:x.cells.length=n:=ao h1.1;have h3:off+n<=cs.length:=ar h1.2
     obtain⟨g1,g2⟩:=ih pl _ cs' (fun c hc=>by grind) (fun y hy=>hp y (aL _ hy)) h
     refine⟨?_,g2⟩;rw[gv] at hk;simp only[aW,O3,ap,hk,aH];rw[if_pos ⟨hd,by rw[hcell]; simpa using h2,by simpa using h3⟩,<-g1,hcell];simp[cz,cQ]
    cases x with
    |cl c=>cases c with
     |dead=>cases h
     |c y=>cases y<;>exact gO rfl rfl (fun c hc=>by simp only[V1.cells,aD] at hc; subst hc; exact hx) h
     |em=>exact gO rfl rfl (fun c hc=>by simp only[V1.cells,aD] at hc; subst hc; exact hx) h
     |own p sz lo len w=>exact gO rfl rfl (fun c hc=>by simp only[V1.cells,aD] at hc; subst hc; exact hx) h
     |pro cs=>exact gO rfl rfl (fun c hc=>by simp only[V1.cells,aD] at hc; subst hc; exact hx) h
     |ptrB n j=>exact gO rfl rfl (fun c hc=>by simp only[V1.cells,aD] at hc; subst hc; exact hx) h
     |ptrT p sz i j=>exact gO rfl rfl (fun c hc=>by simp only[V1.cells,aD] at hc; subst hc; exact hx) h
    |agg cs2=>exact gO rfl rfl hx h
    |fn f cs2=>cases h
   ·cases h
  ·cases h
end
end
end Go.Proofs.YtadabkgmdllbfabGreat.En
