import Derived.Test.YtadabkgmdllbfaaGreatZX5
import Derived.Lib.Overlaps
namespace Go.Proofs.YtadabkgmdllbfaaGreat.En
section
open Go Go.RowKit
section
variable {P:Program} {w w':World} {W:Nat->Prop} {bt:Bt}
structure Sw (P:Program) (f t e tn:Nat) (sz:Nat) (i:TypeInfo) (z:Value):Prop where
 enter: ∀ (args:Array Value) (w:World),(callFunc f args).run P w= .ok (.enter f args) w
 ht:P.underlying t=some (.slice e)
 hi:P.info? e=some i
 hz:i.zero=some z
 zs:z.cells.size=i.size
 z1: ∀u∈z.cells.toList,u.oneCell'=true
 hs:i.size=sz
 pos:0<sz
 htn:P.underlying tn=some (.int .i64)
 toEnd: ∀ (ab:Option Addr) (n c:Nat) (ad:Addr) (vc:Nat) (w w':World) (v:Value),n<=c->(ab=none->n=0)->n<=2 ^ 40->
  (∀ty,(Builtin.append_ #[t,t] ty #[.slice ab n c, .slice (some ad) 1 vc]).run P w= .ok v w')->
  Calls P f #[.slice ab n c, .int .i64 n, .slice (some ad) 1 vc] w fun e w1=>e= .returned v/\w1=w'
 shift: ∀ (b n c i:Nat) (ad:Addr) (vc:Nat) (w W1 W2:World) (u1 u2:Value),i<n->n+1<=c->n<=2 ^ 40->ad.block≠b->
  (∃ra ta fa,w.heap[ad.block]? =some (.cells ra ta fa)/\0<ra.size)->(∃rb tb,w.heap[b]? =some (.cells rb tb (0,0)))->
  (∀ty dc sc,(Builtin.copy_ #[t,t] ty #[.slice (some ⟨b,(i+1)*sz,none⟩) (n-i) dc, .slice (some ⟨b,i*sz,none⟩) (n+1-i) sc]).run P w.drew= .ok u1 W1)->
  (∀ty dc,(Builtin.copy_ #[t,t] ty #[.slice (some ⟨b,i*sz,none⟩) (n+1-i) dc, .slice (some ad) 1 vc]).run P W1= .ok u2 W2)->
  Calls P f #[.slice (some ⟨b,0,none⟩) n c, .int .i64 i, .slice (some ad) 1 vc] w fun e w1=>e= .returned (.slice (some ⟨b,0,none⟩) (n+1) c)/\w1=W2
 grow: ∀ (b g n c G i:Nat) (ad:Addr) (vc:Nat) (w W0 W1 W2:World) (u1 u2:Value),i<n->n<=c->c<n+1->n+1<=G->n<=2 ^ 40->
  (∀ty,(Builtin.append_ #[t,tn] ty #[.slice (some ⟨b,0,none⟩) i c, .int .i64 ((n:Int)+1-(i:Int))]).run P w= .ok (.slice (some ⟨g,0,none⟩) (n+1) G) W0)->
  (∀ty dc,(Builtin.copy_ #[t,t] ty #[.slice (some ⟨g,i*sz,none⟩) (n+1-i) dc, .slice (some ad) 1 vc]).run P W0= .ok u1 W1)->
  (∀ty dc sc,(Builtin.copy_ #[t,t] ty #[.slice (some ⟨g,(i+1)*sz,none⟩) (n-i) dc, .slice (some ⟨b,i*sz,none⟩) (n-i) sc]).run P W1.drew= .ok u2 W2)->
  Calls P f #[.slice (some ⟨b,0,none⟩) n c, .int .i64 i, .slice (some ad) 1 vc] w fun e w1=>e= .returned (.slice (some ⟨g,0,none⟩) (n+1) G)/\w1=W2
end
end
section
open Go
structure Hd where
 a:Option Addr
 n:Nat
 c:Nat
 deriving DecidableEq,Inhabited
structure Op where
 client:Int
 seq:Int
 kind:Int
 object:Int
 old:Int
 value:Int
 deriving DecidableEq,Inhabited
structure Result where
 done:Bool
 value:Int
 deriving DecidableEq,Inhabited
structure ej where
 client:Int
 seq:Int
 result:Result
 deriving DecidableEq,Inhabited
structure fG where
 objects:List Int
 sessions:List ej
 deriving DecidableEq,Inhabited
structure dY where
 epoch:Int
 op:Op
 deriving DecidableEq,Inhabited
structure A3 where
 count:Int
 digest:Int
 machine:fG
 deriving DecidableEq,Inhabited
structure dR where
 epoch:Int
 primary:Int
 replicas:List Int
 witnesses:List Int
 deriving DecidableEq,Inhabited
structure eE where
 rack:Int
 capacity:Int
 load:Int
 deriving DecidableEq,Inhabited
structure dW where
 configs:List dR
 activated:Int
 deriving DecidableEq,Inhabited
structure eZ where
 epoch:Int
 holder:Int
 ends:Int
 deriving DecidableEq,Inhabited
structure dQ where
 up:Bool
 intact:Bool
 version:Int
 epoch:Int
 config:dR
 first:Int
 log:List dY
 commit:Int
 learned:List dY
 deriving DecidableEq,Inhabited
structure dN where
 now:Int
 servers:List dQ
 sides:List Int
 master:dW
 masterUp:Int
 lease:eZ
 places:List eE
 deriving DecidableEq,Inhabited
structure ka where
 code:Int
 result:Result
 index:Int
 deriving DecidableEq,Inhabited
structure SG where
 op:Op
 index:Int
 deriving DecidableEq,Inhabited
structure fm where
 kind:Int
 server:Int
 other:Int
 n:Int
 op:Op
 deriving DecidableEq,Inhabited
structure H1 where
 server:Int
 index:Int
 deriving DecidableEq,Inhabited
structure Qm where
 start:Int
 event:Int
 read:Bool
 index:Int
 value:Int
 op:Op
 deriving DecidableEq,Inhabited
structure fT where
 b:Hd
 i:Int
 h:Int
 deriving DecidableEq,Inhabited
inductive Sn where
 |op|result|session|machine|entry|snapshot|config|place|masterLog|lease|server|cluster|reply|ack|event|damage|mark|cur
 deriving DecidableEq,Inhabited
abbrev Sn.D:Sn->Type
 | .op=>Op
 | .result=>Result
 | .session=>ej
 | .machine=>fG
 | .entry=>dY
 | .snapshot=>A3
 | .config=>dR
 | .place=>eE
 | .masterLog=>dW
 | .lease=>eZ
 | .server=>dQ
 | .cluster=>dN
 | .reply=>ka
 | .ack=>SG
 | .event=>fm
 | .damage=>H1
 | .mark=>Qm
 | .cur=>fT
inductive Ty where|i (k:IntKind)|b|s|h|st (n:Sn)|ls (t:Ty)
 deriving DecidableEq,Inhabited
abbrev Ty.D:Ty->Type
 | .i _=>Int| .b=>Bool| .s=>ByteArray| .h=>Hd| .st n=>n.D| .ls t=>List t.D
inductive C where|sc (v:Value)|ls (t:Ty) (l:List t.D)
 deriving Inhabited
def Sn.flat: (n:Sn)->n.D->List C
 | .op,x=> [.sc (.int .i64 x.client), .sc (.int .i64 x.seq), .sc (.int .i64 x.kind), .sc (.int .i64 x.object), .sc (.int .i64 x.old), .sc (.int .i64 x.value)]
 | .result,x=> [.sc (.bool x.done), .sc (.int .i64 x.value)]
 | .session,x=> [.sc (.int .i64 x.client), .sc (.int .i64 x.seq), .sc (.bool x.result.done), .sc (.int .i64 x.result.value)]
 | .machine,x=> [.ls (.i .i64) x.objects, .ls (.st .session) x.sessions]
 | .entry,x=> [.sc (.int .i64 x.epoch), .sc (.int .i64 x.op.client), .sc (.int .i64 x.op.seq), .sc (.int .i64 x.op.kind), .sc (.int .i64 x.op.object), .sc (.int .i64 x.op.old), .sc (.int .i64 x.op.value)]
 | .snapshot,x=> [.sc (.int .i64 x.count), .sc (.int .i64 x.digest), .ls (.i .i64) x.machine.objects, .ls (.st .session) x.machine.sessions]
 | .config,x=> [.sc (.int .i64 x.epoch), .sc (.int .i64 x.primary), .ls (.i .i64) x.replicas, .ls (.i .i64) x.witnesses]
 | .place,x=> [.sc (.int .i64 x.rack), .sc (.int .i64 x.capacity), .sc (.int .i64 x.load)]
 | .masterLog,x=> [.ls (.st .config) x.configs, .sc (.int .i64 x.activated)]
 | .lease,x=> [.sc (.int .i64 x.epoch), .sc (.int .i64 x.holder), .sc (.int .i64 x.ends)]
 | .server,x=> [.sc (.bool x.up), .sc (.bool x.intact), .sc (.int .i64 x.version), .sc (.int .i64 x.epoch), .sc (.int .i64 x.config.epoch), .sc (.int .i64 x.config.primary), .ls (.i .i64) x.config.replicas, .ls (.i .i64) x.config.witnesses, .sc (.int .i64 x.first), .ls (.st .entry) x.log, .sc (.int .i64 x.commit), .ls (.st .entry) x.learned]
 | .cluster,x=> [.sc (.int .i64 x.now), .ls (.st .server) x.servers, .ls (.i .i64) x.sides, .ls (.st .config) x.master.configs, .sc (.int .i64 x.master.activated), .sc (.int .i64 x.masterUp), .sc (.int .i64 x.lease.epoch), .sc (.int .i64 x.lease.holder), .sc (.int .i64 x.lease.ends), .ls (.st .place) x.places]
 | .reply,x=> [.sc (.int .i64 x.code), .sc (.bool x.result.done), .sc (.int .i64 x.result.value), .sc (.int .i64 x.index)]
 | .ack,x=> [.sc (.int .i64 x.op.client), .sc (.int .i64 x.op.seq), .sc (.int .i64 x.op.kind), .sc (.int .i64 x.op.object), .sc (.int .i64 x.op.old), .sc (.int .i64 x.op.value), .sc (.int .i64 x.index)]
 | .event,x=> [.sc (.int .i64 x.kind), .sc (.int .i64 x.server), .sc (.int .i64 x.other), .sc (.int .i64 x.n), .sc (.int .i64 x.op.client), .sc (.int .i64 x.op.seq), .sc (.int .i64 x.op.kind), .sc (.int .i64 x.op.object), .sc (.int .i64 x.op.old), .sc (.int .i64 x.op.value)]
 | .damage,x=> [.sc (.int .i64 x.server), .sc (.int .i64 x.index)]
 | .mark,x=> [.sc (.int .i64 x.start), .sc (.int .i64 x.event), .sc (.bool x.read), .sc (.int .i64 x.index), .sc (.int .i64 x.value), .sc (.int .i64 x.op.client), .sc (.int .i64 x.op.seq), .sc (.int .i64 x.op.kind), .sc (.int .i64 x.op.object), .sc (.int .i64 x.op.old), .sc (.int .i64 x.op.value)]
 | .cur,x=> [.sc (.slice x.b.a x.b.n x.b.c), .sc (.int .i64 x.i), .sc (.int .i64 x.h)]
def Ty.flat: (t:Ty)->t.D->List C
 | .i k,n=> [.sc (.int k n)] | .b,v=> [.sc (.bool v)] | .s,v=> [.sc (.string v)] | .h,v=> [.sc (.slice v.a v.n v.c)] | .st n,x=>n.flat x| .ls t,l=> [.ls t l]
def Sn.width:Sn->Nat
 | .op=>6| .result=>2| .session=>4| .machine=>2| .entry=>7| .snapshot=>4| .config=>4| .place=>3| .masterLog=>2| .lease=>3| .server=>12| .cluster=>10| .reply=>4| .ack=>7| .event=>10| .damage=>2| .mark=>11| .cur=>3
def Ty.width:Ty->Nat| .st n=>n.width| _=>1
def Sn.csh:Sn->List (Option Ty)
 | .op=> [none,none,none,none,none,none]
 | .result=> [none,none]
 | .session=> [none,none,none,none]
 | .machine=> [some (.i .i64),some (.st .session)]
 | .entry=> [none,none,none,none,none,none,none]
 | .snapshot=> [none,none,some (.i .i64),some (.st .session)]
 | .config=> [none,none,some (.i .i64),some (.i .i64)]
 | .place=> [none,none,none]
 | .masterLog=> [some (.st .config),none]
 | .lease=> [none,none,none]
 | .server=> [none,none,none,none,none,none,some (.i .i64),some (.i .i64),none,some (.st .entry),none,some (.st .entry)]
 | .cluster=> [none,some (.st .server),some (.i .i64),some (.st .config),none,none,none,none,none,some (.st .place)]
 | .reply=> [none,none,none,none]
 | .ack=> [none,none,none,none,none,none,none]
 | .event=> [none,none,none,none,none,none,none,none,none,none]
 | .damage=> [none,none]
 | .mark=> [none,none,none,none,none,none,none,none,none,none,none]
 | .cur=> [none,none,none]
def Ty.csh:Ty->List (Option Ty)| .st n=>n.csh| .ls t=> [some t] | _=> [none]
def Sn.zvs:Sn->List Value
 | .op=> [.int .i64 0, .int .i64 0, .int .i64 0, .int .i64 0, .int .i64 0, .int .i64 0]
 | .result=> [.bool false, .int .i64 0]
 | .session=> [.int .i64 0, .int .i64 0, .bool false, .int .i64 0]
 | .machine=> [.slice none 0 0, .slice none 0 0]
 | .entry=> [.int .i64 0, .int .i64 0, .int .i64 0, .int .i64 0, .int .i64 0, .int .i64 0, .int .i64 0]
 | .snapshot=> [.int .i64 0, .int .i64 0, .slice none 0 0, .slice none 0 0]
 | .config=> [.int .i64 0, .int .i64 0, .slice none 0 0, .slice none 0 0]
 | .place=> [.int .i64 0, .int .i64 0, .int .i64 0]
 | .masterLog=> [.slice none 0 0, .int .i64 0]
 | .lease=> [.int .i64 0, .int .i64 0, .int .i64 0]
 | .server=> [.bool false, .bool false, .int .i64 0, .int .i64 0, .int .i64 0, .int .i64 0, .slice none 0 0, .slice none 0 0, .int .i64 0, .slice none 0 0, .int .i64 0, .slice none 0 0]
 | .cluster=> [.int .i64 0, .slice none 0 0, .slice none 0 0, .slice none 0 0, .int .i64 0, .int .i64 0, .int .i64 0, .int .i64 0, .int .i64 0, .slice none 0 0]
 | .reply=> [.int .i64 0, .bool false, .int .i64 0, .int .i64 0]
 | .ack=> [.int .i64 0, .int .i64 0, .int .i64 0, .int .i64 0, .int .i64 0, .int .i64 0, .int .i64 0]
 | .event=> [.int .i64 0, .int .i64 0, .int .i64 0, .int .i64 0, .int .i64 0, .int .i64 0, .int .i64 0, .int .i64 0, .int .i64 0, .int .i64 0]
 | .damage=> [.int .i64 0, .int .i64 0]
 | .mark=> [.int .i64 0, .int .i64 0, .bool false, .int .i64 0, .int .i64 0, .int .i64 0, .int .i64 0, .int .i64 0, .int .i64 0, .int .i64 0, .int .i64 0]
 | .cur=> [.nilFunc, .int .i64 0, .int .i64 0]
def Ty.zvs:Ty->List Value| .i k=> [.int k 0] | .b=> [.bool false] | .s=> [.string ByteArray.empty] | .h=> [.nilFunc] | .st n=>n.zvs| .ls _=> [.slice none 0 0]
def gI (k:IntKind) {α:Type} (cs:List C) (f:Int->List C->Option α):Option α:=match cs with | .sc (.int k' n)::r=>if k'=k then f n r else none| _=>none
def gB {α:Type} (cs:List C) (f:Bool->List C->Option α):Option α:=match cs with | .sc (.bool v)::r=>f v r| _=>none
def gS {α:Type} (cs:List C) (f:ByteArray->List C->Option α):Option α:=match cs with | .sc (.string v)::r=>f v r| _=>none
def gH {α:Type} (cs:List C) (f:Hd->List C->Option α):Option α:=match cs with | .sc (.slice a n c)::r=>f ⟨a,n,c⟩ r| _=>none
def gL (t:Ty) {α:Type} (cs:List C) (f:List t.D->List C->Option α):Option α:=match cs with | .ls t' l::r=>if h:t'=t then f (h ▸ l) r else none| _=>none
def gN {α:Type} (cs:List C) (x:α):Option α:=match cs with | [] =>some x| _=>none
def Sn.unflat: (n:Sn)->List C->Option n.D
 | .op,cs=>gI .i64 cs fun a0 r0=>gI .i64 r0 fun a1 r1=>gI .i64 r1 fun a2 r2=>gI .i64 r2 fun a3 r3=>gI .i64 r3 fun a4 r4=>gI .i64 r4 fun a5 r5=>gN r5 (⟨a0,a1,a2,a3,a4,a5⟩:Op)
 | .result,cs=>gB cs fun a0 r0=>gI .i64 r0 fun a1 r1=>gN r1 (⟨a0,a1⟩:Result)
 | .session,cs=>gI .i64 cs fun a0 r0=>gI .i64 r0 fun a1 r1=>gB r1 fun a2 r2=>gI .i64 r2 fun a3 r3=>gN r3 (⟨a0,a1,⟨a2,a3⟩⟩:ej)
 | .machine,cs=>gL (.i .i64) cs fun a0 r0=>gL (.st .session) r0 fun a1 r1=>gN r1 (⟨a0,a1⟩:fG)
 | .entry,cs=>gI .i64 cs fun a0 r0=>gI .i64 r0 fun a1 r1=>gI .i64 r1 fun a2 r2=>gI .i64 r2 fun a3 r3=>gI .i64 r3 fun a4 r4=>gI .i64 r4 fun a5 r5=>gI .i64 r5 fun a6 r6=>gN r6 (⟨a0,⟨a1,a2,a3,a4,a5,a6⟩⟩:dY)
 | .snapshot,cs=>gI .i64 cs fun a0 r0=>gI .i64 r0 fun a1 r1=>gL (.i .i64) r1 fun a2 r2=>gL (.st .session) r2 fun a3 r3=>gN r3 (⟨a0,a1,⟨a2,a3⟩⟩:A3)
 | .config,cs=>gI .i64 cs fun a0 r0=>gI .i64 r0 fun a1 r1=>gL (.i .i64) r1 fun a2 r2=>gL (.i .i64) r2 fun a3 r3=>gN r3 (⟨a0,a1,a2,a3⟩:dR)
 | .place,cs=>gI .i64 cs fun a0 r0=>gI .i64 r0 fun a1 r1=>gI .i64 r1 fun a2 r2=>gN r2 (⟨a0,a1,a2⟩:eE)
 | .masterLog,cs=>gL (.st .config) cs fun a0 r0=>gI .i64 r0 fun a1 r1=>gN r1 (⟨a0,a1⟩:dW)
 | .lease,cs=>gI .i64 cs fun a0 r0=>gI .i64 r0 fun a1 r1=>gI .i64 r1 fun a2 r2=>gN r2 (⟨a0,a1,a2⟩:eZ)
 | .server,cs=>gB cs fun a0 r0=>gB r0 fun a1 r1=>gI .i64 r1 fun a2 r2=>gI .i64 r2 fun a3 r3=>gI .i64 r3 fun a4 r4=>gI .i64 r4 fun a5 r5=>gL (.i .i64) r5 fun a6 r6=>gL (.i .i64) r6 fun a7 r7=>gI .i64 r7 fun a8 r8=>gL (.st .entry) r8 fun a9 r9=>gI .i64 r9 fun a10 r10=>gL (.st .entry) r10 fun a11 r11=>gN r11 (⟨a0,a1,a2,a3,⟨a4,a5,a6,a7⟩,a8,a9,a10,a11⟩:dQ)
 | .cluster,cs=>gI .i64 cs fun a0 r0=>gL (.st .server) r0 fun a1 r1=>gL (.i .i64) r1 fun a2 r2=>gL (.st .config) r2 fun a3 r3=>gI .i64 r3 fun a4 r4=>gI .i64 r4 fun a5 r5=>gI .i64 r5 fun a6 r6=>gI .i64 r6 fun a7 r7=>gI .i64 r7 fun a8 r8=>gL (.st .place) r8 fun a9 r9=>gN r9 (⟨a0,a1,a2,⟨a3,a4⟩,a5,⟨a6,a7,a8⟩,a9⟩:dN)
 | .reply,cs=>gI .i64 cs fun a0 r0=>gB r0 fun a1 r1=>gI .i64 r1 fun a2 r2=>gI .i64 r2 fun a3 r3=>gN r3 (⟨a0,⟨a1,a2⟩,a3⟩:ka)
 | .ack,cs=>gI .i64 cs fun a0 r0=>gI .i64 r0 fun a1 r1=>gI .i64 r1 fun a2 r2=>gI .i64 r2 fun a3 r3=>gI .i64 r3 fun a4 r4=>gI .i64 r4 fun a5 r5=>gI .i64 r5 fun a6 r6=>gN r6 (⟨⟨a0,a1,a2,a3,a4,a5⟩,a6⟩:SG)
 | .event,cs=>gI .i64 cs fun a0 r0=>gI .i64 r0 fun a1 r1=>gI .i64 r1 fun a2 r2=>gI .i64 r2 fun a3 r3=>gI .i64 r3 fun a4 r4=>gI .i64 r4 fun a5 r5=>gI .i64 r5 fun a6 r6=>gI .i64 r6 fun a7 r7=>gI .i64 r7 fun a8 r8=>gI .i64 r8 fun a9 r9=>gN r9 (⟨a0,a1,a2,a3,⟨a4,a5,a6,a7,a8,a9⟩⟩:fm)
 | .damage,cs=>gI .i64 cs fun a0 r0=>gI .i64 r0 fun a1 r1=>gN r1 (⟨a0,a1⟩:H1)
 | .mark,cs=>gI .i64 cs fun a0 r0=>gI .i64 r0 fun a1 r1=>gB r1 fun a2 r2=>gI .i64 r2 fun a3 r3=>gI .i64 r3 fun a4 r4=>gI .i64 r4 fun a5 r5=>gI .i64 r5 fun a6 r6=>gI .i64 r6 fun a7 r7=>gI .i64 r7 fun a8 r8=>gI .i64 r8 fun a9 r9=>gI .i64 r9 fun a10 r10=>gN r10 (⟨a0,a1,a2,a3,a4,⟨a5,a6,a7,a8,a9,a10⟩⟩:Qm)
 | .cur,cs=>gH cs fun a0 r0=>gI .i64 r0 fun a1 r1=>gI .i64 r1 fun a2 r2=>gN r2 (⟨a0,a1,a2⟩:fT)
def Ty.unflat: (t:Ty)->List C->Option t.D
 | .i k,cs=>gI k cs fun n r=>gN r n| .b,cs=>gB cs fun n r=>gN r n| .s,cs=>gS cs fun n r=>gN r n| .h,cs=>gH cs fun n r=>gN r n| .st n,cs=>n.unflat cs| .ls t,cs=>gL t cs fun l r=>gN r l
def Rq (x:Op):List T:= [.sc (.int .i64 x.client), .sc (.int .i64 x.seq), .sc (.int .i64 x.kind), .sc (.int .i64 x.object), .sc (.int .i64 x.old), .sc (.int .i64 x.value)]
def KC (x:Result):List T:= [.sc (.bool x.done), .sc (.int .i64 x.value)]
def wj (x:ej):List T:= [.sc (.int .i64 x.client), .sc (.int .i64 x.seq), .sc (.bool x.result.done), .sc (.int .i64 x.result.value)]
def H2 (x:fG):List T:= [.sl 1 (x.objects.map fun n=> [.sc (.int .i64 n)]), .sl 4 (x.sessions.map wj)]
def A4 (x:dY):List T:= [.sc (.int .i64 x.epoch), .sc (.int .i64 x.op.client), .sc (.int .i64 x.op.seq), .sc (.int .i64 x.op.kind), .sc (.int .i64 x.op.object), .sc (.int .i64 x.op.old), .sc (.int .i64 x.op.value)]
def F9 (x:A3):List T:= [.sc (.int .i64 x.count), .sc (.int .i64 x.digest), .sl 1 (x.machine.objects.map fun n=> [.sc (.int .i64 n)]), .sl 4 (x.machine.sessions.map wj)]
def yp (x:dR):List T:= [.sc (.int .i64 x.epoch), .sc (.int .i64 x.primary), .sl 1 (x.replicas.map fun n=> [.sc (.int .i64 n)]), .sl 1 (x.witnesses.map fun n=> [.sc (.int .i64 n)])]
def Ga (x:eE):List T:= [.sc (.int .i64 x.rack), .sc (.int .i64 x.capacity), .sc (.int .i64 x.load)]
def Eg (x:dW):List T:= [.sl 4 (x.configs.map yp), .sc (.int .i64 x.activated)]
def LV (x:eZ):List T:= [.sc (.int .i64 x.epoch), .sc (.int .i64 x.holder), .sc (.int .i64 x.ends)]
def Dw (x:dQ):List T:= [.sc (.bool x.up), .sc (.bool x.intact), .sc (.int .i64 x.version), .sc (.int .i64 x.epoch), .sc (.int .i64 x.config.epoch), .sc (.int .i64 x.config.primary), .sl 1 (x.config.replicas.map fun n=> [.sc (.int .i64 n)]), .sl 1 (x.config.witnesses.map fun n=> [.sc (.int .i64 n)]), .sc (.int .i64 x.first), .sl 7 (x.log.map A4), .sc (.int .i64 x.commit), .sl 7 (x.learned.map A4)]
def H3 (x:dN):List T:= [.sc (.int .i64 x.now), .sl 12 (x.servers.map Dw), .sl 1 (x.sides.map fun n=> [.sc (.int .i64 n)]), .sl 4 (x.master.configs.map yp), .sc (.int .i64 x.master.activated), .sc (.int .i64 x.masterUp), .sc (.int .i64 x.lease.epoch), .sc (.int .i64 x.lease.holder), .sc (.int .i64 x.lease.ends), .sl 3 (x.places.map Ga)]
def LW (x:ka):List T:= [.sc (.int .i64 x.code), .sc (.bool x.result.done), .sc (.int .i64 x.result.value), .sc (.int .i64 x.index)]
def Qn (x:SG):List T:= [.sc (.int .i64 x.op.client), .sc (.int .i64 x.op.seq), .sc (.int .i64 x.op.kind), .sc (.int .i64 x.op.object), .sc (.int .i64 x.op.old), .sc (.int .i64 x.op.value), .sc (.int .i64 x.index)]
def LY (x:fm):List T:= [.sc (.int .i64 x.kind), .sc (.int .i64 x.server), .sc (.int .i64 x.other), .sc (.int .i64 x.n), .sc (.int .i64 x.op.client), .sc (.int .i64 x.op.seq), .sc (.int .i64 x.op.kind), .sc (.int .i64 x.op.object), .sc (.int .i64 x.op.old), .sc (.int .i64 x.op.value)]
def KD (x:H1):List T:= [.sc (.int .i64 x.server), .sc (.int .i64 x.index)]
def Ob (x:Qm):List T:= [.sc (.int .i64 x.start), .sc (.int .i64 x.event), .sc (.bool x.read), .sc (.int .i64 x.index), .sc (.int .i64 x.value), .sc (.int .i64 x.op.client), .sc (.int .i64 x.op.seq), .sc (.int .i64 x.op.kind), .sc (.int .i64 x.op.object), .sc (.int .i64 x.op.old), .sc (.int .i64 x.op.value)]
def mM (x:fT):List T:= [.sc (.slice x.b.a x.b.n x.b.c), .sc (.int .i64 x.i), .sc (.int .i64 x.h)]
def Sn.row: (n:Sn)->n.D->List T
 | .op,x=>Rq x
 | .result,x=>KC x
 | .session,x=>wj x
 | .machine,x=>H2 x
 | .entry,x=>A4 x
 | .snapshot,x=>F9 x
 | .config,x=>yp x
 | .place,x=>Ga x
 | .masterLog,x=>Eg x
 | .lease,x=>LV x
 | .server,x=>Dw x
 | .cluster,x=>H3 x
 | .reply,x=>LW x
 | .ack,x=>Qn x
 | .event,x=>LY x
 | .damage,x=>KD x
 | .mark,x=>Ob x
 | .cur,x=>mM x
def Ty.row: (t:Ty)->t.D->List T
 | .i k,n=> [.sc (.int k n)] | .b,v=> [.sc (.bool v)] | .s,v=> [.sc (.string v)] | .h,v=> [.sc (.slice v.a v.n v.c)] | .st n,x=>n.row x| .ls t,l=> [.sl t.width (l.map t.row)]
def C.tree:C->T| .sc v=> .sc v| .ls t l=> .sl t.width (l.map t.row)
def C.good:C->Bool| .sc v=>ou v| .ls _ _=>true
theorem Ty.row_flat (t:Ty) (x:t.D):t.row x=(t.flat x).map C.tree:=by
 cases t with
 |st n=>cases n<;>rfl
 | _=>rfl
theorem Ty.flat_length (t:Ty) (x:t.D): (t.flat x).length=t.width:=by
 cases t with
 |st n=>cases n<;>rfl
 | _=>rfl
theorem Ty.row_length (t:Ty) (x:t.D): (t.row x).length=t.width:=by rw[t.row_flat,aK,t.flat_length]
theorem ec {k:IntKind} {α:Type} {cs:List C} {f:Int->List C->Option α} {y:α} (h:gI k cs f=some y): ∃n r,cs= .sc (.int k n)::r/\f n r=some y:=by
 unfold gI at h;split at h
 ·split at h
  ·rename_i hk; subst hk; exact⟨_,_,rfl,h⟩
  ·cases h
 ·cases h
theorem tc {α:Type} {cs:List C} {f:Bool->List C->Option α} {y:α} (h:gB cs f=some y): ∃n r,cs= .sc (.bool n)::r/\f n r=some y:=by
 unfold gB at h;split at h
 ·exact⟨_,_,rfl,h⟩
 ·cases h
theorem Oc {α:Type} {cs:List C} {f:ByteArray->List C->Option α} {y:α} (h:gS cs f=some y): ∃n r,cs= .sc (.string n)::r/\f n r=some y:=by
 unfold gS at h;split at h
 ·exact⟨_,_,rfl,h⟩
 ·cases h
theorem Jl {α:Type} {cs:List C} {f:Hd->List C->Option α} {y:α} (h:gH cs f=some y): ∃n r,cs= .sc (.slice n.a n.n n.c)::r/\f n r=some y:=by
 unfold gH at h;split at h
 ·exact⟨_,_,rfl,h⟩
 ·cases h
theorem jI {t:Ty} {α:Type} {cs:List C} {f:List t.D->List C->Option α} {y:α} (h:gL t cs f=some y): ∃n r,cs= .ls t n::r/\f n r=some y:=by
 unfold gL at h;split at h
 ·split at h
  ·rename_i hk; subst hk; exact⟨_,_,rfl,h⟩
  ·cases h
 ·cases h
theorem gE {α:Type} {cs:List C} {x y:α} (h:gN cs x=some y):cs= [] /\x=y:=by
 unfold gN at h;split at h
 ·simp only[af] at h; exact⟨rfl,h⟩
 ·cases h
theorem Sn.unflat_some: ∀ (n:Sn) (cs:List C) (x:n.D),n.unflat cs=some x->n.flat x=cs
 | .op,cs,x,h=>by unfold Sn.unflat at h;obtain⟨a0,r0,h0,h⟩:=ec h;obtain⟨a1,r1,h1,h⟩:=ec h;obtain⟨a2,r2,h2,h⟩:=ec h;obtain⟨a3,r3,h3,h⟩:=ec h;obtain⟨a4,r4,h4,h⟩:=ec h;obtain⟨a5,r5,h5,h⟩:=ec h;obtain⟨e,h⟩:=gE h;subst h e h5 h4 h3 h2 h1 h0;rfl
 | .result,cs,x,h=>by unfold Sn.unflat at h;obtain⟨a0,r0,h0,h⟩:=tc h;obtain⟨a1,r1,h1,h⟩:=ec h;obtain⟨e,h⟩:=gE h;subst h e h1 h0;rfl
 | .session,cs,x,h=>by unfold Sn.unflat at h;obtain⟨a0,r0,h0,h⟩:=ec h;obtain⟨a1,r1,h1,h⟩:=ec h;obtain⟨a2,r2,h2,h⟩:=tc h;obtain⟨a3,r3,h3,h⟩:=ec h;obtain⟨e,h⟩:=gE h;subst h e h3 h2 h1 h0;rfl
 | .machine,cs,x,h=>by unfold Sn.unflat at h;obtain⟨a0,r0,h0,h⟩:=jI h;obtain⟨a1,r1,h1,h⟩:=jI h;obtain⟨e,h⟩:=gE h;subst h e h1 h0;rfl
 | .entry,cs,x,h=>by unfold Sn.unflat at h;obtain⟨a0,r0,h0,h⟩:=ec h;obtain⟨a1,r1,h1,h⟩:=ec h;obtain⟨a2,r2,h2,h⟩:=ec h;obtain⟨a3,r3,h3,h⟩:=ec h;obtain⟨a4,r4,h4,h⟩:=ec h;obtain⟨a5,r5,h5,h⟩:=ec h;obtain⟨a6,r6,h6,h⟩:=ec h;obtain⟨e,h⟩:=gE h;subst h e h6 h5 h4 h3 h2 h1 h0;rfl
 | .snapshot,cs,x,h=>by unfold Sn.unflat at h;obtain⟨a0,r0,h0,h⟩:=ec h;obtain⟨a1,r1,h1,h⟩:=ec h;obtain⟨a2,r2,h2,h⟩:=jI h;obtain⟨a3,r3,h3,h⟩:=jI h;obtain⟨e,h⟩:=gE h;subst h e h3 h2 h1 h0;rfl
 | .config,cs,x,h=>by unfold Sn.unflat at h;obtain⟨a0,r0,h0,h⟩:=ec h;obtain⟨a1,r1,h1,h⟩:=ec h;obtain⟨a2,r2,h2,h⟩:=jI h;obtain⟨a3,r3,h3,h⟩:=jI h;obtain⟨e,h⟩:=gE h;subst h e h3 h2 h1 h0;rfl
 | .place,cs,x,h=>by unfold Sn.unflat at h;obtain⟨a0,r0,h0,h⟩:=ec h;obtain⟨a1,r1,h1,h⟩:=ec h;obtain⟨a2,r2,h2,h⟩:=ec h;obtain⟨e,h⟩:=gE h;subst h e h2 h1 h0;rfl
 | .masterLog,cs,x,h=>by unfold Sn.unflat at h;obtain⟨a0,r0,h0,h⟩:=jI h;obtain⟨a1,r1,h1,h⟩:=ec h;obtain⟨e,h⟩:=gE h;subst h e h1 h0;rfl
 | .lease,cs,x,h=>by unfold Sn.unflat at h;obtain⟨a0,r0,h0,h⟩:=ec h;obtain⟨a1,r1,h1,h⟩:=ec h;obtain⟨a2,r2,h2,h⟩:=ec h;obtain⟨e,h⟩:=gE h;subst h e h2 h1 h0;rfl
 | .server,cs,x,h=>by unfold Sn.unflat at h;obtain⟨a0,r0,h0,h⟩:=tc h;obtain⟨a1,r1,h1,h⟩:=tc h;obtain⟨a2,r2,h2,h⟩:=ec h;obtain⟨a3,r3,h3,h⟩:=ec h;obtain⟨a4,r4,h4,h⟩:=ec h;obtain⟨a5,r5,h5,h⟩:=ec h;obtain⟨a6,r6,h6,h⟩:=jI h;obtain⟨a7,r7,h7,h⟩:=jI h;obtain⟨a8,r8,h8,h⟩:=ec h;obtain⟨a9,r9,h9,h⟩:=jI h;obtain⟨a10,r10,h10,h⟩:=ec h;obtain⟨a11,r11,h11,h⟩:=jI h;obtain⟨e,h⟩:=gE h;subst h e h11 h10 h9 h8 h7 h6 h5 h4 h3 h2 h1 h0;rfl
 | .cluster,cs,x,h=>by unfold Sn.unflat at h;obtain⟨a0,r0,h0,h⟩:=ec h;obtain⟨a1,r1,h1,h⟩:=jI h;obtain⟨a2,r2,h2,h⟩:=jI h;obtain⟨a3,r3,h3,h⟩:=jI h;obtain⟨a4,r4,h4,h⟩:=ec h;obtain⟨a5,r5,h5,h⟩:=ec h;obtain⟨a6,r6,h6,h⟩:=ec h;obtain⟨a7,r7,h7,h⟩:=ec h;obtain⟨a8,r8,h8,h⟩:=ec h;obtain⟨a9,r9,h9,h⟩:=jI h;obtain⟨e,h⟩:=gE h;subst h e h9 h8 h7 h6 h5 h4 h3 h2 h1 h0;rfl
 | .reply,cs,x,h=>by unfold Sn.unflat at h;obtain⟨a0,r0,h0,h⟩:=ec h;obtain⟨a1,r1,h1,h⟩:=tc h;obtain⟨a2,r2,h2,h⟩:=ec h;obtain⟨a3,r3,h3,h⟩:=ec h;obtain⟨e,h⟩:=gE h;subst h e h3 h2 h1 h0;rfl
 | .ack,cs,x,h=>by unfold Sn.unflat at h;obtain⟨a0,r0,h0,h⟩:=ec h;obtain⟨a1,r1,h1,h⟩:=ec h;obtain⟨a2,r2,h2,h⟩:=ec h;obtain⟨a3,r3,h3,h⟩:=ec h;obtain⟨a4,r4,h4,h⟩:=ec h;obtain⟨a5,r5,h5,h⟩:=ec h;obtain⟨a6,r6,h6,h⟩:=ec h;obtain⟨e,h⟩:=gE h;subst h e h6 h5 h4 h3 h2 h1 h0;rfl
 | .event,cs,x,h=>by unfold Sn.unflat at h;obtain⟨a0,r0,h0,h⟩:=ec h;obtain⟨a1,r1,h1,h⟩:=ec h;obtain⟨a2,r2,h2,h⟩:=ec h;obtain⟨a3,r3,h3,h⟩:=ec h;obtain⟨a4,r4,h4,h⟩:=ec h;obtain⟨a5,r5,h5,h⟩:=ec h;obtain⟨a6,r6,h6,h⟩:=ec h;obtain⟨a7,r7,h7,h⟩:=ec h;obtain⟨a8,r8,h8,h⟩:=ec h;obtain⟨a9,r9,h9,h⟩:=ec h;obtain⟨e,h⟩:=gE h;subst h e h9 h8 h7 h6 h5 h4 h3 h2 h1 h0;rfl
 | .damage,cs,x,h=>by unfold Sn.unflat at h;obtain⟨a0,r0,h0,h⟩:=ec h;obtain⟨a1,r1,h1,h⟩:=ec h;obtain⟨e,h⟩:=gE h;subst h e h1 h0;rfl
 | .mark,cs,x,h=>by unfold Sn.unflat at h;obtain⟨a0,r0,h0,h⟩:=ec h;obtain⟨a1,r1,h1,h⟩:=ec h;obtain⟨a2,r2,h2,h⟩:=tc h;obtain⟨a3,r3,h3,h⟩:=ec h;obtain⟨a4,r4,h4,h⟩:=ec h;obtain⟨a5,r5,h5,h⟩:=ec h;obtain⟨a6,r6,h6,h⟩:=ec h;obtain⟨a7,r7,h7,h⟩:=ec h;obtain⟨a8,r8,h8,h⟩:=ec h;obtain⟨a9,r9,h9,h⟩:=ec h;obtain⟨a10,r10,h10,h⟩:=ec h;obtain⟨e,h⟩:=gE h;subst h e h10 h9 h8 h7 h6 h5 h4 h3 h2 h1 h0;rfl
 | .cur,cs,x,h=>by unfold Sn.unflat at h;obtain⟨a0,r0,h0,h⟩:=Jl h;obtain⟨a1,r1,h1,h⟩:=ec h;obtain⟨a2,r2,h2,h⟩:=ec h;obtain⟨e,h⟩:=gE h;subst h e h2 h1 h0;rfl
theorem Ty.unflat_some (t:Ty) (cs:List C) (x:t.D) (h:t.unflat cs=some x):t.flat x=cs:=by
 cases t with
 |i k=>obtain⟨n,r,h1,h⟩:=ec h; obtain⟨h2,h⟩:=gE h; subst h h2 h1; rfl
 |b=>obtain⟨n,r,h1,h⟩:=tc h; obtain⟨h2,h⟩:=gE h; subst h h2 h1; rfl
 |s=>obtain⟨n,r,h1,h⟩:=Oc h; obtain⟨h2,h⟩:=gE h; subst h h2 h1; rfl
 |h=>have h:gH cs (fun n r=>gN r n)=some x:=h; obtain⟨n,r,h1,h⟩:=Jl h; obtain⟨h2,h⟩:=gE h; subst h h2 h1; rfl
 |st n=>exact n.unflat_some cs x h
 |ls t=>have h:gL t cs (fun l r=>gN r l)=some x:=h; obtain⟨n,r,h1,h⟩:=jI h; obtain⟨h2,h⟩:=gE h; subst h h2 h1; rfl
end
section
open Go
inductive Cl where
 |c (x:C)
 |em
 |own (p:eK) (sz lo len:Nat) (w:Bool)
 |pro (cs:List C)
 |ptrB (n j:Nat)
 |ptrT (p:eK) (sz i j:Nat)
 |dead
 deriving Inhabited
inductive V1 where
 |cl (x:Cl)
 |agg (cs:List Cl)
 |fn (f:FuncId) (cs:List Cl)
 deriving Inhabited
inductive V where
 |v (x:V1)
 |tup (l:List V1)
 deriving Inhabited
structure eB where
 t:Ty
 l:List t.D
 hole:Option (Nat×Nat)
structure TS where
 env:List (Nat×V)
 bx:List (List Cl)
 gh:List (Option eB)
 fz:Nat
 nt:Nat
structure TI where
 ty:Ty
 el:Nat
 fds:List (Nat×Nat×Bool)
 bytes:Nat
abbrev mN:=List (Nat×TI)
@[reducible] def V.c (x:C):V:= .v (.cl (.c x))
@[reducible] def V.sc (x:Value):V:= .v (.cl (.c (.sc x)))
@[reducible] def V.dead:V:= .v (.cl .dead)
def iV:List (Nat×V)->Nat->V
 | [],_=>V.dead
 | (t,v)::l,u=>bif Nat.beq t u then v else iV l u
def la:mN->Nat->Option TI
 | [],_=>none
 | (t,v)::l,u=>bif Nat.beq t u then some v else la l u
def oo {α:Type}:List α->Nat->Option α
 | [],_=>none
 |a::l,n=>bif Nat.beq n 0 then some a else oo l (n-1)
def cC (v:Value):Cl:=match v with | .slice none 0 0=> .em|v=>bif ou v then .c (.sc v) else .dead
def cV:Value->V
 | .agg cs=>bif cs.toList.all Value.oneCell' then .v (.agg (cs.toList.map cC)) else V.dead
 |v=> .v (.cl (cC v))
def TS.opd (S:TS):Operand->V
 | .tmp t=>iV S.env t
 | .const v=>cV v
 | .func f=>V.sc (.func (.func f) #[] #[])
 | .global _=>V.dead
def V1.cells:V1->List Cl
 | .cl x=> [x]
 | .agg cs=>cs
 | .fn _ _=> [.dead]
def C.flatB:C->Bool| .sc _=>true| _=>false
def Ty.flatB (t:Ty):Bool:=t.csh.all (·.isNone)
section
variable {ρ:Type}
def br {α:Type} (b:Bool) (x y:α):α:=cond b x y
def iteP {α:Type} (c:Prop) [Decidable c] (x y:α):α:=if c then x else y
def Gb (S:TS) (x:Operand) (κ:Bool->TS->Option ρ):Option ρ:=match x with
 | .tmp t=>match iV S.env t with
   | .v (.cl (.c (.sc (.bool b))))=>br b (κ true { S with env:=(t,V.sc (.bool true))::S.env }) (κ false { S with env:=(t,V.sc (.bool false))::S.env })
   | _=>none
 | .const (.bool b)=>κ b S
 | _=>none
def H4 (v:V) (κ:Int->Option ρ):Option ρ:=match v with | .v (.cl (.c (.sc (.int _ n))))=>κ n| _=>none
def qu (S:TS) (p:eK) (κ: (t:Ty)->List t.D->Option ρ):Option ρ:=match oo S.gh p.r with
 |some (some tr)=>match tr.hole with
  |none=>match p.l with
   | [] =>κ tr.t tr.l
   | [(i,j)] =>(tr.l[i]?).bind fun x=>match oo (tr.t.flat x) j with
     |some (.ls t l)=>κ t l
     | _=>none
   | _=>none
  |some _=>none
 | _=>none
def C.ro:C->Cl:=Cl.c
def H5 (p:eK) (i j:Nat):C->Cl
 | .sc v=> .c (.sc v)
 | .ls t l=> .own ⟨p.r,p.l++ [(i,j)]⟩ t.width 0 l.length false
def yq {α β:Type} (f:Nat->α->β):Nat->List α->List β
 | _,[] => []
 |n,a::l=>f n a::yq f (n+1) l
def H6 (S:TS) (n:Nat) (v:Cl) (κ:List Cl->Option ρ):Option ρ:=match v with
 | .ptrB b j=>match oo S.bx b with
   |some cs=>bif Nat.ble (j+n) cs.length then κ ((cs.drop j).take n) else none
   |none=>none
 | .pro cells=>bif Nat.ble n cells.length then κ ((cells.take n).map Cl.c) else none
 | .ptrT p sz i j=>qu S p fun t l=>bif Nat.beq t.width sz&&Nat.ble (j+n) sz then (l[i]?).bind fun x=>κ (yq (H5 p i) j (((t.flat x).drop j).take n)) else none
 | _=>none
def Sx (ag:Bool) (cs:List Cl) (κ:V->Option ρ):Option ρ:=bif ag then κ (.v (.agg cs)) else match cs with | [c] =>κ (.v (.cl c))| _=>none
def Ty.ag:Ty->Bool| .st _=>true| _=>false
def Gc (Θ:mN) (S:TS) (t:TypeId) (v:V) (κ:V->Option ρ):Option ρ:=match la Θ t with
 |some ti=>match v with | .v (.cl a)=>H6 S ti.ty.width a fun cs=>Sx ti.ty.ag cs κ| _=>none
 |none=>none
def LZ (S:TS) (p:eK) (κ:Int->Option ρ):Option ρ:=match p.l with
 | [] =>(match oo S.gh p.r with |some (some tr)=>κ tr.l.length| _=>none)
 | _=>none
def Qo (n:Nat) (i:Int) (S:TS) (v:Cl) (κ:Cl->Option ρ):Option ρ:=match v with
 | .c (.ls t l)=>bif Nat.beq t.width n then iteP (0<=i) ((l[i.toNat]?).bind fun x=>κ (.pro (t.flat x))) none else none
 | .own p sz _ _ true=>bif Nat.beq sz n then LZ S p fun m=>iteP (0<=i/\i<m) (κ (.ptrT p sz i.toNat 0)) none else none
 | .own p sz lo len false=>bif Nat.beq sz n then iteP (0<=i/\i<len) (κ (.ptrT p sz (lo+i.toNat) 0)) none else none
 | _=>none
def Od (S:TS) (v:Cl) (κ:Int->Option ρ):Option ρ:=match v with
 | .c (.ls _ l)=>κ l.length
 | .own p _ _ _ true=>qu S p fun _ l=>κ l.length
 | .own _ _ _ len false=>κ len
 | .em=>κ 0
 | _=>none
def Qp (n:Nat) (lo hi:Int) (v:Cl) (κ:Cl->Option ρ):Option ρ:=match v with
 | .em=>iteP (lo=0/\hi=0) (κ .em) none
 | .c (.ls t l)=>bif Nat.beq t.width n then iteP (0<=lo/\lo<=hi/\hi<=l.length) (κ (.c (.ls t ((l.drop lo.toNat).take (hi.toNat-lo.toNat))))) none else none
 | .own p sz l len _=>bif Nat.beq sz n then iteP (0<=lo/\lo<=hi/\hi<=len) (κ (.own p sz (l+lo.toNat) (hi.toNat-lo.toNat) false)) none else none
 | _=>none
def Eh (S:TS) (d:Int) (x:Option Operand) (κ:Int->Option ρ):Option ρ:=match x with
 |none=>κ d
 |some x=>H4 (S.opd x) κ
def KE:List (Nat×Nat×Bool)->List Cl->List (Nat×V)->Option (List Cl)
 | _,cs,[] =>some cs
 |pl,cs,(k,v)::r=>match oo pl k with
  |some (off,n,_)=>match v with
   | .v x=>match x with
     | .cl .dead=>none
     | .fn _ _=>none
     |x=>bif Nat.beq x.cells.length n&&Nat.ble (off+n) cs.length then KE pl (cs.take off++x.cells++cs.drop (off+n)) r else none
   | _=>none
  |none=>none
def Gd:Value->Value->Option Bool
 | .int _ a, .int _ b=>some (a==b)
 | .bool a, .bool b=>some (a==b)
 | _,_=>none
def u9:List Cl->List Cl->Option Bool
 | [],[] =>some true
 | .c (.sc a)::l, .c (.sc b)::m=>match Gd a b,u9 l m with
   |some x,some y=>some (x&&y)
   | _,_=>none
 | _,_=>none
def lb:List Value->List Cl->Bool
 | [],[] =>true
 | .int k _::zs, .c (.sc (.int k' _))::cs=>bif decide (k=k') then lb zs cs else false
 | .bool _::zs, .c (.sc (.bool _))::cs=>lb zs cs
 | _,_=>false
def V.ints (f:IntKind->Int->Int->Option ρ):V->V->Option ρ
 | .v (.cl (.c (.sc (.int k a)))), .v (.cl (.c (.sc (.int k' b))))=>if k=k' then f k a b else none
 | _,_=>none
def Tp (a b:ByteArray):Bool:=a.toList==b.toList
def Rg (Θ:mN) (t:TypeId) (x y:V) (κ:Bool->Option ρ):Option ρ:=match x,y with
 | .v (.cl (.c (.sc (.int k a)))), .v (.cl (.c (.sc (.int k' b))))=>if k=k' then κ (a==b) else none
 | .v (.cl (.c (.sc (.bool a)))), .v (.cl (.c (.sc (.bool b))))=>match la Θ t with
   |some ti=>match ti.ty with | .b=>κ (a==b)| _=>none
   |none=>none
 | .v (.cl (.c (.sc (.string a)))), .v (.cl (.c (.sc (.string b))))=>κ (Tp a b)
 | .v (.agg a), .v (.agg b)=>match la Θ t with
   |some ti=>bif ti.ty.ag&&ti.ty.flatB&&lb ti.ty.zvs a&&lb ti.ty.zvs b then (match u9 a b with |some r=>κ r|none=>none) else none
   |none=>none
 | _,_=>none
def Qq (x y:V) (κ:V->Option ρ):Option ρ:=match x,y with
 | .v (.cl (.c (.sc (.string a)))), .v (.cl (.c (.sc (.string b))))=>iteP (a.size+b.size<=2 ^ 40) (κ (V.sc (.string (a++b)))) none
 | _,_=>V.ints (fun k a b=>κ (V.sc (.int k (k.wrap (a+b))))) x y
def Qr (Θ:mN) (op:BinOp) (t:TypeId) (x y:V) (κ:V->Option ρ):Option ρ:=match op with
 | .lss=>V.ints (fun _ a b=>κ (V.sc (.bool (decide (a<b))))) x y
 | .leq=>V.ints (fun _ a b=>κ (V.sc (.bool (decide (a<=b))))) x y
 | .gtr=>V.ints (fun _ a b=>κ (V.sc (.bool (decide (a>b))))) x y
 | .geq=>V.ints (fun _ a b=>κ (V.sc (.bool (decide (a≥b))))) x y
 | .add=>Qq x y κ
 | .sub=>V.ints (fun k a b=>κ (V.sc (.int k (k.wrap (a-b))))) x y
 | .mul=>V.ints (fun k a b=>κ (V.sc (.int k (k.wrap (a*b))))) x y
 | .quo=>V.ints (fun k a b=>if b=0 then none else κ (V.sc (.int k (k.wrap (a.tdiv b))))) x y
 | .rem=>V.ints (fun k a b=>if b=0 then none else κ (V.sc (.int k (a.tmod b)))) x y
 | .eql=>Rg Θ t x y fun r=>κ (V.sc (.bool r))
 | .neq=>Rg Θ t x y fun r=>κ (V.sc (.bool (!r)))
 | _=>none
def Ge:List V->Option (List Cl)
 | [] =>some []
 | .v (.cl c)::l=>match Ge l with |some r=>some (c::r)|none=>none
 | _=>none
def wk (Θ:mN) (S:TS) (o:Oper) (κ:V->TS->Option ρ):Option ρ:=
 let e:=S.opd
 match o.op with
 | .move x| .assign x=>κ (e x) S
 | .pick c a b=>Gb S c fun t S=>bif t then κ (S.opd a) S else κ (S.opd b) S
 | .load t a=>Gc Θ S t (e a) (fun v=>κ v S)
 | .nilCheck x=>match e x with
   | .v (.cl (.ptrB n j))=>κ (.v (.cl (.ptrB n j))) S
   | .v (.cl (.ptrT p sz i j))=>κ (.v (.cl (.ptrT p sz i j))) S
   | .v (.cl (.pro cs))=>κ (.v (.cl (.pro cs))) S
   | .v (.fn f cs)=>κ (.v (.fn f cs)) S
   | .v (.cl (.c (.sc (.func (.func f) a b))))=>κ (.v (.cl (.c (.sc (.func (.func f) a b))))) S
   | _=>none
 | .fieldAddr t x k=>match la Θ t with
   |some ti=>match oo ti.fds k with
    |some (off,n,_)=>bif Nat.beq n 0 then none else match e x with
     | .v (.cl (.ptrB b j))=>κ (.v (.cl (.ptrB b (j+off)))) S
     | .v (.cl (.ptrT p sz i j))=>κ (.v (.cl (.ptrT p sz i (j+off)))) S
     | .v (.cl (.pro cs))=>κ (.v (.cl (.pro (cs.drop off)))) S
     | _=>none
    |none=>none
   |none=>none
 | .field t x k=>match la Θ t with
   |some ti=>match oo ti.fds k with
    |some (off,n,ag)=>match e x with
     | .v (.agg cs)=>bif Nat.ble (off+n) cs.length&&Nat.blt 0 n then Sx ag ((cs.drop off).take n) (fun v=>κ v S) else none
     | _=>none
    |none=>none
   |none=>none
 | .indexAddr t x ix=>match la Θ t with
   |some ti=>match ti.ty with
    | .ls el=>H4 (e ix) fun i=>match e x with | .v (.cl a)=>Qo el.width i S a (fun c=>κ (.v (.cl c)) S)| _=>none
    | _=>none
   |none=>none
 | .build t parts=>match la Θ t with
   |some ti=>bif ti.ty.ag then (match KE ti.fds (ti.ty.zvs.map cC) (parts.toList.map fun x=>(x.1,e x.2)) with |some cs=>κ (.v (.agg cs)) S|none=>none) else none
   |none=>none
 | .slice t x lo hi none=>match la Θ t with
   |some ti=>match ti.ty with
    | .ls el=>match e x with
      | .v (.cl a)=>Od S a fun n=>Eh S 0 lo fun l=>Eh S n hi fun h=>Qp el.width l h a (fun c=>κ (.v (.cl c)) S)
      | _=>none
    | _=>none
   |none=>none
 | .convert s d x=>match la Θ s,la Θ d with
   |some _,some di=>match di.ty with
    | .i k'=>(match e x with | .v (.cl (.c (.sc (.int _ n))))=>κ (V.sc (.int k' (k'.wrap n))) S| _=>none)
    | _=>none
   | _,_=>none
 | .index t x ix=>match la Θ t with
   |some ti=>match ti.ty with
    | .s=>(match e x,e ix with | .v (.cl (.c (.sc (.string s)))), .v (.cl (.c (.sc (.int _ i))))=>iteP (0<=i) ((s[i.toNat]?).bind fun b=>κ (V.sc (.int .u8 b.toNat)) S) none| _,_=>none)
    | _=>none
   |none=>none
 | .extract x k=>match e x with | .tup vs=>(match oo vs k with |some v=>κ (.v v) S|none=>none)| _=>none
 | .makeFunc (.func f) first caps=>bif first.isEmpty then (match Ge (caps.toList.map e) with |some cs=>κ (.v (.fn f cs)) S|none=>none) else none
 | .call { callee:= .builtin .len,args:=as,argTypes:=ts } =>match as.toList,ts.toList with
   | [x],[t] =>match la Θ t with
     |some ti=>match ti.ty with
      | .ls _=>(match e x with | .v (.cl a)=>Od S a fun n=>κ (V.sc (.int .i64 n)) S| _=>none)
      | .s=>(match e x with | .v (.cl (.c (.sc (.string s))))=>κ (V.sc (.int .i64 s.size)) S| _=>none)
      | _=>none
     |none=>none
   | _,_=>none
 | .call { callee:= .builtin .cap,args:=as,argTypes:=ts } =>match as.toList,ts.toList with
   | [x],[t] =>match la Θ t with
     |some ti=>match ti.ty with
      | .ls _=>(match e x with | .v (.cl .em)=>κ (V.sc (.int .i64 0)) S| _=>none)
      | _=>none
     |none=>none
   | _,_=>none
 | .call { callee:= .builtin .max,args:=as,argTypes:=_ } =>match as.toList with
   | [x,y] =>V.ints (fun k a b=>κ (V.sc (.int k (if b>a then b else a))) S) (e x) (e y)
   | _=>none
 | .call { callee:= .builtin .min,args:=as,argTypes:=_ } =>match as.toList with
   | [x,y] =>V.ints (fun k a b=>κ (V.sc (.int k (if b<a then b else a))) S) (e x) (e y)
   | _=>none
 | .binOp op t x y _=>Qr Θ op t (e x) (e y) (fun v=>κ v S)
 | .unOp .neg _ x=>match e x with | .v (.cl (.c (.sc (.int k n))))=>κ (V.sc (.int k (k.wrap (0-n)))) S| _=>none
 | .unOp .not _ x=>match e x with | .v (.cl (.c (.sc (.bool b))))=>κ (V.sc (.bool (!b))) S| _=>none
 | _=>none
end
end
section
open Go
def C.av:C->AV
 | .sc v=> .sc v
 | .ls t l=> .ro t.width (l.map t.row)
def Cl.av:Cl->AV
 | .c x=>x.av
 | .em=> .em
 | .own p sz lo len _=> .own p sz lo len
 | .pro cs=> .pro (cs.map C.tree)
 | .ptrB n j=> .ptrB n j
 | .ptrT p sz i j=> .ptrT p sz i j
 | .dead=> .dead
def V1.av:V1->AV
 | .cl x=>x.av
 | .agg cs=> .agg (cs.map Cl.av)
 | .fn f cs=> .fn f (cs.map Cl.av)
def V.av:V->AV
 | .v x=>x.av
 | .tup l=> .tup (l.map V1.av)
def eB.tree (x:eB):T:=match x.hole with
 |none=> .sl x.t.width (x.l.map x.t.row)
 |some (i,j)=> .sl x.t.width ((x.l.map x.t.row).set i (((x.l.map x.t.row).getD i []).set j .dd))
def fy (G:List (Option eB)) (r:Nat):Option eB:=(oo G r).getD none
def TS.st (S:TS):St where
 env:=fun t=>(iV S.env t).av
 bx:=fun n=>(oo S.bx n).map fun cs=>cs.map Cl.av
 gh:=fun r=>(fy S.gh r).map eB.tree
 nb:=S.bx.length
 ng:=S.gh.length
 fz:=S.fz
 orc:=none
 nt:=S.nt
structure wl where
 f:FuncId->List V1->(ρ:Type)->(V->List eB->Option ρ)->Option ρ
 kd:FuncId->Nat
instance:CoeFun wl fun _=>FuncId->List V1->(ρ:Type)->(V->List eB->Option ρ)->Option ρ:=⟨wl.f⟩
def iW:Nat:=1048576
def Gf:Nat:=iW+iW
def Jm:Nat:=Gf+iW
def zT (g:Nat):Nat:=g+iW
def CJ (g:Nat):Nat:=g+Gf
def A5 (g:Nat):Nat:=g+Jm
def Ei (n:Nat):Cl->Cl
 | .own p sz lo len w=> .own ⟨p.r+n,p.l⟩ sz lo len w
 | .ptrT p sz i j=> .ptrT ⟨p.r+n,p.l⟩ sz i j
 | .c (.sc v)=> .c (.sc v)
 | _=> .dead
def va (n:Nat):V1->V1
 | .agg cs=> .agg (cs.map (Ei n))
 | .cl c=> .cl (Ei n c)
 | .fn _ _=> .cl .dead
def qv (n:Nat):V->V
 | .tup vs=> .tup (vs.map (va n))
 | .v x=> .v (va n x)
def zU:Cl->Cl
 | .own p sz lo len w=>bif Nat.ble 1 p.r then .own ⟨p.r-1,p.l⟩ sz lo len w else .dead
 | .ptrT p sz i j=>bif Nat.ble 1 p.r then .ptrT ⟨p.r-1,p.l⟩ sz i j else .dead
 | .c (.sc v)=> .c (.sc v)
 | _=> .dead
def Gg:V1->V1
 | .agg cs=> .agg (cs.map zU)
 | .cl c=> .cl (zU c)
 | .fn _ _=> .cl .dead
def L0:V->V
 | .tup vs=> .tup (vs.map Gg)
 | .v x=> .v (Gg x)
def fj {α:Type}:List α->Nat->α->List α
 | [],_,_=> []
 |a::l,n,x=>bif Nat.beq n 0 then x::l else a::fj l (n-1) x
def uh (t t':Ty) (l:List t.D):Option (List t'.D):=if h:t=t' then some (h ▸ l) else none
def pI (r j:Nat):Cl->Cl
 | .own p sz lo len w=>match p.l with | (_,j')::_=>bif Nat.beq p.r r&&Nat.beq j j' then .dead else .own p sz lo len w| [] => .own p sz lo len w
 | .ptrT p sz a b=>match p.l with | (_,j')::_=>bif Nat.beq p.r r&&Nat.beq j j' then .dead else .ptrT p sz a b| [] => .ptrT p sz a b
 |c=>c
def rF (r j:Nat):V1->V1
 | .cl c=> .cl (pI r j c)
 | .agg cs=> .agg (cs.map (pI r j))
 | .fn f cs=> .fn f (cs.map (pI r j))
def Dx (r j:Nat):V->V
 | .v x=> .v (rF r j x)
 | .tup vs=> .tup (vs.map (rF r j))
def TS.kill (S:TS) (r j:Nat):TS:= { S with env:=S.env.map fun x=>(x.1,Dx r j x.2),bx:=S.bx.map fun cs=>cs.map (pI r j) }
def i9 (S:TS) (no j:Nat) (et:Option Ty) (c:Cl):Option (C×TS):=match c,et with
 | .c (.sc v),none=>some (.sc v,S)
 | .em,some t=>some (.ls t [],S.kill no j)
 | .own p sz _ _ true,some t=>match p.l with
   | [] =>bif Nat.beq t.width sz&&Nat.ble S.fz p.r&& !(Nat.beq p.r no) then match oo S.gh p.r with
     |some (some tr)=>match tr.hole with
      |none=>bif Nat.beq tr.t.width sz then some (.ls tr.t tr.l,{ S with gh:=fj S.gh p.r none }.kill no j) else none
      |some _=>none
     | _=>none else none
   | _=>none
 | _,_=>none
def pJ (no:Nat):Nat->TS->List (Option Ty)->List Cl->Option (List C×TS)
 |j,S,et::ets,c::cs=>match i9 S no j et c with
  |some (x,S1)=>match pJ no (j+1) S1 ets cs with
   |some (xs,S2)=>some (x::xs,S2)
   |none=>none
  |none=>none
 | _,S,[],[] =>some ([],S)
 | _,_,_,_=>none
def Tq (et:Option Ty) (v:Value):C:=match et with |some t=> .ls t [] |none=> .sc v
def Ty.zcs (t:Ty):List C:=List.zipWith Tq t.csh t.zvs
def Qs:List Cl->Option (List C)
 | [] =>some []
 | .c (.sc v)::l=>match Qs l with |some r=>some (.sc v::r)|none=>none
 | _=>none
section
variable {ρ:Type}
def Gh {α β:Type} (f:α->(β->Option ρ)->Option ρ):List α->(List β->Option ρ)->Option ρ
 | [],κ=>κ []
 |a::l,κ=>f a fun b=>Gh f l fun bs=>κ (b::bs)
def H7 (Θ:mN) (S:TS) (t:TypeId) (a v:V) (κ:TS->Option ρ):Option ρ:=match la Θ t with
 |none=>none
 |some ti=>match v with
  | .tup _=>none
  | .v (.cl .dead)=>none
  | .v (.fn _ _)=>none
  | .v x=>bif Nat.beq x.cells.length ti.ty.width then match a with
    | .v (.cl (.ptrB b j))=>match oo S.bx b with
      |some cs=>bif Nat.ble (j+x.cells.length) cs.length then κ { S with bx:=fj S.bx b (cs.take j++x.cells++cs.drop (j+x.cells.length)) } else none
      |none=>none
    | .v (.cl (.ptrT p sz i j))=>match p.l with
      | [] =>match oo S.gh p.r with
        |some (some tr)=>bif Nat.beq tr.t.width sz&&Nat.ble (j+ti.ty.width) sz&&Nat.beq x.cells.length ti.ty.width then
         bif ti.ty.flatB then
          match tr.hole,Qs x.cells with
          |none,some vs=>(tr.l[i]?).bind fun y=>match tr.t.unflat ((tr.t.flat y).take j++vs++(tr.t.flat y).drop (j+ti.ty.width)) with
           |some z=>κ { S with gh:=fj S.gh p.r (some ⟨tr.t,tr.l.set i z,none⟩) }
           |none=>none
          | _,_=>none
         else bif Nat.ble S.fz p.r then match pJ p.r j S ti.ty.csh x.cells with
          |some (vs,S1)=>(tr.l[i]?).bind fun y=>match tr.t.unflat ((tr.t.flat y).take j++vs++(tr.t.flat y).drop (j+ti.ty.width)) with
           |some z=>match tr.hole with
            |none=>κ { S1 with gh:=fj S1.gh p.r (some ⟨tr.t,tr.l.set i z,none⟩) }
            |some (i0,j0)=>bif Nat.beq j j0&&Nat.beq ti.ty.width 1 then iteP (i=i0) (κ { S1 with gh:=fj S1.gh p.r (some ⟨tr.t,tr.l.set i z,none⟩) }) none else none
           |none=>none
          |none=>none else none
         else none
        | _=>none
      | _=>none
    | _=>none
    else none
def NU (S:TS) (et:Option Ty) (c:Cl) (κ:Cl->Option ρ):Option ρ:=match c with
 | .c x=>κ (.c x)
 | .em=>match et with |some t=>κ (.c (.ls t []))|none=>none
 | .own p sz _ _ true=>qu S p fun t l=>bif Nat.beq t.width sz then κ (.c (.ls t l)) else none
 | .own p sz lo len false=>qu S p fun t l=>bif Nat.beq t.width sz then iteP (lo+len<=l.length) (κ (.c (.ls t ((l.drop lo).take len)))) none else none
 | .pro cs=>κ (.pro cs)
 | .ptrT p sz i j=>qu S p fun t l=>bif Nat.beq t.width sz then (l[i]?).bind fun x=>κ (.pro ((t.flat x).drop j)) else none
 | .ptrB b j=>match oo S.bx b with
   |some cs=>Gh (fun c κ=>match c with
    | .c x=>κ x
    | .own p sz _ _ true=>qu S p fun t l=>bif Nat.beq t.width sz then κ (.ls t l) else none
    | _=>none) (cs.drop j) fun cs=>κ (.pro cs)
   |none=>none
 | .dead=>κ .dead
def Oe (S:TS):List (Option Ty)->List Cl->(List Cl->Option ρ)->Option ρ
 |et::ets,c::cs,κ=>NU S et c fun c'=>Oe S ets cs fun cs'=>κ (c'::cs')
 | [],[],κ=>κ []
 | _,_,_=>none
def SH (Θ:mN) (S:TS) (t:TypeId) (v:V) (κ:V1->Option ρ):Option ρ:=match v with
 | .tup _=>none
 | .v (.fn f cs)=>Gh (NU S none) cs fun cs'=>κ (.fn f cs')
 | .v (.agg cs)=>match la Θ t with |some ti=>Oe S ti.ty.csh cs fun cs'=>κ (.agg cs')|none=>none
 | .v (.cl .em)=>κ (.cl .em)
 | .v (.cl c)=>match la Θ t with |some ti=>NU S (ti.ty.csh.headD none) c fun c'=>κ (.cl c')|none=>NU S none c fun c'=>κ (.cl c')
def vG (Θ:mN) (S:TS):List TypeId->List Operand->(List V1->Option ρ)->Option ρ
 |t::ts,a::as,κ=>SH Θ S t (S.opd a) fun v=>vG Θ S ts as fun vs=>κ (v::vs)
 | [],[],κ=>κ []
 | _,_,_=>none
def Jn (Θ:mN) (Y:wl) (S:TS) (f:Operand) (ts:List TypeId) (as:List Operand) (κ:V->TS->Option ρ):Option ρ:=match S.opd f with
 | .v (.cl (.c (.sc (.func (.func g) _ _))))=>bif Nat.blt g iW then vG Θ S ts as fun vs=>Y g vs ρ fun res out=>κ (qv S.gh.length res) { S with gh:=S.gh++out.map some } else none
 | .v (.fn g caps)=>bif Nat.blt g iW then vG Θ S ts as fun vs=>Gh (NU S none) caps fun cs=>Y g (vs++cs.map .cl) ρ fun res out=>κ (qv S.gh.length res) { S with gh:=S.gh++out.map some } else none
 | _=>none
def L3 (S:TS) (el:Ty) (v:Cl) (κ:List el.D->TS->Option ρ):Option ρ:=match v with
 | .em=>κ [] S
 | .c (.ls t l)=>bif el.flatB then match uh t el l with |some l=>κ l S|none=>none else none
 | .own p sz lo len w=>bif Nat.beq el.width sz then (bif el.flatB then qu S p fun t l=>match uh t el l with
   |some l=>bif w then κ l S else iteP (lo+len<=l.length) (κ ((l.drop lo).take len) S) none
   |none=>none
   else match p.l with
   | [] =>bif w&&Nat.ble S.fz p.r then qu S p fun t l=>match uh t el l with |some l=>κ l { S with gh:=fj S.gh p.r none } |none=>none else none
   | _=>none) else none
 | _=>none
def Gi (S:TS) (el:Ty) (v:Cl) (more:List el.D) (κ:List el.D->TS->Option ρ):Option ρ:=match v with
 | .em=>κ more S
 | .own p sz lo len w=>bif Nat.ble S.fz p.r&&Nat.beq el.width sz then match p.l with
   | [] =>qu S p fun t l=>match uh t el l with
     |some l=>bif w then κ (l++more) { S with gh:=fj S.gh p.r none }
      else iteP (lo=0) (iteP (l.length<len) none (κ (l.take len++more) { S with gh:=fj S.gh p.r none })) none
     |none=>none
   | [(i,j)] =>match oo S.gh p.r with
     |some (some tr)=>match tr.hole with
      |none=>qu S p fun t l=>match uh t el l with
       |some l=>iteP (lo=0) (iteP (l.length<len) none (κ (l.take len++more) { S with gh:=fj S.gh p.r (some ⟨tr.t,tr.l,some (i,j)⟩) })) none
       |none=>none
      |some _=>none
     | _=>none
   | _=>none else none
 | _=>none
def Of (Θ:mN) (S:TS) (t:TypeId) (s x:V) (κ:V->TS->Option ρ):Option ρ:=match la Θ t with
 |some ti=>match ti.ty,s,x with
  | .ls el, .v (.cl s), .v (.cl x)=>L3 S el x fun more S1=>Gi S1 el s more fun l S2=>iteP (l.length*ti.el<=2 ^ 40) (κ (.v (.cl (.own ⟨S2.gh.length,[]⟩ el.width 0 l.length true))) { S2 with gh:=S2.gh++ [some ⟨el,l,none⟩] }) none
  | _,_,_=>none
 |none=>none
def Rr:List Nat->List Nat->Bool
 | [],[] =>true
 |a::l,b::m=>bif Nat.beq a b then Rr l m else false
 | _,_=>false
def rG (el:Ty):TS->List V->Option (List el.D×TS)
 |S,[] =>some ([],S)
 |S, .v x::r=>match pJ S.gh.length 0 S el.csh x.cells with
  |some (vs,S1)=>match el.unflat vs,rG el S1 r with
   |some y,some (ys,S2)=>some (y::ys,S2)
   | _,_=>none
  |none=>none
 | _,_=>none
def H8:Cl->Bool| .c (.ls _ _)=>true| _=>false
def A6:V->Bool| .v x=>x.cells.any H8| _=>false
def nz:List (Option Ty)->List Cl->Option (List C)
 | _::ets, .c x::cs=>(match nz ets cs with |some r=>some (x::r)|none=>none)
 |some t::ets, .em::cs=>(match nz ets cs with |some r=>some (.ls t []::r)|none=>none)
 | [],[] =>some []
 | _,_=>none
def rU (el:Ty):List V->Option (List el.D)
 | [] =>some []
 | .v x::r=>(match nz el.csh x.cells with
   |some xs=>(match el.unflat xs,rU el r with |some y,some ys=>some (y::ys)| _,_=>none)
   |none=>none)
 | _=>none
def PM (Θ:mN) (S:TS) (t:TypeId) (s x:V) (κ:V->TS->Option ρ):Option ρ:=match la Θ t with
 |some ti=>match ti.ty,s with
  | .ls el, .v (.cl .em)=>H4 x fun n=>match el.unflat el.zcs with
    |some z=>iteP (0<n/\n*ti.el<=2 ^ 40) (κ (.v (.cl (.own ⟨S.gh.length,[]⟩ el.width 0 n.toNat true))) { S with gh:=S.gh++ [some ⟨el,List.replicate n.toNat z,none⟩] }) none
    |none=>none
  | _,_=>none
 |none=>none
def Rs (t:Ty) (l:List t.D) (sz lo len:Nat) (κ:ByteArray->Option ρ):Option ρ:=match t,l with
 | .i .u8,l=>bif Nat.beq sz 1 then iteP (0<len/\lo+len<=l.length) (κ (Ki ((l.drop lo).take len))) none else none
 | _,_=>none
def tM (Θ:mN) (Y:wl) (S:TS) (o:Oper) (κ:V->TS->Option ρ):Option ρ:=
 let e:=S.opd
 match o.op with
 | .alloc t=>match la Θ t with |some ti=>κ (.v (.cl (.ptrB S.bx.length 0))) { S with bx:=S.bx++ [ti.ty.zvs.map cC] } |none=>none
 | .box _ x=>match e x with
   | .v (.cl .dead)=>none
   | .v (.cl c)=>κ (.v (.cl (.ptrB S.bx.length 0))) { S with bx:=S.bx++ [[c]] }
   | .v (.agg cs)=>κ (.v (.cl (.ptrB S.bx.length 0))) { S with bx:=S.bx++ [cs] }
   | _=>none
 | .store t a x=>H7 Θ S t (e a) (e x) fun S'=>κ V.dead S'
 | .makeSlice t l c=>match la Θ t with
   |some ti=>match ti.ty with
    | .ls el=>H4 (e l) fun n=>H4 (e c) fun m=>match el.unflat el.zcs with
      |some z=>iteP (0<=n/\n=m/\n*ti.el<=2 ^ 40) (κ (.v (.cl (.own ⟨S.gh.length,[]⟩ el.width 0 n.toNat true))) { S with gh:=S.gh++ [some ⟨el,List.replicate n.toNat z,none⟩] }) none
      |none=>none
    | _=>none
   |none=>none
 | .buildSlice t len parts=>match la Θ t with
   |some ti=>match ti.ty with
    | .ls el=>bif Nat.ble (len*el.width) 1048576&&Rr (parts.toList.map (·.1)) (List.range len) then (bif (parts.toList.map fun x=>e x.2).any A6 then (match rU el (parts.toList.map fun x=>e x.2) with |some l=>κ (.v (.cl (.c (.ls el l)))) S|none=>none) else match rG el S (parts.toList.map fun x=>e x.2) with
      |some (l,S1)=>κ (.v (.cl (.own ⟨S1.gh.length,[]⟩ el.width 0 l.length true))) { S1 with gh:=S1.gh++ [some ⟨el,l,none⟩] }
      |none=>none) else none
    | _=>none
   |none=>none
 | .call { callee:= .builtin .append,args:=as,argTypes:=ts } =>match as.toList,ts.toList with
   | [s,x],[t,t'] =>bif Nat.beq t t' then Of Θ S t (e s) (e x) κ else PM Θ S t (e s) (e x) κ
   | _,_=>none
 | .call { callee:= .value f,args:=as,argTypes:=ts } =>Jn Θ Y S f ts.toList as.toList κ
 | .convert s d x=>match e x with
   | .v (.cl (.own p sz lo len _))=>match la Θ s,la Θ d with
     |some si,some di=>match si.ty,di.ty with
      | .ls (.i .u8), .s=>qu S p fun t l=>Rs t l sz lo len fun b=>κ (V.sc (.string b)) S
      | _,_=>none
     | _,_=>none
   | _=>wk Θ S o κ
 | _=>wk Θ S o κ
def qw (S:TS) (d:Option Tmp) (v:V) (κ:TS->Option ρ):Option ρ:=match d with
 |some t=>bif Nat.blt t S.nt then κ { S with env:=(t,v)::S.env } else none
 |none=>κ S
def Jo (S:TS) (all:List Oper) (o:Oper) (κ:Bool->TS->Option ρ):Option ρ:=match o.guard with
 |none=>κ true S
 |some (j,want)=>match oo all j with
  |some oj=>match oj.dst with
   |some d=>match iV S.env d with
    | .tup [] =>κ false S
    | _=>Gb S (.tmp d) fun b S1=>κ (b==want) S1
   |none=>none
  |none=>none
noncomputable def Og {α:Type} (x y:α) (z:α):α:=open Classical in if x=y then x else z
def Qt {α β:Type} (l:List α) (x y:β):β:=match l with | [] =>x| _::_=>y
def Aq (o:Oper):Option (TypeId×Operand):=match o.op with
 | .binOp .eql t x (.const (.slice none 0 0)) _=>(match o.guard with |none=>some (t,x)|some _=>none)
 | _=>none
def Rt (Θ:mN) (t:TypeId):Bool:=match la Θ t with |some ti=>(match ti.ty with | .ls _=>true| _=>false)|none=>false
inductive Ej where
 |own (r sz:Nat)
 |pt (r sz:Nat)
 |nest (r i j sz lo len:Nat)
 |agg (cs:List Cl)
def yr:V->Option Ej
 | .v (.cl (.own ⟨r,[]⟩ sz _ _ true))=>some (.own r sz)
 | .v (.cl (.ptrT ⟨r,[]⟩ sz 0 0))=>some (.pt r sz)
 | .v (.cl (.own ⟨r,[(i,j)]⟩ sz lo len _))=>some (.nest r i j sz lo len)
 | .v (.agg cs)=>some (.agg cs)
 | _=>none
def Ej.fit (k:Nat):Ej->Bool
 | .own _ _=>Nat.beq k 1||Nat.beq k 2
 | .pt _ _=>Nat.beq k 3
 | _=>Nat.beq k 1
def A7 (Y:wl) (S:TS) (o:Oper):Option (Nat×FuncId×List Cl×Ej×List TypeId×List Operand):=match o.op with
 | .call { callee:= .value f,args:=as,argTypes:=ts } =>(match as.toList,ts.toList with
   |x::xs,_::us=>(match yr (S.opd x) with
    |some a=>(match S.opd f with
     | .v (.cl (.c (.sc (.func (.func g) _ _))))=>bif Nat.blt g iW&&a.fit (Y.kd g) then some (Y.kd g,g,[],a,us,xs) else none
     | .v (.fn g caps)=>bif Nat.blt g iW&&a.fit (Y.kd g) then some (Y.kd g,g,caps,a,us,xs) else none
     | _=>none)
    |none=>none)
   | _,_=>none)
 | _=>none
def Oh:V->Bool
 | .v (.cl (.c (.sc _)))=>true
 | .tup [] =>true
 | _=>false
def vb (S:TS):List Cl->Option (List C×List Nat)
 | [] =>some ([],[])
 | .c (.sc v)::cs=>(match vb S cs with |some (xs,L)=>some (.sc v::xs,L)|none=>none)
 | .own ⟨r,[]⟩ sz _ _ true::cs=>(match fy S.gh r with
   |some ⟨el,l,none⟩=>bif Nat.beq sz el.width then (match vb S cs with |some (xs,L)=>some (.ls el l::xs,r::L)|none=>none) else none
   | _=>none)
 | _=>none
def PN (G:List (Option eB)) (L:List Nat):List (Option eB):=L.foldl (fun G r=>fj G r none) G
def A8 (S:TS):List Nat->List eB->(TS->Option ρ)->Option ρ
 | [],[],κ=>κ S
 |r::L,⟨t,l',none⟩::out,κ=>(match fy S.gh r with
  |some ⟨el,l,none⟩=>bif decide (t=el) then iteP (l'.length=l.length) (A8 { S with gh:=fj S.gh r (some ⟨t,l',none⟩) } L out κ) none else none
  | _=>none)
 | _,_,_=>none
def w9 (Θ:mN) (S:TS) (us:List TypeId) (xs:List Operand) (caps:List Cl) (κ:List V1->Option ρ):Option ρ:=vG Θ S us xs fun vs=>Gh (NU S none) caps fun ks=>κ (vs++ks.map .cl)
def Jp (S:TS) (r:Nat) (el:Ty) (l:List el.D) (res:V) (out:List eB) (dst:Option Tmp) (κ:TS->Option ρ):Option ρ:=match out with
 | ⟨t,l',none⟩::more=>bif decide (t=el) then iteP (l'.length=l.length) (qw { S with gh:=fj S.gh r (some ⟨t,l',none⟩)++more.map some } dst (qv S.gh.length (L0 res)) κ) none else none
 | _=>none
def A9 (Θ:mN) (Y:wl) (S:TS) (k:Nat) (g:FuncId) (caps:List Cl) (a:Ej) (us:List TypeId) (xs:List Operand) (dst:Option Tmp) (κ:TS->Option ρ):Option ρ:=match a with
 | .own r sz=>(match fy S.gh r with
   |some ⟨el,l,none⟩=>bif Nat.beq sz el.width then w9 Θ { S with gh:=fj S.gh r none } us xs caps fun vs=>
    bif Nat.beq k 1 then Y (zT g) (.cl (.c (.ls el l))::vs) ρ fun res out=>Jp S r el l res out dst κ
    else bif Nat.ble S.fz r then Y (CJ g) (.cl (.c (.ls el l))::vs) ρ fun res out=>qw { S with gh:=fj S.gh r none++out.map some } dst (qv S.gh.length res) κ
    else none else none
   | _=>none)
 | .pt r sz=>(match fy S.gh r with
   |some ⟨el,l,none⟩=>bif Nat.beq sz el.width then w9 Θ { S with gh:=fj S.gh r none } us xs caps fun vs=>Y (A5 g) (.cl (.c (.ls el l))::vs) ρ fun res out=>Jp S r el l res out dst κ else none
   | _=>none)
 | .agg cs=>(match vb S cs with
   |some (ys,L)=>bif Qa L then w9 Θ { S with gh:=PN S.gh L } us xs caps fun vs=>Y (zT g) (.agg (ys.map .c)::vs) ρ fun res out=>bif Oh res then A8 S L out fun S3=>qw S3 dst res κ else none else none
   |none=>none)
 | .nest r i j sz lo len=>(match fy S.gh r with
   |some ⟨t,l,none⟩=>(l[i]?).bind fun y=>(match oo (t.flat y) j with
    |some (.ls el v)=>bif Nat.beq sz el.width then iteP (lo=0/\len=v.length) (w9 Θ { S with gh:=fj S.gh r (some ⟨t,l,some (i,j)⟩) } us xs caps fun vs=>
     Y (zT g) (.cl (.c (.ls el v))::vs) ρ fun res out=>(match out with
       | [⟨t',v',none⟩] =>bif decide (t'=el)&&Oh res then iteP (v'.length=v.length) (match t.unflat (fj (t.flat y) j (.ls t' v')) with
         |some z=>qw { S with gh:=fj S.gh r (some ⟨t,l.set i z,none⟩) } dst res κ
         |none=>none) none else none
       | _=>none)) none else none
    | _=>none)
   | _=>none)
def Ek (S:TS) (o:Oper):Option (TypeId×Nat×Nat×Nat×Nat):=match o.op with
 | .call { callee:= .builtin .clear,args:=as,argTypes:=ts } =>(match o.guard with
   |some _=>none
   |none=>match as.toList,ts.toList with
    | [x],[t] =>(match S.opd x with
      | .v (.cl (.own ⟨r,[]⟩ sz lo len _))=>some (t,r,sz,lo,len)
      | _=>none)
    | _,_=>none)
 | _=>none
def H9 (Θ:mN) (S:TS) (t:TypeId) (r sz lo len:Nat) (dst:Option Tmp) (κ:TS->Option ρ):Option ρ:=match la Θ t with
 |some ti=>match fy S.gh r with
  |some ⟨el,l,none⟩=>bif decide (ti.ty= .ls el)&&Nat.beq el.width 1&&Nat.beq sz 1&&el.flatB then (match el.unflat el.zcs with
   |some z=>iteP (lo+len<=l.length) (qw { S with gh:=fj S.gh r (some ⟨el,l.take lo++List.replicate len z++l.drop (lo+len),none⟩) } dst (.tup []) κ) none
   |none=>none) else none
  | _=>none
 |none=>none
def Gj (b:Bool):V:= .v (.cl (.c (.sc (.bool b))))
noncomputable def Ba (Θ:mN) (Y:wl) (all:List Oper):List Oper->TS->(TS->Option ρ)->Option ρ
 | [],S,κ=>κ S
 |o::os,S,κ=>match Aq o with
  |some (t,x)=>bif Rt Θ t then (match S.opd x with
   | .v (.cl (.c (.ls _ l)))=>Qt l (Og (qw S o.dst (Gj true) fun S3=>Ba Θ Y all os S3 κ) (qw S o.dst (Gj false) fun S3=>Ba Θ Y all os S3 κ) none) (qw S o.dst (Gj false) fun S3=>Ba Θ Y all os S3 κ)
   | _=>none) else none
  |none=>match Ek S o with
  |some (t,r,sz,lo,len)=>H9 Θ S t r sz lo len o.dst fun S3=>Ba Θ Y all os S3 κ
  |none=>Jo S all o fun b S1=>bif b then (match A7 Y S1 o with
   |some (k,g,caps,a,us,xs)=>A9 Θ Y S1 k g caps a us xs o.dst fun S3=>Ba Θ Y all os S3 κ
   |none=>tM Θ Y S1 o fun v S2=>qw S2 o.dst v fun S3=>Ba Θ Y all os S3 κ) else qw S1 o.dst (V.tup []) fun S3=>Ba Θ Y all os S3 κ
def gone:Nat->List (Option eB)->List (Option eB)->List Nat
 |n,some _::l,none::m=>n::gone (n+1) l m
 |n,_::l,_::m=>gone (n+1) l m
 | _,_,_=> []
def L4 (l:List (Option eB)):List T:=l.map fun x=>match x with |some tr=>tr.tree|none=> .dd
def wm (S S':TS):iK:=⟨S.gh.length,L4 (S'.gh.drop S.gh.length),gone 0 S.gh S'.gh⟩
def PO (d:Nat) (o:Oper):Bool:=match o.dst with |some d'=> !(Nat.beq d d')|none=>true
def Ru (o:Oper) (os:List Oper):Bool:=match o.dst with |some d=>os.all (PO d)|none=>false
def Ri (Θ:mN) (t:TypeId):Bool:=match la Θ t with
 |some ti=>(match ti.ty with | .ls _=>true| _=>false)
 |none=>false
def Oi (Θ:mN) (o:Oper):Bool:=match o.op with
 | .buildSlice t _ _=>Ri Θ t
 | .call { callee:= .builtin .append,args:=_,argTypes:=ts } =>(match ts.toList with |t::_=>Ri Θ t| [] =>false)
 | _=>true
def Jq:V->Bool
 | .v (.cl (.own p _ _ _ _))=>(match p.l with | [] =>true| _=>false)
 | _=>true
def Jr (S:TS) (o:Oper):Bool:=match o.op with
 | .buildSlice _ _ parts=> !(parts.toList.map fun x=>S.opd x.2).any A6
 | .call { callee:= .builtin .append,args:=as,argTypes:=ts } =>(match ts.toList with | [t,t'] =>Nat.beq t t'| _=>true)&&(match as.toList with |s::_=>Jq (S.opd s)| [] =>true)
 | _=>true
def L5 (Θ:mN):List Oper->TS->(TS->Option ρ)->Option ρ
 | [],S,κ=>κ S
 |o::os,S,κ=>match o.op with
  | .alloc t=>match la Θ t with |some ti=>L5 Θ os { S with bx:=S.bx++ [ti.ty.zvs.map cC] } κ|none=>none
  | _=>L5 Θ os S κ
def Gk (Θ:mN) (Y:wl) (all:List Oper):List Oper->TS->List iK->(TS->List iK->Option ρ)->Option ρ
 | [],S,ms,κ=>κ S ms
 |o::os,S,ms,κ=>bif dU o then Gk Θ Y all os S (ms++ [⟨S.gh.length,[],[]⟩]) κ else bif fB o then (bif o.guard.isNone then qw S o.dst (V.v (.cl (.ptrB (S.bx.length-1-fY os) 0))) fun S3=>Gk Θ Y all os S3 (ms++ [⟨S.gh.length,[],[]⟩]) κ else none) else
   Jo S all o fun b S1=>bif b then
    (bif gv o then (bif Ru o os&&Oi Θ o&&Jr S1 o then tM Θ Y S1 o fun v S2=>qw S2 o.dst v fun S3=>Gk Θ Y all os S3 (ms++ [wm S1 S2]) κ else none)
    else wk Θ S1 o fun v S2=>qw S2 o.dst v fun S3=>Gk Θ Y all os S3 (ms++ [⟨S1.gh.length,[],[]⟩]) κ)
    else qw S1 o.dst (V.tup []) fun S3=>Gk Θ Y all os S3 (ms++ [⟨S1.gh.length,[],[]⟩]) κ
def L6 (Θ:mN) (Y:wl):List Oper->TS->(TS->Option ρ)->Option ρ
 | [],S,κ=>κ S
 |o::os,S,κ=>bif dU o then (bif o.guard.isNone&&o.dst.isNone then tM Θ Y S o fun _ S1=>L6 Θ Y os S1 κ else none) else L6 Θ Y os S κ
def Js (Θ:mN) (t:TypeId):Bool:=match la Θ t with |some ti=>ti.ty.flatB|none=>false
def L7 (Θ:mN) (S:TS) (o:Oper):Bool:=match o.op with
 | .store t x _=>(match S.opd x with | .v (.cl (.ptrB _ _))=>true| .v (.cl (.ptrT _ _ _ _))=>Js Θ t| _=>false)
 | _=>false
def El (Θ:mN) (o:Oper):Bool:=match o.op with
 | .buildSlice t _ _=>(match la Θ t with |some ti=>(match ti.ty with | .ls el=>el.flatB| _=>false)|none=>false)
 | _=>true
def Gl (Θ:mN) (Y:wl) (n0:Nat) (ops:List Oper) (B:List (List Nat)):Nat->List Oper->TS->(TS->Option ρ)->Option ρ
 | _,[],S,κ=>κ S
 |k,o::os,S,κ=>match A7 Y S o with
  |some (kd,g,caps,a,us,xs)=>A9 Θ Y S kd g caps a us xs o.dst fun S3=>Gl Θ Y n0 ops B (k+1) os S3 κ
  |none=>bif dU o then
    (bif L7 Θ S o||(os.isEmpty&&(List.range k).all fun j=>(B.getD k []).contains j) then tM Θ Y S o fun v S2=>qw S2 o.dst v fun S3=>Gl Θ Y n0 ops B (k+1) os S3 κ else none)
   else bif gv o then tM Θ Y S o fun v S2=>bif (!qn o&&El Θ o)||(Oi Θ o&&Jr S o&&(uf o||(gone 0 S.gh S2.gh).all fun r=>Nat.ble n0 r)) then qw S2 o.dst v fun S3=>Gl Θ Y n0 ops B (k+1) os S3 κ else none
   else bif HS n0 (LM ops B k) S.st o then wk Θ S o fun v S2=>qw S2 o.dst v fun S3=>Gl Θ Y n0 ops B (k+1) os S3 κ else none
def Sy (Y:wl) (o:Oper):Bool:=match o.op with
 | .call { callee:= .value (.func g), .. } =>Nat.beq (Y.kd g) 3
 | _=>false
def Qu (Θ:mN) (Y:wl) (ops:List Oper) (S:TS) (κ:TS->Option ρ):Option ρ:=
 bif F0 ops.toArray||(ops.any (Sy Y)&&PL ops.toArray) then Gl Θ Y S.gh.length ops (fL ops) 0 ops S κ else
 bif Jg ops.toArray then L5 Θ ops S fun S0=>Gk Θ Y ops ops S0 [] fun SV ms=>bif HC (Js Θ) ops (fL ops) S0.st ms SV.st then L6 Θ Y ops SV κ else none else none
def gi:Code->Nat
 | .region id _ _=>id
 | .seq a _=>gi a
 | .block _ c=>gi c
 | .loop c=>gi c
 | _=>0
abbrev m8:=Nat->TS->(ρ:Type)->(X->TS->Option ρ)->Option ρ
noncomputable def yt (Θ:mN) (Y:wl) (Λ:m8):Code->TS->(X->TS->Option ρ)->Option ρ
 | .skip,S,κ=>κ .nor S
 | .region _ ops false,S,κ=>Ba Θ Y ops.toList ops.toList S (κ .nor)
 | .region _ ops true,S,κ=>Qu Θ Y ops.toList S (κ .nor)
 | .seq a b,S,κ=>yt Θ Y Λ a S fun x S1=>match x with | .nor=>yt Θ Y Λ b S1 κ|x=>κ x S1
 | .cond c a b,S,κ=>Gb S c fun t S1=>bif t then yt Θ Y Λ a S1 κ else yt Θ Y Λ b S1 κ
 | .block id c,S,κ=>yt Θ Y Λ c S fun x S1=>match x with | .ext i=>bif Nat.beq i id then κ .nor S1 else κ (.ext i) S1|x=>κ x S1
 | .loop c,S,κ=>Λ (gi c) S ρ κ
 | .exit id,S,κ=>κ (.ext id) S
 | .ret,S,κ=>κ .ret S
 | _,_,_=>none
def L8 (S:TS) (gs:List eB) (et:Option Ty) (c:Cl) (κ:Cl->List eB->TS->Option ρ):Option ρ:=match c,et with
 | .c (.sc v),_=>κ (.c (.sc v)) gs S
 | .em,some t=>κ (.own ⟨gs.length,[]⟩ t.width 0 0 true) (gs++ [⟨t,[],none⟩]) S
 | .own p sz lo len w,some t'=>match p.l with
   | [] =>bif Nat.ble S.fz p.r&&Nat.beq t'.width sz then qu S p fun t l=>bif Nat.beq t.width sz then
     (bif w then κ (.own ⟨gs.length,[]⟩ sz 0 l.length true) (gs++ [⟨t,l,none⟩]) { S with gh:=fj S.gh p.r none }
     else iteP (lo=0/\len<=l.length) (κ (.own ⟨gs.length,[]⟩ sz 0 (l.take len).length true) (gs++ [⟨t,l.take len,none⟩]) { S with gh:=fj S.gh p.r none })
      (bif t.flatB&&Nat.ble sz 3 then iteP (lo+len<=l.length) (κ (.own ⟨gs.length,[]⟩ sz 0 ((l.drop lo).take len).length true) (gs++ [⟨t,(l.drop lo).take len,none⟩]) { S with gh:=fj S.gh p.r none }) none else none)) else none
     else none
   | _=>none
 | .ptrT p sz i j,none=>match p.l with
   | [] =>bif Nat.ble S.fz p.r then qu S p fun t l=>bif Nat.beq t.width sz then κ (.ptrT ⟨gs.length,[]⟩ sz i j) (gs++ [⟨t,l,none⟩]) { S with gh:=fj S.gh p.r none } else none else none
   | _=>none
 | _,_=>none
def Jt:TS->List eB->List (Option Ty)->List Cl->(List Cl->List eB->TS->Option ρ)->Option ρ
 |S,gs,et::ets,c::cs,κ=>L8 S gs et c fun c' gs' S'=>Jt S' gs' ets cs fun cs' gs'' S''=>κ (c'::cs') gs'' S''
 |S,gs,[],[],κ=>κ [] gs S
 | _,_,_,_,_=>none
def Qv (Θ:mN) (S:TS) (gs:List eB) (t:TypeId) (v:V) (κ:V1->List eB->TS->Option ρ):Option ρ:=match v with
 | .v (.cl (.ptrT p sz i j))=>L8 S gs none (.ptrT p sz i j) fun c' gs' S'=>κ (.cl c') gs' S'
 |v=>match la Θ t with
  |none=>none
  |some ti=>match v with
   | .v (.agg cs)=>Jt S gs ti.ty.csh cs fun cs' gs' S'=>κ (.agg cs') gs' S'
   | .v (.cl c)=>L8 S gs (ti.ty.csh.headD none) c fun c' gs' S'=>κ (.cl c') gs' S'
   | _=>none
def Gm (Θ:mN):TS->List eB->List (TypeId×V)->(List V1->List eB->Option ρ)->Option ρ
 | _,gs,[],κ=>κ [] gs
 |S,gs,(t,v)::r,κ=>Qv Θ S gs t v fun v' gs' S'=>Gm Θ S' gs' r fun vs gs''=>κ (v'::vs) gs''
def Ia (Θ:mN) (S:TS):List ResultVar->List TypeId->(List (TypeId×V)->Option ρ)->Option ρ
 | .tmp a::rs,t::ts,κ=>Ia Θ S rs ts fun l=>κ ((t,iV S.env a)::l)
 | .cell a t'::rs,t::ts,κ=>Gc Θ S t' (iV S.env a) fun v=>Ia Θ S rs ts fun l=>κ ((t,v)::l)
 | [],[],κ=>κ []
 | _,_,_=>none
def Em:List V1->V
 | [v] => .v v
 |vs=> .tup vs
def qx:Nat->List V1->List (Nat×V)
 | _,[] => []
 |n,v::l=>(n, .v v)::qx (n+1) l
def vd (S:TS):Nat->Nat->Option (List eB)
 | _,0=>some []
 |r,n+1=>(match fy S.gh r with
  |some ⟨t,l,none⟩=>(match vd S (r+1) n with |some ts=>some (⟨t,l,none⟩::ts)|none=>none)
  | _=>none)
noncomputable def Rv (Θ:mN) (Y:wl) (Λ:m8) (fn:Func) (args:List V1) (G:List eB) (m:Nat) (κ:V->List eB->Option ρ):Option ρ:=match fn.body with
 |none=>none
 |some c=>yt Θ Y Λ c { env:=qx 0 args,bx:= [],gh:=G.map some,fz:=m,nt:=args.length+(fn.ntmps-args.length) } fun x S=>match x with
  | .ext _=>none
  | _=>Ia Θ S fn.results.toList fn.resultTypes.toList fun rs=>match vd S 0 m with
    |some gs=>Gm Θ S gs rs fun vs gs'=>κ (Em vs) gs'
    |none=>none
noncomputable abbrev Rj (Θ:mN) (Y:wl) (Λ:m8) (fn:Func) (args:List V1) (κ:V->List eB->Option ρ):Option ρ:=Rv Θ Y Λ fn args [] 0 κ
def Ib:List Cl->Option (List C)
 | [] =>some []
 | .c x::l=>match Ib l with |some r=>some (x::r)|none=>none
 | _=>none
def un (t:Ty) (a:V1) (κ:t.D->Option ρ):Option ρ:=match a with
 | .agg cs=>bif t.ag then (match Ib cs with
   |some xs=>(match t.unflat xs with |some x=>κ x|none=>none)
   |none=>none) else none
 | .cl (.c y)=>bif t.ag then none else (match t.unflat [y] with |some x=>κ x|none=>none)
 | _=>none
def wn:List C->Nat->List Cl
 | [],_=> []
 | .sc v::r,n=> .c (.sc v)::wn r n
 | .ls t l::r,n=> .own ⟨n,[]⟩ t.width 0 l.length true::wn r (n+1)
def pQ:List C->List eB
 | [] => []
 | .sc _::r=>pQ r
 | .ls t l::r=>⟨t,l,none⟩::pQ r
def KF (t:Ty) (x:t.D) (n:Nat):V1:=bif t.ag then .agg (wn (t.flat x) n) else match wn (t.flat x) n with | [c] => .cl c| _=> .cl .dead
def tN:Nat->List ((t:Ty)×t.D)->List V1
 | _,[] => []
 |n,⟨t,x⟩::r=>KF t x n::tN (n+(pQ (t.flat x)).length) r
def rV:List ((t:Ty)×t.D)->List eB
 | [] => []
 | ⟨t,x⟩::r=>pQ (t.flat x)++rV r
def ret (l:List ((t:Ty)×t.D)) (κ:V->List eB->Option ρ):Option ρ:=κ (Em (tN 0 l)) (rV l)
end
abbrev Lq:=List V1->(ρ:Type)->(V->List eB->Option ρ)->Option ρ
def Qw:List (Nat×Lq)->FuncId->List V1->(ρ:Type)->(V->List eB->Option ρ)->Option ρ
 | [],_,_,_,_=>none
 | (g,e)::l,f,as,ρ,κ=>bif Nat.beq g f then e as ρ κ else Qw l f as ρ κ
def Oj:List (Nat×Lq)->Nat->Bool
 | [],_=>false
 | (g,_)::l,f=>bif Nat.beq g f then true else Oj l f
def Bb (l:List (Nat×Lq)):wl:=⟨Qw l,fun g=>bif Oj l (zT g) then 1 else bif Oj l (CJ g) then 2 else bif Oj l (A5 g) then 3 else 0⟩
noncomputable abbrev L9 {ρ:Type} (Θ:mN) (Y:wl) (Λ:m8) (fn:Func) (m:Nat) (el:Ty) (l:List el.D) (args:List V1) (κ:V->List eB->Option ρ):Option ρ:=Rv Θ Y Λ fn (.cl (.own ⟨0,[]⟩ el.width 0 l.length true)::args) [⟨el,l,none⟩] m κ
noncomputable abbrev Qx {ρ:Type} (Θ:mN) (Y:wl) (Λ:m8) (fn:Func) (el:Ty) (l:List el.D) (args:List V1) (κ:V->List eB->Option ρ):Option ρ:=Rv Θ Y Λ fn (.cl (.ptrT ⟨0,[]⟩ el.width 0 0)::args) [⟨el,l,none⟩] 1 κ
def Ju (t:Ty) (x:t.D):V1:=bif t.ag then .agg ((t.flat x).map .c) else match (t.flat x).map Cl.c with | [c] => .cl c| _=> .cl .dead
end
section
open Go
theorem fQ {α:Type}: ∀ (l:List α) (n:Nat),oo l n=l[n]?
 | [],n=>by simp[oo]
 |a::l,0=>by simp[oo]
 |a::l,n+1=>by show oo l n=_; rw[fQ l]; simp
theorem gF {α:Type}: ∀ (l:List α) (n:Nat) (x:α),fj l n x=l.set n x
 | [],n,x=>by simp[fj]
 |a::l,0,x=>by simp[fj]
 |a::l,n+1,x=>by show a::fj l n x=_; rw[gF l]; simp
theorem Gn: ∀ {l:List (Nat×V)} {t:Nat},iV l t=V.dead\/(t,iV l t)∈l
 | [],t=> .inl rfl
 | (u,v)::l,t=>by
   simp only[iV];cases h:Nat.beq u t with
   |true=>have :u=t:=ao h;subst this;exact .inr (aL)
   |false=>
    rcases Gn (l:=l) (t:=t) with h'|h'
    ·exact .inl h'
    ·exact .inr (aM _ h')
def Cl.ok (G:List (Option eB)):Cl->Prop
 | .own p _ lo len w=>p.r<G.length/\(w=true->p.l= [] /\lo=0/\ ∀tr,fy G p.r=some tr->len=tr.l.length)
 | .ptrT p _ _ _=>p.r<G.length
 | _=>True
def V1.ok (G:List (Option eB)):V1->Prop
 | .cl c=>c.ok G
 | .agg cs=> ∀c∈cs,c.ok G
 | .fn _ cs=> ∀c∈cs,c.ok G
def V.ok (G:List (Option eB)):V->Prop
 | .v x=>x.ok G
 | .tup l=> ∀x∈l,x.ok G
structure TS.ok (S:TS):Prop where
 env: ∀x∈S.env,x.2.ok S.gh
 bx: ∀cs∈S.bx,∀c∈cs,c.ok S.gh
def iA (G G':List (Option eB)):Prop:=G.length<=G'.length/\ ∀r tr',r<G.length->fy G' r=some tr'-> ∃tr,fy G r=some tr/\tr.l.length=tr'.l.length
theorem iA.refl (G:List (Option eB)):iA G G:=⟨aq _,fun _ tr _ h=>⟨tr,h,rfl⟩⟩
theorem iA.trans {G H K:List (Option eB)} (h:iA G H) (k:iA H K):iA G K:=⟨aO h.1 k.1,fun r tr hr hK=>by obtain⟨t1,h1,h2⟩:=k.2 r tr (aQ hr h.1) hK;obtain⟨t2,h3,h4⟩:=h.2 r t1 hr h1;exact⟨t2,h3,h4.trans h2⟩⟩
theorem Cl.ok_mono {G G':List (Option eB)} (h:iA G G') {c:Cl} (hc:c.ok G):c.ok G':=by
 cases c with
 |own p sz lo len w=>obtain⟨h1,h2⟩:=hc;refine⟨aQ h1 h.1,fun hw=> ?_⟩;obtain⟨a,b,c⟩:=h2 hw;refine⟨a,b,fun tr htr=> ?_⟩;obtain⟨tr0,k1,k2⟩:=h.2 _ tr h1 htr;rw[c tr0 k1,k2]
 |ptrT p sz i j=>exact aQ hc h.1
 | _=>trivial
theorem V1.ok_mono {G G':List (Option eB)} (h:iA G G') {v:V1} (hv:v.ok G):v.ok G':=by
 cases v with
 |cl c=>exact Cl.ok_mono h hv
 |agg cs=>exact fun c hc=>Cl.ok_mono h (hv c hc)
 |fn f cs=>exact fun c hc=>Cl.ok_mono h (hv c hc)
theorem V.ok_mono {G G':List (Option eB)} (h:iA G G') {v:V} (hv:v.ok G):v.ok G':=by
 cases v with
 |v x=>exact V1.ok_mono h hv
 |tup l=>exact fun x hx=>V1.ok_mono h (hv x hx)
theorem V.ok_dead (G:List (Option eB)):V.dead.ok G:=trivial
theorem V.ok_sc (G:List (Option eB)) (v:Value): (V.sc v).ok G:=trivial
theorem Ar {S:TS} (hS:S.ok) (t:Nat): (iV S.env t).ok S.gh:=by
 rcases Gn (l:=S.env) (t:=t) with h|h
 ·rw[h]; trivial
 ·exact hS.env _ h
theorem pK (v:Value): (cC v).av=An v:=by
 unfold cC An;split
 ·rfl
 ·rename_i hn;split
  ·exact absurd rfl hn
  ·cases h:ou v<;>rfl
theorem Rx (v:Value): (cV v).av=Cw v:=by
 cases v with
 |agg cs=>
  simp only[cV,Cw];cases h:cs.toList.all Value.oneCell' with
  |true=>simp_all [V.av,V1.av,pK]
  |false=>rfl
 |bool b=>exact pK (.bool b)
 |int k n=>exact pK (.int k n)
 |float k n=>exact pK (.float k n)
 |complex k n m=>exact pK (.complex k n m)
 |string x=>exact pK (.string x)
 |pointer x=>exact pK (.pointer x)
 |slice x y z=>exact pK (.slice x y z)
 |map x=>exact pK (.map x)
 |chan x=>exact pK (.chan x)
 |func x y z=>exact pK (.func x y z)
 |nilFunc=>exact pK .nilFunc
 |iface x y=>exact pK (.iface x y)
 |nilIface=>exact pK .nilIface
 |tuple x=>exact pK (.tuple x)
theorem Jv (G:List (Option eB)) (v:Value): (cC v).ok G:=by
 unfold cC;split
 ·trivial
 ·cases ou _<;>trivial
theorem Ry (G:List (Option eB)) (v:Value): (cV v).ok G:=by
 unfold cV;split
 ·rename_i cs;cases cs.toList.all Value.oneCell' with
  |true=>intro c hc; simp only[aJ] at hc; obtain⟨x,_,rfl⟩:=hc; exact Jv _ _
  |false=>trivial
 ·exact Jv _ _
theorem eg {S:TS} (x:Operand):opd S.st x=(S.opd x).av:=by
 cases x with
 |tmp t=>rfl
 |const v=>exact (Rx v).symm
 |func f=>rfl
 |global g=>rfl
theorem mO {S:TS} (hS:S.ok) (x:Operand): (S.opd x).ok S.gh:=by
 cases x with
 |tmp t=>exact Ar hS t
 |const v=>exact Ry _ _
 |func f=>trivial
 |global g=>trivial
section
variable {ρ:Type}
theorem Ok {α:Type} {b:Bool} {x y:Option α} {r:α} (h:br b x y=some r): (b=true/\x=some r)\/(b=false/\y=some r):=by
 cases b with
 |true=>exact .inl ⟨rfl,h⟩
 |false=>exact .inr ⟨rfl,h⟩
theorem eY {α:Type} {c:Prop} [Decidable c] {x:Option α} {r:α} (h:iteP c x none=some r):c/\x=some r:=by grind [iteP]
theorem Ol {α:Type} {c:Prop} [Decidable c] {x y:Option α} {r:α} (h:iteP c x y=some r):c/\x=some r\/ ¬c/\y=some r:=by grind [iteP]
theorem yu {α:Type} {c:Prop} [Decidable c] {x:Option α} {r:α} (h:iteP c none x=some r): ¬c/\x=some r:=by grind [iteP]
theorem dX {α:Type} {c:Bool} {x:Option α} {r:α} (h: (bif c then x else none)=some r):c=true/\x=some r:=by grind
theorem Gp {S:TS} {t:Nat} {b:Bool} (h:iV S.env t=V.sc (.bool b)): ({ S with env:=(t,V.sc (.bool b))::S.env }:TS).st=S.st:=by
 unfold TS.st;simp only
 congr 1
 funext u
 simp only[iV];cases hb:Nat.beq t u with
 |true=>simp_all
 |false=>rfl
theorem Gq {S:TS} (hS:S.ok) (t:Nat) (b:Bool): ({ S with env:=(t,V.sc (.bool b))::S.env }:TS).ok:=
 ⟨fun x hx=>by
  simp only[bc] at hx;rcases hx with rfl|hx
  ·trivial
  ·exact hS.env x hx,hS.bx⟩
theorem Bc {S:TS} (hS:S.ok) {x:Operand} {κ:Bool->TS->Option ρ} {r:ρ} (h:Gb S x κ=some r):
  ∃b S',opd S.st x= .sc (.bool b)/\S'.st=S.st/\S'.ok/\S'.gh=S.gh/\κ b S'=some r:=by
 unfold Gb at h;split at h
 ·rename_i t;split at h
  ·rename_i b hb;rcases Ok h with ⟨rfl,h⟩| ⟨rfl,h⟩
   ·exact⟨true,_,by show (iV S.env t).av=_; rw[hb]; rfl,Gp hb,Gq hS _ _,rfl,h⟩
   ·exact⟨false,_,by show (iV S.env t).av=_; rw[hb]; rfl,Gp hb,Gq hS _ _,rfl,h⟩
  ·cases h
 ·rename_i b;exact⟨b,S,rfl,rfl,hS,rfl,h⟩
 ·cases h
theorem td {v:V} {κ:Int->Option ρ} {r:ρ} (h:H4 v κ=some r): ∃n,yb v.av=some n/\κ n=some r:=by
 unfold H4 at h;split at h
 ·exact⟨_,rfl,h⟩
 ·cases h
theorem eB.look {G:List (Option eB)} {r:Nat} {tr:eB} (h:oo G r=some (some tr)):fy G r=some tr:=by unfold fy;rw[h];rfl
theorem gz {S:TS} {p:eK} {κ: (t:Ty)->List t.D->Option ρ} {r:ρ} (h:qu S p κ=some r):
  ∃ (t:Ty) (l:List t.D),S.st.look p= .sl t.width (l.map t.row)/\(p.l= [] ->fy S.gh p.r=some ⟨t,l,none⟩)/\κ t l=some r:=by
 unfold qu at h;split at h
 ·rename_i tr htr;have hg:=eB.look htr;split at h
  ·rename_i hh;obtain⟨t,l,hole⟩:=tr;simp only at hh;subst hh;split at h
   ·rename_i hp;refine⟨t,l,?_,fun _=>hg,h⟩;unfold St.look;have :S.st.gh p.r=some (.sl t.width (l.map t.row)):=by show (fy S.gh p.r).map eB.tree=_; rw[hg]; rfl
    rw[this,hp];rfl
   ·rename_i i j hp;simp only[ai] at h;obtain⟨x,hx,h⟩:=h;split at h
    ·rename_i t' l' hj;refine⟨t',l',?_,(fun h0=>by rw[hp] at h0; cases h0),h⟩;unfold St.look;have :S.st.gh p.r=some (.sl t.width (l.map t.row)):=by show (fy S.gh p.r).map eB.tree=_; rw[hg]; rfl
     rw[this,hp];simp only[T.go,T.cell];have e1: (l.map t.row).getD i [] =t.row x:=by simp[aD,hx]
     rw[e1,t.row_flat]
     grind [fQ,C.tree]
    ·cases h
   ·cases h
  ·cases h
 ·cases h
end
end
section
open Go
def Ty.shs (t:Ty):List Nat:=t.csh.map fun |some e=>e.width|none=>0
structure TI.ok (P:Program) (t:TypeId) (ti:TI):Prop where
 ag:Cv P t=some ti.ty.ag
 cells:P.cellsOf t=ti.ty.width
 sh:np P 9 t=ti.ty.shs
 ze:xY P t=some ti.ty.zvs
 fd: ∀k,Lo P t k=oo ti.fds k
 pl:ti.ty.ag=true->Rk P t=some (ti.fds.map fun x=>(x.1,x.2.1))
 el: ∀e,ti.ty= .ls e-> ∃el,sS P t=some el/\P.cellsOf el=e.width/\P.bytesOf el=ti.el/\0<ti.el/\np P 9 el=e.shs/\xY P el=some e.zvs
 bool:ti.ty= .b->P.underlying t=some .bool
 gu:ti.ty.ag=true->ti.ty.flatB=true->P.eqGuardType P.depth t=false
 eq:ti.ty.ag=true-> ∀ (a b:List Cl) (r:Bool) (xs ys:List Value),lb ti.ty.zvs a=true->lb ti.ty.zvs b=true->u9 a b=some r->a=xs.map (fun x=> .c (.sc x))->b=ys.map (fun x=> .c (.sc x))->ew P (Op.equal t (.agg xs.toArray) (.agg ys.toArray))=some r
 str:x0 P t=(match ti.ty with | .s=>true| _=>false)
 int: ∀k,ti.ty= .i k->P.underlying t=some (.int k)
 el8: ∀k u,ti.ty= .ls (.i k)->sS P t=some u->P.underlying u=some (.int k)
def fS (P:Program) (Θ:mN):Prop:= ∀t ti,la Θ t=some ti->ti.ok P t
theorem Ty.width_pos (t:Ty):0<t.width:=by
 cases t with
 |st n=>cases n<;>decide
 | _=>exact dI
theorem C.ro_tree (c:C):T.ro c.tree=c.av:=by cases c<;>rfl
theorem C.own_tree (p:eK) (i m:Nat) (c:C):Lr p i m c.tree=(H5 p i m c).av:=by
 cases c with
 |sc v=>rfl
 |ls t l=>simp[Lr,C.tree,H5,Cl.av]
theorem yw {α β:Type} (f:Nat->α->β): ∀ (j:Nat) (l:List α) (k:Nat),(yq f j l)[k]? =(l[k]?).map (f (j+k))
 |j,[],k=>by simp[yq]
 |j,a::l,0=>by simp[yq]
 |j,a::l,k+1=>by simp only[yq,cy]; rw[yw f (j+1) l k]; congr 2; omega
section
variable {ρ:Type} {P:Program} {Θ:mN} {S:TS}
theorem kg {p:eK} {sz:Nat} {rows:List (List T)} (h:S.st.look p= .sl sz rows):S.st.rows p sz=some rows:=by unfold St.rows;rw[h];simp
theorem KG (hS:S.ok) {n:Nat} {v:Cl} (hv:v.ok S.gh) {κ:List Cl->Option ρ} {r:ρ} (h:H6 S n v κ=some r):
  ∃cs:List Cl,eW S.st n v.av=some (cs.map Cl.av)/\(∀c∈cs,c.ok S.gh)/\κ cs=some r:=by
 unfold H6 at h;split at h
 ·rename_i b j;split at h
  ·rename_i cs hcs;obtain⟨h1,h⟩:=dX h;have h1:j+n<=cs.length:=ar h1;refine⟨_,?_,fun c hc=> ?_,h⟩
   ·simp_all [Cl.av,eW,TS.st]
   ·rw[fQ] at hcs;exact hS.bx cs (au hcs) c (bQ (bR hc))
  ·cases h
 ·rename_i cells;obtain⟨h1,h⟩:=dX h;have h1:n<=cells.length:=ar h1;refine⟨_,?_,fun c hc=> ?_,h⟩
  ·simp only[Cl.av,eW,aK];rw[if_pos h1]
   congr 1
   rw[<-cq,bF,bF];exact aI fun c _=>C.ro_tree c
  ·obtain⟨x,_,rfl⟩:=aJ.1 hc;trivial
 ·rename_i p sz i j;obtain⟨t,l,h1,_,h5⟩:=gz h;obtain⟨h2,h6⟩:=dX h5;clear h h5;simp only[al] at h2;have h3:t.width=sz:=ao h2.1;have h4:j+n<=sz:=ar h2.2;subst h3;obtain⟨x,hx,h⟩:=ai.1 h6;have hil:i<l.length:=(aj.1 hx).1;have hfl: (t.flat x).length=t.width:=t.flat_length x;refine⟨_,?_,fun c hc=> ?_,h⟩
  ·have e1: (l.map t.row).getD i [] =t.row x:=by simp[aD,hx]
   simp only[Cl.av,eW,kg h1];rw[e1,if_pos ⟨by simpa using hil,by rw[t.row_length]; exact h4⟩]
   congr 1
   apply bA;intro k;rw[ap,ap,yw];by_cases hk:k<n
   ·have hjk:j+k< (t.flat x).length:=by omega
    rw[List.getElem?_range hk,bh,if_pos hk,bB,ah hjk];simp only[aH];rw[t.row_flat,aD,ap,ah hjk]
    grind [C.own_tree]
   grind
  ·obtain⟨k,hk⟩:=List.getElem?_of_mem hc;rw[yw] at hk;simp only[ak] at hk;obtain⟨y,_,rfl⟩:=hk;cases y with
   |sc v=>trivial
   |ls t' l'=>exact⟨hv,fun h=>by cases h⟩
 ·cases h
theorem Ma {G:List (Option eB)} {ag:Bool} {cs:List Cl} (hcs: ∀c∈cs,c.ok G) {κ:V->Option ρ} {r:ρ} (h:Sx ag cs κ=some r): ∃v,PF ag (cs.map Cl.av)=some v.av/\v.ok G/\κ v=some r:=by
 unfold Sx at h;cases ag with
 |true=>refine⟨_,rfl,?_,h⟩; exact hcs
 |false=>
  simp only[cond_false] at h;split at h
  ·rename_i c;refine⟨_,rfl,?_,h⟩; exact hcs c (by simp)
  ·cases h
theorem Gr (hΘ:fS P Θ) (hS:S.ok) {t:TypeId} {v:V} (hv:v.ok S.gh) {κ:V->Option ρ} {r:ρ} (h:Gc Θ S t v κ=some r):
  ∃u,load P S.st t v.av=some u.av/\u.ok S.gh/\κ u=some r:=by
 unfold Gc at h;split at h
 ·rename_i ti hti;have hok:=hΘ _ _ hti;split at h
  ·rename_i a;obtain⟨cs,h1,h2,h⟩:=KG hS hv h;obtain⟨u,h3,h4,h⟩:=Ma h2 h;refine⟨u,?_,h4,h⟩;unfold load;rw[hok.ag,hok.cells]
   grind [V.av,V1.av]
  ·cases h
 ·cases h
theorem Mb {p:eK} {κ:Int->Option ρ} {r:ρ} (h:LZ S p κ=some r): ∃tr,fy S.gh p.r=some tr/\κ tr.l.length=some r:=by grind [LZ,eB.look]
theorem Om {n:Nat} {i:Int} {v:Cl} (hv:v.ok S.gh) {κ:Cl->Option ρ} {r:ρ} (h:Qo n i S v κ=some r): ∃c,wU n i v.av=some c.av/\c.ok S.gh/\κ c=some r:=by
 unfold Qo at h;split at h
 ·rename_i t l;obtain⟨h1,h⟩:=dX h;have h1:t.width=n:=ao h1;obtain⟨h2,h⟩:=eY h;obtain⟨x,hx,h⟩:=ai.1 h;have hil:=(aj.1 hx).1;refine⟨_,?_,?_,h⟩
  rotate_left
  ·trivial
  simp only[Cl.av,C.av,wU,aK];rw[if_pos ⟨h2,by omega,h1⟩]
  congr 1
  simp[aD,hx,t.row_flat]
 ·rename_i p sz lo len;obtain⟨h1,h⟩:=dX h;have h1:sz=n:=ao h1;obtain⟨tr,h3,h⟩:=Mb h;obtain⟨h4,h⟩:=eY h;obtain⟨h5,h6⟩:=hv;obtain⟨h7,h8,h9⟩:=h6 rfl;have h10:=h9 _ h3;refine⟨_,?_,?_,h⟩
  rotate_left
  ·exact h5
  simp_all [Cl.av,wU]
 ·rename_i p sz lo len;obtain⟨h1,h⟩:=dX h;have h1:sz=n:=ao h1;obtain⟨h4,h⟩:=eY h;refine⟨_,?_,?_,h⟩
  rotate_left
  ·exact hv.1
  simp_all [Cl.av,wU]
 ·cases h
theorem Jw {v:Cl} (hv:v.ok S.gh) {κ:Int->Option ρ} {r:ρ} (h:Od S v κ=some r): ∃n,tG v.av=some n/\κ n=some r:=by
 unfold Od at h;split at h
 ·grind [Cl.av,C.av,tG]
 ·obtain⟨t,l,h2,h3,h⟩:=gz h;obtain⟨h5,h6⟩:=hv
  simp_all [Cl.av,tG]
 ·exact⟨_,rfl,h⟩
 ·exact⟨_,rfl,h⟩
 ·cases h
theorem Oo {n:Nat} {lo hi:Int} {v:Cl} (hv:v.ok S.gh) {κ:Cl->Option ρ} {r:ρ} (h:Qp n lo hi v κ=some r): ∃c,Lp n lo hi v.av=some c.av/\c.ok S.gh/\κ c=some r:=by
 unfold Qp at h;split at h
 ·obtain⟨h1,h⟩:=eY h;exact⟨.em,by simp[Cl.av,Lp,h1],trivial,h⟩
 ·rename_i t l;obtain⟨h1,h⟩:=dX h;have h1:t.width=n:=ao h1;obtain⟨h2,h⟩:=eY h;refine⟨_,?_,?_,h⟩
  rotate_left
  ·trivial
  simp_all [Cl.av,C.av,Lp]
 ·rename_i p sz l len w;obtain⟨h1,h⟩:=dX h;have h1:sz=n:=ao h1;obtain⟨h2,h⟩:=eY h;refine⟨_,?_,?_,h⟩
  rotate_left
  ·exact⟨hv.1,fun h=>by cases h⟩
  simp_all [Cl.av,Lp]
 ·cases h
theorem Dy {d:Int} {x:Option Operand} {κ:Int->Option ρ} {r:ρ} (h:Eh S d x κ=some r): ∃n,mZ S.st d x=some n/\κ n=some r:=by
 unfold Eh at h;split at h
 all_goals simp_all [td,mZ,eg]
theorem Oq {G:List (Option eB)}: ∀ (parts:List (Nat×V)) (pl:List (Nat×Nat×Bool)) (cs cs':List Cl),(∀c∈cs,c.ok G)->(∀x∈parts,x.2.ok G)->KE pl cs parts=some cs'->
  NW (pl.map fun x=>(x.1,x.2.1)) (cs.map Cl.av) (parts.map fun x=>(x.1,x.2.av))=some (cs'.map Cl.av)/\ ∀c∈cs',c.ok G:=by
 intro parts
 induction parts with
 |nil=>intro pl cs cs' hcs _ h;simp only[KE,af] at h;subst h;exact⟨rfl,hcs⟩
 |cons x parts ih=>
  intro pl cs cs' hcs hp h;obtain⟨k,v⟩:=x;simp only[KE] at h;split at h
  ·rename_i off n ag hk;split at h
   ·rename_i x;have hx:x.ok G:=hp (k, .v x) (by simp)
    have gi: ∀ (hd: (V.v x).av.isDead=false) (hcell: (V.v x).av.cells=x.cells.map Cl.av) (hcok: ∀c∈x.cells,c.ok G)
      (h: (bif Nat.beq x.cells.length n&&Nat.ble (off+n) cs.length then KE pl (cs.take off++x.cells++cs.drop (off+n)) parts else none)=some cs'),
      NW (pl.map fun x=>(x.1,x.2.1)) (cs.map Cl.av) (((k,V.v x)::parts).map fun x=>(x.1,x.2.av))=some (cs'.map Cl.av)/\ ∀c∈cs',c.ok G:=by
     intro hd hcell hcok h;obtain⟨h1,h⟩:=dX h;simp only[al] at h1;have h2:x.cells.length=n:=ao h1.1;have h3:off+n<=cs.length:=ar h1.2
     obtain⟨g1,g2⟩:=ih pl _ cs' (fun c hc=>by grind) (fun y hy=>hp y (aM _ hy)) h
     refine⟨?_,g2⟩;rw[fQ] at hk;simp only[aV,NW,ap,hk,aH];rw[if_pos ⟨hd,by rw[hcell]; simpa using h2,by simpa using h3⟩,<-g1,hcell];simp[cq,cH]
    cases x with
    |cl c=>cases c with
     |dead=>cases h
     |c y=>cases y<;>exact gi rfl rfl (fun c hc=>by simp only[V1.cells,aE] at hc; subst hc; exact hx) h
     |em=>exact gi rfl rfl (fun c hc=>by simp only[V1.cells,aE] at hc; subst hc; exact hx) h
     |own p sz lo len w=>exact gi rfl rfl (fun c hc=>by simp only[V1.cells,aE] at hc; subst hc; exact hx) h
     |pro cs=>exact gi rfl rfl (fun c hc=>by simp only[V1.cells,aE] at hc; subst hc; exact hx) h
     |ptrB n j=>exact gi rfl rfl (fun c hc=>by simp only[V1.cells,aE] at hc; subst hc; exact hx) h
     |ptrT p sz i j=>exact gi rfl rfl (fun c hc=>by simp only[V1.cells,aE] at hc; subst hc; exact hx) h
    |agg cs2=>exact gi rfl rfl hx h
    |fn f cs2=>cases h
   ·cases h
  ·cases h
end
end
end Go.Proofs.YtadabkgmdllbfaaGreat.En
