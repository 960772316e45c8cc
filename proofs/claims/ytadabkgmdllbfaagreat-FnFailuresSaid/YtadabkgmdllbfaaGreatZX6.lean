import Derived.Test.YtadabkgmdllbfaaGreatZX5
import Derived.Lib.Overlaps
namespace Go.Proofs.YtadabkgmdllbfaaGreat.En
section
open Go Go.RowKit
section
variable {P:Program} {w w':World} {W:Nat->Prop} {bt:Bt}
structure Sq (P:Program) (f t e tn:Nat) (sz:Nat) (i:TypeInfo) (z:Value):Prop where
 enter: ∀ (args:Array Value) (w:World),(callFunc f args).run P w= .ok (.enter f args) w
 ht:P.underlying t=some (.slice e)
 hi:P.info? e=some i
 hz:i.zero=some z
 zs:z.cells.size=i.size
 z1: ∀u∈z.cells.toList,u.oneCell'=true
 hs:i.size=sz
 pos:0<sz
 htn:P.underlying tn=some (.int .i64)
 toEnd: ∀ (ab:Option Addr) (n c:Nat) (ad:Addr) (vc:Nat) (w w':World) (v:Value),n<=c->(ab=none->n=0)->n<=2 ^ 40->
  (∀ty,(Builtin.append_ #[t,t] ty #[.slice ab n c, .slice (some ad) 1 vc]).run P w= .ok v w')->
  Calls P f #[.slice ab n c, .int .i64 n, .slice (some ad) 1 vc] w fun e w1=>e= .returned v/\w1=w'
 shift: ∀ (b n c i:Nat) (ad:Addr) (vc:Nat) (w W1 W2:World) (u1 u2:Value),i<n->n+1<=c->n<=2 ^ 40->ad.block≠b->
  (∃ra ta fa,w.heap[ad.block]? =some (.cells ra ta fa)/\0<ra.size)->(∃rb tb,w.heap[b]? =some (.cells rb tb (0,0)))->
  (∀ty dc sc,(Builtin.copy_ #[t,t] ty #[.slice (some ⟨b,(i+1)*sz,none⟩) (n-i) dc, .slice (some ⟨b,i*sz,none⟩) (n+1-i) sc]).run P w.drew= .ok u1 W1)->
  (∀ty dc,(Builtin.copy_ #[t,t] ty #[.slice (some ⟨b,i*sz,none⟩) (n+1-i) dc, .slice (some ad) 1 vc]).run P W1= .ok u2 W2)->
  Calls P f #[.slice (some ⟨b,0,none⟩) n c, .int .i64 i, .slice (some ad) 1 vc] w fun e w1=>e= .returned (.slice (some ⟨b,0,none⟩) (n+1) c)/\w1=W2
 grow: ∀ (b g n c G i:Nat) (ad:Addr) (vc:Nat) (w W0 W1 W2:World) (u1 u2:Value),i<n->n<=c->c<n+1->n+1<=G->n<=2 ^ 40->
  (∀ty,(Builtin.append_ #[t,tn] ty #[.slice (some ⟨b,0,none⟩) i c, .int .i64 ((n:Int)+1-(i:Int))]).run P w= .ok (.slice (some ⟨g,0,none⟩) (n+1) G) W0)->
  (∀ty dc,(Builtin.copy_ #[t,t] ty #[.slice (some ⟨g,i*sz,none⟩) (n+1-i) dc, .slice (some ad) 1 vc]).run P W0= .ok u1 W1)->
  (∀ty dc sc,(Builtin.copy_ #[t,t] ty #[.slice (some ⟨g,(i+1)*sz,none⟩) (n-i) dc, .slice (some ⟨b,i*sz,none⟩) (n-i) sc]).run P W1.drew= .ok u2 W2)->
  Calls P f #[.slice (some ⟨b,0,none⟩) n c, .int .i64 i, .slice (some ad) 1 vc] w fun e w1=>e= .returned (.slice (some ⟨g,0,none⟩) (n+1) G)/\w1=W2
end
end
section
open Go
structure Hd where
 a:Option Addr
 n:Nat
 c:Nat
 deriving DecidableEq,Inhabited
structure Op where
 client:Int
 seq:Int
 kind:Int
 object:Int
 old:Int
 value:Int
 deriving DecidableEq,Inhabited
structure Result where
 done:Bool
 value:Int
 deriving DecidableEq,Inhabited
structure ej where
 client:Int
 seq:Int
 result:Result
 deriving DecidableEq,Inhabited
structure fF where
 objects:List Int
 sessions:List ej
 deriving DecidableEq,Inhabited
structure dY where
 epoch:Int
 op:Op
 deriving DecidableEq,Inhabited
structure AY where
 count:Int
 digest:Int
 machine:fF
 deriving DecidableEq,Inhabited
structure dR where
 epoch:Int
 primary:Int
 replicas:List Int
 witnesses:List Int
 deriving DecidableEq,Inhabited
structure eD where
 rack:Int
 capacity:Int
 load:Int
 deriving DecidableEq,Inhabited
structure dW where
 configs:List dR
 activated:Int
 deriving DecidableEq,Inhabited
structure fL where
 epoch:Int
 holder:Int
 ends:Int
 deriving DecidableEq,Inhabited
structure dQ where
 up:Bool
 intact:Bool
 version:Int
 epoch:Int
 config:dR
 first:Int
 log:List dY
 commit:Int
 learned:List dY
 deriving DecidableEq,Inhabited
structure dN where
 now:Int
 servers:List dQ
 sides:List Int
 master:dW
 masterUp:Int
 lease:fL
 places:List eD
 deriving DecidableEq,Inhabited
structure j8 where
 code:Int
 result:Result
 index:Int
 deriving DecidableEq,Inhabited
structure SB where
 op:Op
 index:Int
 deriving DecidableEq,Inhabited
structure fk where
 kind:Int
 server:Int
 other:Int
 n:Int
 op:Op
 deriving DecidableEq,Inhabited
structure HW where
 server:Int
 index:Int
 deriving DecidableEq,Inhabited
structure Qh where
 start:Int
 event:Int
 read:Bool
 index:Int
 value:Int
 op:Op
 deriving DecidableEq,Inhabited
structure fT where
 b:Hd
 i:Int
 h:Int
 deriving DecidableEq,Inhabited
inductive Sn where
 |op|result|session|machine|entry|snapshot|config|place|masterLog|lease|server|cluster|reply|ack|event|damage|mark|cur
 deriving DecidableEq,Inhabited
abbrev Sn.D:Sn->Type
 | .op=>Op
 | .result=>Result
 | .session=>ej
 | .machine=>fF
 | .entry=>dY
 | .snapshot=>AY
 | .config=>dR
 | .place=>eD
 | .masterLog=>dW
 | .lease=>fL
 | .server=>dQ
 | .cluster=>dN
 | .reply=>j8
 | .ack=>SB
 | .event=>fk
 | .damage=>HW
 | .mark=>Qh
 | .cur=>fT
inductive Ty where|i (k:IntKind)|b|s|h|st (n:Sn)|ls (t:Ty)
 deriving DecidableEq,Inhabited
abbrev Ty.D:Ty->Type
 | .i _=>Int| .b=>Bool| .s=>ByteArray| .h=>Hd| .st n=>n.D| .ls t=>List t.D
inductive C where|sc (v:Value)|ls (t:Ty) (l:List t.D)
 deriving Inhabited
def Sn.flat: (n:Sn)->n.D->List C
 | .op,x=> [.sc (.int .i64 x.client), .sc (.int .i64 x.seq), .sc (.int .i64 x.kind), .sc (.int .i64 x.object), .sc (.int .i64 x.old), .sc (.int .i64 x.value)]
 | .result,x=> [.sc (.bool x.done), .sc (.int .i64 x.value)]
 | .session,x=> [.sc (.int .i64 x.client), .sc (.int .i64 x.seq), .sc (.bool x.result.done), .sc (.int .i64 x.result.value)]
 | .machine,x=> [.ls (.i .i64) x.objects, .ls (.st .session) x.sessions]
 | .entry,x=> [.sc (.int .i64 x.epoch), .sc (.int .i64 x.op.client), .sc (.int .i64 x.op.seq), .sc (.int .i64 x.op.kind), .sc (.int .i64 x.op.object), .sc (.int .i64 x.op.old), .sc (.int .i64 x.op.value)]
 | .snapshot,x=> [.sc (.int .i64 x.count), .sc (.int .i64 x.digest), .ls (.i .i64) x.machine.objects, .ls (.st .session) x.machine.sessions]
 | .config,x=> [.sc (.int .i64 x.epoch), .sc (.int .i64 x.primary), .ls (.i .i64) x.replicas, .ls (.i .i64) x.witnesses]
 | .place,x=> [.sc (.int .i64 x.rack), .sc (.int .i64 x.capacity), .sc (.int .i64 x.load)]
 | .masterLog,x=> [.ls (.st .config) x.configs, .sc (.int .i64 x.activated)]
 | .lease,x=> [.sc (.int .i64 x.epoch), .sc (.int .i64 x.holder), .sc (.int .i64 x.ends)]
 | .server,x=> [.sc (.bool x.up), .sc (.bool x.intact), .sc (.int .i64 x.version), .sc (.int .i64 x.epoch), .sc (.int .i64 x.config.epoch), .sc (.int .i64 x.config.primary), .ls (.i .i64) x.config.replicas, .ls (.i .i64) x.config.witnesses, .sc (.int .i64 x.first), .ls (.st .entry) x.log, .sc (.int .i64 x.commit), .ls (.st .entry) x.learned]
 | .cluster,x=> [.sc (.int .i64 x.now), .ls (.st .server) x.servers, .ls (.i .i64) x.sides, .ls (.st .config) x.master.configs, .sc (.int .i64 x.master.activated), .sc (.int .i64 x.masterUp), .sc (.int .i64 x.lease.epoch), .sc (.int .i64 x.lease.holder), .sc (.int .i64 x.lease.ends), .ls (.st .place) x.places]
 | .reply,x=> [.sc (.int .i64 x.code), .sc (.bool x.result.done), .sc (.int .i64 x.result.value), .sc (.int .i64 x.index)]
 | .ack,x=> [.sc (.int .i64 x.op.client), .sc (.int .i64 x.op.seq), .sc (.int .i64 x.op.kind), .sc (.int .i64 x.op.object), .sc (.int .i64 x.op.old), .sc (.int .i64 x.op.value), .sc (.int .i64 x.index)]
 | .event,x=> [.sc (.int .i64 x.kind), .sc (.int .i64 x.server), .sc (.int .i64 x.other), .sc (.int .i64 x.n), .sc (.int .i64 x.op.client), .sc (.int .i64 x.op.seq), .sc (.int .i64 x.op.kind), .sc (.int .i64 x.op.object), .sc (.int .i64 x.op.old), .sc (.int .i64 x.op.value)]
 | .damage,x=> [.sc (.int .i64 x.server), .sc (.int .i64 x.index)]
 | .mark,x=> [.sc (.int .i64 x.start), .sc (.int .i64 x.event), .sc (.bool x.read), .sc (.int .i64 x.index), .sc (.int .i64 x.value), .sc (.int .i64 x.op.client), .sc (.int .i64 x.op.seq), .sc (.int .i64 x.op.kind), .sc (.int .i64 x.op.object), .sc (.int .i64 x.op.old), .sc (.int .i64 x.op.value)]
 | .cur,x=> [.sc (.slice x.b.a x.b.n x.b.c), .sc (.int .i64 x.i), .sc (.int .i64 x.h)]
def Ty.flat: (t:Ty)->t.D->List C
 | .i k,n=> [.sc (.int k n)] | .b,v=> [.sc (.bool v)] | .s,v=> [.sc (.string v)] | .h,v=> [.sc (.slice v.a v.n v.c)] | .st n,x=>n.flat x| .ls t,l=> [.ls t l]
def Sn.width:Sn->Nat
 | .op=>6| .result=>2| .session=>4| .machine=>2| .entry=>7| .snapshot=>4| .config=>4| .place=>3| .masterLog=>2| .lease=>3| .server=>12| .cluster=>10| .reply=>4| .ack=>7| .event=>10| .damage=>2| .mark=>11| .cur=>3
def Ty.width:Ty->Nat| .st n=>n.width| _=>1
def Sn.csh:Sn->List (Option Ty)
 | .op=> [none,none,none,none,none,none]
 | .result=> [none,none]
 | .session=> [none,none,none,none]
 | .machine=> [some (.i .i64),some (.st .session)]
 | .entry=> [none,none,none,none,none,none,none]
 | .snapshot=> [none,none,some (.i .i64),some (.st .session)]
 | .config=> [none,none,some (.i .i64),some (.i .i64)]
 | .place=> [none,none,none]
 | .masterLog=> [some (.st .config),none]
 | .lease=> [none,none,none]
 | .server=> [none,none,none,none,none,none,some (.i .i64),some (.i .i64),none,some (.st .entry),none,some (.st .entry)]
 | .cluster=> [none,some (.st .server),some (.i .i64),some (.st .config),none,none,none,none,none,some (.st .place)]
 | .reply=> [none,none,none,none]
 | .ack=> [none,none,none,none,none,none,none]
 | .event=> [none,none,none,none,none,none,none,none,none,none]
 | .damage=> [none,none]
 | .mark=> [none,none,none,none,none,none,none,none,none,none,none]
 | .cur=> [none,none,none]
def Ty.csh:Ty->List (Option Ty)| .st n=>n.csh| .ls t=> [some t] | _=> [none]
def Sn.zvs:Sn->List Value
 | .op=> [.int .i64 0, .int .i64 0, .int .i64 0, .int .i64 0, .int .i64 0, .int .i64 0]
 | .result=> [.bool false, .int .i64 0]
 | .session=> [.int .i64 0, .int .i64 0, .bool false, .int .i64 0]
 | .machine=> [.slice none 0 0, .slice none 0 0]
 | .entry=> [.int .i64 0, .int .i64 0, .int .i64 0, .int .i64 0, .int .i64 0, .int .i64 0, .int .i64 0]
 | .snapshot=> [.int .i64 0, .int .i64 0, .slice none 0 0, .slice none 0 0]
 | .config=> [.int .i64 0, .int .i64 0, .slice none 0 0, .slice none 0 0]
 | .place=> [.int .i64 0, .int .i64 0, .int .i64 0]
 | .masterLog=> [.slice none 0 0, .int .i64 0]
 | .lease=> [.int .i64 0, .int .i64 0, .int .i64 0]
 | .server=> [.bool false, .bool false, .int .i64 0, .int .i64 0, .int .i64 0, .int .i64 0, .slice none 0 0, .slice none 0 0, .int .i64 0, .slice none 0 0, .int .i64 0, .slice none 0 0]
 | .cluster=> [.int .i64 0, .slice none 0 0, .slice none 0 0, .slice none 0 0, .int .i64 0, .int .i64 0, .int .i64 0, .int .i64 0, .int .i64 0, .slice none 0 0]
 | .reply=> [.int .i64 0, .bool false, .int .i64 0, .int .i64 0]
 | .ack=> [.int .i64 0, .int .i64 0, .int .i64 0, .int .i64 0, .int .i64 0, .int .i64 0, .int .i64 0]
 | .event=> [.int .i64 0, .int .i64 0, .int .i64 0, .int .i64 0, .int .i64 0, .int .i64 0, .int .i64 0, .int .i64 0, .int .i64 0, .int .i64 0]
 | .damage=> [.int .i64 0, .int .i64 0]
 | .mark=> [.int .i64 0, .int .i64 0, .bool false, .int .i64 0, .int .i64 0, .int .i64 0, .int .i64 0, .int .i64 0, .int .i64 0, .int .i64 0, .int .i64 0]
 | .cur=> [.nilFunc, .int .i64 0, .int .i64 0]
def Ty.zvs:Ty->List Value| .i k=> [.int k 0] | .b=> [.bool false] | .s=> [.string ByteArray.empty] | .h=> [.nilFunc] | .st n=>n.zvs| .ls _=> [.slice none 0 0]
def gI (k:IntKind) {α:Type} (cs:List C) (f:Int->List C->Option α):Option α:=match cs with | .sc (.int k' n)::r=>if k'=k then f n r else none| _=>none
def gB {α:Type} (cs:List C) (f:Bool->List C->Option α):Option α:=match cs with | .sc (.bool v)::r=>f v r| _=>none
def gS {α:Type} (cs:List C) (f:ByteArray->List C->Option α):Option α:=match cs with | .sc (.string v)::r=>f v r| _=>none
def gH {α:Type} (cs:List C) (f:Hd->List C->Option α):Option α:=match cs with | .sc (.slice a n c)::r=>f ⟨a,n,c⟩ r| _=>none
def gL (t:Ty) {α:Type} (cs:List C) (f:List t.D->List C->Option α):Option α:=match cs with | .ls t' l::r=>if h:t'=t then f (h ▸ l) r else none| _=>none
def gN {α:Type} (cs:List C) (x:α):Option α:=match cs with | [] =>some x| _=>none
def Sn.unflat: (n:Sn)->List C->Option n.D
 | .op,cs=>gI .i64 cs fun a0 r0=>gI .i64 r0 fun a1 r1=>gI .i64 r1 fun a2 r2=>gI .i64 r2 fun a3 r3=>gI .i64 r3 fun a4 r4=>gI .i64 r4 fun a5 r5=>gN r5 (⟨a0,a1,a2,a3,a4,a5⟩:Op)
 | .result,cs=>gB cs fun a0 r0=>gI .i64 r0 fun a1 r1=>gN r1 (⟨a0,a1⟩:Result)
 | .session,cs=>gI .i64 cs fun a0 r0=>gI .i64 r0 fun a1 r1=>gB r1 fun a2 r2=>gI .i64 r2 fun a3 r3=>gN r3 (⟨a0,a1,⟨a2,a3⟩⟩:ej)
 | .machine,cs=>gL (.i .i64) cs fun a0 r0=>gL (.st .session) r0 fun a1 r1=>gN r1 (⟨a0,a1⟩:fF)
 | .entry,cs=>gI .i64 cs fun a0 r0=>gI .i64 r0 fun a1 r1=>gI .i64 r1 fun a2 r2=>gI .i64 r2 fun a3 r3=>gI .i64 r3 fun a4 r4=>gI .i64 r4 fun a5 r5=>gI .i64 r5 fun a6 r6=>gN r6 (⟨a0,⟨a1,a2,a3,a4,a5,a6⟩⟩:dY)
 | .snapshot,cs=>gI .i64 cs fun a0 r0=>gI .i64 r0 fun a1 r1=>gL (.i .i64) r1 fun a2 r2=>gL (.st .session) r2 fun a3 r3=>gN r3 (⟨a0,a1,⟨a2,a3⟩⟩:AY)
 | .config,cs=>gI .i64 cs fun a0 r0=>gI .i64 r0 fun a1 r1=>gL (.i .i64) r1 fun a2 r2=>gL (.i .i64) r2 fun a3 r3=>gN r3 (⟨a0,a1,a2,a3⟩:dR)
 | .place,cs=>gI .i64 cs fun a0 r0=>gI .i64 r0 fun a1 r1=>gI .i64 r1 fun a2 r2=>gN r2 (⟨a0,a1,a2⟩:eD)
 | .masterLog,cs=>gL (.st .config) cs fun a0 r0=>gI .i64 r0 fun a1 r1=>gN r1 (⟨a0,a1⟩:dW)
 | .lease,cs=>gI .i64 cs fun a0 r0=>gI .i64 r0 fun a1 r1=>gI .i64 r1 fun a2 r2=>gN r2 (⟨a0,a1,a2⟩:fL)
 | .server,cs=>gB cs fun a0 r0=>gB r0 fun a1 r1=>gI .i64 r1 fun a2 r2=>gI .i64 r2 fun a3 r3=>gI .i64 r3 fun a4 r4=>gI .i64 r4 fun a5 r5=>gL (.i .i64) r5 fun a6 r6=>gL (.i .i64) r6 fun a7 r7=>gI .i64 r7 fun a8 r8=>gL (.st .entry) r8 fun a9 r9=>gI .i64 r9 fun a10 r10=>gL (.st .entry) r10 fun a11 r11=>gN r11 (⟨a0,a1,a2,a3,⟨a4,a5,a6,a7⟩,a8,a9,a10,a11⟩:dQ)
 | .cluster,cs=>gI .i64 cs fun a0 r0=>gL (.st .server) r0 fun a1 r1=>gL (.i .i64) r1 fun a2 r2=>gL (.st .config) r2 fun a3 r3=>gI .i64 r3 fun a4 r4=>gI .i64 r4 fun a5 r5=>gI .i64 r5 fun a6 r6=>gI .i64 r6 fun a7 r7=>gI .i64 r7 fun a8 r8=>gL (.st .place) r8 fun a9 r9=>gN r9 (⟨a0,a1,a2,⟨a3,a4⟩,a5,⟨a6,a7,a8⟩,a9⟩:dN)
 | .reply,cs=>gI .i64 cs fun a0 r0=>gB r0 fun a1 r1=>gI .i64 r1 fun a2 r2=>gI .i64 r2 fun a3 r3=>gN r3 (⟨a0,⟨a1,a2⟩,a3⟩:j8)
 | .ack,cs=>gI .i64 cs fun a0 r0=>gI .i64 r0 fun a1 r1=>gI .i64 r1 fun a2 r2=>gI .i64 r2 fun a3 r3=>gI .i64 r3 fun a4 r4=>gI .i64 r4 fun a5 r5=>gI .i64 r5 fun a6 r6=>gN r6 (⟨⟨a0,a1,a2,a3,a4,a5⟩,a6⟩:SB)
 | .event,cs=>gI .i64 cs fun a0 r0=>gI .i64 r0 fun a1 r1=>gI .i64 r1 fun a2 r2=>gI .i64 r2 fun a3 r3=>gI .i64 r3 fun a4 r4=>gI .i64 r4 fun a5 r5=>gI .i64 r5 fun a6 r6=>gI .i64 r6 fun a7 r7=>gI .i64 r7 fun a8 r8=>gI .i64 r8 fun a9 r9=>gN r9 (⟨a0,a1,a2,a3,⟨a4,a5,a6,a7,a8,a9⟩⟩:fk)
 | .damage,cs=>gI .i64 cs fun a0 r0=>gI .i64 r0 fun a1 r1=>gN r1 (⟨a0,a1⟩:HW)
 | .mark,cs=>gI .i64 cs fun a0 r0=>gI .i64 r0 fun a1 r1=>gB r1 fun a2 r2=>gI .i64 r2 fun a3 r3=>gI .i64 r3 fun a4 r4=>gI .i64 r4 fun a5 r5=>gI .i64 r5 fun a6 r6=>gI .i64 r6 fun a7 r7=>gI .i64 r7 fun a8 r8=>gI .i64 r8 fun a9 r9=>gI .i64 r9 fun a10 r10=>gN r10 (⟨a0,a1,a2,a3,a4,⟨a5,a6,a7,a8,a9,a10⟩⟩:Qh)
 | .cur,cs=>gH cs fun a0 r0=>gI .i64 r0 fun a1 r1=>gI .i64 r1 fun a2 r2=>gN r2 (⟨a0,a1,a2⟩:fT)
def Ty.unflat: (t:Ty)->List C->Option t.D
 | .i k,cs=>gI k cs fun n r=>gN r n| .b,cs=>gB cs fun n r=>gN r n| .s,cs=>gS cs fun n r=>gN r n| .h,cs=>gH cs fun n r=>gN r n| .st n,cs=>n.unflat cs| .ls t,cs=>gL t cs fun l r=>gN r l
def Rk (x:Op):List T:= [.sc (.int .i64 x.client), .sc (.int .i64 x.seq), .sc (.int .i64 x.kind), .sc (.int .i64 x.object), .sc (.int .i64 x.old), .sc (.int .i64 x.value)]
def Kx (x:Result):List T:= [.sc (.bool x.done), .sc (.int .i64 x.value)]
def we (x:ej):List T:= [.sc (.int .i64 x.client), .sc (.int .i64 x.seq), .sc (.bool x.result.done), .sc (.int .i64 x.result.value)]
def HX (x:fF):List T:= [.sl 1 (x.objects.map fun n=> [.sc (.int .i64 n)]), .sl 4 (x.sessions.map we)]
def AZ (x:dY):List T:= [.sc (.int .i64 x.epoch), .sc (.int .i64 x.op.client), .sc (.int .i64 x.op.seq), .sc (.int .i64 x.op.kind), .sc (.int .i64 x.op.object), .sc (.int .i64 x.op.old), .sc (.int .i64 x.op.value)]
def F4 (x:AY):List T:= [.sc (.int .i64 x.count), .sc (.int .i64 x.digest), .sl 1 (x.machine.objects.map fun n=> [.sc (.int .i64 n)]), .sl 4 (x.machine.sessions.map we)]
def yj (x:dR):List T:= [.sc (.int .i64 x.epoch), .sc (.int .i64 x.primary), .sl 1 (x.replicas.map fun n=> [.sc (.int .i64 n)]), .sl 1 (x.witnesses.map fun n=> [.sc (.int .i64 n)])]
def F5 (x:eD):List T:= [.sc (.int .i64 x.rack), .sc (.int .i64 x.capacity), .sc (.int .i64 x.load)]
def Eb (x:dW):List T:= [.sl 4 (x.configs.map yj), .sc (.int .i64 x.activated)]
def LP (x:fL):List T:= [.sc (.int .i64 x.epoch), .sc (.int .i64 x.holder), .sc (.int .i64 x.ends)]
def Dr (x:dQ):List T:= [.sc (.bool x.up), .sc (.bool x.intact), .sc (.int .i64 x.version), .sc (.int .i64 x.epoch), .sc (.int .i64 x.config.epoch), .sc (.int .i64 x.config.primary), .sl 1 (x.config.replicas.map fun n=> [.sc (.int .i64 n)]), .sl 1 (x.config.witnesses.map fun n=> [.sc (.int .i64 n)]), .sc (.int .i64 x.first), .sl 7 (x.log.map AZ), .sc (.int .i64 x.commit), .sl 7 (x.learned.map AZ)]
def HY (x:dN):List T:= [.sc (.int .i64 x.now), .sl 12 (x.servers.map Dr), .sl 1 (x.sides.map fun n=> [.sc (.int .i64 n)]), .sl 4 (x.master.configs.map yj), .sc (.int .i64 x.master.activated), .sc (.int .i64 x.masterUp), .sc (.int .i64 x.lease.epoch), .sc (.int .i64 x.lease.holder), .sc (.int .i64 x.lease.ends), .sl 3 (x.places.map F5)]
def LQ (x:j8):List T:= [.sc (.int .i64 x.code), .sc (.bool x.result.done), .sc (.int .i64 x.result.value), .sc (.int .i64 x.index)]
def Qi (x:SB):List T:= [.sc (.int .i64 x.op.client), .sc (.int .i64 x.op.seq), .sc (.int .i64 x.op.kind), .sc (.int .i64 x.op.object), .sc (.int .i64 x.op.old), .sc (.int .i64 x.op.value), .sc (.int .i64 x.index)]
def LR (x:fk):List T:= [.sc (.int .i64 x.kind), .sc (.int .i64 x.server), .sc (.int .i64 x.other), .sc (.int .i64 x.n), .sc (.int .i64 x.op.client), .sc (.int .i64 x.op.seq), .sc (.int .i64 x.op.kind), .sc (.int .i64 x.op.object), .sc (.int .i64 x.op.old), .sc (.int .i64 x.op.value)]
def Ky (x:HW):List T:= [.sc (.int .i64 x.server), .sc (.int .i64 x.index)]
def N6 (x:Qh):List T:= [.sc (.int .i64 x.start), .sc (.int .i64 x.event), .sc (.bool x.read), .sc (.int .i64 x.index), .sc (.int .i64 x.value), .sc (.int .i64 x.op.client), .sc (.int .i64 x.op.seq), .sc (.int .i64 x.op.kind), .sc (.int .i64 x.op.object), .sc (.int .i64 x.op.old), .sc (.int .i64 x.op.value)]
def mL (x:fT):List T:= [.sc (.slice x.b.a x.b.n x.b.c), .sc (.int .i64 x.i), .sc (.int .i64 x.h)]
def Sn.row: (n:Sn)->n.D->List T
 | .op,x=>Rk x
 | .result,x=>Kx x
 | .session,x=>we x
 | .machine,x=>HX x
 | .entry,x=>AZ x
 | .snapshot,x=>F4 x
 | .config,x=>yj x
 | .place,x=>F5 x
 | .masterLog,x=>Eb x
 | .lease,x=>LP x
 | .server,x=>Dr x
 | .cluster,x=>HY x
 | .reply,x=>LQ x
 | .ack,x=>Qi x
 | .event,x=>LR x
 | .damage,x=>Ky x
 | .mark,x=>N6 x
 | .cur,x=>mL x
def Ty.row: (t:Ty)->t.D->List T
 | .i k,n=> [.sc (.int k n)] | .b,v=> [.sc (.bool v)] | .s,v=> [.sc (.string v)] | .h,v=> [.sc (.slice v.a v.n v.c)] | .st n,x=>n.row x| .ls t,l=> [.sl t.width (l.map t.row)]
def C.tree:C->T| .sc v=> .sc v| .ls t l=> .sl t.width (l.map t.row)
def C.good:C->Bool| .sc v=>ot v| .ls _ _=>true
theorem Ty.row_flat (t:Ty) (x:t.D):t.row x=(t.flat x).map C.tree:=by
 cases t with
 |st n=>cases n<;>rfl
 | _=>rfl
theorem Ty.flat_length (t:Ty) (x:t.D): (t.flat x).length=t.width:=by
 cases t with
 |st n=>cases n<;>rfl
 | _=>rfl
theorem Ty.row_length (t:Ty) (x:t.D): (t.row x).length=t.width:=by rw[t.row_flat,aK,t.flat_length]
theorem ec {k:IntKind} {α:Type} {cs:List C} {f:Int->List C->Option α} {y:α} (h:gI k cs f=some y): ∃n r,cs= .sc (.int k n)::r/\f n r=some y:=by
 unfold gI at h;split at h
 ·split at h
  ·rename_i hk; subst hk; exact⟨_,_,rfl,h⟩
  ·cases h
 ·cases h
theorem s6 {α:Type} {cs:List C} {f:Bool->List C->Option α} {y:α} (h:gB cs f=some y): ∃n r,cs= .sc (.bool n)::r/\f n r=some y:=by
 unfold gB at h;split at h
 ·exact⟨_,_,rfl,h⟩
 ·cases h
theorem N7 {α:Type} {cs:List C} {f:ByteArray->List C->Option α} {y:α} (h:gS cs f=some y): ∃n r,cs= .sc (.string n)::r/\f n r=some y:=by
 unfold gS at h;split at h
 ·exact⟨_,_,rfl,h⟩
 ·cases h
theorem Jg {α:Type} {cs:List C} {f:Hd->List C->Option α} {y:α} (h:gH cs f=some y): ∃n r,cs= .sc (.slice n.a n.n n.c)::r/\f n r=some y:=by
 unfold gH at h;split at h
 ·exact⟨_,_,rfl,h⟩
 ·cases h
theorem jH {t:Ty} {α:Type} {cs:List C} {f:List t.D->List C->Option α} {y:α} (h:gL t cs f=some y): ∃n r,cs= .ls t n::r/\f n r=some y:=by
 unfold gL at h;split at h
 ·split at h
  ·rename_i hk; subst hk; exact⟨_,_,rfl,h⟩
  ·cases h
 ·cases h
theorem gE {α:Type} {cs:List C} {x y:α} (h:gN cs x=some y):cs= [] /\x=y:=by
 unfold gN at h;split at h
 ·simp only[af] at h; exact⟨rfl,h⟩
 ·cases h
theorem Sn.unflat_some: ∀ (n:Sn) (cs:List C) (x:n.D),n.unflat cs=some x->n.flat x=cs
 | .op,cs,x,h=>by unfold Sn.unflat at h;obtain⟨a0,r0,h0,h⟩:=ec h;obtain⟨a1,r1,h1,h⟩:=ec h;obtain⟨a2,r2,h2,h⟩:=ec h;obtain⟨a3,r3,h3,h⟩:=ec h;obtain⟨a4,r4,h4,h⟩:=ec h;obtain⟨a5,r5,h5,h⟩:=ec h;obtain⟨e,h⟩:=gE h;subst h e h5 h4 h3 h2 h1 h0;rfl
 | .result,cs,x,h=>by unfold Sn.unflat at h;obtain⟨a0,r0,h0,h⟩:=s6 h;obtain⟨a1,r1,h1,h⟩:=ec h;obtain⟨e,h⟩:=gE h;subst h e h1 h0;rfl
 | .session,cs,x,h=>by unfold Sn.unflat at h;obtain⟨a0,r0,h0,h⟩:=ec h;obtain⟨a1,r1,h1,h⟩:=ec h;obtain⟨a2,r2,h2,h⟩:=s6 h;obtain⟨a3,r3,h3,h⟩:=ec h;obtain⟨e,h⟩:=gE h;subst h e h3 h2 h1 h0;rfl
 | .machine,cs,x,h=>by unfold Sn.unflat at h;obtain⟨a0,r0,h0,h⟩:=jH h;obtain⟨a1,r1,h1,h⟩:=jH h;obtain⟨e,h⟩:=gE h;subst h e h1 h0;rfl
 | .entry,cs,x,h=>by unfold Sn.unflat at h;obtain⟨a0,r0,h0,h⟩:=ec h;obtain⟨a1,r1,h1,h⟩:=ec h;obtain⟨a2,r2,h2,h⟩:=ec h;obtain⟨a3,r3,h3,h⟩:=ec h;obtain⟨a4,r4,h4,h⟩:=ec h;obtain⟨a5,r5,h5,h⟩:=ec h;obtain⟨a6,r6,h6,h⟩:=ec h;obtain⟨e,h⟩:=gE h;subst h e h6 h5 h4 h3 h2 h1 h0;rfl
 | .snapshot,cs,x,h=>by unfold Sn.unflat at h;obtain⟨a0,r0,h0,h⟩:=ec h;obtain⟨a1,r1,h1,h⟩:=ec h;obtain⟨a2,r2,h2,h⟩:=jH h;obtain⟨a3,r3,h3,h⟩:=jH h;obtain⟨e,h⟩:=gE h;subst h e h3 h2 h1 h0;rfl
 | .config,cs,x,h=>by unfold Sn.unflat at h;obtain⟨a0,r0,h0,h⟩:=ec h;obtain⟨a1,r1,h1,h⟩:=ec h;obtain⟨a2,r2,h2,h⟩:=jH h;obtain⟨a3,r3,h3,h⟩:=jH h;obtain⟨e,h⟩:=gE h;subst h e h3 h2 h1 h0;rfl
 | .place,cs,x,h=>by unfold Sn.unflat at h;obtain⟨a0,r0,h0,h⟩:=ec h;obtain⟨a1,r1,h1,h⟩:=ec h;obtain⟨a2,r2,h2,h⟩:=ec h;obtain⟨e,h⟩:=gE h;subst h e h2 h1 h0;rfl
 | .masterLog,cs,x,h=>by unfold Sn.unflat at h;obtain⟨a0,r0,h0,h⟩:=jH h;obtain⟨a1,r1,h1,h⟩:=ec h;obtain⟨e,h⟩:=gE h;subst h e h1 h0;rfl
 | .lease,cs,x,h=>by unfold Sn.unflat at h;obtain⟨a0,r0,h0,h⟩:=ec h;obtain⟨a1,r1,h1,h⟩:=ec h;obtain⟨a2,r2,h2,h⟩:=ec h;obtain⟨e,h⟩:=gE h;subst h e h2 h1 h0;rfl
 | .server,cs,x,h=>by unfold Sn.unflat at h;obtain⟨a0,r0,h0,h⟩:=s6 h;obtain⟨a1,r1,h1,h⟩:=s6 h;obtain⟨a2,r2,h2,h⟩:=ec h;obtain⟨a3,r3,h3,h⟩:=ec h;obtain⟨a4,r4,h4,h⟩:=ec h;obtain⟨a5,r5,h5,h⟩:=ec h;obtain⟨a6,r6,h6,h⟩:=jH h;obtain⟨a7,r7,h7,h⟩:=jH h;obtain⟨a8,r8,h8,h⟩:=ec h;obtain⟨a9,r9,h9,h⟩:=jH h;obtain⟨a10,r10,h10,h⟩:=ec h;obtain⟨a11,r11,h11,h⟩:=jH h;obtain⟨e,h⟩:=gE h;subst h e h11 h10 h9 h8 h7 h6 h5 h4 h3 h2 h1 h0;rfl
 | .cluster,cs,x,h=>by unfold Sn.unflat at h;obtain⟨a0,r0,h0,h⟩:=ec h;obtain⟨a1,r1,h1,h⟩:=jH h;obtain⟨a2,r2,h2,h⟩:=jH h;obtain⟨a3,r3,h3,h⟩:=jH h;obtain⟨a4,r4,h4,h⟩:=ec h;obtain⟨a5,r5,h5,h⟩:=ec h;obtain⟨a6,r6,h6,h⟩:=ec h;obtain⟨a7,r7,h7,h⟩:=ec h;obtain⟨a8,r8,h8,h⟩:=ec h;obtain⟨a9,r9,h9,h⟩:=jH h;obtain⟨e,h⟩:=gE h;subst h e h9 h8 h7 h6 h5 h4 h3 h2 h1 h0;rfl
 | .reply,cs,x,h=>by unfold Sn.unflat at h;obtain⟨a0,r0,h0,h⟩:=ec h;obtain⟨a1,r1,h1,h⟩:=s6 h;obtain⟨a2,r2,h2,h⟩:=ec h;obtain⟨a3,r3,h3,h⟩:=ec h;obtain⟨e,h⟩:=gE h;subst h e h3 h2 h1 h0;rfl
 | .ack,cs,x,h=>by unfold Sn.unflat at h;obtain⟨a0,r0,h0,h⟩:=ec h;obtain⟨a1,r1,h1,h⟩:=ec h;obtain⟨a2,r2,h2,h⟩:=ec h;obtain⟨a3,r3,h3,h⟩:=ec h;obtain⟨a4,r4,h4,h⟩:=ec h;obtain⟨a5,r5,h5,h⟩:=ec h;obtain⟨a6,r6,h6,h⟩:=ec h;obtain⟨e,h⟩:=gE h;subst h e h6 h5 h4 h3 h2 h1 h0;rfl
 | .event,cs,x,h=>by unfold Sn.unflat at h;obtain⟨a0,r0,h0,h⟩:=ec h;obtain⟨a1,r1,h1,h⟩:=ec h;obtain⟨a2,r2,h2,h⟩:=ec h;obtain⟨a3,r3,h3,h⟩:=ec h;obtain⟨a4,r4,h4,h⟩:=ec h;obtain⟨a5,r5,h5,h⟩:=ec h;obtain⟨a6,r6,h6,h⟩:=ec h;obtain⟨a7,r7,h7,h⟩:=ec h;obtain⟨a8,r8,h8,h⟩:=ec h;obtain⟨a9,r9,h9,h⟩:=ec h;obtain⟨e,h⟩:=gE h;subst h e h9 h8 h7 h6 h5 h4 h3 h2 h1 h0;rfl
 | .damage,cs,x,h=>by unfold Sn.unflat at h;obtain⟨a0,r0,h0,h⟩:=ec h;obtain⟨a1,r1,h1,h⟩:=ec h;obtain⟨e,h⟩:=gE h;subst h e h1 h0;rfl
 | .mark,cs,x,h=>by unfold Sn.unflat at h;obtain⟨a0,r0,h0,h⟩:=ec h;obtain⟨a1,r1,h1,h⟩:=ec h;obtain⟨a2,r2,h2,h⟩:=s6 h;obtain⟨a3,r3,h3,h⟩:=ec h;obtain⟨a4,r4,h4,h⟩:=ec h;obtain⟨a5,r5,h5,h⟩:=ec h;obtain⟨a6,r6,h6,h⟩:=ec h;obtain⟨a7,r7,h7,h⟩:=ec h;obtain⟨a8,r8,h8,h⟩:=ec h;obtain⟨a9,r9,h9,h⟩:=ec h;obtain⟨a10,r10,h10,h⟩:=ec h;obtain⟨e,h⟩:=gE h;subst h e h10 h9 h8 h7 h6 h5 h4 h3 h2 h1 h0;rfl
 | .cur,cs,x,h=>by unfold Sn.unflat at h;obtain⟨a0,r0,h0,h⟩:=Jg h;obtain⟨a1,r1,h1,h⟩:=ec h;obtain⟨a2,r2,h2,h⟩:=ec h;obtain⟨e,h⟩:=gE h;subst h e h2 h1 h0;rfl
theorem Ty.unflat_some (t:Ty) (cs:List C) (x:t.D) (h:t.unflat cs=some x):t.flat x=cs:=by
 cases t with
 |i k=>obtain⟨n,r,h1,h⟩:=ec h; obtain⟨h2,h⟩:=gE h; subst h h2 h1; rfl
 |b=>obtain⟨n,r,h1,h⟩:=s6 h; obtain⟨h2,h⟩:=gE h; subst h h2 h1; rfl
 |s=>obtain⟨n,r,h1,h⟩:=N7 h; obtain⟨h2,h⟩:=gE h; subst h h2 h1; rfl
 |h=>have h:gH cs (fun n r=>gN r n)=some x:=h; obtain⟨n,r,h1,h⟩:=Jg h; obtain⟨h2,h⟩:=gE h; subst h h2 h1; rfl
 |st n=>exact n.unflat_some cs x h
 |ls t=>have h:gL t cs (fun l r=>gN r l)=some x:=h; obtain⟨n,r,h1,h⟩:=jH h; obtain⟨h2,h⟩:=gE h; subst h h2 h1; rfl
end
section
open Go
inductive Cl where
 |c (x:C)
 |em
 |own (p:eJ) (sz lo len:Nat) (w:Bool)
 |pro (cs:List C)
 |ptrB (n j:Nat)
 |ptrT (p:eJ) (sz i j:Nat)
 |dead
 deriving Inhabited
inductive V1 where
 |cl (x:Cl)
 |agg (cs:List Cl)
 |fn (f:FuncId) (cs:List Cl)
 deriving Inhabited
inductive V where
 |v (x:V1)
 |tup (l:List V1)
 deriving Inhabited
structure eA where
 t:Ty
 l:List t.D
 hole:Option (Nat×Nat)
structure TS where
 env:List (Nat×V)
 bx:List (List Cl)
 gh:List (Option eA)
 fz:Nat
 nt:Nat
structure TI where
 ty:Ty
 el:Nat
 fds:List (Nat×Nat×Bool)
 bytes:Nat
abbrev mM:=List (Nat×TI)
@[reducible] def V.c (x:C):V:= .v (.cl (.c x))
@[reducible] def V.sc (x:Value):V:= .v (.cl (.c (.sc x)))
@[reducible] def V.dead:V:= .v (.cl .dead)
def iV:List (Nat×V)->Nat->V
 | [],_=>V.dead
 | (t,v)::l,u=>bif Nat.beq t u then v else iV l u
def k9:mM->Nat->Option TI
 | [],_=>none
 | (t,v)::l,u=>bif Nat.beq t u then some v else k9 l u
def om {α:Type}:List α->Nat->Option α
 | [],_=>none
 |a::l,n=>bif Nat.beq n 0 then some a else om l (n-1)
def cC (v:Value):Cl:=match v with | .slice none 0 0=> .em|v=>bif ot v then .c (.sc v) else .dead
def cV:Value->V
 | .agg cs=>bif cs.toList.all Value.oneCell' then .v (.agg (cs.toList.map cC)) else V.dead
 |v=> .v (.cl (cC v))
def TS.opd (S:TS):Operand->V
 | .tmp t=>iV S.env t
 | .const v=>cV v
 | .func f=>V.sc (.func (.func f) #[] #[])
 | .global _=>V.dead
def V1.cells:V1->List Cl
 | .cl x=> [x]
 | .agg cs=>cs
 | .fn _ _=> [.dead]
def C.flatB:C->Bool| .sc _=>true| _=>false
def Ty.flatB (t:Ty):Bool:=t.csh.all (·.isNone)
section
variable {ρ:Type}
def br {α:Type} (b:Bool) (x y:α):α:=cond b x y
def iteP {α:Type} (c:Prop) [Decidable c] (x y:α):α:=if c then x else y
def F6 (S:TS) (x:Operand) (κ:Bool->TS->Option ρ):Option ρ:=match x with
 | .tmp t=>match iV S.env t with
   | .v (.cl (.c (.sc (.bool b))))=>br b (κ true { S with env:=(t,V.sc (.bool true))::S.env }) (κ false { S with env:=(t,V.sc (.bool false))::S.env })
   | _=>none
 | .const (.bool b)=>κ b S
 | _=>none
def HZ (v:V) (κ:Int->Option ρ):Option ρ:=match v with | .v (.cl (.c (.sc (.int _ n))))=>κ n| _=>none
def qs (S:TS) (p:eJ) (κ: (t:Ty)->List t.D->Option ρ):Option ρ:=match om S.gh p.r with
 |some (some tr)=>match tr.hole with
  |none=>match p.l with
   | [] =>κ tr.t tr.l
   | [(i,j)] =>(tr.l[i]?).bind fun x=>match om (tr.t.flat x) j with
     |some (.ls t l)=>κ t l
     | _=>none
   | _=>none
  |some _=>none
 | _=>none
def C.ro:C->Cl:=Cl.c
def H0 (p:eJ) (i j:Nat):C->Cl
 | .sc v=> .c (.sc v)
 | .ls t l=> .own ⟨p.r,p.l++ [(i,j)]⟩ t.width 0 l.length false
def yk {α β:Type} (f:Nat->α->β):Nat->List α->List β
 | _,[] => []
 |n,a::l=>f n a::yk f (n+1) l
def H1 (S:TS) (n:Nat) (v:Cl) (κ:List Cl->Option ρ):Option ρ:=match v with
 | .ptrB b j=>match om S.bx b with
   |some cs=>bif Nat.ble (j+n) cs.length then κ ((cs.drop j).take n) else none
   |none=>none
 | .pro cells=>bif Nat.ble n cells.length then κ ((cells.take n).map Cl.c) else none
 | .ptrT p sz i j=>qs S p fun t l=>bif Nat.beq t.width sz&&Nat.ble (j+n) sz then (l[i]?).bind fun x=>κ (yk (H0 p i) j (((t.flat x).drop j).take n)) else none
 | _=>none
def Sr (ag:Bool) (cs:List Cl) (κ:V->Option ρ):Option ρ:=bif ag then κ (.v (.agg cs)) else match cs with | [c] =>κ (.v (.cl c))| _=>none
def Ty.ag:Ty->Bool| .st _=>true| _=>false
def F7 (Θ:mM) (S:TS) (t:TypeId) (v:V) (κ:V->Option ρ):Option ρ:=match k9 Θ t with
 |some ti=>match v with | .v (.cl a)=>H1 S ti.ty.width a fun cs=>Sr ti.ty.ag cs κ| _=>none
 |none=>none
def LS (S:TS) (p:eJ) (κ:Int->Option ρ):Option ρ:=match p.l with
 | [] =>(match om S.gh p.r with |some (some tr)=>κ tr.l.length| _=>none)
 | _=>none
def Qj (n:Nat) (i:Int) (S:TS) (v:Cl) (κ:Cl->Option ρ):Option ρ:=match v with
 | .c (.ls t l)=>bif Nat.beq t.width n then iteP (0<=i) ((l[i.toNat]?).bind fun x=>κ (.pro (t.flat x))) none else none
 | .own p sz _ _ true=>bif Nat.beq sz n then LS S p fun m=>iteP (0<=i/\i<m) (κ (.ptrT p sz i.toNat 0)) none else none
 | .own p sz lo len false=>bif Nat.beq sz n then iteP (0<=i/\i<len) (κ (.ptrT p sz (lo+i.toNat) 0)) none else none
 | _=>none
def N8 (S:TS) (v:Cl) (κ:Int->Option ρ):Option ρ:=match v with
 | .c (.ls _ l)=>κ l.length
 | .own p _ _ _ true=>qs S p fun _ l=>κ l.length
 | .own _ _ _ len false=>κ len
 | .em=>κ 0
 | _=>none
def Qk (n:Nat) (lo hi:Int) (v:Cl) (κ:Cl->Option ρ):Option ρ:=match v with
 | .em=>iteP (lo=0/\hi=0) (κ .em) none
 | .c (.ls t l)=>bif Nat.beq t.width n then iteP (0<=lo/\lo<=hi/\hi<=l.length) (κ (.c (.ls t ((l.drop lo.toNat).take (hi.toNat-lo.toNat))))) none else none
 | .own p sz l len _=>bif Nat.beq sz n then iteP (0<=lo/\lo<=hi/\hi<=len) (κ (.own p sz (l+lo.toNat) (hi.toNat-lo.toNat) false)) none else none
 | _=>none
def Ec (S:TS) (d:Int) (x:Option Operand) (κ:Int->Option ρ):Option ρ:=match x with
 |none=>κ d
 |some x=>HZ (S.opd x) κ
def Kz:List (Nat×Nat×Bool)->List Cl->List (Nat×V)->Option (List Cl)
 | _,cs,[] =>some cs
 |pl,cs,(k,v)::r=>match om pl k with
  |some (off,n,_)=>match v with
   | .v x=>match x with
     | .cl .dead=>none
     | .fn _ _=>none
     |x=>bif Nat.beq x.cells.length n&&Nat.ble (off+n) cs.length then Kz pl (cs.take off++x.cells++cs.drop (off+n)) r else none
   | _=>none
  |none=>none
def F8:Value->Value->Option Bool
 | .int _ a, .int _ b=>some (a==b)
 | .bool a, .bool b=>some (a==b)
 | _,_=>none
def u5:List Cl->List Cl->Option Bool
 | [],[] =>some true
 | .c (.sc a)::l, .c (.sc b)::m=>match F8 a b,u5 l m with
   |some x,some y=>some (x&&y)
   | _,_=>none
 | _,_=>none
def la:List Value->List Cl->Bool
 | [],[] =>true
 | .int k _::zs, .c (.sc (.int k' _))::cs=>bif decide (k=k') then la zs cs else false
 | .bool _::zs, .c (.sc (.bool _))::cs=>la zs cs
 | _,_=>false
def V.ints (f:IntKind->Int->Int->Option ρ):V->V->Option ρ
 | .v (.cl (.c (.sc (.int k a)))), .v (.cl (.c (.sc (.int k' b))))=>if k=k' then f k a b else none
 | _,_=>none
def Tj (a b:ByteArray):Bool:=a.toList==b.toList
def Rb (Θ:mM) (t:TypeId) (x y:V) (κ:Bool->Option ρ):Option ρ:=match x,y with
 | .v (.cl (.c (.sc (.int k a)))), .v (.cl (.c (.sc (.int k' b))))=>if k=k' then κ (a==b) else none
 | .v (.cl (.c (.sc (.bool a)))), .v (.cl (.c (.sc (.bool b))))=>match k9 Θ t with
   |some ti=>match ti.ty with | .b=>κ (a==b)| _=>none
   |none=>none
 | .v (.cl (.c (.sc (.string a)))), .v (.cl (.c (.sc (.string b))))=>κ (Tj a b)
 | .v (.agg a), .v (.agg b)=>match k9 Θ t with
   |some ti=>bif ti.ty.ag&&ti.ty.flatB&&la ti.ty.zvs a&&la ti.ty.zvs b then (match u5 a b with |some r=>κ r|none=>none) else none
   |none=>none
 | _,_=>none
def Ql (x y:V) (κ:V->Option ρ):Option ρ:=match x,y with
 | .v (.cl (.c (.sc (.string a)))), .v (.cl (.c (.sc (.string b))))=>iteP (a.size+b.size<=2 ^ 40) (κ (V.sc (.string (a++b)))) none
 | _,_=>V.ints (fun k a b=>κ (V.sc (.int k (k.wrap (a+b))))) x y
def Qm (Θ:mM) (op:BinOp) (t:TypeId) (x y:V) (κ:V->Option ρ):Option ρ:=match op with
 | .lss=>V.ints (fun _ a b=>κ (V.sc (.bool (decide (a<b))))) x y
 | .leq=>V.ints (fun _ a b=>κ (V.sc (.bool (decide (a<=b))))) x y
 | .gtr=>V.ints (fun _ a b=>κ (V.sc (.bool (decide (a>b))))) x y
 | .geq=>V.ints (fun _ a b=>κ (V.sc (.bool (decide (a≥b))))) x y
 | .add=>Ql x y κ
 | .sub=>V.ints (fun k a b=>κ (V.sc (.int k (k.wrap (a-b))))) x y
 | .mul=>V.ints (fun k a b=>κ (V.sc (.int k (k.wrap (a*b))))) x y
 | .quo=>V.ints (fun k a b=>if b=0 then none else κ (V.sc (.int k (k.wrap (a.tdiv b))))) x y
 | .rem=>V.ints (fun k a b=>if b=0 then none else κ (V.sc (.int k (a.tmod b)))) x y
 | .eql=>Rb Θ t x y fun r=>κ (V.sc (.bool r))
 | .neq=>Rb Θ t x y fun r=>κ (V.sc (.bool (!r)))
 | _=>none
def F9:List V->Option (List Cl)
 | [] =>some []
 | .v (.cl c)::l=>match F9 l with |some r=>some (c::r)|none=>none
 | _=>none
def wg (Θ:mM) (S:TS) (o:Oper) (κ:V->TS->Option ρ):Option ρ:=
 let e:=S.opd
 match o.op with
 | .move x| .assign x=>κ (e x) S
 | .pick c a b=>F6 S c fun t S=>bif t then κ (S.opd a) S else κ (S.opd b) S
 | .load t a=>F7 Θ S t (e a) (fun v=>κ v S)
 | .nilCheck x=>match e x with
   | .v (.cl (.ptrB n j))=>κ (.v (.cl (.ptrB n j))) S
   | .v (.cl (.ptrT p sz i j))=>κ (.v (.cl (.ptrT p sz i j))) S
   | .v (.cl (.pro cs))=>κ (.v (.cl (.pro cs))) S
   | .v (.fn f cs)=>κ (.v (.fn f cs)) S
   | .v (.cl (.c (.sc (.func (.func f) a b))))=>κ (.v (.cl (.c (.sc (.func (.func f) a b))))) S
   | _=>none
 | .fieldAddr t x k=>match k9 Θ t with
   |some ti=>match om ti.fds k with
    |some (off,n,_)=>bif Nat.beq n 0 then none else match e x with
     | .v (.cl (.ptrB b j))=>κ (.v (.cl (.ptrB b (j+off)))) S
     | .v (.cl (.ptrT p sz i j))=>κ (.v (.cl (.ptrT p sz i (j+off)))) S
     | .v (.cl (.pro cs))=>κ (.v (.cl (.pro (cs.drop off)))) S
     | _=>none
    |none=>none
   |none=>none
 | .field t x k=>match k9 Θ t with
   |some ti=>match om ti.fds k with
    |some (off,n,ag)=>match e x with
     | .v (.agg cs)=>bif Nat.ble (off+n) cs.length&&Nat.blt 0 n then Sr ag ((cs.drop off).take n) (fun v=>κ v S) else none
     | _=>none
    |none=>none
   |none=>none
 | .indexAddr t x ix=>match k9 Θ t with
   |some ti=>match ti.ty with
    | .ls el=>HZ (e ix) fun i=>match e x with | .v (.cl a)=>Qj el.width i S a (fun c=>κ (.v (.cl c)) S)| _=>none
    | _=>none
   |none=>none
 | .build t parts=>match k9 Θ t with
   |some ti=>bif ti.ty.ag then (match Kz ti.fds (ti.ty.zvs.map cC) (parts.toList.map fun x=>(x.1,e x.2)) with |some cs=>κ (.v (.agg cs)) S|none=>none) else none
   |none=>none
 | .slice t x lo hi none=>match k9 Θ t with
   |some ti=>match ti.ty with
    | .ls el=>match e x with
      | .v (.cl a)=>N8 S a fun n=>Ec S 0 lo fun l=>Ec S n hi fun h=>Qk el.width l h a (fun c=>κ (.v (.cl c)) S)
      | _=>none
    | _=>none
   |none=>none
 | .convert s d x=>match k9 Θ s,k9 Θ d with
   |some _,some di=>match di.ty with
    | .i k'=>(match e x with | .v (.cl (.c (.sc (.int _ n))))=>κ (V.sc (.int k' (k'.wrap n))) S| _=>none)
    | _=>none
   | _,_=>none
 | .index t x ix=>match k9 Θ t with
   |some ti=>match ti.ty with
    | .s=>(match e x,e ix with | .v (.cl (.c (.sc (.string s)))), .v (.cl (.c (.sc (.int _ i))))=>iteP (0<=i) ((s[i.toNat]?).bind fun b=>κ (V.sc (.int .u8 b.toNat)) S) none| _,_=>none)
    | _=>none
   |none=>none
 | .extract x k=>match e x with | .tup vs=>(match om vs k with |some v=>κ (.v v) S|none=>none)| _=>none
 | .makeFunc (.func f) first caps=>bif first.isEmpty then (match F9 (caps.toList.map e) with |some cs=>κ (.v (.fn f cs)) S|none=>none) else none
 | .call { callee:= .builtin .len,args:=as,argTypes:=ts } =>match as.toList,ts.toList with
   | [x],[t] =>match k9 Θ t with
     |some ti=>match ti.ty with
      | .ls _=>(match e x with | .v (.cl a)=>N8 S a fun n=>κ (V.sc (.int .i64 n)) S| _=>none)
      | .s=>(match e x with | .v (.cl (.c (.sc (.string s))))=>κ (V.sc (.int .i64 s.size)) S| _=>none)
      | _=>none
     |none=>none
   | _,_=>none
 | .call { callee:= .builtin .cap,args:=as,argTypes:=ts } =>match as.toList,ts.toList with
   | [x],[t] =>match k9 Θ t with
     |some ti=>match ti.ty with
      | .ls _=>(match e x with | .v (.cl .em)=>κ (V.sc (.int .i64 0)) S| _=>none)
      | _=>none
     |none=>none
   | _,_=>none
 | .call { callee:= .builtin .max,args:=as,argTypes:=_ } =>match as.toList with
   | [x,y] =>V.ints (fun k a b=>κ (V.sc (.int k (if b>a then b else a))) S) (e x) (e y)
   | _=>none
 | .call { callee:= .builtin .min,args:=as,argTypes:=_ } =>match as.toList with
   | [x,y] =>V.ints (fun k a b=>κ (V.sc (.int k (if b<a then b else a))) S) (e x) (e y)
   | _=>none
 | .binOp op t x y _=>Qm Θ op t (e x) (e y) (fun v=>κ v S)
 | .unOp .neg _ x=>match e x with | .v (.cl (.c (.sc (.int k n))))=>κ (V.sc (.int k (k.wrap (0-n)))) S| _=>none
 | .unOp .not _ x=>match e x with | .v (.cl (.c (.sc (.bool b))))=>κ (V.sc (.bool (!b))) S| _=>none
 | _=>none
end
end
section
open Go
def C.av:C->AV
 | .sc v=> .sc v
 | .ls t l=> .ro t.width (l.map t.row)
def Cl.av:Cl->AV
 | .c x=>x.av
 | .em=> .em
 | .own p sz lo len _=> .own p sz lo len
 | .pro cs=> .pro (cs.map C.tree)
 | .ptrB n j=> .ptrB n j
 | .ptrT p sz i j=> .ptrT p sz i j
 | .dead=> .dead
def V1.av:V1->AV
 | .cl x=>x.av
 | .agg cs=> .agg (cs.map Cl.av)
 | .fn f cs=> .fn f (cs.map Cl.av)
def V.av:V->AV
 | .v x=>x.av
 | .tup l=> .tup (l.map V1.av)
def eA.tree (x:eA):T:=match x.hole with
 |none=> .sl x.t.width (x.l.map x.t.row)
 |some (i,j)=> .sl x.t.width ((x.l.map x.t.row).set i (((x.l.map x.t.row).getD i []).set j .dd))
def fw (G:List (Option eA)) (r:Nat):Option eA:=(om G r).getD none
def TS.st (S:TS):St where
 env:=fun t=>(iV S.env t).av
 bx:=fun n=>(om S.bx n).map fun cs=>cs.map Cl.av
 gh:=fun r=>(fw S.gh r).map eA.tree
 nb:=S.bx.length
 ng:=S.gh.length
 fz:=S.fz
 orc:=none
 nt:=S.nt
structure wi where
 f:FuncId->List V1->(ρ:Type)->(V->List eA->Option ρ)->Option ρ
 kd:FuncId->Nat
instance:CoeFun wi fun _=>FuncId->List V1->(ρ:Type)->(V->List eA->Option ρ)->Option ρ:=⟨wi.f⟩
def iW:Nat:=1048576
def Ga:Nat:=iW+iW
def Jh:Nat:=Ga+iW
def zO (g:Nat):Nat:=g+iW
def CE (g:Nat):Nat:=g+Ga
def A0 (g:Nat):Nat:=g+Jh
def Ed (n:Nat):Cl->Cl
 | .own p sz lo len w=> .own ⟨p.r+n,p.l⟩ sz lo len w
 | .ptrT p sz i j=> .ptrT ⟨p.r+n,p.l⟩ sz i j
 | .c (.sc v)=> .c (.sc v)
 | _=> .dead
def u6 (n:Nat):V1->V1
 | .agg cs=> .agg (cs.map (Ed n))
 | .cl c=> .cl (Ed n c)
 | .fn _ _=> .cl .dead
def qt (n:Nat):V->V
 | .tup vs=> .tup (vs.map (u6 n))
 | .v x=> .v (u6 n x)
def zP:Cl->Cl
 | .own p sz lo len w=>bif Nat.ble 1 p.r then .own ⟨p.r-1,p.l⟩ sz lo len w else .dead
 | .ptrT p sz i j=>bif Nat.ble 1 p.r then .ptrT ⟨p.r-1,p.l⟩ sz i j else .dead
 | .c (.sc v)=> .c (.sc v)
 | _=> .dead
def Gb:V1->V1
 | .agg cs=> .agg (cs.map zP)
 | .cl c=> .cl (zP c)
 | .fn _ _=> .cl .dead
def LU:V->V
 | .tup vs=> .tup (vs.map Gb)
 | .v x=> .v (Gb x)
def fi {α:Type}:List α->Nat->α->List α
 | [],_,_=> []
 |a::l,n,x=>bif Nat.beq n 0 then x::l else a::fi l (n-1) x
def ud (t t':Ty) (l:List t.D):Option (List t'.D):=if h:t=t' then some (h ▸ l) else none
def pF (r j:Nat):Cl->Cl
 | .own p sz lo len w=>match p.l with | (_,j')::_=>bif Nat.beq p.r r&&Nat.beq j j' then .dead else .own p sz lo len w| [] => .own p sz lo len w
 | .ptrT p sz a b=>match p.l with | (_,j')::_=>bif Nat.beq p.r r&&Nat.beq j j' then .dead else .ptrT p sz a b| [] => .ptrT p sz a b
 |c=>c
def rC (r j:Nat):V1->V1
 | .cl c=> .cl (pF r j c)
 | .agg cs=> .agg (cs.map (pF r j))
 | .fn f cs=> .fn f (cs.map (pF r j))
def Ds (r j:Nat):V->V
 | .v x=> .v (rC r j x)
 | .tup vs=> .tup (vs.map (rC r j))
def TS.kill (S:TS) (r j:Nat):TS:= { S with env:=S.env.map fun x=>(x.1,Ds r j x.2),bx:=S.bx.map fun cs=>cs.map (pF r j) }
def i9 (S:TS) (no j:Nat) (et:Option Ty) (c:Cl):Option (C×TS):=match c,et with
 | .c (.sc v),none=>some (.sc v,S)
 | .em,some t=>some (.ls t [],S.kill no j)
 | .own p sz _ _ true,some t=>match p.l with
   | [] =>bif Nat.beq t.width sz&&Nat.ble S.fz p.r&& !(Nat.beq p.r no) then match om S.gh p.r with
     |some (some tr)=>match tr.hole with
      |none=>bif Nat.beq tr.t.width sz then some (.ls tr.t tr.l,{ S with gh:=fi S.gh p.r none }.kill no j) else none
      |some _=>none
     | _=>none else none
   | _=>none
 | _,_=>none
def pG (no:Nat):Nat->TS->List (Option Ty)->List Cl->Option (List C×TS)
 |j,S,et::ets,c::cs=>match i9 S no j et c with
  |some (x,S1)=>match pG no (j+1) S1 ets cs with
   |some (xs,S2)=>some (x::xs,S2)
   |none=>none
  |none=>none
 | _,S,[],[] =>some ([],S)
 | _,_,_,_=>none
def Tl (et:Option Ty) (v:Value):C:=match et with |some t=> .ls t [] |none=> .sc v
def Ty.zcs (t:Ty):List C:=List.zipWith Tl t.csh t.zvs
def Qn:List Cl->Option (List C)
 | [] =>some []
 | .c (.sc v)::l=>match Qn l with |some r=>some (.sc v::r)|none=>none
 | _=>none
section
variable {ρ:Type}
def Gc {α β:Type} (f:α->(β->Option ρ)->Option ρ):List α->(List β->Option ρ)->Option ρ
 | [],κ=>κ []
 |a::l,κ=>f a fun b=>Gc f l fun bs=>κ (b::bs)
def H2 (Θ:mM) (S:TS) (t:TypeId) (a v:V) (κ:TS->Option ρ):Option ρ:=match k9 Θ t with
 |none=>none
 |some ti=>match v with
  | .tup _=>none
  | .v (.cl .dead)=>none
  | .v (.fn _ _)=>none
  | .v x=>bif Nat.beq x.cells.length ti.ty.width then match a with
    | .v (.cl (.ptrB b j))=>match om S.bx b with
      |some cs=>bif Nat.ble (j+x.cells.length) cs.length then κ { S with bx:=fi S.bx b (cs.take j++x.cells++cs.drop (j+x.cells.length)) } else none
      |none=>none
    | .v (.cl (.ptrT p sz i j))=>match p.l with
      | [] =>match om S.gh p.r with
        |some (some tr)=>bif Nat.beq tr.t.width sz&&Nat.ble (j+ti.ty.width) sz&&Nat.beq x.cells.length ti.ty.width then
         bif ti.ty.flatB then
          match tr.hole,Qn x.cells with
          |none,some vs=>(tr.l[i]?).bind fun y=>match tr.t.unflat ((tr.t.flat y).take j++vs++(tr.t.flat y).drop (j+ti.ty.width)) with
           |some z=>κ { S with gh:=fi S.gh p.r (some ⟨tr.t,tr.l.set i z,none⟩) }
           |none=>none
          | _,_=>none
         else bif Nat.ble S.fz p.r then match pG p.r j S ti.ty.csh x.cells with
          |some (vs,S1)=>(tr.l[i]?).bind fun y=>match tr.t.unflat ((tr.t.flat y).take j++vs++(tr.t.flat y).drop (j+ti.ty.width)) with
           |some z=>match tr.hole with
            |none=>κ { S1 with gh:=fi S1.gh p.r (some ⟨tr.t,tr.l.set i z,none⟩) }
            |some (i0,j0)=>bif Nat.beq j j0&&Nat.beq ti.ty.width 1 then iteP (i=i0) (κ { S1 with gh:=fi S1.gh p.r (some ⟨tr.t,tr.l.set i z,none⟩) }) none else none
           |none=>none
          |none=>none else none
         else none
        | _=>none
      | _=>none
    | _=>none
    else none
def NP (S:TS) (et:Option Ty) (c:Cl) (κ:Cl->Option ρ):Option ρ:=match c with
 | .c x=>κ (.c x)
 | .em=>match et with |some t=>κ (.c (.ls t []))|none=>none
 | .own p sz _ _ true=>qs S p fun t l=>bif Nat.beq t.width sz then κ (.c (.ls t l)) else none
 | .own p sz lo len false=>qs S p fun t l=>bif Nat.beq t.width sz then iteP (lo+len<=l.length) (κ (.c (.ls t ((l.drop lo).take len)))) none else none
 | .pro cs=>κ (.pro cs)
 | .ptrT p sz i j=>qs S p fun t l=>bif Nat.beq t.width sz then (l[i]?).bind fun x=>κ (.pro ((t.flat x).drop j)) else none
 | .ptrB b j=>match om S.bx b with
   |some cs=>Gc (fun c κ=>match c with
    | .c x=>κ x
    | .own p sz _ _ true=>qs S p fun t l=>bif Nat.beq t.width sz then κ (.ls t l) else none
    | _=>none) (cs.drop j) fun cs=>κ (.pro cs)
   |none=>none
 | .dead=>κ .dead
def N9 (S:TS):List (Option Ty)->List Cl->(List Cl->Option ρ)->Option ρ
 |et::ets,c::cs,κ=>NP S et c fun c'=>N9 S ets cs fun cs'=>κ (c'::cs')
 | [],[],κ=>κ []
 | _,_,_=>none
def SC (Θ:mM) (S:TS) (t:TypeId) (v:V) (κ:V1->Option ρ):Option ρ:=match v with
 | .tup _=>none
 | .v (.fn f cs)=>Gc (NP S none) cs fun cs'=>κ (.fn f cs')
 | .v (.agg cs)=>match k9 Θ t with |some ti=>N9 S ti.ty.csh cs fun cs'=>κ (.agg cs')|none=>none
 | .v (.cl .em)=>κ (.cl .em)
 | .v (.cl c)=>match k9 Θ t with |some ti=>NP S (ti.ty.csh.headD none) c fun c'=>κ (.cl c')|none=>NP S none c fun c'=>κ (.cl c')
def vD (Θ:mM) (S:TS):List TypeId->List Operand->(List V1->Option ρ)->Option ρ
 |t::ts,a::as,κ=>SC Θ S t (S.opd a) fun v=>vD Θ S ts as fun vs=>κ (v::vs)
 | [],[],κ=>κ []
 | _,_,_=>none
def Ji (Θ:mM) (Y:wi) (S:TS) (f:Operand) (ts:List TypeId) (as:List Operand) (κ:V->TS->Option ρ):Option ρ:=match S.opd f with
 | .v (.cl (.c (.sc (.func (.func g) _ _))))=>bif Nat.blt g iW then vD Θ S ts as fun vs=>Y g vs ρ fun res out=>κ (qt S.gh.length res) { S with gh:=S.gh++out.map some } else none
 | .v (.fn g caps)=>bif Nat.blt g iW then vD Θ S ts as fun vs=>Gc (NP S none) caps fun cs=>Y g (vs++cs.map .cl) ρ fun res out=>κ (qt S.gh.length res) { S with gh:=S.gh++out.map some } else none
 | _=>none
def LV (S:TS) (el:Ty) (v:Cl) (κ:List el.D->TS->Option ρ):Option ρ:=match v with
 | .em=>κ [] S
 | .c (.ls t l)=>bif el.flatB then match ud t el l with |some l=>κ l S|none=>none else none
 | .own p sz lo len w=>bif Nat.beq el.width sz then (bif el.flatB then qs S p fun t l=>match ud t el l with
   |some l=>bif w then κ l S else iteP (lo+len<=l.length) (κ ((l.drop lo).take len) S) none
   |none=>none
   else match p.l with
   | [] =>bif w&&Nat.ble S.fz p.r then qs S p fun t l=>match ud t el l with |some l=>κ l { S with gh:=fi S.gh p.r none } |none=>none else none
   | _=>none) else none
 | _=>none
def Gd (S:TS) (el:Ty) (v:Cl) (more:List el.D) (κ:List el.D->TS->Option ρ):Option ρ:=match v with
 | .em=>κ more S
 | .own p sz lo len w=>bif Nat.ble S.fz p.r&&Nat.beq el.width sz then match p.l with
   | [] =>qs S p fun t l=>match ud t el l with
     |some l=>bif w then κ (l++more) { S with gh:=fi S.gh p.r none }
      else iteP (lo=0) (iteP (l.length<len) none (κ (l.take len++more) { S with gh:=fi S.gh p.r none })) none
     |none=>none
   | [(i,j)] =>match om S.gh p.r with
     |some (some tr)=>match tr.hole with
      |none=>qs S p fun t l=>match ud t el l with
       |some l=>iteP (lo=0) (iteP (l.length<len) none (κ (l.take len++more) { S with gh:=fi S.gh p.r (some ⟨tr.t,tr.l,some (i,j)⟩) })) none
       |none=>none
      |some _=>none
     | _=>none
   | _=>none else none
 | _=>none
def Oa (Θ:mM) (S:TS) (t:TypeId) (s x:V) (κ:V->TS->Option ρ):Option ρ:=match k9 Θ t with
 |some ti=>match ti.ty,s,x with
  | .ls el, .v (.cl s), .v (.cl x)=>LV S el x fun more S1=>Gd S1 el s more fun l S2=>iteP (l.length*ti.el<=2 ^ 40) (κ (.v (.cl (.own ⟨S2.gh.length,[]⟩ el.width 0 l.length true))) { S2 with gh:=S2.gh++ [some ⟨el,l,none⟩] }) none
  | _,_,_=>none
 |none=>none
def Rl:List Nat->List Nat->Bool
 | [],[] =>true
 |a::l,b::m=>bif Nat.beq a b then Rl l m else false
 | _,_=>false
def rD (el:Ty):TS->List V->Option (List el.D×TS)
 |S,[] =>some ([],S)
 |S, .v x::r=>match pG S.gh.length 0 S el.csh x.cells with
  |some (vs,S1)=>match el.unflat vs,rD el S1 r with
   |some y,some (ys,S2)=>some (y::ys,S2)
   | _,_=>none
  |none=>none
 | _,_=>none
def H3:Cl->Bool| .c (.ls _ _)=>true| _=>false
def A1:V->Bool| .v x=>x.cells.any H3| _=>false
def ny:List (Option Ty)->List Cl->Option (List C)
 | _::ets, .c x::cs=>(match ny ets cs with |some r=>some (x::r)|none=>none)
 |some t::ets, .em::cs=>(match ny ets cs with |some r=>some (.ls t []::r)|none=>none)
 | [],[] =>some []
 | _,_=>none
def rR (el:Ty):List V->Option (List el.D)
 | [] =>some []
 | .v x::r=>(match ny el.csh x.cells with
   |some xs=>(match el.unflat xs,rR el r with |some y,some ys=>some (y::ys)| _,_=>none)
   |none=>none)
 | _=>none
def PH (Θ:mM) (S:TS) (t:TypeId) (s x:V) (κ:V->TS->Option ρ):Option ρ:=match k9 Θ t with
 |some ti=>match ti.ty,s with
  | .ls el, .v (.cl .em)=>HZ x fun n=>match el.unflat el.zcs with
    |some z=>iteP (0<n/\n*ti.el<=2 ^ 40) (κ (.v (.cl (.own ⟨S.gh.length,[]⟩ el.width 0 n.toNat true))) { S with gh:=S.gh++ [some ⟨el,List.replicate n.toNat z,none⟩] }) none
    |none=>none
  | _,_=>none
 |none=>none
def Rm (t:Ty) (l:List t.D) (sz lo len:Nat) (κ:ByteArray->Option ρ):Option ρ:=match t,l with
 | .i .u8,l=>bif Nat.beq sz 1 then iteP (0<len/\lo+len<=l.length) (κ (Kd ((l.drop lo).take len))) none else none
 | _,_=>none
def tI (Θ:mM) (Y:wi) (S:TS) (o:Oper) (κ:V->TS->Option ρ):Option ρ:=
 let e:=S.opd
 match o.op with
 | .alloc t=>match k9 Θ t with |some ti=>κ (.v (.cl (.ptrB S.bx.length 0))) { S with bx:=S.bx++ [ti.ty.zvs.map cC] } |none=>none
 | .box _ x=>match e x with
   | .v (.cl .dead)=>none
   | .v (.cl c)=>κ (.v (.cl (.ptrB S.bx.length 0))) { S with bx:=S.bx++ [[c]] }
   | .v (.agg cs)=>κ (.v (.cl (.ptrB S.bx.length 0))) { S with bx:=S.bx++ [cs] }
   | _=>none
 | .store t a x=>H2 Θ S t (e a) (e x) fun S'=>κ V.dead S'
 | .makeSlice t l c=>match k9 Θ t with
   |some ti=>match ti.ty with
    | .ls el=>HZ (e l) fun n=>HZ (e c) fun m=>match el.unflat el.zcs with
      |some z=>iteP (0<=n/\n=m/\n*ti.el<=2 ^ 40) (κ (.v (.cl (.own ⟨S.gh.length,[]⟩ el.width 0 n.toNat true))) { S with gh:=S.gh++ [some ⟨el,List.replicate n.toNat z,none⟩] }) none
      |none=>none
    | _=>none
   |none=>none
 | .buildSlice t len parts=>match k9 Θ t with
   |some ti=>match ti.ty with
    | .ls el=>bif Nat.ble (len*el.width) 1048576&&Rl (parts.toList.map (·.1)) (List.range len) then (bif (parts.toList.map fun x=>e x.2).any A1 then (match rR el (parts.toList.map fun x=>e x.2) with |some l=>κ (.v (.cl (.c (.ls el l)))) S|none=>none) else match rD el S (parts.toList.map fun x=>e x.2) with
      |some (l,S1)=>κ (.v (.cl (.own ⟨S1.gh.length,[]⟩ el.width 0 l.length true))) { S1 with gh:=S1.gh++ [some ⟨el,l,none⟩] }
      |none=>none) else none
    | _=>none
   |none=>none
 | .call { callee:= .builtin .append,args:=as,argTypes:=ts } =>match as.toList,ts.toList with
   | [s,x],[t,t'] =>bif Nat.beq t t' then Oa Θ S t (e s) (e x) κ else PH Θ S t (e s) (e x) κ
   | _,_=>none
 | .call { callee:= .value f,args:=as,argTypes:=ts } =>Ji Θ Y S f ts.toList as.toList κ
 | .convert s d x=>match e x with
   | .v (.cl (.own p sz lo len _))=>match k9 Θ s,k9 Θ d with
     |some si,some di=>match si.ty,di.ty with
      | .ls (.i .u8), .s=>qs S p fun t l=>Rm t l sz lo len fun b=>κ (V.sc (.string b)) S
      | _,_=>none
     | _,_=>none
   | _=>wg Θ S o κ
 | _=>wg Θ S o κ
def qu (S:TS) (d:Option Tmp) (v:V) (κ:TS->Option ρ):Option ρ:=match d with
 |some t=>bif Nat.blt t S.nt then κ { S with env:=(t,v)::S.env } else none
 |none=>κ S
def Jj (S:TS) (all:List Oper) (o:Oper) (κ:Bool->TS->Option ρ):Option ρ:=match o.guard with
 |none=>κ true S
 |some (j,want)=>match om all j with
  |some oj=>match oj.dst with
   |some d=>match iV S.env d with
    | .tup [] =>κ false S
    | _=>F6 S (.tmp d) fun b S1=>κ (b==want) S1
   |none=>none
  |none=>none
noncomputable def Ob {α:Type} (x y:α) (z:α):α:=open Classical in if x=y then x else z
def Qo {α β:Type} (l:List α) (x y:β):β:=match l with | [] =>x| _::_=>y
def Al (o:Oper):Option (TypeId×Operand):=match o.op with
 | .binOp .eql t x (.const (.slice none 0 0)) _=>(match o.guard with |none=>some (t,x)|some _=>none)
 | _=>none
def Rn (Θ:mM) (t:TypeId):Bool:=match k9 Θ t with |some ti=>(match ti.ty with | .ls _=>true| _=>false)|none=>false
inductive Ee where
 |own (r sz:Nat)
 |pt (r sz:Nat)
 |nest (r i j sz lo len:Nat)
 |agg (cs:List Cl)
def yl:V->Option Ee
 | .v (.cl (.own ⟨r,[]⟩ sz _ _ true))=>some (.own r sz)
 | .v (.cl (.ptrT ⟨r,[]⟩ sz 0 0))=>some (.pt r sz)
 | .v (.cl (.own ⟨r,[(i,j)]⟩ sz lo len _))=>some (.nest r i j sz lo len)
 | .v (.agg cs)=>some (.agg cs)
 | _=>none
def Ee.fit (k:Nat):Ee->Bool
 | .own _ _=>Nat.beq k 1||Nat.beq k 2
 | .pt _ _=>Nat.beq k 3
 | _=>Nat.beq k 1
def A2 (Y:wi) (S:TS) (o:Oper):Option (Nat×FuncId×List Cl×Ee×List TypeId×List Operand):=match o.op with
 | .call { callee:= .value f,args:=as,argTypes:=ts } =>(match as.toList,ts.toList with
   |x::xs,_::us=>(match yl (S.opd x) with
    |some a=>(match S.opd f with
     | .v (.cl (.c (.sc (.func (.func g) _ _))))=>bif Nat.blt g iW&&a.fit (Y.kd g) then some (Y.kd g,g,[],a,us,xs) else none
     | .v (.fn g caps)=>bif Nat.blt g iW&&a.fit (Y.kd g) then some (Y.kd g,g,caps,a,us,xs) else none
     | _=>none)
    |none=>none)
   | _,_=>none)
 | _=>none
def Oc:V->Bool
 | .v (.cl (.c (.sc _)))=>true
 | .tup [] =>true
 | _=>false
def u7 (S:TS):List Cl->Option (List C×List Nat)
 | [] =>some ([],[])
 | .c (.sc v)::cs=>(match u7 S cs with |some (xs,L)=>some (.sc v::xs,L)|none=>none)
 | .own ⟨r,[]⟩ sz _ _ true::cs=>(match fw S.gh r with
   |some ⟨el,l,none⟩=>bif Nat.beq sz el.width then (match u7 S cs with |some (xs,L)=>some (.ls el l::xs,r::L)|none=>none) else none
   | _=>none)
 | _=>none
def PI (G:List (Option eA)) (L:List Nat):List (Option eA):=L.foldl (fun G r=>fi G r none) G
def A3 (S:TS):List Nat->List eA->(TS->Option ρ)->Option ρ
 | [],[],κ=>κ S
 |r::L,⟨t,l',none⟩::out,κ=>(match fw S.gh r with
  |some ⟨el,l,none⟩=>bif decide (t=el) then iteP (l'.length=l.length) (A3 { S with gh:=fi S.gh r (some ⟨t,l',none⟩) } L out κ) none else none
  | _=>none)
 | _,_,_=>none
def w4 (Θ:mM) (S:TS) (us:List TypeId) (xs:List Operand) (caps:List Cl) (κ:List V1->Option ρ):Option ρ:=vD Θ S us xs fun vs=>Gc (NP S none) caps fun ks=>κ (vs++ks.map .cl)
def Jk (S:TS) (r:Nat) (el:Ty) (l:List el.D) (res:V) (out:List eA) (dst:Option Tmp) (κ:TS->Option ρ):Option ρ:=match out with
 | ⟨t,l',none⟩::more=>bif decide (t=el) then iteP (l'.length=l.length) (qu { S with gh:=fi S.gh r (some ⟨t,l',none⟩)++more.map some } dst (qt S.gh.length (LU res)) κ) none else none
 | _=>none
def A4 (Θ:mM) (Y:wi) (S:TS) (k:Nat) (g:FuncId) (caps:List Cl) (a:Ee) (us:List TypeId) (xs:List Operand) (dst:Option Tmp) (κ:TS->Option ρ):Option ρ:=match a with
 | .own r sz=>(match fw S.gh r with
   |some ⟨el,l,none⟩=>bif Nat.beq sz el.width then w4 Θ { S with gh:=fi S.gh r none } us xs caps fun vs=>
    bif Nat.beq k 1 then Y (zO g) (.cl (.c (.ls el l))::vs) ρ fun res out=>Jk S r el l res out dst κ
    else bif Nat.ble S.fz r then Y (CE g) (.cl (.c (.ls el l))::vs) ρ fun res out=>qu { S with gh:=fi S.gh r none++out.map some } dst (qt S.gh.length res) κ
    else none else none
   | _=>none)
 | .pt r sz=>(match fw S.gh r with
   |some ⟨el,l,none⟩=>bif Nat.beq sz el.width then w4 Θ { S with gh:=fi S.gh r none } us xs caps fun vs=>Y (A0 g) (.cl (.c (.ls el l))::vs) ρ fun res out=>Jk S r el l res out dst κ else none
   | _=>none)
 | .agg cs=>(match u7 S cs with
   |some (ys,L)=>bif P5 L then w4 Θ { S with gh:=PI S.gh L } us xs caps fun vs=>Y (zO g) (.agg (ys.map .c)::vs) ρ fun res out=>bif Oc res then A3 S L out fun S3=>qu S3 dst res κ else none else none
   |none=>none)
 | .nest r i j sz lo len=>(match fw S.gh r with
   |some ⟨t,l,none⟩=>(l[i]?).bind fun y=>(match om (t.flat y) j with
    |some (.ls el v)=>bif Nat.beq sz el.width then iteP (lo=0/\len=v.length) (w4 Θ { S with gh:=fi S.gh r (some ⟨t,l,some (i,j)⟩) } us xs caps fun vs=>
     Y (zO g) (.cl (.c (.ls el v))::vs) ρ fun res out=>(match out with
       | [⟨t',v',none⟩] =>bif decide (t'=el)&&Oc res then iteP (v'.length=v.length) (match t.unflat (fi (t.flat y) j (.ls t' v')) with
         |some z=>qu { S with gh:=fi S.gh r (some ⟨t,l.set i z,none⟩) } dst res κ
         |none=>none) none else none
       | _=>none)) none else none
    | _=>none)
   | _=>none)
def Ef (S:TS) (o:Oper):Option (TypeId×Nat×Nat×Nat×Nat):=match o.op with
 | .call { callee:= .builtin .clear,args:=as,argTypes:=ts } =>(match o.guard with
   |some _=>none
   |none=>match as.toList,ts.toList with
    | [x],[t] =>(match S.opd x with
      | .v (.cl (.own ⟨r,[]⟩ sz lo len _))=>some (t,r,sz,lo,len)
      | _=>none)
    | _,_=>none)
 | _=>none
def H4 (Θ:mM) (S:TS) (t:TypeId) (r sz lo len:Nat) (dst:Option Tmp) (κ:TS->Option ρ):Option ρ:=match k9 Θ t with
 |some ti=>match fw S.gh r with
  |some ⟨el,l,none⟩=>bif decide (ti.ty= .ls el)&&Nat.beq el.width 1&&Nat.beq sz 1&&el.flatB then (match el.unflat el.zcs with
   |some z=>iteP (lo+len<=l.length) (qu { S with gh:=fi S.gh r (some ⟨el,l.take lo++List.replicate len z++l.drop (lo+len),none⟩) } dst (.tup []) κ) none
   |none=>none) else none
  | _=>none
 |none=>none
def Ge (b:Bool):V:= .v (.cl (.c (.sc (.bool b))))
noncomputable def A5 (Θ:mM) (Y:wi) (all:List Oper):List Oper->TS->(TS->Option ρ)->Option ρ
 | [],S,κ=>κ S
 |o::os,S,κ=>match Al o with
  |some (t,x)=>bif Rn Θ t then (match S.opd x with
   | .v (.cl (.c (.ls _ l)))=>Qo l (Ob (qu S o.dst (Ge true) fun S3=>A5 Θ Y all os S3 κ) (qu S o.dst (Ge false) fun S3=>A5 Θ Y all os S3 κ) none) (qu S o.dst (Ge false) fun S3=>A5 Θ Y all os S3 κ)
   | _=>none) else none
  |none=>match Ef S o with
  |some (t,r,sz,lo,len)=>H4 Θ S t r sz lo len o.dst fun S3=>A5 Θ Y all os S3 κ
  |none=>Jj S all o fun b S1=>bif b then (match A2 Y S1 o with
   |some (k,g,caps,a,us,xs)=>A4 Θ Y S1 k g caps a us xs o.dst fun S3=>A5 Θ Y all os S3 κ
   |none=>tI Θ Y S1 o fun v S2=>qu S2 o.dst v fun S3=>A5 Θ Y all os S3 κ) else qu S1 o.dst (V.tup []) fun S3=>A5 Θ Y all os S3 κ
def gone:Nat->List (Option eA)->List (Option eA)->List Nat
 |n,some _::l,none::m=>n::gone (n+1) l m
 |n,_::l,_::m=>gone (n+1) l m
 | _,_,_=> []
def LW (l:List (Option eA)):List T:=l.map fun x=>match x with |some tr=>tr.tree|none=> .dd
def wj (S S':TS):iK:=⟨S.gh.length,LW (S'.gh.drop S.gh.length),gone 0 S.gh S'.gh⟩
def PJ (d:Nat) (o:Oper):Bool:=match o.dst with |some d'=> !(Nat.beq d d')|none=>true
def Rp (o:Oper) (os:List Oper):Bool:=match o.dst with |some d=>os.all (PJ d)|none=>false
def Rc (Θ:mM) (t:TypeId):Bool:=match k9 Θ t with
 |some ti=>(match ti.ty with | .ls _=>true| _=>false)
 |none=>false
def Od (Θ:mM) (o:Oper):Bool:=match o.op with
 | .buildSlice t _ _=>Rc Θ t
 | .call { callee:= .builtin .append,args:=_,argTypes:=ts } =>(match ts.toList with |t::_=>Rc Θ t| [] =>false)
 | _=>true
def Jl:V->Bool
 | .v (.cl (.own p _ _ _ _))=>(match p.l with | [] =>true| _=>false)
 | _=>true
def Jm (S:TS) (o:Oper):Bool:=match o.op with
 | .buildSlice _ _ parts=> !(parts.toList.map fun x=>S.opd x.2).any A1
 | .call { callee:= .builtin .append,args:=as,argTypes:=ts } =>(match ts.toList with | [t,t'] =>Nat.beq t t'| _=>true)&&(match as.toList with |s::_=>Jl (S.opd s)| [] =>true)
 | _=>true
def LY (Θ:mM):List Oper->TS->(TS->Option ρ)->Option ρ
 | [],S,κ=>κ S
 |o::os,S,κ=>match o.op with
  | .alloc t=>match k9 Θ t with |some ti=>LY Θ os { S with bx:=S.bx++ [ti.ty.zvs.map cC] } κ|none=>none
  | _=>LY Θ os S κ
def Gf (Θ:mM) (Y:wi) (all:List Oper):List Oper->TS->List iK->(TS->List iK->Option ρ)->Option ρ
 | [],S,ms,κ=>κ S ms
 |o::os,S,ms,κ=>bif dU o then Gf Θ Y all os S (ms++ [⟨S.gh.length,[],[]⟩]) κ else bif fA o then (bif o.guard.isNone then qu S o.dst (V.v (.cl (.ptrB (S.bx.length-1-fX os) 0))) fun S3=>Gf Θ Y all os S3 (ms++ [⟨S.gh.length,[],[]⟩]) κ else none) else
   Jj S all o fun b S1=>bif b then
    (bif gv o then (bif Rp o os&&Od Θ o&&Jm S1 o then tI Θ Y S1 o fun v S2=>qu S2 o.dst v fun S3=>Gf Θ Y all os S3 (ms++ [wj S1 S2]) κ else none)
    else wg Θ S1 o fun v S2=>qu S2 o.dst v fun S3=>Gf Θ Y all os S3 (ms++ [⟨S1.gh.length,[],[]⟩]) κ)
    else qu S1 o.dst (V.tup []) fun S3=>Gf Θ Y all os S3 (ms++ [⟨S1.gh.length,[],[]⟩]) κ
def LZ (Θ:mM) (Y:wi):List Oper->TS->(TS->Option ρ)->Option ρ
 | [],S,κ=>κ S
 |o::os,S,κ=>bif dU o then (bif o.guard.isNone&&o.dst.isNone then tI Θ Y S o fun _ S1=>LZ Θ Y os S1 κ else none) else LZ Θ Y os S κ
def Jn (Θ:mM) (t:TypeId):Bool:=match k9 Θ t with |some ti=>ti.ty.flatB|none=>false
def L0 (Θ:mM) (S:TS) (o:Oper):Bool:=match o.op with
 | .store t x _=>(match S.opd x with | .v (.cl (.ptrB _ _))=>true| .v (.cl (.ptrT _ _ _ _))=>Jn Θ t| _=>false)
 | _=>false
def Eg (Θ:mM) (o:Oper):Bool:=match o.op with
 | .buildSlice t _ _=>(match k9 Θ t with |some ti=>(match ti.ty with | .ls el=>el.flatB| _=>false)|none=>false)
 | _=>true
def Gg (Θ:mM) (Y:wi) (n0:Nat) (ops:List Oper) (B:List (List Nat)):Nat->List Oper->TS->(TS->Option ρ)->Option ρ
 | _,[],S,κ=>κ S
 |k,o::os,S,κ=>match A2 Y S o with
  |some (kd,g,caps,a,us,xs)=>A4 Θ Y S kd g caps a us xs o.dst fun S3=>Gg Θ Y n0 ops B (k+1) os S3 κ
  |none=>bif dU o then
    (bif L0 Θ S o||(os.isEmpty&&(List.range k).all fun j=>(B.getD k []).contains j) then tI Θ Y S o fun v S2=>qu S2 o.dst v fun S3=>Gg Θ Y n0 ops B (k+1) os S3 κ else none)
   else bif gv o then tI Θ Y S o fun v S2=>bif (!qk o&&Eg Θ o)||(Od Θ o&&Jm S o&&(ub o||(gone 0 S.gh S2.gh).all fun r=>Nat.ble n0 r)) then qu S2 o.dst v fun S3=>Gg Θ Y n0 ops B (k+1) os S3 κ else none
   else bif HM n0 (LH ops B k) S.st o then wg Θ S o fun v S2=>qu S2 o.dst v fun S3=>Gg Θ Y n0 ops B (k+1) os S3 κ else none
def Ss (Y:wi) (o:Oper):Bool:=match o.op with
 | .call { callee:= .value (.func g), .. } =>Nat.beq (Y.kd g) 3
 | _=>false
def Qp (Θ:mM) (Y:wi) (ops:List Oper) (S:TS) (κ:TS->Option ρ):Option ρ:=
 bif FV ops.toArray||(ops.any (Ss Y)&&PG ops.toArray) then Gg Θ Y S.gh.length ops (fK ops) 0 ops S κ else
 bif Jb ops.toArray then LY Θ ops S fun S0=>Gf Θ Y ops ops S0 [] fun SV ms=>bif Hx (Jn Θ) ops (fK ops) S0.st ms SV.st then LZ Θ Y ops SV κ else none else none
def gg:Code->Nat
 | .region id _ _=>id
 | .seq a _=>gg a
 | .block _ c=>gg c
 | .loop c=>gg c
 | _=>0
abbrev m0:=Nat->TS->(ρ:Type)->(X->TS->Option ρ)->Option ρ
noncomputable def ym (Θ:mM) (Y:wi) (Λ:m0):Code->TS->(X->TS->Option ρ)->Option ρ
 | .skip,S,κ=>κ .nor S
 | .region _ ops false,S,κ=>A5 Θ Y ops.toList ops.toList S (κ .nor)
 | .region _ ops true,S,κ=>Qp Θ Y ops.toList S (κ .nor)
 | .seq a b,S,κ=>ym Θ Y Λ a S fun x S1=>match x with | .nor=>ym Θ Y Λ b S1 κ|x=>κ x S1
 | .cond c a b,S,κ=>F6 S c fun t S1=>bif t then ym Θ Y Λ a S1 κ else ym Θ Y Λ b S1 κ
 | .block id c,S,κ=>ym Θ Y Λ c S fun x S1=>match x with | .ext i=>bif Nat.beq i id then κ .nor S1 else κ (.ext i) S1|x=>κ x S1
 | .loop c,S,κ=>Λ (gg c) S ρ κ
 | .exit id,S,κ=>κ (.ext id) S
 | .ret,S,κ=>κ .ret S
 | _,_,_=>none
def L3 (S:TS) (gs:List eA) (et:Option Ty) (c:Cl) (κ:Cl->List eA->TS->Option ρ):Option ρ:=match c,et with
 | .c (.sc v),_=>κ (.c (.sc v)) gs S
 | .em,some t=>κ (.own ⟨gs.length,[]⟩ t.width 0 0 true) (gs++ [⟨t,[],none⟩]) S
 | .own p sz lo len w,some t'=>match p.l with
   | [] =>bif Nat.ble S.fz p.r&&Nat.beq t'.width sz then qs S p fun t l=>bif Nat.beq t.width sz then
     (bif w then κ (.own ⟨gs.length,[]⟩ sz 0 l.length true) (gs++ [⟨t,l,none⟩]) { S with gh:=fi S.gh p.r none }
     else iteP (lo=0/\len<=l.length) (κ (.own ⟨gs.length,[]⟩ sz 0 (l.take len).length true) (gs++ [⟨t,l.take len,none⟩]) { S with gh:=fi S.gh p.r none })
      (bif t.flatB&&Nat.ble sz 3 then iteP (lo+len<=l.length) (κ (.own ⟨gs.length,[]⟩ sz 0 ((l.drop lo).take len).length true) (gs++ [⟨t,(l.drop lo).take len,none⟩]) { S with gh:=fi S.gh p.r none }) none else none)) else none
     else none
   | _=>none
 | .ptrT p sz i j,none=>match p.l with
   | [] =>bif Nat.ble S.fz p.r then qs S p fun t l=>bif Nat.beq t.width sz then κ (.ptrT ⟨gs.length,[]⟩ sz i j) (gs++ [⟨t,l,none⟩]) { S with gh:=fi S.gh p.r none } else none else none
   | _=>none
 | _,_=>none
def Jo:TS->List eA->List (Option Ty)->List Cl->(List Cl->List eA->TS->Option ρ)->Option ρ
 |S,gs,et::ets,c::cs,κ=>L3 S gs et c fun c' gs' S'=>Jo S' gs' ets cs fun cs' gs'' S''=>κ (c'::cs') gs'' S''
 |S,gs,[],[],κ=>κ [] gs S
 | _,_,_,_,_=>none
def Qq (Θ:mM) (S:TS) (gs:List eA) (t:TypeId) (v:V) (κ:V1->List eA->TS->Option ρ):Option ρ:=match v with
 | .v (.cl (.ptrT p sz i j))=>L3 S gs none (.ptrT p sz i j) fun c' gs' S'=>κ (.cl c') gs' S'
 |v=>match k9 Θ t with
  |none=>none
  |some ti=>match v with
   | .v (.agg cs)=>Jo S gs ti.ty.csh cs fun cs' gs' S'=>κ (.agg cs') gs' S'
   | .v (.cl c)=>L3 S gs (ti.ty.csh.headD none) c fun c' gs' S'=>κ (.cl c') gs' S'
   | _=>none
def Gh (Θ:mM):TS->List eA->List (TypeId×V)->(List V1->List eA->Option ρ)->Option ρ
 | _,gs,[],κ=>κ [] gs
 |S,gs,(t,v)::r,κ=>Qq Θ S gs t v fun v' gs' S'=>Gh Θ S' gs' r fun vs gs''=>κ (v'::vs) gs''
def H5 (Θ:mM) (S:TS):List ResultVar->List TypeId->(List (TypeId×V)->Option ρ)->Option ρ
 | .tmp a::rs,t::ts,κ=>H5 Θ S rs ts fun l=>κ ((t,iV S.env a)::l)
 | .cell a t'::rs,t::ts,κ=>F7 Θ S t' (iV S.env a) fun v=>H5 Θ S rs ts fun l=>κ ((t,v)::l)
 | [],[],κ=>κ []
 | _,_,_=>none
def Eh:List V1->V
 | [v] => .v v
 |vs=> .tup vs
def qv:Nat->List V1->List (Nat×V)
 | _,[] => []
 |n,v::l=>(n, .v v)::qv (n+1) l
def u9 (S:TS):Nat->Nat->Option (List eA)
 | _,0=>some []
 |r,n+1=>(match fw S.gh r with
  |some ⟨t,l,none⟩=>(match u9 S (r+1) n with |some ts=>some (⟨t,l,none⟩::ts)|none=>none)
  | _=>none)
noncomputable def Rq (Θ:mM) (Y:wi) (Λ:m0) (fn:Func) (args:List V1) (G:List eA) (m:Nat) (κ:V->List eA->Option ρ):Option ρ:=match fn.body with
 |none=>none
 |some c=>ym Θ Y Λ c { env:=qv 0 args,bx:= [],gh:=G.map some,fz:=m,nt:=args.length+(fn.ntmps-args.length) } fun x S=>match x with
  | .ext _=>none
  | _=>H5 Θ S fn.results.toList fn.resultTypes.toList fun rs=>match u9 S 0 m with
    |some gs=>Gh Θ S gs rs fun vs gs'=>κ (Eh vs) gs'
    |none=>none
noncomputable abbrev Rd (Θ:mM) (Y:wi) (Λ:m0) (fn:Func) (args:List V1) (κ:V->List eA->Option ρ):Option ρ:=Rq Θ Y Λ fn args [] 0 κ
def H6:List Cl->Option (List C)
 | [] =>some []
 | .c x::l=>match H6 l with |some r=>some (x::r)|none=>none
 | _=>none
def un (t:Ty) (a:V1) (κ:t.D->Option ρ):Option ρ:=match a with
 | .agg cs=>bif t.ag then (match H6 cs with
   |some xs=>(match t.unflat xs with |some x=>κ x|none=>none)
   |none=>none) else none
 | .cl (.c y)=>bif t.ag then none else (match t.unflat [y] with |some x=>κ x|none=>none)
 | _=>none
def wk:List C->Nat->List Cl
 | [],_=> []
 | .sc v::r,n=> .c (.sc v)::wk r n
 | .ls t l::r,n=> .own ⟨n,[]⟩ t.width 0 l.length true::wk r (n+1)
def pN:List C->List eA
 | [] => []
 | .sc _::r=>pN r
 | .ls t l::r=>⟨t,l,none⟩::pN r
def KA (t:Ty) (x:t.D) (n:Nat):V1:=bif t.ag then .agg (wk (t.flat x) n) else match wk (t.flat x) n with | [c] => .cl c| _=> .cl .dead
def tJ:Nat->List ((t:Ty)×t.D)->List V1
 | _,[] => []
 |n,⟨t,x⟩::r=>KA t x n::tJ (n+(pN (t.flat x)).length) r
def rS:List ((t:Ty)×t.D)->List eA
 | [] => []
 | ⟨t,x⟩::r=>pN (t.flat x)++rS r
def ret (l:List ((t:Ty)×t.D)) (κ:V->List eA->Option ρ):Option ρ:=κ (Eh (tJ 0 l)) (rS l)
end
abbrev Ll:=List V1->(ρ:Type)->(V->List eA->Option ρ)->Option ρ
def Qr:List (Nat×Ll)->FuncId->List V1->(ρ:Type)->(V->List eA->Option ρ)->Option ρ
 | [],_,_,_,_=>none
 | (g,e)::l,f,as,ρ,κ=>bif Nat.beq g f then e as ρ κ else Qr l f as ρ κ
def Oe:List (Nat×Ll)->Nat->Bool
 | [],_=>false
 | (g,_)::l,f=>bif Nat.beq g f then true else Oe l f
def A6 (l:List (Nat×Ll)):wi:=⟨Qr l,fun g=>bif Oe l (zO g) then 1 else bif Oe l (CE g) then 2 else bif Oe l (A0 g) then 3 else 0⟩
noncomputable abbrev L4 {ρ:Type} (Θ:mM) (Y:wi) (Λ:m0) (fn:Func) (m:Nat) (el:Ty) (l:List el.D) (args:List V1) (κ:V->List eA->Option ρ):Option ρ:=Rq Θ Y Λ fn (.cl (.own ⟨0,[]⟩ el.width 0 l.length true)::args) [⟨el,l,none⟩] m κ
noncomputable abbrev Qs {ρ:Type} (Θ:mM) (Y:wi) (Λ:m0) (fn:Func) (el:Ty) (l:List el.D) (args:List V1) (κ:V->List eA->Option ρ):Option ρ:=Rq Θ Y Λ fn (.cl (.ptrT ⟨0,[]⟩ el.width 0 0)::args) [⟨el,l,none⟩] 1 κ
def Jp (t:Ty) (x:t.D):V1:=bif t.ag then .agg ((t.flat x).map .c) else match (t.flat x).map Cl.c with | [c] => .cl c| _=> .cl .dead
end
section
open Go
theorem fQ {α:Type}: ∀ (l:List α) (n:Nat),om l n=l[n]?
 | [],n=>by simp[om]
 |a::l,0=>by simp[om]
 |a::l,n+1=>by show om l n=_; rw[fQ l]; simp
theorem gF {α:Type}: ∀ (l:List α) (n:Nat) (x:α),fi l n x=l.set n x
 | [],n,x=>by simp[fi]
 |a::l,0,x=>by simp[fi]
 |a::l,n+1,x=>by show a::fi l n x=_; rw[gF l]; simp
theorem Gi: ∀ {l:List (Nat×V)} {t:Nat},iV l t=V.dead\/(t,iV l t)∈l
 | [],t=> .inl rfl
 | (u,v)::l,t=>by
   simp only[iV];cases h:Nat.beq u t with
   |true=>have :u=t:=ao h;subst this;exact .inr (aL)
   |false=>
    rcases Gi (l:=l) (t:=t) with h'|h'
    ·exact .inl h'
    ·exact .inr (aM _ h')
def Cl.ok (G:List (Option eA)):Cl->Prop
 | .own p _ lo len w=>p.r<G.length/\(w=true->p.l= [] /\lo=0/\ ∀tr,fw G p.r=some tr->len=tr.l.length)
 | .ptrT p _ _ _=>p.r<G.length
 | _=>True
def V1.ok (G:List (Option eA)):V1->Prop
 | .cl c=>c.ok G
 | .agg cs=> ∀c∈cs,c.ok G
 | .fn _ cs=> ∀c∈cs,c.ok G
def V.ok (G:List (Option eA)):V->Prop
 | .v x=>x.ok G
 | .tup l=> ∀x∈l,x.ok G
structure TS.ok (S:TS):Prop where
 env: ∀x∈S.env,x.2.ok S.gh
 bx: ∀cs∈S.bx,∀c∈cs,c.ok S.gh
def iA (G G':List (Option eA)):Prop:=G.length<=G'.length/\ ∀r tr',r<G.length->fw G' r=some tr'-> ∃tr,fw G r=some tr/\tr.l.length=tr'.l.length
theorem iA.refl (G:List (Option eA)):iA G G:=⟨aq _,fun _ tr _ h=>⟨tr,h,rfl⟩⟩
theorem iA.trans {G H K:List (Option eA)} (h:iA G H) (k:iA H K):iA G K:=⟨aO h.1 k.1,fun r tr hr hK=>by obtain⟨t1,h1,h2⟩:=k.2 r tr (aQ hr h.1) hK;obtain⟨t2,h3,h4⟩:=h.2 r t1 hr h1;exact⟨t2,h3,h4.trans h2⟩⟩
theorem Cl.ok_mono {G G':List (Option eA)} (h:iA G G') {c:Cl} (hc:c.ok G):c.ok G':=by
 cases c with
 |own p sz lo len w=>obtain⟨h1,h2⟩:=hc;refine⟨aQ h1 h.1,fun hw=> ?_⟩;obtain⟨a,b,c⟩:=h2 hw;refine⟨a,b,fun tr htr=> ?_⟩;obtain⟨tr0,k1,k2⟩:=h.2 _ tr h1 htr;rw[c tr0 k1,k2]
 |ptrT p sz i j=>exact aQ hc h.1
 | _=>trivial
theorem V1.ok_mono {G G':List (Option eA)} (h:iA G G') {v:V1} (hv:v.ok G):v.ok G':=by
 cases v with
 |cl c=>exact Cl.ok_mono h hv
 |agg cs=>exact fun c hc=>Cl.ok_mono h (hv c hc)
 |fn f cs=>exact fun c hc=>Cl.ok_mono h (hv c hc)
theorem V.ok_mono {G G':List (Option eA)} (h:iA G G') {v:V} (hv:v.ok G):v.ok G':=by
 cases v with
 |v x=>exact V1.ok_mono h hv
 |tup l=>exact fun x hx=>V1.ok_mono h (hv x hx)
theorem V.ok_dead (G:List (Option eA)):V.dead.ok G:=trivial
theorem V.ok_sc (G:List (Option eA)) (v:Value): (V.sc v).ok G:=trivial
theorem Am {S:TS} (hS:S.ok) (t:Nat): (iV S.env t).ok S.gh:=by
 rcases Gi (l:=S.env) (t:=t) with h|h
 ·rw[h]; trivial
 ·exact hS.env _ h
theorem pH (v:Value): (cC v).av=Ai v:=by
 unfold cC Ai;split
 ·rfl
 ·rename_i hn;split
  ·exact absurd rfl hn
  ·cases h:ot v<;>rfl
theorem Rr (v:Value): (cV v).av=Cq v:=by
 cases v with
 |agg cs=>
  simp only[cV,Cq];cases h:cs.toList.all Value.oneCell' with
  |true=>simp_all [V.av,V1.av,pH]
  |false=>rfl
 |bool b=>exact pH (.bool b)
 |int k n=>exact pH (.int k n)
 |float k n=>exact pH (.float k n)
 |complex k n m=>exact pH (.complex k n m)
 |string x=>exact pH (.string x)
 |pointer x=>exact pH (.pointer x)
 |slice x y z=>exact pH (.slice x y z)
 |map x=>exact pH (.map x)
 |chan x=>exact pH (.chan x)
 |func x y z=>exact pH (.func x y z)
 |nilFunc=>exact pH .nilFunc
 |iface x y=>exact pH (.iface x y)
 |nilIface=>exact pH .nilIface
 |tuple x=>exact pH (.tuple x)
theorem Jq (G:List (Option eA)) (v:Value): (cC v).ok G:=by
 unfold cC;split
 ·trivial
 ·cases ot _<;>trivial
theorem Rs (G:List (Option eA)) (v:Value): (cV v).ok G:=by
 unfold cV;split
 ·rename_i cs;cases cs.toList.all Value.oneCell' with
  |true=>intro c hc; simp only[aJ] at hc; obtain⟨x,_,rfl⟩:=hc; exact Jq _ _
  |false=>trivial
 ·exact Jq _ _
theorem eg {S:TS} (x:Operand):opd S.st x=(S.opd x).av:=by
 cases x with
 |tmp t=>rfl
 |const v=>exact (Rr v).symm
 |func f=>rfl
 |global g=>rfl
theorem mN {S:TS} (hS:S.ok) (x:Operand): (S.opd x).ok S.gh:=by
 cases x with
 |tmp t=>exact Am hS t
 |const v=>exact Rs _ _
 |func f=>trivial
 |global g=>trivial
section
variable {ρ:Type}
theorem Of {α:Type} {b:Bool} {x y:Option α} {r:α} (h:br b x y=some r): (b=true/\x=some r)\/(b=false/\y=some r):=by
 cases b with
 |true=>exact .inl ⟨rfl,h⟩
 |false=>exact .inr ⟨rfl,h⟩
theorem eY {α:Type} {c:Prop} [Decidable c] {x:Option α} {r:α} (h:iteP c x none=some r):c/\x=some r:=by grind [iteP]
theorem Og {α:Type} {c:Prop} [Decidable c] {x y:Option α} {r:α} (h:iteP c x y=some r):c/\x=some r\/ ¬c/\y=some r:=by grind [iteP]
theorem yn {α:Type} {c:Prop} [Decidable c] {x:Option α} {r:α} (h:iteP c none x=some r): ¬c/\x=some r:=by grind [iteP]
theorem dX {α:Type} {c:Bool} {x:Option α} {r:α} (h: (bif c then x else none)=some r):c=true/\x=some r:=by grind
theorem Gj {S:TS} {t:Nat} {b:Bool} (h:iV S.env t=V.sc (.bool b)): ({ S with env:=(t,V.sc (.bool b))::S.env }:TS).st=S.st:=by
 unfold TS.st;simp only
 congr 1
 funext u
 simp only[iV];cases hb:Nat.beq t u with
 |true=>simp_all
 |false=>rfl
theorem Gk {S:TS} (hS:S.ok) (t:Nat) (b:Bool): ({ S with env:=(t,V.sc (.bool b))::S.env }:TS).ok:=
 ⟨fun x hx=>by
  simp only[bc] at hx;rcases hx with rfl|hx
  ·trivial
  ·exact hS.env x hx,hS.bx⟩
theorem A7 {S:TS} (hS:S.ok) {x:Operand} {κ:Bool->TS->Option ρ} {r:ρ} (h:F6 S x κ=some r):
  ∃b S',opd S.st x= .sc (.bool b)/\S'.st=S.st/\S'.ok/\S'.gh=S.gh/\κ b S'=some r:=by
 unfold F6 at h;split at h
 ·rename_i t;split at h
  ·rename_i b hb;rcases Of h with ⟨rfl,h⟩| ⟨rfl,h⟩
   ·exact⟨true,_,by show (iV S.env t).av=_; rw[hb]; rfl,Gj hb,Gk hS _ _,rfl,h⟩
   ·exact⟨false,_,by show (iV S.env t).av=_; rw[hb]; rfl,Gj hb,Gk hS _ _,rfl,h⟩
  ·cases h
 ·rename_i b;exact⟨b,S,rfl,rfl,hS,rfl,h⟩
 ·cases h
theorem s7 {v:V} {κ:Int->Option ρ} {r:ρ} (h:HZ v κ=some r): ∃n,xX v.av=some n/\κ n=some r:=by
 unfold HZ at h;split at h
 ·exact⟨_,rfl,h⟩
 ·cases h
theorem eA.look {G:List (Option eA)} {r:Nat} {tr:eA} (h:om G r=some (some tr)):fw G r=some tr:=by unfold fw;rw[h];rfl
theorem gz {S:TS} {p:eJ} {κ: (t:Ty)->List t.D->Option ρ} {r:ρ} (h:qs S p κ=some r):
  ∃ (t:Ty) (l:List t.D),S.st.look p= .sl t.width (l.map t.row)/\(p.l= [] ->fw S.gh p.r=some ⟨t,l,none⟩)/\κ t l=some r:=by
 unfold qs at h;split at h
 ·rename_i tr htr;have hg:=eA.look htr;split at h
  ·rename_i hh;obtain⟨t,l,hole⟩:=tr;simp only at hh;subst hh;split at h
   ·rename_i hp;refine⟨t,l,?_,fun _=>hg,h⟩;unfold St.look;have :S.st.gh p.r=some (.sl t.width (l.map t.row)):=by show (fw S.gh p.r).map eA.tree=_; rw[hg]; rfl
    rw[this,hp];rfl
   ·rename_i i j hp;simp only[ai] at h;obtain⟨x,hx,h⟩:=h;split at h
    ·rename_i t' l' hj;refine⟨t',l',?_,(fun h0=>by rw[hp] at h0; cases h0),h⟩;unfold St.look;have :S.st.gh p.r=some (.sl t.width (l.map t.row)):=by show (fw S.gh p.r).map eA.tree=_; rw[hg]; rfl
     rw[this,hp];simp only[T.go,T.cell];have e1: (l.map t.row).getD i [] =t.row x:=by simp[aD,hx]
     rw[e1,t.row_flat]
     grind [fQ,C.tree]
    ·cases h
   ·cases h
  ·cases h
 ·cases h
end
end
section
open Go
def Ty.shs (t:Ty):List Nat:=t.csh.map fun |some e=>e.width|none=>0
structure TI.ok (P:Program) (t:TypeId) (ti:TI):Prop where
 ag:Cp P t=some ti.ty.ag
 cells:P.cellsOf t=ti.ty.width
 sh:nn P 9 t=ti.ty.shs
 ze:xT P t=some ti.ty.zvs
 fd: ∀k,Lj P t k=om ti.fds k
 pl:ti.ty.ag=true->Re P t=some (ti.fds.map fun x=>(x.1,x.2.1))
 el: ∀e,ti.ty= .ls e-> ∃el,sO P t=some el/\P.cellsOf el=e.width/\P.bytesOf el=ti.el/\0<ti.el/\nn P 9 el=e.shs/\xT P el=some e.zvs
 bool:ti.ty= .b->P.underlying t=some .bool
 gu:ti.ty.ag=true->ti.ty.flatB=true->P.eqGuardType P.depth t=false
 eq:ti.ty.ag=true-> ∀ (a b:List Cl) (r:Bool) (xs ys:List Value),la ti.ty.zvs a=true->la ti.ty.zvs b=true->u5 a b=some r->a=xs.map (fun x=> .c (.sc x))->b=ys.map (fun x=> .c (.sc x))->ew P (Op.equal t (.agg xs.toArray) (.agg ys.toArray))=some r
 str:xV P t=(match ti.ty with | .s=>true| _=>false)
 int: ∀k,ti.ty= .i k->P.underlying t=some (.int k)
 el8: ∀k u,ti.ty= .ls (.i k)->sO P t=some u->P.underlying u=some (.int k)
def fS (P:Program) (Θ:mM):Prop:= ∀t ti,k9 Θ t=some ti->ti.ok P t
theorem Ty.width_pos (t:Ty):0<t.width:=by
 cases t with
 |st n=>cases n<;>decide
 | _=>exact dI
theorem C.ro_tree (c:C):T.ro c.tree=c.av:=by cases c<;>rfl
theorem C.own_tree (p:eJ) (i m:Nat) (c:C):Lm p i m c.tree=(H0 p i m c).av:=by
 cases c with
 |sc v=>rfl
 |ls t l=>simp[Lm,C.tree,H0,Cl.av]
theorem yp {α β:Type} (f:Nat->α->β): ∀ (j:Nat) (l:List α) (k:Nat),(yk f j l)[k]? =(l[k]?).map (f (j+k))
 |j,[],k=>by simp[yk]
 |j,a::l,0=>by simp[yk]
 |j,a::l,k+1=>by simp only[yk,cy]; rw[yp f (j+1) l k]; congr 2; omega
section
variable {ρ:Type} {P:Program} {Θ:mM} {S:TS}
theorem kf {p:eJ} {sz:Nat} {rows:List (List T)} (h:S.st.look p= .sl sz rows):S.st.rows p sz=some rows:=by unfold St.rows;rw[h];simp
theorem KB (hS:S.ok) {n:Nat} {v:Cl} (hv:v.ok S.gh) {κ:List Cl->Option ρ} {r:ρ} (h:H1 S n v κ=some r):
  ∃cs:List Cl,eW S.st n v.av=some (cs.map Cl.av)/\(∀c∈cs,c.ok S.gh)/\κ cs=some r:=by
 unfold H1 at h;split at h
 ·rename_i b j;split at h
  ·rename_i cs hcs;obtain⟨h1,h⟩:=dX h;have h1:j+n<=cs.length:=ar h1;refine⟨_,?_,fun c hc=> ?_,h⟩
   ·simp_all [Cl.av,eW,TS.st]
   ·rw[fQ] at hcs;exact hS.bx cs (au hcs) c (bQ (bR hc))
  ·cases h
 ·rename_i cells;obtain⟨h1,h⟩:=dX h;have h1:n<=cells.length:=ar h1;refine⟨_,?_,fun c hc=> ?_,h⟩
  ·simp only[Cl.av,eW,aK];rw[if_pos h1]
   congr 1
   rw[<-cq,bF,bF];exact aI fun c _=>C.ro_tree c
  ·obtain⟨x,_,rfl⟩:=aJ.1 hc;trivial
 ·rename_i p sz i j;obtain⟨t,l,h1,_,h5⟩:=gz h;obtain⟨h2,h6⟩:=dX h5;clear h h5;simp only[al] at h2;have h3:t.width=sz:=ao h2.1;have h4:j+n<=sz:=ar h2.2;subst h3;obtain⟨x,hx,h⟩:=ai.1 h6;have hil:i<l.length:=(aj.1 hx).1;have hfl: (t.flat x).length=t.width:=t.flat_length x;refine⟨_,?_,fun c hc=> ?_,h⟩
  ·have e1: (l.map t.row).getD i [] =t.row x:=by simp[aD,hx]
   simp only[Cl.av,eW,kf h1];rw[e1,if_pos ⟨by simpa using hil,by rw[t.row_length]; exact h4⟩]
   congr 1
   apply bA;intro k;rw[ap,ap,yp];by_cases hk:k<n
   ·have hjk:j+k< (t.flat x).length:=by omega
    rw[List.getElem?_range hk,bh,if_pos hk,bB,ah hjk];simp only[aH];rw[t.row_flat,aD,ap,ah hjk]
    grind [C.own_tree]
   grind
  ·obtain⟨k,hk⟩:=List.getElem?_of_mem hc;rw[yp] at hk;simp only[ak] at hk;obtain⟨y,_,rfl⟩:=hk;cases y with
   |sc v=>trivial
   |ls t' l'=>exact⟨hv,fun h=>by cases h⟩
 ·cases h
theorem L5 {G:List (Option eA)} {ag:Bool} {cs:List Cl} (hcs: ∀c∈cs,c.ok G) {κ:V->Option ρ} {r:ρ} (h:Sr ag cs κ=some r): ∃v,PA ag (cs.map Cl.av)=some v.av/\v.ok G/\κ v=some r:=by
 unfold Sr at h;cases ag with
 |true=>refine⟨_,rfl,?_,h⟩; exact hcs
 |false=>
  simp only[cond_false] at h;split at h
  ·rename_i c;refine⟨_,rfl,?_,h⟩; exact hcs c (by simp)
  ·cases h
theorem Gl (hΘ:fS P Θ) (hS:S.ok) {t:TypeId} {v:V} (hv:v.ok S.gh) {κ:V->Option ρ} {r:ρ} (h:F7 Θ S t v κ=some r):
  ∃u,load P S.st t v.av=some u.av/\u.ok S.gh/\κ u=some r:=by
 unfold F7 at h;split at h
 ·rename_i ti hti;have hok:=hΘ _ _ hti;split at h
  ·rename_i a;obtain⟨cs,h1,h2,h⟩:=KB hS hv h;obtain⟨u,h3,h4,h⟩:=L5 h2 h;refine⟨u,?_,h4,h⟩;unfold load;rw[hok.ag,hok.cells]
   grind [V.av,V1.av]
  ·cases h
 ·cases h
theorem L6 {p:eJ} {κ:Int->Option ρ} {r:ρ} (h:LS S p κ=some r): ∃tr,fw S.gh p.r=some tr/\κ tr.l.length=some r:=by grind [LS,eA.look]
theorem Oh {n:Nat} {i:Int} {v:Cl} (hv:v.ok S.gh) {κ:Cl->Option ρ} {r:ρ} (h:Qj n i S v κ=some r): ∃c,wQ n i v.av=some c.av/\c.ok S.gh/\κ c=some r:=by
 unfold Qj at h;split at h
 ·rename_i t l;obtain⟨h1,h⟩:=dX h;have h1:t.width=n:=ao h1;obtain⟨h2,h⟩:=eY h;obtain⟨x,hx,h⟩:=ai.1 h;have hil:=(aj.1 hx).1;refine⟨_,?_,?_,h⟩
  rotate_left
  ·trivial
  simp only[Cl.av,C.av,wQ,aK];rw[if_pos ⟨h2,by omega,h1⟩]
  congr 1
  simp[aD,hx,t.row_flat]
 ·rename_i p sz lo len;obtain⟨h1,h⟩:=dX h;have h1:sz=n:=ao h1;obtain⟨tr,h3,h⟩:=L6 h;obtain⟨h4,h⟩:=eY h;obtain⟨h5,h6⟩:=hv;obtain⟨h7,h8,h9⟩:=h6 rfl;have h10:=h9 _ h3;refine⟨_,?_,?_,h⟩
  rotate_left
  ·exact h5
  simp_all [Cl.av,wQ]
 ·rename_i p sz lo len;obtain⟨h1,h⟩:=dX h;have h1:sz=n:=ao h1;obtain⟨h4,h⟩:=eY h;refine⟨_,?_,?_,h⟩
  rotate_left
  ·exact hv.1
  simp_all [Cl.av,wQ]
 ·cases h
theorem Jr {v:Cl} (hv:v.ok S.gh) {κ:Int->Option ρ} {r:ρ} (h:N8 S v κ=some r): ∃n,tC v.av=some n/\κ n=some r:=by
 unfold N8 at h;split at h
 ·grind [Cl.av,C.av,tC]
 ·obtain⟨t,l,h2,h3,h⟩:=gz h;obtain⟨h5,h6⟩:=hv
  simp_all [Cl.av,tC]
 ·exact⟨_,rfl,h⟩
 ·exact⟨_,rfl,h⟩
 ·cases h
theorem Oi {n:Nat} {lo hi:Int} {v:Cl} (hv:v.ok S.gh) {κ:Cl->Option ρ} {r:ρ} (h:Qk n lo hi v κ=some r): ∃c,Lk n lo hi v.av=some c.av/\c.ok S.gh/\κ c=some r:=by
 unfold Qk at h;split at h
 ·obtain⟨h1,h⟩:=eY h;exact⟨.em,by simp[Cl.av,Lk,h1],trivial,h⟩
 ·rename_i t l;obtain⟨h1,h⟩:=dX h;have h1:t.width=n:=ao h1;obtain⟨h2,h⟩:=eY h;refine⟨_,?_,?_,h⟩
  rotate_left
  ·trivial
  simp_all [Cl.av,C.av,Lk]
 ·rename_i p sz l len w;obtain⟨h1,h⟩:=dX h;have h1:sz=n:=ao h1;obtain⟨h2,h⟩:=eY h;refine⟨_,?_,?_,h⟩
  rotate_left
  ·exact⟨hv.1,fun h=>by cases h⟩
  simp_all [Cl.av,Lk]
 ·cases h
theorem Dt {d:Int} {x:Option Operand} {κ:Int->Option ρ} {r:ρ} (h:Ec S d x κ=some r): ∃n,mY S.st d x=some n/\κ n=some r:=by
 unfold Ec at h;split at h
 all_goals simp_all [s7,mY,eg]
theorem Oj {G:List (Option eA)}: ∀ (parts:List (Nat×V)) (pl:List (Nat×Nat×Bool)) (cs cs':List Cl),(∀c∈cs,c.ok G)->(∀x∈parts,x.2.ok G)->Kz pl cs parts=some cs'->
  NR (pl.map fun x=>(x.1,x.2.1)) (cs.map Cl.av) (parts.map fun x=>(x.1,x.2.av))=some (cs'.map Cl.av)/\ ∀c∈cs',c.ok G:=by
 intro parts
 induction parts with
 |nil=>intro pl cs cs' hcs _ h;simp only[Kz,af] at h;subst h;exact⟨rfl,hcs⟩
 |cons x parts ih=>
  intro pl cs cs' hcs hp h;obtain⟨k,v⟩:=x;simp only[Kz] at h;split at h
  ·rename_i off n ag hk;split at h
   ·rename_i x;have hx:x.ok G:=hp (k, .v x) (by simp)
    have gg: ∀ (hd: (V.v x).av.isDead=false) (hcell: (V.v x).av.cells=x.cells.map Cl.av) (hcok: ∀c∈x.cells,c.ok G)
      (h: (bif Nat.beq x.cells.length n&&Nat.ble (off+n) cs.length then Kz pl (cs.take off++x.cells++cs.drop (off+n)) parts else none)=some cs'),
      NR (pl.map fun x=>(x.1,x.2.1)) (cs.map Cl.av) (((k,V.v x)::parts).map fun x=>(x.1,x.2.av))=some (cs'.map Cl.av)/\ ∀c∈cs',c.ok G:=by
     intro hd hcell hcok h;obtain⟨h1,h⟩:=dX h;simp only[al] at h1;have h2:x.cells.length=n:=ao h1.1;have h3:off+n<=cs.length:=ar h1.2
     obtain⟨g1,g2⟩:=ih pl _ cs' (fun c hc=>by grind) (fun y hy=>hp y (aM _ hy)) h
     refine⟨?_,g2⟩;rw[fQ] at hk;simp only[aV,NR,ap,hk,aH];rw[if_pos ⟨hd,by rw[hcell]; simpa using h2,by simpa using h3⟩,<-g1,hcell];simp[cq,cH]
    cases x with
    |cl c=>cases c with
     |dead=>cases h
     |c y=>cases y<;>exact gg rfl rfl (fun c hc=>by simp only[V1.cells,aE] at hc; subst hc; exact hx) h
     |em=>exact gg rfl rfl (fun c hc=>by simp only[V1.cells,aE] at hc; subst hc; exact hx) h
     |own p sz lo len w=>exact gg rfl rfl (fun c hc=>by simp only[V1.cells,aE] at hc; subst hc; exact hx) h
     |pro cs=>exact gg rfl rfl (fun c hc=>by simp only[V1.cells,aE] at hc; subst hc; exact hx) h
     |ptrB n j=>exact gg rfl rfl (fun c hc=>by simp only[V1.cells,aE] at hc; subst hc; exact hx) h
     |ptrT p sz i j=>exact gg rfl rfl (fun c hc=>by simp only[V1.cells,aE] at hc; subst hc; exact hx) h
    |agg cs2=>exact gg rfl rfl hx h
    |fn f cs2=>cases h
   ·cases h
  ·cases h
end
end
end Go.Proofs.YtadabkgmdllbfaaGreat.En
