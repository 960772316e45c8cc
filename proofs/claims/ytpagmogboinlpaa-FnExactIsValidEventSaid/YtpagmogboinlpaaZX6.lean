import Derived.Test.YtpagmogboinlpaaZX5
import Derived.Lib.Overlaps
namespace Go.Proofs.Ytpagmogboinlpaa.En
section
open Go Go.RowKit
section
variable {P:Program} {w w':World} {W:Nat->Prop} {bt:Bt}
structure wJ (P:Program) (f t e tn:Nat) (sz:Nat) (i:TypeInfo) (z:Value):Prop where
 enter: ∀ (args:Array Value) (w:World),(callFunc f args).run P w= .ok (.enter f args) w
 ht:P.underlying t=some (.slice e)
 hi:P.info? e=some i
 hz:i.zero=some z
 zs:z.cells.size=i.size
 z1: ∀u∈z.cells.toList,u.oneCell'=true
 hs:i.size=sz
 pos:0<sz
 htn:P.underlying tn=some (.int .i64)
 toEnd: ∀ (ab:Option Addr) (n c:Nat) (ad:Addr) (vc:Nat) (w w':World) (v:Value),n<=c->(ab=none->n=0)->n<=2 ^ 40->
  (∀ty,(Builtin.append_ #[t,t] ty #[.slice ab n c, .slice (some ad) 1 vc]).run P w= .ok v w')->
  Calls P f #[.slice ab n c, .int .i64 n, .slice (some ad) 1 vc] w fun e w1=>e= .returned v/\w1=w'
 shift: ∀ (b n c i:Nat) (ad:Addr) (vc:Nat) (w W1 W2:World) (u1 u2:Value),i<n->n+1<=c->n<=2 ^ 40->ad.block≠b->
  (∃ra ta fa,w.heap[ad.block]? =some (.cells ra ta fa)/\0<ra.size)->(∃rb tb,w.heap[b]? =some (.cells rb tb (0,0)))->
  (∀ty dc sc,(Builtin.copy_ #[t,t] ty #[.slice (some ⟨b,(i+1)*sz,none⟩) (n-i) dc, .slice (some ⟨b,i*sz,none⟩) (n+1-i) sc]).run P w.drew= .ok u1 W1)->
  (∀ty dc,(Builtin.copy_ #[t,t] ty #[.slice (some ⟨b,i*sz,none⟩) (n+1-i) dc, .slice (some ad) 1 vc]).run P W1= .ok u2 W2)->
  Calls P f #[.slice (some ⟨b,0,none⟩) n c, .int .i64 i, .slice (some ad) 1 vc] w fun e w1=>e= .returned (.slice (some ⟨b,0,none⟩) (n+1) c)/\w1=W2
 grow: ∀ (b g n c G i:Nat) (ad:Addr) (vc:Nat) (w W0 W1 W2:World) (u1 u2:Value),i<n->n<=c->c<n+1->n+1<=G->n<=2 ^ 40->
  (∀ty,(Builtin.append_ #[t,tn] ty #[.slice (some ⟨b,0,none⟩) i c, .int .i64 ((n:Int)+1-(i:Int))]).run P w= .ok (.slice (some ⟨g,0,none⟩) (n+1) G) W0)->
  (∀ty dc,(Builtin.copy_ #[t,t] ty #[.slice (some ⟨g,i*sz,none⟩) (n+1-i) dc, .slice (some ad) 1 vc]).run P W0= .ok u1 W1)->
  (∀ty dc sc,(Builtin.copy_ #[t,t] ty #[.slice (some ⟨g,(i+1)*sz,none⟩) (n-i) dc, .slice (some ⟨b,i*sz,none⟩) (n-i) sc]).run P W1.drew= .ok u2 W2)->
  Calls P f #[.slice (some ⟨b,0,none⟩) n c, .int .i64 i, .slice (some ad) 1 vc] w fun e w1=>e= .returned (.slice (some ⟨g,0,none⟩) (n+1) G)/\w1=W2
end
end
section
open Go
structure Op where
 client:Int
 seq:Int
 kind:Int
 object:Int
 old:Int
 value:Int
 deriving DecidableEq,Inhabited
structure Result where
 done:Bool
 value:Int
 deriving DecidableEq,Inhabited
structure kG where
 client:Int
 seq:Int
 result:Result
 deriving DecidableEq,Inhabited
structure kH where
 objects:List Int
 sessions:List kG
 deriving DecidableEq,Inhabited
structure oA where
 epoch:Int
 op:Op
 deriving DecidableEq,Inhabited
structure lq where
 count:Int
 digest:Int
 machine:kH
 deriving DecidableEq,Inhabited
structure lr where
 epoch:Int
 primary:Int
 replicas:List Int
 witnesses:List Int
 deriving DecidableEq,Inhabited
structure qh where
 rack:Int
 capacity:Int
 load:Int
 deriving DecidableEq,Inhabited
structure ir where
 configs:List lr
 activated:Int
 deriving DecidableEq,Inhabited
structure qi where
 epoch:Int
 holder:Int
 ends:Int
 deriving DecidableEq,Inhabited
structure nn where
 up:Bool
 intact:Bool
 version:Int
 epoch:Int
 config:lr
 first:Int
 log:List oA
 commit:Int
 learned:List oA
 deriving DecidableEq,Inhabited
structure np where
 now:Int
 servers:List nn
 sides:List Int
 master:ir
 masterUp:Int
 lease:qi
 places:List qh
 deriving DecidableEq,Inhabited
structure sk where
 code:Int
 result:Result
 index:Int
 deriving DecidableEq,Inhabited
structure wW where
 op:Op
 index:Int
 deriving DecidableEq,Inhabited
structure ia where
 kind:Int
 server:Int
 other:Int
 n:Int
 op:Op
 deriving DecidableEq,Inhabited
structure vo where
 start:Int
 event:Int
 read:Bool
 index:Int
 value:Int
 op:Op
 deriving DecidableEq,Inhabited
inductive Sn where
 |op|result|session|machine|entry|snapshot|config|place|masterLog|lease|server|cluster|reply|ack|event|mark
 deriving DecidableEq,Inhabited
abbrev Sn.D:Sn->Type
 | .op=>Op
 | .result=>Result
 | .session=>kG
 | .machine=>kH
 | .entry=>oA
 | .snapshot=>lq
 | .config=>lr
 | .place=>qh
 | .masterLog=>ir
 | .lease=>qi
 | .server=>nn
 | .cluster=>np
 | .reply=>sk
 | .ack=>wW
 | .event=>ia
 | .mark=>vo
inductive Ty where|i (k:IntKind)|b|s|st (n:Sn)|ls (t:Ty)
 deriving DecidableEq,Inhabited
abbrev Ty.D:Ty->Type
 | .i _=>Int| .b=>Bool| .s=>ByteArray| .st n=>n.D| .ls t=>List t.D
inductive C where|sc (v:Value)|ls (t:Ty) (l:List t.D)
 deriving Inhabited
def Sn.flat: (n:Sn)->n.D->List C
 | .op,x=> [.sc (.int .i64 x.client), .sc (.int .i64 x.seq), .sc (.int .i64 x.kind), .sc (.int .i64 x.object), .sc (.int .i64 x.old), .sc (.int .i64 x.value)]
 | .result,x=> [.sc (.bool x.done), .sc (.int .i64 x.value)]
 | .session,x=> [.sc (.int .i64 x.client), .sc (.int .i64 x.seq), .sc (.bool x.result.done), .sc (.int .i64 x.result.value)]
 | .machine,x=> [.ls (.i .i64) x.objects, .ls (.st .session) x.sessions]
 | .entry,x=> [.sc (.int .i64 x.epoch), .sc (.int .i64 x.op.client), .sc (.int .i64 x.op.seq), .sc (.int .i64 x.op.kind), .sc (.int .i64 x.op.object), .sc (.int .i64 x.op.old), .sc (.int .i64 x.op.value)]
 | .snapshot,x=> [.sc (.int .i64 x.count), .sc (.int .i64 x.digest), .ls (.i .i64) x.machine.objects, .ls (.st .session) x.machine.sessions]
 | .config,x=> [.sc (.int .i64 x.epoch), .sc (.int .i64 x.primary), .ls (.i .i64) x.replicas, .ls (.i .i64) x.witnesses]
 | .place,x=> [.sc (.int .i64 x.rack), .sc (.int .i64 x.capacity), .sc (.int .i64 x.load)]
 | .masterLog,x=> [.ls (.st .config) x.configs, .sc (.int .i64 x.activated)]
 | .lease,x=> [.sc (.int .i64 x.epoch), .sc (.int .i64 x.holder), .sc (.int .i64 x.ends)]
 | .server,x=> [.sc (.bool x.up), .sc (.bool x.intact), .sc (.int .i64 x.version), .sc (.int .i64 x.epoch), .sc (.int .i64 x.config.epoch), .sc (.int .i64 x.config.primary), .ls (.i .i64) x.config.replicas, .ls (.i .i64) x.config.witnesses, .sc (.int .i64 x.first), .ls (.st .entry) x.log, .sc (.int .i64 x.commit), .ls (.st .entry) x.learned]
 | .cluster,x=> [.sc (.int .i64 x.now), .ls (.st .server) x.servers, .ls (.i .i64) x.sides, .ls (.st .config) x.master.configs, .sc (.int .i64 x.master.activated), .sc (.int .i64 x.masterUp), .sc (.int .i64 x.lease.epoch), .sc (.int .i64 x.lease.holder), .sc (.int .i64 x.lease.ends), .ls (.st .place) x.places]
 | .reply,x=> [.sc (.int .i64 x.code), .sc (.bool x.result.done), .sc (.int .i64 x.result.value), .sc (.int .i64 x.index)]
 | .ack,x=> [.sc (.int .i64 x.op.client), .sc (.int .i64 x.op.seq), .sc (.int .i64 x.op.kind), .sc (.int .i64 x.op.object), .sc (.int .i64 x.op.old), .sc (.int .i64 x.op.value), .sc (.int .i64 x.index)]
 | .event,x=> [.sc (.int .i64 x.kind), .sc (.int .i64 x.server), .sc (.int .i64 x.other), .sc (.int .i64 x.n), .sc (.int .i64 x.op.client), .sc (.int .i64 x.op.seq), .sc (.int .i64 x.op.kind), .sc (.int .i64 x.op.object), .sc (.int .i64 x.op.old), .sc (.int .i64 x.op.value)]
 | .mark,x=> [.sc (.int .i64 x.start), .sc (.int .i64 x.event), .sc (.bool x.read), .sc (.int .i64 x.index), .sc (.int .i64 x.value), .sc (.int .i64 x.op.client), .sc (.int .i64 x.op.seq), .sc (.int .i64 x.op.kind), .sc (.int .i64 x.op.object), .sc (.int .i64 x.op.old), .sc (.int .i64 x.op.value)]
def Ty.flat: (t:Ty)->t.D->List C
 | .i k,n=> [.sc (.int k n)] | .b,v=> [.sc (.bool v)] | .s,v=> [.sc (.string v)] | .st n,x=>n.flat x| .ls t,l=> [.ls t l]
def Sn.width:Sn->Nat
 | .op=>6| .result=>2| .session=>4| .machine=>2| .entry=>7| .snapshot=>4| .config=>4| .place=>3| .masterLog=>2| .lease=>3| .server=>12| .cluster=>10| .reply=>4| .ack=>7| .event=>10| .mark=>11
def Ty.width:Ty->Nat| .st n=>n.width| _=>1
def Sn.csh:Sn->List (Option Ty)
 | .op=> [none,none,none,none,none,none]
 | .result=> [none,none]
 | .session=> [none,none,none,none]
 | .machine=> [some (.i .i64),some (.st .session)]
 | .entry=> [none,none,none,none,none,none,none]
 | .snapshot=> [none,none,some (.i .i64),some (.st .session)]
 | .config=> [none,none,some (.i .i64),some (.i .i64)]
 | .place=> [none,none,none]
 | .masterLog=> [some (.st .config),none]
 | .lease=> [none,none,none]
 | .server=> [none,none,none,none,none,none,some (.i .i64),some (.i .i64),none,some (.st .entry),none,some (.st .entry)]
 | .cluster=> [none,some (.st .server),some (.i .i64),some (.st .config),none,none,none,none,none,some (.st .place)]
 | .reply=> [none,none,none,none]
 | .ack=> [none,none,none,none,none,none,none]
 | .event=> [none,none,none,none,none,none,none,none,none,none]
 | .mark=> [none,none,none,none,none,none,none,none,none,none,none]
def Ty.csh:Ty->List (Option Ty)| .st n=>n.csh| .ls t=> [some t] | _=> [none]
def Sn.zvs:Sn->List Value
 | .op=> [.int .i64 0, .int .i64 0, .int .i64 0, .int .i64 0, .int .i64 0, .int .i64 0]
 | .result=> [.bool false, .int .i64 0]
 | .session=> [.int .i64 0, .int .i64 0, .bool false, .int .i64 0]
 | .machine=> [.slice none 0 0, .slice none 0 0]
 | .entry=> [.int .i64 0, .int .i64 0, .int .i64 0, .int .i64 0, .int .i64 0, .int .i64 0, .int .i64 0]
 | .snapshot=> [.int .i64 0, .int .i64 0, .slice none 0 0, .slice none 0 0]
 | .config=> [.int .i64 0, .int .i64 0, .slice none 0 0, .slice none 0 0]
 | .place=> [.int .i64 0, .int .i64 0, .int .i64 0]
 | .masterLog=> [.slice none 0 0, .int .i64 0]
 | .lease=> [.int .i64 0, .int .i64 0, .int .i64 0]
 | .server=> [.bool false, .bool false, .int .i64 0, .int .i64 0, .int .i64 0, .int .i64 0, .slice none 0 0, .slice none 0 0, .int .i64 0, .slice none 0 0, .int .i64 0, .slice none 0 0]
 | .cluster=> [.int .i64 0, .slice none 0 0, .slice none 0 0, .slice none 0 0, .int .i64 0, .int .i64 0, .int .i64 0, .int .i64 0, .int .i64 0, .slice none 0 0]
 | .reply=> [.int .i64 0, .bool false, .int .i64 0, .int .i64 0]
 | .ack=> [.int .i64 0, .int .i64 0, .int .i64 0, .int .i64 0, .int .i64 0, .int .i64 0, .int .i64 0]
 | .event=> [.int .i64 0, .int .i64 0, .int .i64 0, .int .i64 0, .int .i64 0, .int .i64 0, .int .i64 0, .int .i64 0, .int .i64 0, .int .i64 0]
 | .mark=> [.int .i64 0, .int .i64 0, .bool false, .int .i64 0, .int .i64 0, .int .i64 0, .int .i64 0, .int .i64 0, .int .i64 0, .int .i64 0, .int .i64 0]
def Ty.zvs:Ty->List Value| .i k=> [.int k 0] | .b=> [.bool false] | .s=> [.string ByteArray.empty] | .st n=>n.zvs| .ls _=> [.slice none 0 0]
def gI (k:IntKind) {α:Type} (cs:List C) (f:Int->List C->Option α):Option α:=match cs with | .sc (.int k' n)::r=>if k'=k then f n r else none| _=>none
def gB {α:Type} (cs:List C) (f:Bool->List C->Option α):Option α:=match cs with | .sc (.bool v)::r=>f v r| _=>none
def gS {α:Type} (cs:List C) (f:ByteArray->List C->Option α):Option α:=match cs with | .sc (.string v)::r=>f v r| _=>none
def gL (t:Ty) {α:Type} (cs:List C) (f:List t.D->List C->Option α):Option α:=match cs with | .ls t' l::r=>if h:t'=t then f (h ▸ l) r else none| _=>none
def gN {α:Type} (cs:List C) (x:α):Option α:=match cs with | [] =>some x| _=>none
def Sn.unflat: (n:Sn)->List C->Option n.D
 | .op,cs=>gI .i64 cs fun a0 r0=>gI .i64 r0 fun a1 r1=>gI .i64 r1 fun a2 r2=>gI .i64 r2 fun a3 r3=>gI .i64 r3 fun a4 r4=>gI .i64 r4 fun a5 r5=>gN r5 (⟨a0,a1,a2,a3,a4,a5⟩:Op)
 | .result,cs=>gB cs fun a0 r0=>gI .i64 r0 fun a1 r1=>gN r1 (⟨a0,a1⟩:Result)
 | .session,cs=>gI .i64 cs fun a0 r0=>gI .i64 r0 fun a1 r1=>gB r1 fun a2 r2=>gI .i64 r2 fun a3 r3=>gN r3 (⟨a0,a1,⟨a2,a3⟩⟩:kG)
 | .machine,cs=>gL (.i .i64) cs fun a0 r0=>gL (.st .session) r0 fun a1 r1=>gN r1 (⟨a0,a1⟩:kH)
 | .entry,cs=>gI .i64 cs fun a0 r0=>gI .i64 r0 fun a1 r1=>gI .i64 r1 fun a2 r2=>gI .i64 r2 fun a3 r3=>gI .i64 r3 fun a4 r4=>gI .i64 r4 fun a5 r5=>gI .i64 r5 fun a6 r6=>gN r6 (⟨a0,⟨a1,a2,a3,a4,a5,a6⟩⟩:oA)
 | .snapshot,cs=>gI .i64 cs fun a0 r0=>gI .i64 r0 fun a1 r1=>gL (.i .i64) r1 fun a2 r2=>gL (.st .session) r2 fun a3 r3=>gN r3 (⟨a0,a1,⟨a2,a3⟩⟩:lq)
 | .config,cs=>gI .i64 cs fun a0 r0=>gI .i64 r0 fun a1 r1=>gL (.i .i64) r1 fun a2 r2=>gL (.i .i64) r2 fun a3 r3=>gN r3 (⟨a0,a1,a2,a3⟩:lr)
 | .place,cs=>gI .i64 cs fun a0 r0=>gI .i64 r0 fun a1 r1=>gI .i64 r1 fun a2 r2=>gN r2 (⟨a0,a1,a2⟩:qh)
 | .masterLog,cs=>gL (.st .config) cs fun a0 r0=>gI .i64 r0 fun a1 r1=>gN r1 (⟨a0,a1⟩:ir)
 | .lease,cs=>gI .i64 cs fun a0 r0=>gI .i64 r0 fun a1 r1=>gI .i64 r1 fun a2 r2=>gN r2 (⟨a0,a1,a2⟩:qi)
 | .server,cs=>gB cs fun a0 r0=>gB r0 fun a1 r1=>gI .i64 r1 fun a2 r2=>gI .i64 r2 fun a3 r3=>gI .i64 r3 fun a4 r4=>gI .i64 r4 fun a5 r5=>gL (.i .i64) r5 fun a6 r6=>gL (.i .i64) r6 fun a7 r7=>gI .i64 r7 fun a8 r8=>gL (.st .entry) r8 fun a9 r9=>gI .i64 r9 fun a10 r10=>gL (.st .entry) r10 fun a11 r11=>gN r11 (⟨a0,a1,a2,a3,⟨a4,a5,a6,a7⟩,a8,a9,a10,a11⟩:nn)
 | .cluster,cs=>gI .i64 cs fun a0 r0=>gL (.st .server) r0 fun a1 r1=>gL (.i .i64) r1 fun a2 r2=>gL (.st .config) r2 fun a3 r3=>gI .i64 r3 fun a4 r4=>gI .i64 r4 fun a5 r5=>gI .i64 r5 fun a6 r6=>gI .i64 r6 fun a7 r7=>gI .i64 r7 fun a8 r8=>gL (.st .place) r8 fun a9 r9=>gN r9 (⟨a0,a1,a2,⟨a3,a4⟩,a5,⟨a6,a7,a8⟩,a9⟩:np)
 | .reply,cs=>gI .i64 cs fun a0 r0=>gB r0 fun a1 r1=>gI .i64 r1 fun a2 r2=>gI .i64 r2 fun a3 r3=>gN r3 (⟨a0,⟨a1,a2⟩,a3⟩:sk)
 | .ack,cs=>gI .i64 cs fun a0 r0=>gI .i64 r0 fun a1 r1=>gI .i64 r1 fun a2 r2=>gI .i64 r2 fun a3 r3=>gI .i64 r3 fun a4 r4=>gI .i64 r4 fun a5 r5=>gI .i64 r5 fun a6 r6=>gN r6 (⟨⟨a0,a1,a2,a3,a4,a5⟩,a6⟩:wW)
 | .event,cs=>gI .i64 cs fun a0 r0=>gI .i64 r0 fun a1 r1=>gI .i64 r1 fun a2 r2=>gI .i64 r2 fun a3 r3=>gI .i64 r3 fun a4 r4=>gI .i64 r4 fun a5 r5=>gI .i64 r5 fun a6 r6=>gI .i64 r6 fun a7 r7=>gI .i64 r7 fun a8 r8=>gI .i64 r8 fun a9 r9=>gN r9 (⟨a0,a1,a2,a3,⟨a4,a5,a6,a7,a8,a9⟩⟩:ia)
 | .mark,cs=>gI .i64 cs fun a0 r0=>gI .i64 r0 fun a1 r1=>gB r1 fun a2 r2=>gI .i64 r2 fun a3 r3=>gI .i64 r3 fun a4 r4=>gI .i64 r4 fun a5 r5=>gI .i64 r5 fun a6 r6=>gI .i64 r6 fun a7 r7=>gI .i64 r7 fun a8 r8=>gI .i64 r8 fun a9 r9=>gI .i64 r9 fun a10 r10=>gN r10 (⟨a0,a1,a2,a3,a4,⟨a5,a6,a7,a8,a9,a10⟩⟩:vo)
def Ty.unflat: (t:Ty)->List C->Option t.D
 | .i k,cs=>gI k cs fun n r=>gN r n| .b,cs=>gB cs fun n r=>gN r n| .s,cs=>gS cs fun n r=>gN r n| .st n,cs=>n.unflat cs| .ls t,cs=>gL t cs fun l r=>gN r l
def vY (x:Op):List T:= [.sc (.int .i64 x.client), .sc (.int .i64 x.seq), .sc (.int .i64 x.kind), .sc (.int .i64 x.object), .sc (.int .i64 x.old), .sc (.int .i64 x.value)]
def rg (x:Result):List T:= [.sc (.bool x.done), .sc (.int .i64 x.value)]
def i4 (x:kG):List T:= [.sc (.int .i64 x.client), .sc (.int .i64 x.seq), .sc (.bool x.result.done), .sc (.int .i64 x.result.value)]
def pL (x:kH):List T:= [.sl 1 (x.objects.map fun n=> [.sc (.int .i64 n)]), .sl 4 (x.sessions.map i4)]
def lu (x:oA):List T:= [.sc (.int .i64 x.epoch), .sc (.int .i64 x.op.client), .sc (.int .i64 x.op.seq), .sc (.int .i64 x.op.kind), .sc (.int .i64 x.op.object), .sc (.int .i64 x.op.old), .sc (.int .i64 x.op.value)]
def oB (x:lq):List T:= [.sc (.int .i64 x.count), .sc (.int .i64 x.digest), .sl 1 (x.machine.objects.map fun n=> [.sc (.int .i64 n)]), .sl 4 (x.machine.sessions.map i4)]
def jN (x:lr):List T:= [.sc (.int .i64 x.epoch), .sc (.int .i64 x.primary), .sl 1 (x.replicas.map fun n=> [.sc (.int .i64 n)]), .sl 1 (x.witnesses.map fun n=> [.sc (.int .i64 n)])]
def oC (x:qh):List T:= [.sc (.int .i64 x.rack), .sc (.int .i64 x.capacity), .sc (.int .i64 x.load)]
def nq (x:ir):List T:= [.sl 4 (x.configs.map jN), .sc (.int .i64 x.activated)]
def sm (x:qi):List T:= [.sc (.int .i64 x.epoch), .sc (.int .i64 x.holder), .sc (.int .i64 x.ends)]
def my (x:nn):List T:= [.sc (.bool x.up), .sc (.bool x.intact), .sc (.int .i64 x.version), .sc (.int .i64 x.epoch), .sc (.int .i64 x.config.epoch), .sc (.int .i64 x.config.primary), .sl 1 (x.config.replicas.map fun n=> [.sc (.int .i64 n)]), .sl 1 (x.config.witnesses.map fun n=> [.sc (.int .i64 n)]), .sc (.int .i64 x.first), .sl 7 (x.log.map lu), .sc (.int .i64 x.commit), .sl 7 (x.learned.map lu)]
def pM (x:np):List T:= [.sc (.int .i64 x.now), .sl 12 (x.servers.map my), .sl 1 (x.sides.map fun n=> [.sc (.int .i64 n)]), .sl 4 (x.master.configs.map jN), .sc (.int .i64 x.master.activated), .sc (.int .i64 x.masterUp), .sc (.int .i64 x.lease.epoch), .sc (.int .i64 x.lease.holder), .sc (.int .i64 x.lease.ends), .sl 3 (x.places.map oC)]
def sn (x:sk):List T:= [.sc (.int .i64 x.code), .sc (.bool x.result.done), .sc (.int .i64 x.result.value), .sc (.int .i64 x.index)]
def vp (x:wW):List T:= [.sc (.int .i64 x.op.client), .sc (.int .i64 x.op.seq), .sc (.int .i64 x.op.kind), .sc (.int .i64 x.op.object), .sc (.int .i64 x.op.old), .sc (.int .i64 x.op.value), .sc (.int .i64 x.index)]
def so (x:ia):List T:= [.sc (.int .i64 x.kind), .sc (.int .i64 x.server), .sc (.int .i64 x.other), .sc (.int .i64 x.n), .sc (.int .i64 x.op.client), .sc (.int .i64 x.op.seq), .sc (.int .i64 x.op.kind), .sc (.int .i64 x.op.object), .sc (.int .i64 x.op.old), .sc (.int .i64 x.op.value)]
def tP (x:vo):List T:= [.sc (.int .i64 x.start), .sc (.int .i64 x.event), .sc (.bool x.read), .sc (.int .i64 x.index), .sc (.int .i64 x.value), .sc (.int .i64 x.op.client), .sc (.int .i64 x.op.seq), .sc (.int .i64 x.op.kind), .sc (.int .i64 x.op.object), .sc (.int .i64 x.op.old), .sc (.int .i64 x.op.value)]
def Sn.row: (n:Sn)->n.D->List T
 | .op,x=>vY x
 | .result,x=>rg x
 | .session,x=>i4 x
 | .machine,x=>pL x
 | .entry,x=>lu x
 | .snapshot,x=>oB x
 | .config,x=>jN x
 | .place,x=>oC x
 | .masterLog,x=>nq x
 | .lease,x=>sm x
 | .server,x=>my x
 | .cluster,x=>pM x
 | .reply,x=>sn x
 | .ack,x=>vp x
 | .event,x=>so x
 | .mark,x=>tP x
def Ty.row: (t:Ty)->t.D->List T
 | .i k,n=> [.sc (.int k n)] | .b,v=> [.sc (.bool v)] | .s,v=> [.sc (.string v)] | .st n,x=>n.row x| .ls t,l=> [.sl t.width (l.map t.row)]
def C.tree:C->T| .sc v=> .sc v| .ls t l=> .sl t.width (l.map t.row)
def C.good:C->Bool| .sc v=>eV v| .ls _ _=>true
theorem Ty.row_flat (t:Ty) (x:t.D):t.row x=(t.flat x).map C.tree:=by
 cases t with
 |st n=>cases n<;>rfl
 | _=>rfl
theorem Ty.flat_length (t:Ty) (x:t.D): (t.flat x).length=t.width:=by
 cases t with
 |st n=>cases n<;>rfl
 | _=>rfl
theorem Ty.row_length (t:Ty) (x:t.D): (t.row x).length=t.width:=by rw[t.row_flat,ay,t.flat_length]
theorem cZ {k:IntKind} {α:Type} {cs:List C} {f:Int->List C->Option α} {y:α} (h:gI k cs f=some y): ∃n r,cs= .sc (.int k n)::r/\f n r=some y:=by
 unfold gI at h;split at h
 ·split at h
  ·rename_i hk; subst hk; exact⟨_,_,rfl,h⟩
  ·cases h
 ·cases h
theorem gJ {α:Type} {cs:List C} {f:Bool->List C->Option α} {y:α} (h:gB cs f=some y): ∃n r,cs= .sc (.bool n)::r/\f n r=some y:=by
 unfold gB at h;split at h
 ·exact⟨_,_,rfl,h⟩
 ·cases h
theorem tQ {α:Type} {cs:List C} {f:ByteArray->List C->Option α} {y:α} (h:gS cs f=some y): ∃n r,cs= .sc (.string n)::r/\f n r=some y:=by
 unfold gS at h;split at h
 ·exact⟨_,_,rfl,h⟩
 ·cases h
theorem dW {t:Ty} {α:Type} {cs:List C} {f:List t.D->List C->Option α} {y:α} (h:gL t cs f=some y): ∃n r,cs= .ls t n::r/\f n r=some y:=by
 unfold gL at h;split at h
 ·split at h
  ·rename_i hk; subst hk; exact⟨_,_,rfl,h⟩
  ·cases h
 ·cases h
theorem dC {α:Type} {cs:List C} {x y:α} (h:gN cs x=some y):cs= [] /\x=y:=by
 unfold gN at h;split at h
 ·simp only[ae] at h; exact⟨rfl,h⟩
 ·cases h
theorem Sn.unflat_some: ∀ (n:Sn) (cs:List C) (x:n.D),n.unflat cs=some x->n.flat x=cs
 | .op,cs,x,h=>by unfold Sn.unflat at h;obtain⟨a0,r0,h0,h⟩:=cZ h;obtain⟨a1,r1,h1,h⟩:=cZ h;obtain⟨a2,r2,h2,h⟩:=cZ h;obtain⟨a3,r3,h3,h⟩:=cZ h;obtain⟨a4,r4,h4,h⟩:=cZ h;obtain⟨a5,r5,h5,h⟩:=cZ h;obtain⟨e,h⟩:=dC h;subst h e h5 h4 h3 h2 h1 h0;rfl
 | .result,cs,x,h=>by unfold Sn.unflat at h;obtain⟨a0,r0,h0,h⟩:=gJ h;obtain⟨a1,r1,h1,h⟩:=cZ h;obtain⟨e,h⟩:=dC h;subst h e h1 h0;rfl
 | .session,cs,x,h=>by unfold Sn.unflat at h;obtain⟨a0,r0,h0,h⟩:=cZ h;obtain⟨a1,r1,h1,h⟩:=cZ h;obtain⟨a2,r2,h2,h⟩:=gJ h;obtain⟨a3,r3,h3,h⟩:=cZ h;obtain⟨e,h⟩:=dC h;subst h e h3 h2 h1 h0;rfl
 | .machine,cs,x,h=>by unfold Sn.unflat at h;obtain⟨a0,r0,h0,h⟩:=dW h;obtain⟨a1,r1,h1,h⟩:=dW h;obtain⟨e,h⟩:=dC h;subst h e h1 h0;rfl
 | .entry,cs,x,h=>by unfold Sn.unflat at h;obtain⟨a0,r0,h0,h⟩:=cZ h;obtain⟨a1,r1,h1,h⟩:=cZ h;obtain⟨a2,r2,h2,h⟩:=cZ h;obtain⟨a3,r3,h3,h⟩:=cZ h;obtain⟨a4,r4,h4,h⟩:=cZ h;obtain⟨a5,r5,h5,h⟩:=cZ h;obtain⟨a6,r6,h6,h⟩:=cZ h;obtain⟨e,h⟩:=dC h;subst h e h6 h5 h4 h3 h2 h1 h0;rfl
 | .snapshot,cs,x,h=>by unfold Sn.unflat at h;obtain⟨a0,r0,h0,h⟩:=cZ h;obtain⟨a1,r1,h1,h⟩:=cZ h;obtain⟨a2,r2,h2,h⟩:=dW h;obtain⟨a3,r3,h3,h⟩:=dW h;obtain⟨e,h⟩:=dC h;subst h e h3 h2 h1 h0;rfl
 | .config,cs,x,h=>by unfold Sn.unflat at h;obtain⟨a0,r0,h0,h⟩:=cZ h;obtain⟨a1,r1,h1,h⟩:=cZ h;obtain⟨a2,r2,h2,h⟩:=dW h;obtain⟨a3,r3,h3,h⟩:=dW h;obtain⟨e,h⟩:=dC h;subst h e h3 h2 h1 h0;rfl
 | .place,cs,x,h=>by unfold Sn.unflat at h;obtain⟨a0,r0,h0,h⟩:=cZ h;obtain⟨a1,r1,h1,h⟩:=cZ h;obtain⟨a2,r2,h2,h⟩:=cZ h;obtain⟨e,h⟩:=dC h;subst h e h2 h1 h0;rfl
 | .masterLog,cs,x,h=>by unfold Sn.unflat at h;obtain⟨a0,r0,h0,h⟩:=dW h;obtain⟨a1,r1,h1,h⟩:=cZ h;obtain⟨e,h⟩:=dC h;subst h e h1 h0;rfl
 | .lease,cs,x,h=>by unfold Sn.unflat at h;obtain⟨a0,r0,h0,h⟩:=cZ h;obtain⟨a1,r1,h1,h⟩:=cZ h;obtain⟨a2,r2,h2,h⟩:=cZ h;obtain⟨e,h⟩:=dC h;subst h e h2 h1 h0;rfl
 | .server,cs,x,h=>by unfold Sn.unflat at h;obtain⟨a0,r0,h0,h⟩:=gJ h;obtain⟨a1,r1,h1,h⟩:=gJ h;obtain⟨a2,r2,h2,h⟩:=cZ h;obtain⟨a3,r3,h3,h⟩:=cZ h;obtain⟨a4,r4,h4,h⟩:=cZ h;obtain⟨a5,r5,h5,h⟩:=cZ h;obtain⟨a6,r6,h6,h⟩:=dW h;obtain⟨a7,r7,h7,h⟩:=dW h;obtain⟨a8,r8,h8,h⟩:=cZ h;obtain⟨a9,r9,h9,h⟩:=dW h;obtain⟨a10,r10,h10,h⟩:=cZ h;obtain⟨a11,r11,h11,h⟩:=dW h;obtain⟨e,h⟩:=dC h;subst h e h11 h10 h9 h8 h7 h6 h5 h4 h3 h2 h1 h0;rfl
 | .cluster,cs,x,h=>by unfold Sn.unflat at h;obtain⟨a0,r0,h0,h⟩:=cZ h;obtain⟨a1,r1,h1,h⟩:=dW h;obtain⟨a2,r2,h2,h⟩:=dW h;obtain⟨a3,r3,h3,h⟩:=dW h;obtain⟨a4,r4,h4,h⟩:=cZ h;obtain⟨a5,r5,h5,h⟩:=cZ h;obtain⟨a6,r6,h6,h⟩:=cZ h;obtain⟨a7,r7,h7,h⟩:=cZ h;obtain⟨a8,r8,h8,h⟩:=cZ h;obtain⟨a9,r9,h9,h⟩:=dW h;obtain⟨e,h⟩:=dC h;subst h e h9 h8 h7 h6 h5 h4 h3 h2 h1 h0;rfl
 | .reply,cs,x,h=>by unfold Sn.unflat at h;obtain⟨a0,r0,h0,h⟩:=cZ h;obtain⟨a1,r1,h1,h⟩:=gJ h;obtain⟨a2,r2,h2,h⟩:=cZ h;obtain⟨a3,r3,h3,h⟩:=cZ h;obtain⟨e,h⟩:=dC h;subst h e h3 h2 h1 h0;rfl
 | .ack,cs,x,h=>by unfold Sn.unflat at h;obtain⟨a0,r0,h0,h⟩:=cZ h;obtain⟨a1,r1,h1,h⟩:=cZ h;obtain⟨a2,r2,h2,h⟩:=cZ h;obtain⟨a3,r3,h3,h⟩:=cZ h;obtain⟨a4,r4,h4,h⟩:=cZ h;obtain⟨a5,r5,h5,h⟩:=cZ h;obtain⟨a6,r6,h6,h⟩:=cZ h;obtain⟨e,h⟩:=dC h;subst h e h6 h5 h4 h3 h2 h1 h0;rfl
 | .event,cs,x,h=>by unfold Sn.unflat at h;obtain⟨a0,r0,h0,h⟩:=cZ h;obtain⟨a1,r1,h1,h⟩:=cZ h;obtain⟨a2,r2,h2,h⟩:=cZ h;obtain⟨a3,r3,h3,h⟩:=cZ h;obtain⟨a4,r4,h4,h⟩:=cZ h;obtain⟨a5,r5,h5,h⟩:=cZ h;obtain⟨a6,r6,h6,h⟩:=cZ h;obtain⟨a7,r7,h7,h⟩:=cZ h;obtain⟨a8,r8,h8,h⟩:=cZ h;obtain⟨a9,r9,h9,h⟩:=cZ h;obtain⟨e,h⟩:=dC h;subst h e h9 h8 h7 h6 h5 h4 h3 h2 h1 h0;rfl
 | .mark,cs,x,h=>by unfold Sn.unflat at h;obtain⟨a0,r0,h0,h⟩:=cZ h;obtain⟨a1,r1,h1,h⟩:=cZ h;obtain⟨a2,r2,h2,h⟩:=gJ h;obtain⟨a3,r3,h3,h⟩:=cZ h;obtain⟨a4,r4,h4,h⟩:=cZ h;obtain⟨a5,r5,h5,h⟩:=cZ h;obtain⟨a6,r6,h6,h⟩:=cZ h;obtain⟨a7,r7,h7,h⟩:=cZ h;obtain⟨a8,r8,h8,h⟩:=cZ h;obtain⟨a9,r9,h9,h⟩:=cZ h;obtain⟨a10,r10,h10,h⟩:=cZ h;obtain⟨e,h⟩:=dC h;subst h e h10 h9 h8 h7 h6 h5 h4 h3 h2 h1 h0;rfl
theorem Ty.unflat_some (t:Ty) (cs:List C) (x:t.D) (h:t.unflat cs=some x):t.flat x=cs:=by
 cases t with
 |i k=>obtain⟨n,r,h1,h⟩:=cZ h; obtain⟨h2,h⟩:=dC h; subst h h2 h1; rfl
 |b=>obtain⟨n,r,h1,h⟩:=gJ h; obtain⟨h2,h⟩:=dC h; subst h h2 h1; rfl
 |s=>obtain⟨n,r,h1,h⟩:=tQ h; obtain⟨h2,h⟩:=dC h; subst h h2 h1; rfl
 |st n=>exact n.unflat_some cs x h
 |ls t=>have h:gL t cs (fun l r=>gN r l)=some x:=h; obtain⟨n,r,h1,h⟩:=dW h; obtain⟨h2,h⟩:=dC h; subst h h2 h1; rfl
end
section
open Go
inductive Cl where
 |c (x:C)
 |em
 |own (p:da) (sz lo len:Nat) (w:Bool)
 |pro (cs:List C)
 |ptrB (n j:Nat)
 |ptrT (p:da) (sz i j:Nat)
 |dead
 deriving Inhabited
inductive V1 where
 |cl (x:Cl)
 |agg (cs:List Cl)
 |fn (f:FuncId) (cs:List Cl)
 deriving Inhabited
inductive V where
 |v (x:V1)
 |tup (l:List V1)
 deriving Inhabited
structure de where
 t:Ty
 l:List t.D
 hole:Option (Nat×Nat)
structure TS where
 env:List (Nat×V)
 bx:List (List Cl)
 gh:List (Option de)
 fz:Nat
 nt:Nat
structure TI where
 ty:Ty
 el:Nat
 fds:List (Nat×Nat×Bool)
 bytes:Nat
abbrev fp:=List (Nat×TI)
@[reducible] def V.c (x:C):V:= .v (.cl (.c x))
@[reducible] def V.sc (x:Value):V:= .v (.cl (.c (.sc x)))
@[reducible] def V.dead:V:= .v (.cl .dead)
def fr:List (Nat×V)->Nat->V
 | [],_=>V.dead
 | (t,v)::l,u=>bif Nat.beq t u then v else fr l u
def eH:fp->Nat->Option TI
 | [],_=>none
 | (t,v)::l,u=>bif Nat.beq t u then some v else eH l u
def ga {α:Type}:List α->Nat->Option α
 | [],_=>none
 |a::l,n=>bif Nat.beq n 0 then some a else ga l (n-1)
def cC (v:Value):Cl:=bif eV v then .c (.sc v) else match v with | .slice none 0 0=> .em| _=> .dead
def cV:Value->V
 | .agg cs=>bif cs.toList.all Value.oneCell' then .v (.agg (cs.toList.map cC)) else V.dead
 |v=> .v (.cl (cC v))
def TS.opd (S:TS):Operand->V
 | .tmp t=>fr S.env t
 | .const v=>cV v
 | .func f=>V.sc (.func (.func f) #[] #[])
 | .global _=>V.dead
def V1.cells:V1->List Cl
 | .cl x=> [x]
 | .agg cs=>cs
 | .fn _ _=> [.dead]
def C.flatB:C->Bool| .sc _=>true| _=>false
def Ty.flatB (t:Ty):Bool:=t.csh.all (·.isNone)
section
variable {ρ:Type}
def br {α:Type} (b:Bool) (x y:α):α:=cond b x y
def eD {α:Type} (c:Prop) [Decidable c] (x y:α):α:=if c then x else y
def oD (S:TS) (x:Operand) (κ:Bool->TS->Option ρ):Option ρ:=match x with
 | .tmp t=>match fr S.env t with
   | .v (.cl (.c (.sc (.bool b))))=>br b (κ true { S with env:=(t,V.sc (.bool true))::S.env }) (κ false { S with env:=(t,V.sc (.bool false))::S.env })
   | _=>none
 | .const (.bool b)=>κ b S
 | _=>none
def pN (v:V) (κ:Int->Option ρ):Option ρ:=match v with | .v (.cl (.c (.sc (.int _ n))))=>κ n| _=>none
def gq (S:TS) (p:da) (κ: (t:Ty)->List t.D->Option ρ):Option ρ:=match ga S.gh p.r with
 |some (some tr)=>match tr.hole with
  |none=>match p.l with
   | [] =>κ tr.t tr.l
   | [(i,j)] =>(tr.l[i]?).bind fun x=>match ga (tr.t.flat x) j with
     |some (.ls t l)=>κ t l
     | _=>none
   | _=>none
  |some _=>none
 | _=>none
def C.ro:C->Cl:=Cl.c
def pO (p:da) (i j:Nat):C->Cl
 | .sc v=> .c (.sc v)
 | .ls t l=> .own ⟨p.r,p.l++ [(i,j)]⟩ t.width 0 l.length false
def jO {α β:Type} (f:Nat->α->β):Nat->List α->List β
 | _,[] => []
 |n,a::l=>f n a::jO f (n+1) l
def pP (S:TS) (n:Nat) (v:Cl) (κ:List Cl->Option ρ):Option ρ:=match v with
 | .ptrB b j=>match ga S.bx b with
   |some cs=>bif Nat.ble (j+n) cs.length then κ ((cs.drop j).take n) else none
   |none=>none
 | .pro cells=>bif Nat.ble n cells.length then κ ((cells.take n).map Cl.c) else none
 | .ptrT p sz i j=>gq S p fun t l=>bif Nat.beq t.width sz&&Nat.ble (j+n) sz then (l[i]?).bind fun x=>κ (jO (pO p i) j (((t.flat x).drop j).take n)) else none
 | _=>none
def wK (ag:Bool) (cs:List Cl) (κ:V->Option ρ):Option ρ:=bif ag then κ (.v (.agg cs)) else match cs with | [c] =>κ (.v (.cl c))| _=>none
def Ty.ag:Ty->Bool| .st _=>true| _=>false
def oE (Θ:fp) (S:TS) (t:TypeId) (v:V) (κ:V->Option ρ):Option ρ:=match eH Θ t with
 |some ti=>match v with | .v (.cl a)=>pP S ti.ty.width a fun cs=>wK ti.ty.ag cs κ| _=>none
 |none=>none
def sq (S:TS) (p:da) (κ:Int->Option ρ):Option ρ:=match p.l with
 | [] =>(match ga S.gh p.r with |some (some tr)=>κ tr.l.length| _=>none)
 | _=>none
def vq (n:Nat) (i:Int) (S:TS) (v:Cl) (κ:Cl->Option ρ):Option ρ:=match v with
 | .c (.ls t l)=>bif Nat.beq t.width n then eD (0<=i) ((l[i.toNat]?).bind fun x=>κ (.pro (t.flat x))) none else none
 | .own p sz _ _ true=>bif Nat.beq sz n then sq S p fun m=>eD (0<=i/\i<m) (κ (.ptrT p sz i.toNat 0)) none else none
 | .own p sz lo len false=>bif Nat.beq sz n then eD (0<=i/\i<len) (κ (.ptrT p sz (lo+i.toNat) 0)) none else none
 | _=>none
def tR (S:TS) (v:Cl) (κ:Int->Option ρ):Option ρ:=match v with
 | .c (.ls _ l)=>κ l.length
 | .own p _ _ _ true=>gq S p fun _ l=>κ l.length
 | .own _ _ _ len false=>κ len
 | .em=>κ 0
 | _=>none
def vr (n:Nat) (lo hi:Int) (v:Cl) (κ:Cl->Option ρ):Option ρ:=match v with
 | .em=>eD (lo=0/\hi=0) (κ .em) none
 | .c (.ls t l)=>bif Nat.beq t.width n then eD (0<=lo/\lo<=hi/\hi<=l.length) (κ (.c (.ls t ((l.drop lo.toNat).take (hi.toNat-lo.toNat))))) none else none
 | .own p sz l len _=>bif Nat.beq sz n then eD (0<=lo/\lo<=hi/\hi<=len) (κ (.own p sz (l+lo.toNat) (hi.toNat-lo.toNat) false)) none else none
 | _=>none
def nr (S:TS) (d:Int) (x:Option Operand) (κ:Int->Option ρ):Option ρ:=match x with
 |none=>κ d
 |some x=>pN (S.opd x) κ
def rh:List (Nat×Nat×Bool)->List Cl->List (Nat×V)->Option (List Cl)
 | _,cs,[] =>some cs
 |pl,cs,(k,v)::r=>match ga pl k with
  |some (off,n,_)=>match v with
   | .v x=>match x with
     | .cl .dead=>none
     | .fn _ _=>none
     |x=>bif Nat.beq x.cells.length n&&Nat.ble (off+n) cs.length then rh pl (cs.take off++x.cells++cs.drop (off+n)) r else none
   | _=>none
  |none=>none
def oF:Value->Value->Option Bool
 | .int _ a, .int _ b=>some (a==b)
 | .bool a, .bool b=>some (a==b)
 | _,_=>none
def it:List Cl->List Cl->Option Bool
 | [],[] =>some true
 | .c (.sc a)::l, .c (.sc b)::m=>match oF a b,it l m with
   |some x,some y=>some (x&&y)
   | _,_=>none
 | _,_=>none
def ej:List Value->List Cl->Bool
 | [],[] =>true
 | .int k _::zs, .c (.sc (.int k' _))::cs=>bif decide (k=k') then ej zs cs else false
 | .bool _::zs, .c (.sc (.bool _))::cs=>ej zs cs
 | _,_=>false
def V.ints (f:IntKind->Int->Int->Option ρ):V->V->Option ρ
 | .v (.cl (.c (.sc (.int k a)))), .v (.cl (.c (.sc (.int k' b))))=>if k=k' then f k a b else none
 | _,_=>none
def wL (a b:ByteArray):Bool:=a.toList==b.toList
def vP (Θ:fp) (t:TypeId) (x y:V) (κ:Bool->Option ρ):Option ρ:=match x,y with
 | .v (.cl (.c (.sc (.int k a)))), .v (.cl (.c (.sc (.int k' b))))=>if k=k' then κ (a==b) else none
 | .v (.cl (.c (.sc (.bool a)))), .v (.cl (.c (.sc (.bool b))))=>match eH Θ t with
   |some ti=>match ti.ty with | .b=>κ (a==b)| _=>none
   |none=>none
 | .v (.cl (.c (.sc (.string a)))), .v (.cl (.c (.sc (.string b))))=>κ (wL a b)
 | .v (.agg a), .v (.agg b)=>match eH Θ t with
   |some ti=>bif ti.ty.ag&&ti.ty.flatB&&ej ti.ty.zvs a&&ej ti.ty.zvs b then (match it a b with |some r=>κ r|none=>none) else none
   |none=>none
 | _,_=>none
def vt (x y:V) (κ:V->Option ρ):Option ρ:=match x,y with
 | .v (.cl (.c (.sc (.string a)))), .v (.cl (.c (.sc (.string b))))=>eD (a.size+b.size<=2 ^ 40) (κ (V.sc (.string (a++b)))) none
 | _,_=>V.ints (fun k a b=>κ (V.sc (.int k (k.wrap (a+b))))) x y
def vu (Θ:fp) (op:BinOp) (t:TypeId) (x y:V) (κ:V->Option ρ):Option ρ:=match op with
 | .lss=>V.ints (fun _ a b=>κ (V.sc (.bool (decide (a<b))))) x y
 | .leq=>V.ints (fun _ a b=>κ (V.sc (.bool (decide (a<=b))))) x y
 | .gtr=>V.ints (fun _ a b=>κ (V.sc (.bool (decide (a>b))))) x y
 | .geq=>V.ints (fun _ a b=>κ (V.sc (.bool (decide (a≥b))))) x y
 | .add=>vt x y κ
 | .sub=>V.ints (fun k a b=>κ (V.sc (.int k (k.wrap (a-b))))) x y
 | .mul=>V.ints (fun k a b=>κ (V.sc (.int k (k.wrap (a*b))))) x y
 | .quo=>V.ints (fun k a b=>if b=0 then none else κ (V.sc (.int k (k.wrap (a.tdiv b))))) x y
 | .rem=>V.ints (fun k a b=>if b=0 then none else κ (V.sc (.int k (a.tmod b)))) x y
 | .eql=>vP Θ t x y fun r=>κ (V.sc (.bool r))
 | .neq=>vP Θ t x y fun r=>κ (V.sc (.bool (!r)))
 | _=>none
def oG:List V->Option (List Cl)
 | [] =>some []
 | .v (.cl c)::l=>match oG l with |some r=>some (c::r)|none=>none
 | _=>none
def lw (Θ:fp) (S:TS) (o:Oper) (κ:V->TS->Option ρ):Option ρ:=
 let e:=S.opd
 match o.op with
 | .move x| .assign x=>κ (e x) S
 | .pick c a b=>oD S c fun t S=>bif t then κ (S.opd a) S else κ (S.opd b) S
 | .load t a=>oE Θ S t (e a) (fun v=>κ v S)
 | .nilCheck x=>match e x with
   | .v (.cl (.ptrB n j))=>κ (.v (.cl (.ptrB n j))) S
   | .v (.cl (.ptrT p sz i j))=>κ (.v (.cl (.ptrT p sz i j))) S
   | .v (.cl (.pro cs))=>κ (.v (.cl (.pro cs))) S
   | .v (.fn f cs)=>κ (.v (.fn f cs)) S
   | .v (.cl (.c (.sc (.func (.func f) a b))))=>κ (.v (.cl (.c (.sc (.func (.func f) a b))))) S
   | _=>none
 | .fieldAddr t x k=>match eH Θ t with
   |some ti=>match ga ti.fds k with
    |some (off,n,_)=>bif Nat.beq n 0 then none else match e x with
     | .v (.cl (.ptrB b j))=>κ (.v (.cl (.ptrB b (j+off)))) S
     | .v (.cl (.ptrT p sz i j))=>κ (.v (.cl (.ptrT p sz i (j+off)))) S
     | .v (.cl (.pro cs))=>κ (.v (.cl (.pro (cs.drop off)))) S
     | _=>none
    |none=>none
   |none=>none
 | .field t x k=>match eH Θ t with
   |some ti=>match ga ti.fds k with
    |some (off,n,ag)=>match e x with
     | .v (.agg cs)=>bif Nat.ble (off+n) cs.length&&Nat.blt 0 n then wK ag ((cs.drop off).take n) (fun v=>κ v S) else none
     | _=>none
    |none=>none
   |none=>none
 | .indexAddr t x ix=>match eH Θ t with
   |some ti=>match ti.ty with
    | .ls el=>pN (e ix) fun i=>match e x with | .v (.cl a)=>vq el.width i S a (fun c=>κ (.v (.cl c)) S)| _=>none
    | _=>none
   |none=>none
 | .build t parts=>match eH Θ t with
   |some ti=>bif ti.ty.ag then (match rh ti.fds (ti.ty.zvs.map cC) (parts.toList.map fun x=>(x.1,e x.2)) with |some cs=>κ (.v (.agg cs)) S|none=>none) else none
   |none=>none
 | .slice t x lo hi none=>match eH Θ t with
   |some ti=>match ti.ty with
    | .ls el=>match e x with
      | .v (.cl a)=>tR S a fun n=>nr S 0 lo fun l=>nr S n hi fun h=>vr el.width l h a (fun c=>κ (.v (.cl c)) S)
      | _=>none
    | _=>none
   |none=>none
 | .convert s d x=>match eH Θ s,eH Θ d with
   |some _,some di=>match di.ty with
    | .i k'=>(match e x with | .v (.cl (.c (.sc (.int _ n))))=>κ (V.sc (.int k' (k'.wrap n))) S| _=>none)
    | _=>none
   | _,_=>none
 | .index t x ix=>match eH Θ t with
   |some ti=>match ti.ty with
    | .s=>(match e x,e ix with | .v (.cl (.c (.sc (.string s)))), .v (.cl (.c (.sc (.int _ i))))=>eD (0<=i) ((s[i.toNat]?).bind fun b=>κ (V.sc (.int .u8 b.toNat)) S) none| _,_=>none)
    | _=>none
   |none=>none
 | .extract x k=>match e x with | .tup vs=>(match ga vs k with |some v=>κ (.v v) S|none=>none)| _=>none
 | .makeFunc (.func f) first caps=>bif first.isEmpty then (match oG (caps.toList.map e) with |some cs=>κ (.v (.fn f cs)) S|none=>none) else none
 | .call { callee:= .builtin .len,args:=as,argTypes:=ts } =>match as.toList,ts.toList with
   | [x],[t] =>match eH Θ t with
     |some ti=>match ti.ty with
      | .ls _=>(match e x with | .v (.cl a)=>tR S a fun n=>κ (V.sc (.int .i64 n)) S| _=>none)
      | _=>none
     |none=>none
   | _,_=>none
 | .call { callee:= .builtin .cap,args:=as,argTypes:=ts } =>match as.toList,ts.toList with
   | [x],[t] =>match eH Θ t with
     |some ti=>match ti.ty with
      | .ls _=>(match e x with | .v (.cl .em)=>κ (V.sc (.int .i64 0)) S| _=>none)
      | _=>none
     |none=>none
   | _,_=>none
 | .call { callee:= .builtin .max,args:=as,argTypes:=_ } =>match as.toList with
   | [x,y] =>V.ints (fun k a b=>κ (V.sc (.int k (if b>a then b else a))) S) (e x) (e y)
   | _=>none
 | .call { callee:= .builtin .min,args:=as,argTypes:=_ } =>match as.toList with
   | [x,y] =>V.ints (fun k a b=>κ (V.sc (.int k (if b<a then b else a))) S) (e x) (e y)
   | _=>none
 | .binOp op t x y _=>vu Θ op t (e x) (e y) (fun v=>κ v S)
 | .unOp .not _ x=>match e x with | .v (.cl (.c (.sc (.bool b))))=>κ (V.sc (.bool (!b))) S| _=>none
 | _=>none
end
end
section
open Go
def C.av:C->AV
 | .sc v=> .sc v
 | .ls t l=> .ro t.width (l.map t.row)
def Cl.av:Cl->AV
 | .c x=>x.av
 | .em=> .em
 | .own p sz lo len _=> .own p sz lo len
 | .pro cs=> .pro (cs.map C.tree)
 | .ptrB n j=> .ptrB n j
 | .ptrT p sz i j=> .ptrT p sz i j
 | .dead=> .dead
def V1.av:V1->AV
 | .cl x=>x.av
 | .agg cs=> .agg (cs.map Cl.av)
 | .fn f cs=> .fn f (cs.map Cl.av)
def V.av:V->AV
 | .v x=>x.av
 | .tup l=> .tup (l.map V1.av)
def de.tree (x:de):T:=match x.hole with
 |none=> .sl x.t.width (x.l.map x.t.row)
 |some (i,j)=> .sl x.t.width ((x.l.map x.t.row).set i (((x.l.map x.t.row).getD i []).set j .dd))
def du (G:List (Option de)) (r:Nat):Option de:=(ga G r).getD none
def TS.st (S:TS):St where
 env:=fun t=>(fr S.env t).av
 bx:=fun n=>(ga S.bx n).map fun cs=>cs.map Cl.av
 gh:=fun r=>(du S.gh r).map de.tree
 nb:=S.bx.length
 ng:=S.gh.length
 fz:=S.fz
 orc:=none
 nt:=S.nt
structure kI where
 f:FuncId->List V1->(ρ:Type)->(V->List de->Option ρ)->Option ρ
 kd:FuncId->Nat
instance:CoeFun kI fun _=>FuncId->List V1->(ρ:Type)->(V->List de->Option ρ)->Option ρ:=⟨kI.f⟩
def ed:Nat:=1048576
def uV:Nat:=ed+ed
def ri (g:Nat):Nat:=g+ed
def tS (g:Nat):Nat:=g+uV
def ns (n:Nat):Cl->Cl
 | .own p sz lo len w=> .own ⟨p.r+n,p.l⟩ sz lo len w
 | .c (.sc v)=> .c (.sc v)
 | _=> .dead
def iu (n:Nat):V1->V1
 | .agg cs=> .agg (cs.map (ns n))
 | .cl c=> .cl (ns n c)
 | .fn _ _=> .cl .dead
def gK (n:Nat):V->V
 | .tup vs=> .tup (vs.map (iu n))
 | .v x=> .v (iu n x)
def dp {α:Type}:List α->Nat->α->List α
 | [],_,_=> []
 |a::l,n,x=>bif Nat.beq n 0 then x::l else a::dp l (n-1) x
def jo (t t':Ty) (l:List t.D):Option (List t'.D):=if h:t=t' then some (h ▸ l) else none
def fv (r j:Nat):Cl->Cl
 | .own p sz lo len w=>match p.l with | (_,j')::_=>bif Nat.beq p.r r&&Nat.beq j j' then .dead else .own p sz lo len w| [] => .own p sz lo len w
 | .ptrT p sz a b=>match p.l with | (_,j')::_=>bif Nat.beq p.r r&&Nat.beq j j' then .dead else .ptrT p sz a b| [] => .ptrT p sz a b
 |c=>c
def gb (r j:Nat):V1->V1
 | .cl c=> .cl (fv r j c)
 | .agg cs=> .agg (cs.map (fv r j))
 | .fn f cs=> .fn f (cs.map (fv r j))
def mz (r j:Nat):V->V
 | .v x=> .v (gb r j x)
 | .tup vs=> .tup (vs.map (gb r j))
def TS.kill (S:TS) (r j:Nat):TS:= { S with env:=S.env.map fun x=>(x.1,mz r j x.2),bx:=S.bx.map fun cs=>cs.map (fv r j) }
def dN (S:TS) (no j:Nat) (et:Option Ty) (c:Cl):Option (C×TS):=match c,et with
 | .c (.sc v),none=>some (.sc v,S)
 | .em,some t=>some (.ls t [],S.kill no j)
 | .own p sz _ _ true,some t=>match p.l with
   | [] =>bif Nat.beq t.width sz&&Nat.ble S.fz p.r&& !(Nat.beq p.r no) then match ga S.gh p.r with
     |some (some tr)=>match tr.hole with
      |none=>bif Nat.beq tr.t.width sz then some (.ls tr.t tr.l,{ S with gh:=dp S.gh p.r none }.kill no j) else none
      |some _=>none
     | _=>none else none
   | _=>none
 | _,_=>none
def fw (no:Nat):Nat->TS->List (Option Ty)->List Cl->Option (List C×TS)
 |j,S,et::ets,c::cs=>match dN S no j et c with
  |some (x,S1)=>match fw no (j+1) S1 ets cs with
   |some (xs,S2)=>some (x::xs,S2)
   |none=>none
  |none=>none
 | _,S,[],[] =>some ([],S)
 | _,_,_,_=>none
def xi (et:Option Ty) (v:Value):C:=match et with |some t=> .ls t [] |none=> .sc v
def Ty.zcs (t:Ty):List C:=List.zipWith xi t.csh t.zvs
def vv:List Cl->Option (List C)
 | [] =>some []
 | .c (.sc v)::l=>match vv l with |some r=>some (.sc v::r)|none=>none
 | _=>none
section
variable {ρ:Type}
def lx {α β:Type} (f:α->(β->Option ρ)->Option ρ):List α->(List β->Option ρ)->Option ρ
 | [],κ=>κ []
 |a::l,κ=>f a fun b=>lx f l fun bs=>κ (b::bs)
def pQ (Θ:fp) (S:TS) (t:TypeId) (a v:V) (κ:TS->Option ρ):Option ρ:=match eH Θ t with
 |none=>none
 |some ti=>match v with
  | .tup _=>none
  | .v (.cl .dead)=>none
  | .v (.fn _ _)=>none
  | .v x=>bif Nat.beq x.cells.length ti.ty.width then match a with
    | .v (.cl (.ptrB b j))=>match ga S.bx b with
      |some cs=>bif Nat.ble (j+x.cells.length) cs.length then κ { S with bx:=dp S.bx b (cs.take j++x.cells++cs.drop (j+x.cells.length)) } else none
      |none=>none
    | .v (.cl (.ptrT p sz i j))=>match p.l with
      | [] =>match ga S.gh p.r with
        |some (some tr)=>bif Nat.beq tr.t.width sz&&Nat.ble (j+ti.ty.width) sz&&Nat.beq x.cells.length ti.ty.width then
         bif ti.ty.flatB then
          match tr.hole,vv x.cells with
          |none,some vs=>(tr.l[i]?).bind fun y=>match tr.t.unflat ((tr.t.flat y).take j++vs++(tr.t.flat y).drop (j+ti.ty.width)) with
           |some z=>κ { S with gh:=dp S.gh p.r (some ⟨tr.t,tr.l.set i z,none⟩) }
           |none=>none
          | _,_=>none
         else bif Nat.ble S.fz p.r then match fw p.r j S ti.ty.csh x.cells with
          |some (vs,S1)=>(tr.l[i]?).bind fun y=>match tr.t.unflat ((tr.t.flat y).take j++vs++(tr.t.flat y).drop (j+ti.ty.width)) with
           |some z=>match tr.hole with
            |none=>κ { S1 with gh:=dp S1.gh p.r (some ⟨tr.t,tr.l.set i z,none⟩) }
            |some (i0,j0)=>bif Nat.beq j j0&&Nat.beq ti.ty.width 1 then eD (i=i0) (κ { S1 with gh:=dp S1.gh p.r (some ⟨tr.t,tr.l.set i z,none⟩) }) none else none
           |none=>none
          |none=>none else none
         else none
        | _=>none
      | _=>none
    | _=>none
    else none
def rj (S:TS) (et:Option Ty) (c:Cl) (κ:Cl->Option ρ):Option ρ:=match c with
 | .c x=>κ (.c x)
 | .em=>match et with |some t=>κ (.c (.ls t []))|none=>none
 | .own p sz _ _ true=>gq S p fun t l=>bif Nat.beq t.width sz then κ (.c (.ls t l)) else none
 | .own p sz lo len false=>gq S p fun t l=>bif Nat.beq t.width sz then eD (lo+len<=l.length) (κ (.c (.ls t ((l.drop lo).take len)))) none else none
 | .pro cs=>κ (.pro cs)
 | .ptrT p sz i j=>gq S p fun t l=>bif Nat.beq t.width sz then (l[i]?).bind fun x=>κ (.pro ((t.flat x).drop j)) else none
 | .ptrB b j=>match ga S.bx b with
   |some cs=>lx (fun c κ=>match c with
    | .c x=>κ x
    | .own p sz _ _ true=>gq S p fun t l=>bif Nat.beq t.width sz then κ (.ls t l) else none
    | _=>none) (cs.drop j) fun cs=>κ (.pro cs)
   |none=>none
 | .dead=>κ .dead
def tT (S:TS):List (Option Ty)->List Cl->(List Cl->Option ρ)->Option ρ
 |et::ets,c::cs,κ=>rj S et c fun c'=>tT S ets cs fun cs'=>κ (c'::cs')
 | [],[],κ=>κ []
 | _,_,_=>none
def wX (Θ:fp) (S:TS) (t:TypeId) (v:V) (κ:V1->Option ρ):Option ρ:=match v with
 | .tup _=>none
 | .v (.fn f cs)=>lx (rj S none) cs fun cs'=>κ (.fn f cs')
 | .v (.agg cs)=>match eH Θ t with |some ti=>tT S ti.ty.csh cs fun cs'=>κ (.agg cs')|none=>none
 | .v (.cl .em)=>κ (.cl .em)
 | .v (.cl c)=>match eH Θ t with |some ti=>rj S (ti.ty.csh.headD none) c fun c'=>κ (.cl c')|none=>rj S none c fun c'=>κ (.cl c')
def gr (Θ:fp) (S:TS):List TypeId->List Operand->(List V1->Option ρ)->Option ρ
 |t::ts,a::as,κ=>wX Θ S t (S.opd a) fun v=>gr Θ S ts as fun vs=>κ (v::vs)
 | [],[],κ=>κ []
 | _,_,_=>none
def qj (Θ:fp) (Y:kI) (S:TS) (f:Operand) (ts:List TypeId) (as:List Operand) (κ:V->TS->Option ρ):Option ρ:=match S.opd f with
 | .v (.cl (.c (.sc (.func (.func g) _ _))))=>bif Nat.blt g ed then gr Θ S ts as fun vs=>Y g vs ρ fun res out=>κ (gK S.gh.length res) { S with gh:=S.gh++out.map some } else none
 | .v (.fn g caps)=>bif Nat.blt g ed then gr Θ S ts as fun vs=>lx (rj S none) caps fun cs=>Y g (vs++cs.map .cl) ρ fun res out=>κ (gK S.gh.length res) { S with gh:=S.gh++out.map some } else none
 | _=>none
def sr (S:TS) (el:Ty) (v:Cl) (κ:List el.D->TS->Option ρ):Option ρ:=match v with
 | .em=>κ [] S
 | .c (.ls t l)=>bif el.flatB then match jo t el l with |some l=>κ l S|none=>none else none
 | .own p sz lo len w=>bif Nat.beq el.width sz then (bif el.flatB then gq S p fun t l=>match jo t el l with
   |some l=>bif w then κ l S else eD (lo+len<=l.length) (κ ((l.drop lo).take len) S) none
   |none=>none
   else match p.l with
   | [] =>bif w&&Nat.ble S.fz p.r then gq S p fun t l=>match jo t el l with |some l=>κ l { S with gh:=dp S.gh p.r none } |none=>none else none
   | _=>none) else none
 | _=>none
def oH (S:TS) (el:Ty) (v:Cl) (more:List el.D) (κ:List el.D->TS->Option ρ):Option ρ:=match v with
 | .em=>κ more S
 | .own p sz lo len w=>bif Nat.ble S.fz p.r&&Nat.beq el.width sz then match p.l with
   | [] =>gq S p fun t l=>match jo t el l with
     |some l=>bif w then κ (l++more) { S with gh:=dp S.gh p.r none }
      else eD (lo=0) (eD (l.length<len) none (κ (l.take len++more) { S with gh:=dp S.gh p.r none })) none
     |none=>none
   | [(i,j)] =>match ga S.gh p.r with
     |some (some tr)=>match tr.hole with
      |none=>gq S p fun t l=>match jo t el l with
       |some l=>eD (lo=0) (eD (l.length<len) none (κ (l.take len++more) { S with gh:=dp S.gh p.r (some ⟨tr.t,tr.l,some (i,j)⟩) })) none
       |none=>none
      |some _=>none
     | _=>none
   | _=>none else none
 | _=>none
def tU (Θ:fp) (S:TS) (t:TypeId) (s x:V) (κ:V->TS->Option ρ):Option ρ:=match eH Θ t with
 |some ti=>match ti.ty,s,x with
  | .ls el, .v (.cl s), .v (.cl x)=>sr S el x fun more S1=>oH S1 el s more fun l S2=>eD (l.length*ti.el<=2 ^ 40) (κ (.v (.cl (.own ⟨S2.gh.length,[]⟩ el.width 0 l.length true))) { S2 with gh:=S2.gh++ [some ⟨el,l,none⟩] }) none
  | _,_,_=>none
 |none=>none
def wM:List Nat->List Nat->Bool
 | [],[] =>true
 |a::l,b::m=>bif Nat.beq a b then wM l m else false
 | _,_=>false
def ge (el:Ty):TS->List V->Option (List el.D×TS)
 |S,[] =>some ([],S)
 |S, .v x::r=>match fw S.gh.length 0 S el.csh x.cells with
  |some (vs,S1)=>match el.unflat vs,ge el S1 r with
   |some y,some (ys,S2)=>some (y::ys,S2)
   | _,_=>none
  |none=>none
 | _,_=>none
def pR:Cl->Bool| .c (.ls _ _)=>true| _=>false
def ly:V->Bool| .v x=>x.cells.any pR| _=>false
def eL:List (Option Ty)->List Cl->Option (List C)
 | _::ets, .c x::cs=>(match eL ets cs with |some r=>some (x::r)|none=>none)
 |some t::ets, .em::cs=>(match eL ets cs with |some r=>some (.ls t []::r)|none=>none)
 | [],[] =>some []
 | _,_=>none
def gt (el:Ty):List V->Option (List el.D)
 | [] =>some []
 | .v x::r=>(match eL el.csh x.cells with
   |some xs=>(match el.unflat xs,gt el r with |some y,some ys=>some (y::ys)| _,_=>none)
   |none=>none)
 | _=>none
def uW (Θ:fp) (S:TS) (t:TypeId) (s x:V) (κ:V->TS->Option ρ):Option ρ:=match eH Θ t with
 |some ti=>match ti.ty,s with
  | .ls el, .v (.cl .em)=>pN x fun n=>match el.unflat el.zcs with
    |some z=>eD (0<n/\n*ti.el<=2 ^ 40) (κ (.v (.cl (.own ⟨S.gh.length,[]⟩ el.width 0 n.toNat true))) { S with gh:=S.gh++ [some ⟨el,List.replicate n.toNat z,none⟩] }) none
    |none=>none
  | _,_=>none
 |none=>none
def jq (Θ:fp) (Y:kI) (S:TS) (o:Oper) (κ:V->TS->Option ρ):Option ρ:=
 let e:=S.opd
 match o.op with
 | .alloc t=>match eH Θ t with |some ti=>κ (.v (.cl (.ptrB S.bx.length 0))) { S with bx:=S.bx++ [ti.ty.zvs.map cC] } |none=>none
 | .box _ x=>match e x with
   | .v (.cl .dead)=>none
   | .v (.cl c)=>κ (.v (.cl (.ptrB S.bx.length 0))) { S with bx:=S.bx++ [[c]] }
   | .v (.agg cs)=>κ (.v (.cl (.ptrB S.bx.length 0))) { S with bx:=S.bx++ [cs] }
   | _=>none
 | .store t a x=>pQ Θ S t (e a) (e x) fun S'=>κ V.dead S'
 | .makeSlice t l c=>match eH Θ t with
   |some ti=>match ti.ty with
    | .ls el=>pN (e l) fun n=>pN (e c) fun m=>match el.unflat el.zcs with
      |some z=>eD (0<=n/\n=m/\n*ti.el<=2 ^ 40) (κ (.v (.cl (.own ⟨S.gh.length,[]⟩ el.width 0 n.toNat true))) { S with gh:=S.gh++ [some ⟨el,List.replicate n.toNat z,none⟩] }) none
      |none=>none
    | _=>none
   |none=>none
 | .buildSlice t len parts=>match eH Θ t with
   |some ti=>match ti.ty with
    | .ls el=>bif Nat.ble (len*el.width) 1048576&&wM (parts.toList.map (·.1)) (List.range len) then (bif (parts.toList.map fun x=>e x.2).any ly then (match gt el (parts.toList.map fun x=>e x.2) with |some l=>κ (.v (.cl (.c (.ls el l)))) S|none=>none) else match ge el S (parts.toList.map fun x=>e x.2) with
      |some (l,S1)=>κ (.v (.cl (.own ⟨S1.gh.length,[]⟩ el.width 0 l.length true))) { S1 with gh:=S1.gh++ [some ⟨el,l,none⟩] }
      |none=>none) else none
    | _=>none
   |none=>none
 | .call { callee:= .builtin .append,args:=as,argTypes:=ts } =>match as.toList,ts.toList with
   | [s,x],[t,t'] =>bif Nat.beq t t' then tU Θ S t (e s) (e x) κ else uW Θ S t (e s) (e x) κ
   | _,_=>none
 | .call { callee:= .value f,args:=as,argTypes:=ts } =>qj Θ Y S f ts.toList as.toList κ
 | _=>lw Θ S o κ
def gv (S:TS) (d:Option Tmp) (v:V) (κ:TS->Option ρ):Option ρ:=match d with
 |some t=>bif Nat.blt t S.nt then κ { S with env:=(t,v)::S.env } else none
 |none=>κ S
def qk (S:TS) (all:List Oper) (o:Oper) (κ:Bool->TS->Option ρ):Option ρ:=match o.guard with
 |none=>κ true S
 |some (j,want)=>match ga all j with
  |some oj=>match oj.dst with
   |some d=>match fr S.env d with
    | .tup [] =>κ false S
    | _=>oD S (.tmp d) fun b S1=>κ (b==want) S1
   |none=>none
  |none=>none
noncomputable def wN {α:Type} (x y:α) (z:α):α:=open Classical in if x=y then x else z
def wY {α β:Type} (l:List α) (x y:β):β:=match l with | [] =>x| _::_=>y
def kJ (o:Oper):Option (TypeId×Operand):=match o.op with
 | .binOp .eql t x (.const (.slice none 0 0)) _=>(match o.guard with |none=>some (t,x)|some _=>none)
 | _=>none
def vZ (Θ:fp) (t:TypeId):Bool:=match eH Θ t with |some ti=>(match ti.ty with | .ls _=>true| _=>false)|none=>false
def oI (Y:kI) (S:TS) (o:Oper):Option (Nat×FuncId×List Cl×Nat×Nat×List TypeId×List Operand):=match o.op with
 | .call { callee:= .value f,args:=as,argTypes:=ts } =>(match o.guard with
   |some _=>none
   |none=>match as.toList,ts.toList with
    |x::xs,_::us=>(match S.opd x with
     | .v (.cl (.own ⟨r,[]⟩ sz _ _ true))=>(match S.opd f with
       | .v (.cl (.c (.sc (.func (.func g) _ _))))=>bif Nat.blt g ed&& !Nat.beq (Y.kd g) 0 then some (Y.kd g,g,[],r,sz,us,xs) else none
       | .v (.fn g caps)=>bif Nat.blt g ed&& !Nat.beq (Y.kd g) 0 then some (Y.kd g,g,caps,r,sz,us,xs) else none
       | _=>none)
     | _=>none)
    | _,_=>none)
 | _=>none
def pS:V->Bool
 | .v (.cl (.c (.sc _)))=>true
 | .tup [] =>true
 | _=>false
def sw (Θ:fp) (Y:kI) (S:TS) (k:Nat) (g:FuncId) (caps:List Cl) (r sz:Nat) (us:List TypeId) (xs:List Operand) (dst:Option Tmp) (κ:TS->Option ρ):Option ρ:=match du S.gh r with
 |some ⟨el,l,none⟩=>bif Nat.beq sz el.width then gr Θ { S with gh:=dp S.gh r none } us xs fun vs=>lx (rj { S with gh:=dp S.gh r none } none) caps fun cs=>
  bif Nat.beq k 1 then Y (ri g) (.cl (.c (.ls el l)):: (vs++cs.map .cl)) ρ fun res out=>(match out with
   | [⟨t,l',none⟩] =>bif decide (t=el)&&pS res then eD (l'.length=l.length) (gv { S with gh:=dp S.gh r (some ⟨t,l',none⟩) } dst res κ) none else none
   | _=>none)
  else bif Nat.ble S.fz r then Y (tS g) (.cl (.c (.ls el l)):: (vs++cs.map .cl)) ρ fun res out=>gv { S with gh:=dp S.gh r none++out.map some } dst (gK S.gh.length res) κ
  else none else none
 | _=>none
inductive pT where
 |nest (r i j sz lo len:Nat)
 |agg (cs:List Cl)
def nu:V->Option pT
 | .v (.cl (.own ⟨r,[(i,j)]⟩ sz lo len _))=>some (.nest r i j sz lo len)
 | .v (.agg cs)=>some (.agg cs)
 | _=>none
def lz (Y:kI) (S:TS) (o:Oper):Option (FuncId×List Cl×pT×List TypeId×List Operand):=match o.op with
 | .call { callee:= .value f,args:=as,argTypes:=ts } =>(match o.guard with
   |some _=>none
   |none=>match as.toList,ts.toList with
    |x::xs,_::us=>(match nu (S.opd x) with
     |some a=>(match S.opd f with
      | .v (.cl (.c (.sc (.func (.func g) _ _))))=>bif Nat.blt g ed&&Nat.beq (Y.kd g) 1 then some (g,[],a,us,xs) else none
      | .v (.fn g caps)=>bif Nat.blt g ed&&Nat.beq (Y.kd g) 1 then some (g,caps,a,us,xs) else none
      | _=>none)
     |none=>none)
    | _,_=>none)
 | _=>none
def iv (S:TS):List Cl->Option (List C×List Nat)
 | [] =>some ([],[])
 | .c (.sc v)::cs=>(match iv S cs with |some (xs,L)=>some (.sc v::xs,L)|none=>none)
 | .own ⟨r,[]⟩ sz _ _ true::cs=>(match du S.gh r with
   |some ⟨el,l,none⟩=>bif Nat.beq sz el.width then (match iv S cs with |some (xs,L)=>some (.ls el l::xs,r::L)|none=>none) else none
   | _=>none)
 | _=>none
def sx (G:List (Option de)) (L:List Nat):List (Option de):=L.foldl (fun G r=>dp G r none) G
def lA (S:TS):List Nat->List de->(TS->Option ρ)->Option ρ
 | [],[],κ=>κ S
 |r::L,⟨t,l',none⟩::out,κ=>(match du S.gh r with
  |some ⟨el,l,none⟩=>bif decide (t=el) then eD (l'.length=l.length) (lA { S with gh:=dp S.gh r (some ⟨t,l',none⟩) } L out κ) none else none
  | _=>none)
 | _,_,_=>none
def nv (Θ:fp) (Y:kI) (S:TS) (g:FuncId) (caps:List Cl) (a:pT) (us:List TypeId) (xs:List Operand) (dst:Option Tmp) (κ:TS->Option ρ):Option ρ:=match a with
 | .agg cs=>(match iv S cs with
   |some (ys,L)=>bif vg L then gr Θ { S with gh:=sx S.gh L } us xs fun vs=>lx (rj { S with gh:=sx S.gh L } none) caps fun ks=>Y (ri g) (.agg (ys.map .c):: (vs++ks.map .cl)) ρ fun res out=>bif pS res then lA S L out fun S3=>gv S3 dst res κ else none else none
   |none=>none)
 | .nest r i j sz lo len=>(match du S.gh r with
   |some ⟨t,l,none⟩=>(l[i]?).bind fun y=>(match ga (t.flat y) j with
    |some (.ls el v)=>bif Nat.beq sz el.width then eD (lo=0/\len=v.length) (gr Θ { S with gh:=dp S.gh r (some ⟨t,l,some (i,j)⟩) } us xs fun vs=>lx (rj { S with gh:=dp S.gh r (some ⟨t,l,some (i,j)⟩) } none) caps fun ks=>
     Y (ri g) (.cl (.c (.ls el v)):: (vs++ks.map .cl)) ρ fun res out=>(match out with
       | [⟨t',v',none⟩] =>bif decide (t'=el)&&pS res then eD (v'.length=v.length) (match t.unflat (dp (t.flat y) j (.ls t' v')) with
         |some z=>gv { S with gh:=dp S.gh r (some ⟨t,l.set i z,none⟩) } dst res κ
         |none=>none) none else none
       | _=>none)) none else none
    | _=>none)
   | _=>none)
def nw (S:TS) (o:Oper):Option (TypeId×Nat×Nat×Nat×Nat):=match o.op with
 | .call { callee:= .builtin .clear,args:=as,argTypes:=ts } =>(match o.guard with
   |some _=>none
   |none=>match as.toList,ts.toList with
    | [x],[t] =>(match S.opd x with
      | .v (.cl (.own ⟨r,[]⟩ sz lo len _))=>some (t,r,sz,lo,len)
      | _=>none)
    | _,_=>none)
 | _=>none
def pU (Θ:fp) (S:TS) (t:TypeId) (r sz lo len:Nat) (dst:Option Tmp) (κ:TS->Option ρ):Option ρ:=match eH Θ t with
 |some ti=>match du S.gh r with
  |some ⟨el,l,none⟩=>bif decide (ti.ty= .ls el)&&Nat.beq el.width 1&&Nat.beq sz 1&&el.flatB then (match el.unflat el.zcs with
   |some z=>eD (lo+len<=l.length) (gv { S with gh:=dp S.gh r (some ⟨el,l.take lo++List.replicate len z++l.drop (lo+len),none⟩) } dst (.tup []) κ) none
   |none=>none) else none
  | _=>none
 |none=>none
def oJ (b:Bool):V:= .v (.cl (.c (.sc (.bool b))))
noncomputable def kB (Θ:fp) (Y:kI) (all:List Oper):List Oper->TS->(TS->Option ρ)->Option ρ
 | [],S,κ=>κ S
 |o::os,S,κ=>match kJ o with
  |some (t,x)=>bif vZ Θ t then (match S.opd x with
   | .v (.cl (.c (.ls _ l)))=>wY l (wN (gv S o.dst (oJ true) fun S3=>kB Θ Y all os S3 κ) (gv S o.dst (oJ false) fun S3=>kB Θ Y all os S3 κ) none) (gv S o.dst (oJ false) fun S3=>kB Θ Y all os S3 κ)
   | _=>none) else none
  |none=>match nw S o with
  |some (t,r,sz,lo,len)=>pU Θ S t r sz lo len o.dst fun S3=>kB Θ Y all os S3 κ
  |none=>match oI Y S o with
  |some (k,g,caps,r,sz,us,xs)=>sw Θ Y S k g caps r sz us xs o.dst fun S3=>kB Θ Y all os S3 κ
  |none=>match lz Y S o with
  |some (g,caps,a,us,xs)=>nv Θ Y S g caps a us xs o.dst fun S3=>kB Θ Y all os S3 κ
  |none=>qk S all o fun b S1=>bif b then jq Θ Y S1 o fun v S2=>gv S2 o.dst v fun S3=>kB Θ Y all os S3 κ else gv S1 o.dst (V.tup []) fun S3=>kB Θ Y all os S3 κ
def gone:Nat->List (Option de)->List (Option de)->List Nat
 |n,some _::l,none::m=>n::gone (n+1) l m
 |n,_::l,_::m=>gone (n+1) l m
 | _,_,_=> []
def sy (l:List (Option de)):List T:=l.map fun x=>match x with |some tr=>tr.tree|none=> .dd
def jP (S S':TS):dI:=⟨S.gh.length,sy (S'.gh.drop S.gh.length),gone 0 S.gh S'.gh⟩
def uX (d:Nat) (o:Oper):Bool:=match o.dst with |some d'=> !(Nat.beq d d')|none=>true
def v3 (o:Oper) (os:List Oper):Bool:=match o.dst with |some d=>os.all (uX d)|none=>false
def wO (Θ:fp) (t:TypeId):Bool:=match eH Θ t with
 |some ti=>(match ti.ty with | .ls _=>true| _=>false)
 |none=>false
def v4 (Θ:fp) (o:Oper):Bool:=match o.op with
 | .buildSlice t _ _=>wO Θ t
 | .call { callee:= .builtin .append,args:=_,argTypes:=ts } =>(match ts.toList with |t::_=>wO Θ t| [] =>false)
 | _=>true
def qm:V->Bool
 | .v (.cl (.own p _ _ _ _))=>(match p.l with | [] =>true| _=>false)
 | _=>true
def uY (S:TS) (o:Oper):Bool:=match o.op with
 | .buildSlice _ _ parts=> !(parts.toList.map fun x=>S.opd x.2).any ly
 | .call { callee:= .builtin .append,args:=as,argTypes:=ts } =>(match ts.toList with | [t,t'] =>Nat.beq t t'| _=>true)&&(match as.toList with |s::_=>qm (S.opd s)| [] =>true)
 | _=>true
def sA (Θ:fp):List Oper->TS->(TS->Option ρ)->Option ρ
 | [],S,κ=>κ S
 |o::os,S,κ=>match o.op with
  | .alloc t=>match eH Θ t with |some ti=>sA Θ os { S with bx:=S.bx++ [ti.ty.zvs.map cC] } κ|none=>none
  | _=>sA Θ os S κ
def oK (Θ:fp) (Y:kI) (all:List Oper):List Oper->TS->List dI->(TS->List dI->Option ρ)->Option ρ
 | [],S,ms,κ=>κ S ms
 |o::os,S,ms,κ=>bif cW o then oK Θ Y all os S (ms++ [⟨S.gh.length,[],[]⟩]) κ else bif dq o then (bif o.guard.isNone then gv S o.dst (V.v (.cl (.ptrB (S.bx.length-1-dk os) 0))) fun S3=>oK Θ Y all os S3 (ms++ [⟨S.gh.length,[],[]⟩]) κ else none) else
   qk S all o fun b S1=>bif b then
    (bif dU o then (bif v3 o os&&v4 Θ o&&uY S1 o then jq Θ Y S1 o fun v S2=>gv S2 o.dst v fun S3=>oK Θ Y all os S3 (ms++ [jP S1 S2]) κ else none)
    else lw Θ S1 o fun v S2=>gv S2 o.dst v fun S3=>oK Θ Y all os S3 (ms++ [⟨S1.gh.length,[],[]⟩]) κ)
    else gv S1 o.dst (V.tup []) fun S3=>oK Θ Y all os S3 (ms++ [⟨S1.gh.length,[],[]⟩]) κ
def sB (Θ:fp) (Y:kI):List Oper->TS->(TS->Option ρ)->Option ρ
 | [],S,κ=>κ S
 |o::os,S,κ=>bif cW o then (bif o.guard.isNone&&o.dst.isNone then jq Θ Y S o fun _ S1=>sB Θ Y os S1 κ else none) else sB Θ Y os S κ
def sC (Θ:fp) (t:TypeId):Bool:=match eH Θ t with |some ti=>ti.ty.flatB|none=>false
def vw (Θ:fp) (Y:kI) (ops:List Oper) (S:TS) (κ:TS->Option ρ):Option ρ:=
 sA Θ ops S fun S0=>oK Θ Y ops ops S0 [] fun SV ms=>bif pk (sC Θ) ops (dD ops) S0.st ms SV.st then sB Θ Y ops SV κ else none
def eI:Code->Nat
 | .region id _ _=>id
 | .seq a _=>eI a
 | .block _ c=>eI c
 | .loop c=>eI c
 | _=>0
abbrev iL:=Nat->TS->(ρ:Type)->(X->TS->Option ρ)->Option ρ
noncomputable def mg (Θ:fp) (Y:kI) (Λ:iL):Code->TS->(X->TS->Option ρ)->Option ρ
 | .skip,S,κ=>κ .nor S
 | .region _ ops false,S,κ=>kB Θ Y ops.toList ops.toList S (κ .nor)
 | .region _ ops true,S,κ=>vw Θ Y ops.toList S (κ .nor)
 | .seq a b,S,κ=>mg Θ Y Λ a S fun x S1=>match x with | .nor=>mg Θ Y Λ b S1 κ|x=>κ x S1
 | .cond c a b,S,κ=>oD S c fun t S1=>bif t then mg Θ Y Λ a S1 κ else mg Θ Y Λ b S1 κ
 | .block id c,S,κ=>mg Θ Y Λ c S fun x S1=>match x with | .ext i=>bif Nat.beq i id then κ .nor S1 else κ (.ext i) S1|x=>κ x S1
 | .loop c,S,κ=>Λ (eI c) S ρ κ
 | .exit id,S,κ=>κ (.ext id) S
 | .ret,S,κ=>κ .ret S
 | _,_,_=>none
def tV (S:TS) (gs:List de) (et:Option Ty) (c:Cl) (κ:Cl->List de->TS->Option ρ):Option ρ:=match c,et with
 | .c (.sc v),_=>κ (.c (.sc v)) gs S
 | .em,some t=>κ (.own ⟨gs.length,[]⟩ t.width 0 0 true) (gs++ [⟨t,[],none⟩]) S
 | .own p sz lo len w,some t'=>match p.l with
   | [] =>bif Nat.ble S.fz p.r&&Nat.beq t'.width sz then gq S p fun t l=>bif Nat.beq t.width sz then
     (bif w then κ (.own ⟨gs.length,[]⟩ sz 0 l.length true) (gs++ [⟨t,l,none⟩]) { S with gh:=dp S.gh p.r none }
     else eD (lo=0/\len<=l.length) (κ (.own ⟨gs.length,[]⟩ sz 0 (l.take len).length true) (gs++ [⟨t,l.take len,none⟩]) { S with gh:=dp S.gh p.r none }) none) else none
     else none
   | _=>none
 | _,_=>none
def qn:TS->List de->List (Option Ty)->List Cl->(List Cl->List de->TS->Option ρ)->Option ρ
 |S,gs,et::ets,c::cs,κ=>tV S gs et c fun c' gs' S'=>qn S' gs' ets cs fun cs' gs'' S''=>κ (c'::cs') gs'' S''
 |S,gs,[],[],κ=>κ [] gs S
 | _,_,_,_,_=>none
def vx (Θ:fp) (S:TS) (gs:List de) (t:TypeId) (v:V) (κ:V1->List de->TS->Option ρ):Option ρ:=match eH Θ t with
 |none=>none
 |some ti=>match v with
  | .v (.agg cs)=>qn S gs ti.ty.csh cs fun cs' gs' S'=>κ (.agg cs') gs' S'
  | .v (.cl c)=>tV S gs (ti.ty.csh.headD none) c fun c' gs' S'=>κ (.cl c') gs' S'
  | _=>none
def mA (Θ:fp):TS->List de->List (TypeId×V)->(List V1->List de->Option ρ)->Option ρ
 | _,gs,[],κ=>κ [] gs
 |S,gs,(t,v)::r,κ=>vx Θ S gs t v fun v' gs' S'=>mA Θ S' gs' r fun vs gs''=>κ (v'::vs) gs''
def oL (Θ:fp) (S:TS):List ResultVar->List TypeId->(List (TypeId×V)->Option ρ)->Option ρ
 | .tmp a::rs,t::ts,κ=>oL Θ S rs ts fun l=>κ ((t,fr S.env a)::l)
 | .cell a t'::rs,t::ts,κ=>oE Θ S t' (fr S.env a) fun v=>oL Θ S rs ts fun l=>κ ((t,v)::l)
 | [],[],κ=>κ []
 | _,_,_=>none
def pV:List V1->V
 | [v] => .v v
 |vs=> .tup vs
def gf:Nat->List V1->List (Nat×V)
 | _,[] => []
 |n,v::l=>(n, .v v)::gf (n+1) l
noncomputable def wP (Θ:fp) (Y:kI) (Λ:iL) (fn:Func) (args:List V1) (κ:V->List de->Option ρ):Option ρ:=match fn.body with
 |none=>none
 |some c=>mg Θ Y Λ c { env:=gf 0 args,bx:= [],gh:= [],fz:=0,nt:=args.length+(fn.ntmps-args.length) } fun x S=>match x with
  | .ext _=>none
  | _=>oL Θ S fn.results.toList fn.resultTypes.toList fun rs=>mA Θ S [] rs fun vs gs=>κ (pV vs) gs
def nx:List Cl->Option (List C)
 | [] =>some []
 | .c x::l=>match nx l with |some r=>some (x::r)|none=>none
 | _=>none
def un (t:Ty) (a:V1) (κ:t.D->Option ρ):Option ρ:=match a with
 | .agg cs=>bif t.ag then (match nx cs with
   |some xs=>(match t.unflat xs with |some x=>κ x|none=>none)
   |none=>none) else none
 | .cl (.c y)=>bif t.ag then none else (match t.unflat [y] with |some x=>κ x|none=>none)
 | _=>none
def i5:List C->Nat->List Cl
 | [],_=> []
 | .sc v::r,n=> .c (.sc v)::i5 r n
 | .ls t l::r,n=> .own ⟨n,[]⟩ t.width 0 l.length true::i5 r (n+1)
def fD:List C->List de
 | [] => []
 | .sc _::r=>fD r
 | .ls t l::r=>⟨t,l,none⟩::fD r
def rk (t:Ty) (x:t.D) (n:Nat):V1:=bif t.ag then .agg (i5 (t.flat x) n) else match i5 (t.flat x) n with | [c] => .cl c| _=> .cl .dead
def mB:Nat->List ((t:Ty)×t.D)->List V1
 | _,[] => []
 |n,⟨t,x⟩::r=>rk t x n::mB (n+(fD (t.flat x)).length) r
def jr:List ((t:Ty)×t.D)->List de
 | [] => []
 | ⟨t,x⟩::r=>fD (t.flat x)++jr r
def ret (l:List ((t:Ty)×t.D)) (κ:V->List de->Option ρ):Option ρ:=κ (pV (mB 0 l)) (jr l)
end
abbrev tW:=List V1->(ρ:Type)->(V->List de->Option ρ)->Option ρ
def vy:List (Nat×tW)->FuncId->List V1->(ρ:Type)->(V->List de->Option ρ)->Option ρ
 | [],_,_,_,_=>none
 | (g,e)::l,f,as,ρ,κ=>bif Nat.beq g f then e as ρ κ else vy l f as ρ κ
def vz:List (Nat×tW)->Nat->Bool
 | [],_=>false
 | (g,_)::l,f=>bif Nat.beq g f then true else vz l f
def sD (l:List (Nat×tW)):kI:=⟨vy l,fun g=>bif vz l (ri g) then 1 else bif vz l (tS g) then 2 else 0⟩
def ny (t:Ty) (x:t.D):V1:=bif t.ag then .agg ((t.flat x).map .c) else match (t.flat x).map Cl.c with | [c] => .cl c| _=> .cl .dead
end
section
open Go
theorem dE {α:Type}: ∀ (l:List α) (n:Nat),ga l n=l[n]?
 | [],n=>by simp[ga]
 |a::l,0=>by simp[ga]
 |a::l,n+1=>by show ga l n=_; rw[dE l]; simp
theorem dK {α:Type}: ∀ (l:List α) (n:Nat) (x:α),dp l n x=l.set n x
 | [],n,x=>by simp[dp]
 |a::l,0,x=>by simp[dp]
 |a::l,n+1,x=>by show a::dp l n x=_; rw[dK l]; simp
theorem oM: ∀ {l:List (Nat×V)} {t:Nat},fr l t=V.dead\/(t,fr l t)∈l
 | [],t=> .inl rfl
 | (u,v)::l,t=>by
   simp only[fr];cases h:Nat.beq u t with
   |true=>have :u=t:=ao h;subst this;exact .inr (aE)
   |false=>
    rcases oM (l:=l) (t:=t) with h'|h'
    ·exact .inl h'
    ·exact .inr (az _ h')
def Cl.ok (G:List (Option de)):Cl->Prop
 | .own p _ lo len w=>p.r<G.length/\(w=true->p.l= [] /\lo=0/\ ∀tr,du G p.r=some tr->len=tr.l.length)
 | .ptrT p _ _ _=>p.r<G.length
 | _=>True
def V1.ok (G:List (Option de)):V1->Prop
 | .cl c=>c.ok G
 | .agg cs=> ∀c∈cs,c.ok G
 | .fn _ cs=> ∀c∈cs,c.ok G
def V.ok (G:List (Option de)):V->Prop
 | .v x=>x.ok G
 | .tup l=> ∀x∈l,x.ok G
structure TS.ok (S:TS):Prop where
 env: ∀x∈S.env,x.2.ok S.gh
 bx: ∀cs∈S.bx,∀c∈cs,c.ok S.gh
def dM (G G':List (Option de)):Prop:=G.length<=G'.length/\ ∀r tr',r<G.length->du G' r=some tr'-> ∃tr,du G r=some tr/\tr.l.length=tr'.l.length
theorem dM.refl (G:List (Option de)):dM G G:=⟨ar _,fun _ tr _ h=>⟨tr,h,rfl⟩⟩
theorem dM.trans {G H K:List (Option de)} (h:dM G H) (k:dM H K):dM G K:=⟨bu h.1 k.1,fun r tr hr hK=>by obtain⟨t1,h1,h2⟩:=k.2 r tr (aO hr h.1) hK;obtain⟨t2,h3,h4⟩:=h.2 r t1 hr h1;exact⟨t2,h3,h4.trans h2⟩⟩
theorem Cl.ok_mono {G G':List (Option de)} (h:dM G G') {c:Cl} (hc:c.ok G):c.ok G':=by
 cases c with
 |own p sz lo len w=>obtain⟨h1,h2⟩:=hc;refine⟨aO h1 h.1,fun hw=> ?_⟩;obtain⟨a,b,c⟩:=h2 hw;refine⟨a,b,fun tr htr=> ?_⟩;obtain⟨tr0,k1,k2⟩:=h.2 _ tr h1 htr;rw[c tr0 k1,k2]
 |ptrT p sz i j=>exact aO hc h.1
 | _=>trivial
theorem V1.ok_mono {G G':List (Option de)} (h:dM G G') {v:V1} (hv:v.ok G):v.ok G':=by
 cases v with
 |cl c=>exact Cl.ok_mono h hv
 |agg cs=>exact fun c hc=>Cl.ok_mono h (hv c hc)
 |fn f cs=>exact fun c hc=>Cl.ok_mono h (hv c hc)
theorem V.ok_mono {G G':List (Option de)} (h:dM G G') {v:V} (hv:v.ok G):v.ok G':=by
 cases v with
 |v x=>exact V1.ok_mono h hv
 |tup l=>exact fun x hx=>V1.ok_mono h (hv x hx)
theorem V.ok_dead (G:List (Option de)):V.dead.ok G:=trivial
theorem V.ok_sc (G:List (Option de)) (v:Value): (V.sc v).ok G:=trivial
theorem nz {S:TS} (hS:S.ok) (t:Nat): (fr S.env t).ok S.gh:=by
 rcases oM (l:=S.env) (t:=t) with h|h
 ·rw[h]; trivial
 ·exact hS.env _ h
theorem fx (v:Value): (cC v).av=kD v:=by
 unfold cC kD;cases h:eV v with
 |true=>rfl
 |false=>
  simp only[cond_false,aM,if_false];split
  ·rfl
  ·split
   ·exact absurd rfl ‹_›
   ·rfl
theorem v5 (v:Value): (cV v).av=l4 v:=by
 cases v with
 |agg cs=>
  simp only[cV,l4];cases h:cs.toList.all Value.oneCell' with
  |true=>
   simp only[cond_true,if_true];simp only[V.av,V1.av,aU]
   congr 1
   exact aG fun x _=>fx x
  |false=>rfl
 |bool b=>exact fx (.bool b)
 |int k n=>exact fx (.int k n)
 |float k n=>exact fx (.float k n)
 |complex k n m=>exact fx (.complex k n m)
 |string x=>exact fx (.string x)
 |pointer x=>exact fx (.pointer x)
 |slice x y z=>exact fx (.slice x y z)
 |map x=>exact fx (.map x)
 |chan x=>exact fx (.chan x)
 |func x y z=>exact fx (.func x y z)
 |nilFunc=>exact fx .nilFunc
 |iface x y=>exact fx (.iface x y)
 |nilIface=>exact fx .nilIface
 |tuple x=>exact fx (.tuple x)
theorem qo (G:List (Option de)) (v:Value): (cC v).ok G:=by
 unfold cC;cases eV v with
 |true=>trivial
 |false=>simp only[cond_false]; split<;>trivial
theorem v6 (G:List (Option de)) (v:Value): (cV v).ok G:=by
 unfold cV;split
 ·rename_i cs;cases cs.toList.all Value.oneCell' with
  |true=>intro c hc; simp only[aI] at hc; obtain⟨x,_,rfl⟩:=hc; exact qo _ _
  |false=>trivial
 ·exact qo _ _
theorem c4 {S:TS} (x:Operand):opd S.st x=(S.opd x).av:=by
 cases x with
 |tmp t=>rfl
 |const v=>exact (v5 v).symm
 |func f=>rfl
 |global g=>rfl
theorem ew {S:TS} (hS:S.ok) (x:Operand): (S.opd x).ok S.gh:=by
 cases x with
 |tmp t=>exact nz hS t
 |const v=>exact v6 _ _
 |func f=>trivial
 |global g=>trivial
section
variable {ρ:Type}
theorem tX {α:Type} {b:Bool} {x y:Option α} {r:α} (h:br b x y=some r): (b=true/\x=some r)\/(b=false/\y=some r):=by
 cases b with
 |true=>exact .inl ⟨rfl,h⟩
 |false=>exact .inr ⟨rfl,h⟩
theorem dh {α:Type} {c:Prop} [Decidable c] {x:Option α} {r:α} (h:eD c x none=some r):c/\x=some r:=by
 unfold eD at h;split at h
 ·exact⟨‹_›,h⟩
 ·cases h
theorem jQ {α:Type} {c:Prop} [Decidable c] {x:Option α} {r:α} (h:eD c none x=some r): ¬c/\x=some r:=by
 unfold eD at h;split at h
 ·cases h
 ·exact⟨‹_›,h⟩
theorem cX {α:Type} {c:Bool} {x:Option α} {r:α} (h: (bif c then x else none)=some r):c=true/\x=some r:=by
 cases c with
 |true=>exact⟨rfl,h⟩
 |false=>cases h
theorem oO {S:TS} {t:Nat} {b:Bool} (h:fr S.env t=V.sc (.bool b)): ({ S with env:=(t,V.sc (.bool b))::S.env }:TS).st=S.st:=by
 unfold TS.st;simp only
 congr 1
 funext u
 simp only[fr];cases hb:Nat.beq t u with
 |true=>have :t=u:=ao hb;subst this;rw[h];rfl
 |false=>rfl
theorem oP {S:TS} (hS:S.ok) (t:Nat) (b:Bool): ({ S with env:=(t,V.sc (.bool b))::S.env }:TS).ok:=
 ⟨fun x hx=>by
  simp only[aV] at hx;rcases hx with rfl|hx
  ·trivial
  ·exact hS.env x hx,hS.bx⟩
theorem lB {S:TS} (hS:S.ok) {x:Operand} {κ:Bool->TS->Option ρ} {r:ρ} (h:oD S x κ=some r):
  ∃b S',opd S.st x= .sc (.bool b)/\S'.st=S.st/\S'.ok/\S'.gh=S.gh/\κ b S'=some r:=by
 unfold oD at h;split at h
 ·rename_i t;split at h
  ·rename_i b hb;rcases tX h with ⟨rfl,h⟩| ⟨rfl,h⟩
   ·exact⟨true,_,by show (fr S.env t).av=_; rw[hb]; rfl,oO hb,oP hS _ _,rfl,h⟩
   ·exact⟨false,_,by show (fr S.env t).av=_; rw[hb]; rfl,oO hb,oP hS _ _,rfl,h⟩
  ·cases h
 ·rename_i b;exact⟨b,S,rfl,rfl,hS,rfl,h⟩
 ·cases h
theorem js {v:V} {κ:Int->Option ρ} {r:ρ} (h:pN v κ=some r): ∃n,kM v.av=some n/\κ n=some r:=by
 unfold pN at h;split at h
 ·exact⟨_,rfl,h⟩
 ·cases h
theorem de.look {G:List (Option de)} {r:Nat} {tr:de} (h:ga G r=some (some tr)):du G r=some tr:=by unfold du;rw[h];rfl
theorem dz {S:TS} {p:da} {κ: (t:Ty)->List t.D->Option ρ} {r:ρ} (h:gq S p κ=some r):
  ∃ (t:Ty) (l:List t.D),S.st.look p= .sl t.width (l.map t.row)/\(p.l= [] ->du S.gh p.r=some ⟨t,l,none⟩)/\κ t l=some r:=by
 unfold gq at h;split at h
 ·rename_i tr htr;have hg:=de.look htr;split at h
  ·rename_i hh;obtain⟨t,l,hole⟩:=tr;simp only at hh;subst hh;split at h
   ·rename_i hp;refine⟨t,l,?_,fun _=>hg,h⟩;unfold St.look;have :S.st.gh p.r=some (.sl t.width (l.map t.row)):=by show (du S.gh p.r).map de.tree=_; rw[hg]; rfl
    rw[this,hp];rfl
   ·rename_i i j hp;simp only[ah] at h;obtain⟨x,hx,h⟩:=h;split at h
    ·rename_i t' l' hj;refine⟨t',l',?_,(fun h0=>by rw[hp] at h0; cases h0),h⟩;unfold St.look;have :S.st.gh p.r=some (.sl t.width (l.map t.row)):=by show (du S.gh p.r).map de.tree=_; rw[hg]; rfl
     rw[this,hp];simp only[T.go,T.cell];have e1: (l.map t.row).getD i [] =t.row x:=by simp[ap,hx]
     rw[e1,t.row_flat];rw[dE] at hj;simp[ap,hj,C.tree]
    ·cases h
   ·cases h
  ·cases h
 ·cases h
end
end
section
open Go
def Ty.shs (t:Ty):List Nat:=t.csh.map fun |some e=>e.width|none=>0
structure TI.ok (P:Program) (t:TypeId) (ti:TI):Prop where
 ag:lZ P t=some ti.ty.ag
 cells:P.cellsOf t=ti.ty.width
 sh:ff P 9 t=ti.ty.shs
 ze:jA P t=some ti.ty.zvs
 fd: ∀k,rH P t k=ga ti.fds k
 pl:ti.ty.ag=true->vR P t=some (ti.fds.map fun x=>(x.1,x.2.1))
 el: ∀e,ti.ty= .ls e-> ∃el,iG P t=some el/\P.cellsOf el=e.width/\P.bytesOf el=ti.el/\0<ti.el/\ff P 9 el=e.shs/\jA P el=some e.zvs
 bool:ti.ty= .b->P.underlying t=some .bool
 gu:ti.ty.ag=true->ti.ty.flatB=true->P.eqGuardType P.depth t=false
 eq:ti.ty.ag=true-> ∀ (a b:List Cl) (r:Bool) (xs ys:List Value),ej ti.ty.zvs a=true->ej ti.ty.zvs b=true->it a b=some r->a=xs.map (fun x=> .c (.sc x))->b=ys.map (fun x=> .c (.sc x))->c7 P (Op.equal t (.agg xs.toArray) (.agg ys.toArray))=some r
 str:mQ P t=(match ti.ty with | .s=>true| _=>false)
 int: ∀k,ti.ty= .i k->P.underlying t=some (.int k)
def dA (P:Program) (Θ:fp):Prop:= ∀t ti,eH Θ t=some ti->ti.ok P t
theorem Ty.width_pos (t:Ty):0<t.width:=by
 cases t with
 |st n=>cases n<;>decide
 | _=>exact Nat.one_pos
theorem C.ro_tree (c:C):T.ro c.tree=c.av:=by cases c<;>rfl
theorem C.own_tree (p:da) (i m:Nat) (c:C):rJ p i m c.tree=(pO p i m c).av:=by
 cases c with
 |sc v=>rfl
 |ls t l=>simp[rJ,C.tree,pO,Cl.av]
theorem jR {α β:Type} (f:Nat->α->β): ∀ (j:Nat) (l:List α) (k:Nat),(jO f j l)[k]? =(l[k]?).map (f (j+k))
 |j,[],k=>by simp[jO]
 |j,a::l,0=>by simp[jO]
 |j,a::l,k+1=>by simp only[jO,cG]; rw[jR f (j+1) l k]; congr 2; omega
section
variable {ρ:Type} {P:Program} {Θ:fp} {S:TS}
theorem eh {p:da} {sz:Nat} {rows:List (List T)} (h:S.st.look p= .sl sz rows):S.st.rows p sz=some rows:=by unfold St.rows;rw[h];simp
theorem rl (hS:S.ok) {n:Nat} {v:Cl} (hv:v.ok S.gh) {κ:List Cl->Option ρ} {r:ρ} (h:pP S n v κ=some r):
  ∃cs:List Cl,df S.st n v.av=some (cs.map Cl.av)/\(∀c∈cs,c.ok S.gh)/\κ cs=some r:=by
 unfold pP at h;split at h
 ·rename_i b j;split at h
  ·rename_i cs hcs;obtain⟨h1,h⟩:=cX h;have h1:j+n<=cs.length:=aw h1;refine⟨_,?_,fun c hc=> ?_,h⟩
   ·simp only[Cl.av,df,TS.st,hcs,ax,ak,ay];rw[if_pos h1];simp[bh,bz]
   ·rw[dE] at hcs;exact hS.bx cs (aq hcs) c (bC (bO hc))
  ·cases h
 ·rename_i cells;obtain⟨h1,h⟩:=cX h;have h1:n<=cells.length:=aw h1;refine⟨_,?_,fun c hc=> ?_,h⟩
  ·simp only[Cl.av,df,ay];rw[if_pos h1]
   congr 1
   rw[<-bh,aU,aU];exact aG fun c _=>C.ro_tree c
  ·obtain⟨x,_,rfl⟩:=aI.1 hc;trivial
 ·rename_i p sz i j;obtain⟨t,l,h1,_,h5⟩:=dz h;obtain⟨h2,h6⟩:=cX h5;clear h h5;simp only[al] at h2;have h3:t.width=sz:=ao h2.1;have h4:j+n<=sz:=aw h2.2;subst h3;obtain⟨x,hx,h⟩:=ah.1 h6;have hil:i<l.length:=(af.1 hx).1;have hfl: (t.flat x).length=t.width:=t.flat_length x;refine⟨_,?_,fun c hc=> ?_,h⟩
  ·have e1: (l.map t.row).getD i [] =t.row x:=by simp[ap,hx]
   simp only[Cl.av,df,eh h1];rw[e1,if_pos ⟨by simpa using hil,by rw[t.row_length]; exact h4⟩]
   congr 1
   apply bB;intro k;rw[an,an,jR];by_cases hk:k<n
   ·have hjk:j+k< (t.flat x).length:=by omega
    rw[List.getElem?_range hk,aQ,if_pos hk,aK,ai hjk];simp only[ax];rw[t.row_flat,ap,an,ai hjk];simp only[ax,aD];rw[C.own_tree]
   ·rw[aQ,if_neg hk,bA (by simp; omega)];rfl
  ·obtain⟨k,hk⟩:=List.getElem?_of_mem hc;rw[jR] at hk;simp only[aj] at hk;obtain⟨y,_,rfl⟩:=hk;cases y with
   |sc v=>trivial
   |ls t' l'=>exact⟨hv,fun h=>by cases h⟩
 ·cases h
theorem sE {G:List (Option de)} {ag:Bool} {cs:List Cl} (hcs: ∀c∈cs,c.ok G) {κ:V->Option ρ} {r:ρ} (h:wK ag cs κ=some r): ∃v,uO ag (cs.map Cl.av)=some v.av/\v.ok G/\κ v=some r:=by
 unfold wK at h;cases ag with
 |true=>refine⟨_,rfl,?_,h⟩; exact hcs
 |false=>
  simp only[cond_false] at h;split at h
  ·rename_i c;refine⟨_,rfl,?_,h⟩; exact hcs c (by simp)
  ·cases h
theorem oQ (hΘ:dA P Θ) (hS:S.ok) {t:TypeId} {v:V} (hv:v.ok S.gh) {κ:V->Option ρ} {r:ρ} (h:oE Θ S t v κ=some r):
  ∃u,load P S.st t v.av=some u.av/\u.ok S.gh/\κ u=some r:=by
 unfold oE at h;split at h
 ·rename_i ti hti;have hok:=hΘ _ _ hti;split at h
  ·rename_i a;obtain⟨cs,h1,h2,h⟩:=rl hS hv h;obtain⟨u,h3,h4,h⟩:=sE h2 h;refine⟨u,?_,h4,h⟩;unfold load;rw[hok.ag,hok.cells];simp only[ak,V.av,V1.av,h1];exact h3
  ·cases h
 ·cases h
theorem sF {p:da} {κ:Int->Option ρ} {r:ρ} (h:sq S p κ=some r): ∃tr,du S.gh p.r=some tr/\κ tr.l.length=some r:=by
 unfold sq at h;split at h
 ·split at h
  ·rename_i tr htr;exact⟨tr,de.look htr,h⟩
  ·cases h
 ·cases h
theorem tY {n:Nat} {i:Int} {v:Cl} (hv:v.ok S.gh) {κ:Cl->Option ρ} {r:ρ} (h:vq n i S v κ=some r): ∃c,ja n i v.av=some c.av/\c.ok S.gh/\κ c=some r:=by
 unfold vq at h;split at h
 ·rename_i t l;obtain⟨h1,h⟩:=cX h;have h1:t.width=n:=ao h1;obtain⟨h2,h⟩:=dh h;obtain⟨x,hx,h⟩:=ah.1 h;have hil:=(af.1 hx).1;refine⟨_,?_,?_,h⟩
  rotate_left
  ·trivial
  simp only[Cl.av,C.av,ja,ay];rw[if_pos ⟨h2,by omega,h1⟩]
  congr 1
  simp[ap,hx,t.row_flat]
 ·rename_i p sz lo len;obtain⟨h1,h⟩:=cX h;have h1:sz=n:=ao h1;obtain⟨tr,h3,h⟩:=sF h;obtain⟨h4,h⟩:=dh h;obtain⟨h5,h6⟩:=hv;obtain⟨h7,h8,h9⟩:=h6 rfl;have h10:=h9 _ h3;refine⟨_,?_,?_,h⟩
  rotate_left
  ·exact h5
  simp only[Cl.av,ja];rw[if_pos ⟨h4.1,by omega,h1⟩,h8,aP]
 ·rename_i p sz lo len;obtain⟨h1,h⟩:=cX h;have h1:sz=n:=ao h1;obtain⟨h4,h⟩:=dh h;refine⟨_,?_,?_,h⟩
  rotate_left
  ·exact hv.1
  simp only[Cl.av,ja];rw[if_pos ⟨h4.1,h4.2,h1⟩]
 ·cases h
theorem qp {v:Cl} (hv:v.ok S.gh) {κ:Int->Option ρ} {r:ρ} (h:tR S v κ=some r): ∃n,gO v.av=some n/\κ n=some r:=by
 unfold tR at h;split at h
 ·exact⟨_,by simp[Cl.av,C.av,gO],h⟩
 ·obtain⟨t,l,h2,h3,h⟩:=dz h;obtain⟨h5,h6⟩:=hv;obtain⟨h7,h8,h9⟩:=h6 rfl;have h10:=h9 _ (h3 h7);simp only at h10;exact⟨_,by simp[Cl.av,gO,h10],h⟩
 ·exact⟨_,rfl,h⟩
 ·exact⟨_,rfl,h⟩
 ·cases h
theorem tZ {n:Nat} {lo hi:Int} {v:Cl} (hv:v.ok S.gh) {κ:Cl->Option ρ} {r:ρ} (h:vr n lo hi v κ=some r): ∃c,uP n lo hi v.av=some c.av/\c.ok S.gh/\κ c=some r:=by
 unfold vr at h;split at h
 ·obtain⟨h1,h⟩:=dh h;exact⟨.em,by simp[Cl.av,uP,h1],trivial,h⟩
 ·rename_i t l;obtain⟨h1,h⟩:=cX h;have h1:t.width=n:=ao h1;obtain⟨h2,h⟩:=dh h;refine⟨_,?_,?_,h⟩
  rotate_left
  ·trivial
  simp only[Cl.av,C.av,uP,ay];rw[if_pos ⟨h1,h2⟩];simp[bh,bz]
 ·rename_i p sz l len w;obtain⟨h1,h⟩:=cX h;have h1:sz=n:=ao h1;obtain⟨h2,h⟩:=dh h;refine⟨_,?_,?_,h⟩
  rotate_left
  ·exact⟨hv.1,fun h=>by cases h⟩
  simp only[Cl.av,uP];rw[if_pos ⟨h1,h2⟩]
 ·cases h
theorem mC {d:Int} {x:Option Operand} {κ:Int->Option ρ} {r:ρ} (h:nr S d x κ=some r): ∃n,eg S.st d x=some n/\κ n=some r:=by
 unfold nr at h;split at h
 ·exact⟨_,rfl,h⟩
 ·obtain⟨n,h1,h⟩:=js h;exact⟨n,by simp only[eg,c4]; exact h1,h⟩
theorem t4 {G:List (Option de)}: ∀ (parts:List (Nat×V)) (pl:List (Nat×Nat×Bool)) (cs cs':List Cl),(∀c∈cs,c.ok G)->(∀x∈parts,x.2.ok G)->rh pl cs parts=some cs'->
  tz (pl.map fun x=>(x.1,x.2.1)) (cs.map Cl.av) (parts.map fun x=>(x.1,x.2.av))=some (cs'.map Cl.av)/\ ∀c∈cs',c.ok G:=by
 intro parts
 induction parts with
 |nil=>intro pl cs cs' hcs _ h;simp only[rh,ae] at h;subst h;exact⟨rfl,hcs⟩
 |cons x parts ih=>
  intro pl cs cs' hcs hp h;obtain⟨k,v⟩:=x;simp only[rh] at h;split at h
  ·rename_i off n ag hk;split at h
   ·rename_i x;have hx:x.ok G:=hp (k, .v x) (by simp)
    have eI: ∀ (hd: (V.v x).av.isDead=false) (hcell: (V.v x).av.cells=x.cells.map Cl.av) (hcok: ∀c∈x.cells,c.ok G)
      (h: (bif Nat.beq x.cells.length n&&Nat.ble (off+n) cs.length then rh pl (cs.take off++x.cells++cs.drop (off+n)) parts else none)=some cs'),
      tz (pl.map fun x=>(x.1,x.2.1)) (cs.map Cl.av) (((k,V.v x)::parts).map fun x=>(x.1,x.2.av))=some (cs'.map Cl.av)/\ ∀c∈cs',c.ok G:=by
     intro hd hcell hcok h;obtain⟨h1,h⟩:=cX h;simp only[al] at h1;have h2:x.cells.length=n:=ao h1.1;have h3:off+n<=cs.length:=aw h1.2
     obtain⟨g1,g2⟩:=ih pl _ cs' (fun c hc=>by
      simp only[bD] at hc;rcases hc with (hc|hc)|hc
      ·exact hcs c (bO hc)
      ·exact hcok c hc
      ·exact hcs c (bC hc)) (fun y hy=>hp y (az _ hy)) h
     refine⟨?_,g2⟩;rw[dE] at hk;simp only[aJ,tz,an,hk,ax];rw[if_pos ⟨hd,by rw[hcell]; simpa using h2,by simpa using h3⟩,<-g1,hcell];simp[bh,bz]
    cases x with
    |cl c=>cases c with
     |dead=>cases h
     |c y=>cases y<;>exact eI rfl rfl (fun c hc=>by simp only[V1.cells,aA] at hc; subst hc; exact hx) h
     |em=>exact eI rfl rfl (fun c hc=>by simp only[V1.cells,aA] at hc; subst hc; exact hx) h
     |own p sz lo len w=>exact eI rfl rfl (fun c hc=>by simp only[V1.cells,aA] at hc; subst hc; exact hx) h
     |pro cs=>exact eI rfl rfl (fun c hc=>by simp only[V1.cells,aA] at hc; subst hc; exact hx) h
     |ptrB n j=>exact eI rfl rfl (fun c hc=>by simp only[V1.cells,aA] at hc; subst hc; exact hx) h
     |ptrT p sz i j=>exact eI rfl rfl (fun c hc=>by simp only[V1.cells,aA] at hc; subst hc; exact hx) h
    |agg cs2=>exact eI rfl rfl hx h
    |fn f cs2=>cases h
   ·cases h
  ·cases h
end
end
end Go.Proofs.Ytpagmogboinlpaa.En
