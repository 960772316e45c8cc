import Derived.Test.YtkghndikalnipaaGreatZX5
import Derived.Lib.Overlaps
set_option linter.unusedSimpArgs false
set_option linter.unusedVariables false
namespace Go.Proofs.YtkghndikalnipaaGreat.En
section
open Go Go.RowKit
section
variable {P:Program} {w w':World} {W:Nat->Prop} {bt:Bt}
structure C2 (P:Program) (f t e tn:Nat) (sz:Nat) (i:TypeInfo) (z:Value):Prop where
 enter: ∀ (args:Array Value) (w:World),(callFunc f args).run P w= .ok (.enter f args) w
 ht:P.underlying t=some (.slice e)
 hi:P.info? e=some i
 hz:i.zero=some z
 zs:z.cells.size=i.size
 z1: ∀u∈z.cells.toList,u.oneCell'=true
 hs:i.size=sz
 pos:0<sz
 htn:P.underlying tn=some (.int .i64)
 toEnd: ∀ (ab:Option Addr) (n c:Nat) (ad:Addr) (vc:Nat) (w w':World) (v:Value),n<=c->(ab=none->n=0)->n<=2 ^ 40->
  (∀ty,(Builtin.append_ #[t,t] ty #[.slice ab n c,.slice (some ad) 1 vc]).run P w= .ok v w')->
  Calls P f #[.slice ab n c,.int .i64 n,.slice (some ad) 1 vc] w λe w1=>e= .returned v/\w1=w'
 shift: ∀ (b n c i:Nat) (ad:Addr) (vc:Nat) (w W1 W2:World) (u1 u2:Value),i<n->n+1<=c->n<=2 ^ 40->ad.block≠b->
  (∃ra ta fa,w.heap[ad.block]? =some (.cells ra ta fa)/\0<ra.size)->(∃rb tb,w.heap[b]? =some (.cells rb tb (0,0)))->
  (∀ty dc sc,(Builtin.copy_ #[t,t] ty #[.slice (some ⟨b,(i+1)*sz,none⟩) (n-i) dc,.slice (some ⟨b,i*sz,none⟩) (n+1-i) sc]).run P w.drew= .ok u1 W1)->
  (∀ty dc,(Builtin.copy_ #[t,t] ty #[.slice (some ⟨b,i*sz,none⟩) (n+1-i) dc,.slice (some ad) 1 vc]).run P W1= .ok u2 W2)->
  Calls P f #[.slice (some ⟨b,0,none⟩) n c,.int .i64 i,.slice (some ad) 1 vc] w λe w1=>e= .returned (.slice (some ⟨b,0,none⟩) (n+1) c)/\w1=W2
 grow: ∀ (b g n c G i:Nat) (ad:Addr) (vc:Nat) (w W0 W1 W2:World) (u1 u2:Value),i<n->n<=c->c<n+1->n+1<=G->n<=2 ^ 40->
  (∀ty,(Builtin.append_ #[t,tn] ty #[.slice (some ⟨b,0,none⟩) i c,.int .i64 ((n:Int)+1-(i:Int))]).run P w= .ok (.slice (some ⟨g,0,none⟩) (n+1) G) W0)->
  (∀ty dc,(Builtin.copy_ #[t,t] ty #[.slice (some ⟨g,i*sz,none⟩) (n+1-i) dc,.slice (some ad) 1 vc]).run P W0= .ok u1 W1)->
  (∀ty dc sc,(Builtin.copy_ #[t,t] ty #[.slice (some ⟨g,(i+1)*sz,none⟩) (n-i) dc,.slice (some ⟨b,i*sz,none⟩) (n-i) sc]).run P W1.drew= .ok u2 W2)->
  Calls P f #[.slice (some ⟨b,0,none⟩) n c,.int .i64 i,.slice (some ad) 1 vc] w λe w1=>e= .returned (.slice (some ⟨g,0,none⟩) (n+1) G)/\w1=W2
end
end
section
open Go
structure Hd where
 a:Option Addr
 n:Nat
 c:Nat
 deriving DecidableEq,Inhabited
structure Op where
 client:Int
 seq:Int
 kind:Int
 object:Int
 old:Int
 value:Int
 deriving DecidableEq,Inhabited
structure Result where
 done:Bool
 value:Int
 deriving DecidableEq,Inhabited
structure nu where
 client:Int
 seq:Int
 result:Result
 deriving DecidableEq,Inhabited
structure nr where
 objects:List Int
 sessions:List nu
 deriving DecidableEq,Inhabited
structure rp where
 epoch:Int
 op:Op
 deriving DecidableEq,Inhabited
structure nH where
 count:Int
 digest:Int
 machine:nr
 deriving DecidableEq,Inhabited
structure nG where
 epoch:Int
 primary:Int
 replicas:List Int
 witnesses:List Int
 deriving DecidableEq,Inhabited
structure uQ where
 rack:Int
 capacity:Int
 load:Int
 deriving DecidableEq,Inhabited
structure jZ where
 configs:List nG
 activated:Int
 deriving DecidableEq,Inhabited
structure uN where
 epoch:Int
 holder:Int
 ends:Int
 deriving DecidableEq,Inhabited
structure qk where
 up:Bool
 intact:Bool
 version:Int
 epoch:Int
 config:nG
 first:Int
 log:List rp
 commit:Int
 learned:List rp
 deriving DecidableEq,Inhabited
structure qh where
 now:Int
 servers:List qk
 sides:List Int
 master:jZ
 masterUp:Int
 lease:uN
 places:List uQ
 deriving DecidableEq,Inhabited
structure wX where
 code:Int
 result:Result
 index:Int
 deriving DecidableEq,Inhabited
structure Dd where
 op:Op
 index:Int
 deriving DecidableEq,Inhabited
structure wT where
 kind:Int
 server:Int
 other:Int
 n:Int
 op:Op
 deriving DecidableEq,Inhabited
structure tM where
 server:Int
 index:Int
 deriving DecidableEq,Inhabited
structure Ba where
 start:Int
 event:Int
 read:Bool
 index:Int
 value:Int
 op:Op
 deriving DecidableEq,Inhabited
structure qi where
 b:Hd
 i:Int
 h:Int
 deriving DecidableEq,Inhabited
inductive Sn where
 |op|result|session|machine|entry|snapshot|config|place|masterLog|lease|server|cluster|reply|ack|event|damage|mark|cur
 deriving DecidableEq,Inhabited
abbrev Sn.D:Sn->Type
 | .op=>Op
 | .result=>Result
 | .session=>nu
 | .machine=>nr
 | .entry=>rp
 | .snapshot=>nH
 | .config=>nG
 | .place=>uQ
 | .masterLog=>jZ
 | .lease=>uN
 | .server=>qk
 | .cluster=>qh
 | .reply=>wX
 | .ack=>Dd
 | .event=>wT
 | .damage=>tM
 | .mark=>Ba
 | .cur=>qi
inductive Ty where|i (k:IntKind)|b|s|h|st (n:Sn)|ls (t:Ty)
 deriving DecidableEq,Inhabited
abbrev Ty.D:Ty->Type
 | .i _=>Int| .b=>Bool| .s=>ByteArray| .h=>Hd| .st n=>n.D| .ls t=>List t.D
inductive C where|sc (v:Value)|ls (t:Ty) (l:List t.D)
 deriving Inhabited
def Sn.flat: (n:Sn)->n.D->List C
 | .op,x=> [.sc (.int .i64 x.client),.sc (.int .i64 x.seq),.sc (.int .i64 x.kind),.sc (.int .i64 x.object),.sc (.int .i64 x.old),.sc (.int .i64 x.value)]
 | .result,x=> [.sc (.bool x.done),.sc (.int .i64 x.value)]
 | .session,x=> [.sc (.int .i64 x.client),.sc (.int .i64 x.seq),.sc (.bool x.result.done),.sc (.int .i64 x.result.value)]
 | .machine,x=> [.ls (.i .i64) x.objects,.ls (.st .session) x.sessions]
 | .entry,x=> [.sc (.int .i64 x.epoch),.sc (.int .i64 x.op.client),.sc (.int .i64 x.op.seq),.sc (.int .i64 x.op.kind),.sc (.int .i64 x.op.object),.sc (.int .i64 x.op.old),.sc (.int .i64 x.op.value)]
 | .snapshot,x=> [.sc (.int .i64 x.count),.sc (.int .i64 x.digest),.ls (.i .i64) x.machine.objects,.ls (.st .session) x.machine.sessions]
 | .config,x=> [.sc (.int .i64 x.epoch),.sc (.int .i64 x.primary),.ls (.i .i64) x.replicas,.ls (.i .i64) x.witnesses]
 | .place,x=> [.sc (.int .i64 x.rack),.sc (.int .i64 x.capacity),.sc (.int .i64 x.load)]
 | .masterLog,x=> [.ls (.st .config) x.configs,.sc (.int .i64 x.activated)]
 | .lease,x=> [.sc (.int .i64 x.epoch),.sc (.int .i64 x.holder),.sc (.int .i64 x.ends)]
 | .server,x=> [.sc (.bool x.up),.sc (.bool x.intact),.sc (.int .i64 x.version),.sc (.int .i64 x.epoch),.sc (.int .i64 x.config.epoch),.sc (.int .i64 x.config.primary),.ls (.i .i64) x.config.replicas,.ls (.i .i64) x.config.witnesses,.sc (.int .i64 x.first),.ls (.st .entry) x.log,.sc (.int .i64 x.commit),.ls (.st .entry) x.learned]
 | .cluster,x=> [.sc (.int .i64 x.now),.ls (.st .server) x.servers,.ls (.i .i64) x.sides,.ls (.st .config) x.master.configs,.sc (.int .i64 x.master.activated),.sc (.int .i64 x.masterUp),.sc (.int .i64 x.lease.epoch),.sc (.int .i64 x.lease.holder),.sc (.int .i64 x.lease.ends),.ls (.st .place) x.places]
 | .reply,x=> [.sc (.int .i64 x.code),.sc (.bool x.result.done),.sc (.int .i64 x.result.value),.sc (.int .i64 x.index)]
 | .ack,x=> [.sc (.int .i64 x.op.client),.sc (.int .i64 x.op.seq),.sc (.int .i64 x.op.kind),.sc (.int .i64 x.op.object),.sc (.int .i64 x.op.old),.sc (.int .i64 x.op.value),.sc (.int .i64 x.index)]
 | .event,x=> [.sc (.int .i64 x.kind),.sc (.int .i64 x.server),.sc (.int .i64 x.other),.sc (.int .i64 x.n),.sc (.int .i64 x.op.client),.sc (.int .i64 x.op.seq),.sc (.int .i64 x.op.kind),.sc (.int .i64 x.op.object),.sc (.int .i64 x.op.old),.sc (.int .i64 x.op.value)]
 | .damage,x=> [.sc (.int .i64 x.server),.sc (.int .i64 x.index)]
 | .mark,x=> [.sc (.int .i64 x.start),.sc (.int .i64 x.event),.sc (.bool x.read),.sc (.int .i64 x.index),.sc (.int .i64 x.value),.sc (.int .i64 x.op.client),.sc (.int .i64 x.op.seq),.sc (.int .i64 x.op.kind),.sc (.int .i64 x.op.object),.sc (.int .i64 x.op.old),.sc (.int .i64 x.op.value)]
 | .cur,x=> [.sc (.slice x.b.a x.b.n x.b.c),.sc (.int .i64 x.i),.sc (.int .i64 x.h)]
def Ty.flat: (t:Ty)->t.D->List C
 | .i k,n=> [.sc (.int k n)] | .b,v=> [.sc (.bool v)] | .s,v=> [.sc (.string v)] | .h,v=> [.sc (.slice v.a v.n v.c)] | .st n,x=>n.flat x| .ls t,l=> [.ls t l]
def Sn.width:Sn->Nat
 | .op=>6| .result=>2| .session=>4| .machine=>2| .entry=>7| .snapshot=>4| .config=>4| .place=>3| .masterLog=>2| .lease=>3| .server=>12| .cluster=>10| .reply=>4| .ack=>7| .event=>10| .damage=>2| .mark=>11| .cur=>3
def Ty.width:Ty->Nat| .st n=>n.width| _=>1
def Sn.csh:Sn->List (Option Ty)
 | .op=> [none,none,none,none,none,none]
 | .result=> [none,none]
 | .session=> [none,none,none,none]
 | .machine=> [some (.i .i64),some (.st .session)]
 | .entry=> [none,none,none,none,none,none,none]
 | .snapshot=> [none,none,some (.i .i64),some (.st .session)]
 | .config=> [none,none,some (.i .i64),some (.i .i64)]
 | .place=> [none,none,none]
 | .masterLog=> [some (.st .config),none]
 | .lease=> [none,none,none]
 | .server=> [none,none,none,none,none,none,some (.i .i64),some (.i .i64),none,some (.st .entry),none,some (.st .entry)]
 | .cluster=> [none,some (.st .server),some (.i .i64),some (.st .config),none,none,none,none,none,some (.st .place)]
 | .reply=> [none,none,none,none]
 | .ack=> [none,none,none,none,none,none,none]
 | .event=> [none,none,none,none,none,none,none,none,none,none]
 | .damage=> [none,none]
 | .mark=> [none,none,none,none,none,none,none,none,none,none,none]
 | .cur=> [none,none,none]
def Ty.csh:Ty->List (Option Ty)| .st n=>n.csh| .ls t=> [some t] | _=> [none]
def Sn.zvs:Sn->List Value
 | .op=> [.int .i64 0,.int .i64 0,.int .i64 0,.int .i64 0,.int .i64 0,.int .i64 0]
 | .result=> [.bool false,.int .i64 0]
 | .session=> [.int .i64 0,.int .i64 0,.bool false,.int .i64 0]
 | .machine=> [.slice none 0 0,.slice none 0 0]
 | .entry=> [.int .i64 0,.int .i64 0,.int .i64 0,.int .i64 0,.int .i64 0,.int .i64 0,.int .i64 0]
 | .snapshot=> [.int .i64 0,.int .i64 0,.slice none 0 0,.slice none 0 0]
 | .config=> [.int .i64 0,.int .i64 0,.slice none 0 0,.slice none 0 0]
 | .place=> [.int .i64 0,.int .i64 0,.int .i64 0]
 | .masterLog=> [.slice none 0 0,.int .i64 0]
 | .lease=> [.int .i64 0,.int .i64 0,.int .i64 0]
 | .server=> [.bool false,.bool false,.int .i64 0,.int .i64 0,.int .i64 0,.int .i64 0,.slice none 0 0,.slice none 0 0,.int .i64 0,.slice none 0 0,.int .i64 0,.slice none 0 0]
 | .cluster=> [.int .i64 0,.slice none 0 0,.slice none 0 0,.slice none 0 0,.int .i64 0,.int .i64 0,.int .i64 0,.int .i64 0,.int .i64 0,.slice none 0 0]
 | .reply=> [.int .i64 0,.bool false,.int .i64 0,.int .i64 0]
 | .ack=> [.int .i64 0,.int .i64 0,.int .i64 0,.int .i64 0,.int .i64 0,.int .i64 0,.int .i64 0]
 | .event=> [.int .i64 0,.int .i64 0,.int .i64 0,.int .i64 0,.int .i64 0,.int .i64 0,.int .i64 0,.int .i64 0,.int .i64 0,.int .i64 0]
 | .damage=> [.int .i64 0,.int .i64 0]
 | .mark=> [.int .i64 0,.int .i64 0,.bool false,.int .i64 0,.int .i64 0,.int .i64 0,.int .i64 0,.int .i64 0,.int .i64 0,.int .i64 0,.int .i64 0]
 | .cur=> [.nilFunc,.int .i64 0,.int .i64 0]
def Ty.zvs:Ty->List Value| .i k=> [.int k 0] | .b=> [.bool false] | .s=> [.string ByteArray.empty] | .h=> [.nilFunc] | .st n=>n.zvs| .ls _=> [.slice none 0 0]
def gI(k:IntKind){α:Type}(cs:List C)(f:Int->List C->Option α):Option α:=match cs with | .sc (.int k' n)::r=>if k'=k then f n r else none| _=>none
def gB{α:Type}(cs:List C)(f:Bool->List C->Option α):Option α:=match cs with | .sc (.bool v)::r=>f v r| _=>none
def gS{α:Type}(cs:List C)(f:ByteArray->List C->Option α):Option α:=match cs with | .sc (.string v)::r=>f v r| _=>none
def gH{α:Type}(cs:List C)(f:Hd->List C->Option α):Option α:=match cs with | .sc (.slice a n c)::r=>f ⟨a,n,c⟩ r| _=>none
def gL(t:Ty){α:Type}(cs:List C)(f:List t.D->List C->Option α):Option α:=match cs with | .ls t' l::r=>if h:t'=t then f (h ▸ l) r else none| _=>none
def gN{α:Type}(cs:List C)(x:α):Option α:=match cs with | [] =>some x| _=>none
def Sn.unflat: (n:Sn)->List C->Option n.D
 | .op,cs=>gI .i64 cs λa0 r0=>gI .i64 r0 λa1 r1=>gI .i64 r1 λa2 r2=>gI .i64 r2 λa3 r3=>gI .i64 r3 λa4 r4=>gI .i64 r4 λa5 r5=>gN r5 (⟨a0,a1,a2,a3,a4,a5⟩:Op)
 | .result,cs=>gB cs λa0 r0=>gI .i64 r0 λa1 r1=>gN r1 (⟨a0,a1⟩:Result)
 | .session,cs=>gI .i64 cs λa0 r0=>gI .i64 r0 λa1 r1=>gB r1 λa2 r2=>gI .i64 r2 λa3 r3=>gN r3 (⟨a0,a1,⟨a2,a3⟩⟩:nu)
 | .machine,cs=>gL (.i .i64) cs λa0 r0=>gL (.st .session) r0 λa1 r1=>gN r1 (⟨a0,a1⟩:nr)
 | .entry,cs=>gI .i64 cs λa0 r0=>gI .i64 r0 λa1 r1=>gI .i64 r1 λa2 r2=>gI .i64 r2 λa3 r3=>gI .i64 r3 λa4 r4=>gI .i64 r4 λa5 r5=>gI .i64 r5 λa6 r6=>gN r6 (⟨a0,⟨a1,a2,a3,a4,a5,a6⟩⟩:rp)
 | .snapshot,cs=>gI .i64 cs λa0 r0=>gI .i64 r0 λa1 r1=>gL (.i .i64) r1 λa2 r2=>gL (.st .session) r2 λa3 r3=>gN r3 (⟨a0,a1,⟨a2,a3⟩⟩:nH)
 | .config,cs=>gI .i64 cs λa0 r0=>gI .i64 r0 λa1 r1=>gL (.i .i64) r1 λa2 r2=>gL (.i .i64) r2 λa3 r3=>gN r3 (⟨a0,a1,a2,a3⟩:nG)
 | .place,cs=>gI .i64 cs λa0 r0=>gI .i64 r0 λa1 r1=>gI .i64 r1 λa2 r2=>gN r2 (⟨a0,a1,a2⟩:uQ)
 | .masterLog,cs=>gL (.st .config) cs λa0 r0=>gI .i64 r0 λa1 r1=>gN r1 (⟨a0,a1⟩:jZ)
 | .lease,cs=>gI .i64 cs λa0 r0=>gI .i64 r0 λa1 r1=>gI .i64 r1 λa2 r2=>gN r2 (⟨a0,a1,a2⟩:uN)
 | .server,cs=>gB cs λa0 r0=>gB r0 λa1 r1=>gI .i64 r1 λa2 r2=>gI .i64 r2 λa3 r3=>gI .i64 r3 λa4 r4=>gI .i64 r4 λa5 r5=>gL (.i .i64) r5 λa6 r6=>gL (.i .i64) r6 λa7 r7=>gI .i64 r7 λa8 r8=>gL (.st .entry) r8 λa9 r9=>gI .i64 r9 λa10 r10=>gL (.st .entry) r10 λa11 r11=>gN r11 (⟨a0,a1,a2,a3,⟨a4,a5,a6,a7⟩,a8,a9,a10,a11⟩:qk)
 | .cluster,cs=>gI .i64 cs λa0 r0=>gL (.st .server) r0 λa1 r1=>gL (.i .i64) r1 λa2 r2=>gL (.st .config) r2 λa3 r3=>gI .i64 r3 λa4 r4=>gI .i64 r4 λa5 r5=>gI .i64 r5 λa6 r6=>gI .i64 r6 λa7 r7=>gI .i64 r7 λa8 r8=>gL (.st .place) r8 λa9 r9=>gN r9 (⟨a0,a1,a2,⟨a3,a4⟩,a5,⟨a6,a7,a8⟩,a9⟩:qh)
 | .reply,cs=>gI .i64 cs λa0 r0=>gB r0 λa1 r1=>gI .i64 r1 λa2 r2=>gI .i64 r2 λa3 r3=>gN r3 (⟨a0,⟨a1,a2⟩,a3⟩:wX)
 | .ack,cs=>gI .i64 cs λa0 r0=>gI .i64 r0 λa1 r1=>gI .i64 r1 λa2 r2=>gI .i64 r2 λa3 r3=>gI .i64 r3 λa4 r4=>gI .i64 r4 λa5 r5=>gI .i64 r5 λa6 r6=>gN r6 (⟨⟨a0,a1,a2,a3,a4,a5⟩,a6⟩:Dd)
 | .event,cs=>gI .i64 cs λa0 r0=>gI .i64 r0 λa1 r1=>gI .i64 r1 λa2 r2=>gI .i64 r2 λa3 r3=>gI .i64 r3 λa4 r4=>gI .i64 r4 λa5 r5=>gI .i64 r5 λa6 r6=>gI .i64 r6 λa7 r7=>gI .i64 r7 λa8 r8=>gI .i64 r8 λa9 r9=>gN r9 (⟨a0,a1,a2,a3,⟨a4,a5,a6,a7,a8,a9⟩⟩:wT)
 | .damage,cs=>gI .i64 cs λa0 r0=>gI .i64 r0 λa1 r1=>gN r1 (⟨a0,a1⟩:tM)
 | .mark,cs=>gI .i64 cs λa0 r0=>gI .i64 r0 λa1 r1=>gB r1 λa2 r2=>gI .i64 r2 λa3 r3=>gI .i64 r3 λa4 r4=>gI .i64 r4 λa5 r5=>gI .i64 r5 λa6 r6=>gI .i64 r6 λa7 r7=>gI .i64 r7 λa8 r8=>gI .i64 r8 λa9 r9=>gI .i64 r9 λa10 r10=>gN r10 (⟨a0,a1,a2,a3,a4,⟨a5,a6,a7,a8,a9,a10⟩⟩:Ba)
 | .cur,cs=>gH cs λa0 r0=>gI .i64 r0 λa1 r1=>gI .i64 r1 λa2 r2=>gN r2 (⟨a0,a1,a2⟩:qi)
def Ty.unflat: (t:Ty)->List C->Option t.D
 | .i k,cs=>gI k cs λn r=>gN r n| .b,cs=>gB cs λn r=>gN r n| .s,cs=>gS cs λn r=>gN r n| .h,cs=>gH cs λn r=>gN r n| .st n,cs=>n.unflat cs| .ls t,cs=>gL t cs λl r=>gN r l
def CI(x:Op):List T:=[.sc (.int .i64 x.client),.sc (.int .i64 x.seq),.sc (.int .i64 x.kind),.sc (.int .i64 x.object),.sc (.int .i64 x.old),.sc (.int .i64 x.value)]
def wJ(x:Result):List T:=[.sc (.bool x.done),.sc (.int .i64 x.value)]
def li(x:nu):List T:=[.sc (.int .i64 x.client),.sc (.int .i64 x.seq),.sc (.bool x.result.done),.sc (.int .i64 x.result.value)]
def uB(x:nr):List T:=[.sl 1 (x.objects.map λn=> [.sc (.int .i64 n)]),.sl 4 (x.sessions.map li)]
def oJ(x:rp):List T:=[.sc (.int .i64 x.epoch),.sc (.int .i64 x.op.client),.sc (.int .i64 x.op.seq),.sc (.int .i64 x.op.kind),.sc (.int .i64 x.op.object),.sc (.int .i64 x.op.old),.sc (.int .i64 x.op.value)]
def sY(x:nH):List T:=[.sc (.int .i64 x.count),.sc (.int .i64 x.digest),.sl 1 (x.machine.objects.map λn=> [.sc (.int .i64 n)]),.sl 4 (x.machine.sessions.map li)]
def my(x:nG):List T:=[.sc (.int .i64 x.epoch),.sc (.int .i64 x.primary),.sl 1 (x.replicas.map λn=> [.sc (.int .i64 n)]),.sl 1 (x.witnesses.map λn=> [.sc (.int .i64 n)])]
def sX(x:uQ):List T:=[.sc (.int .i64 x.rack),.sc (.int .i64 x.capacity),.sc (.int .i64 x.load)]
def q8(x:jZ):List T:=[.sl 4 (x.configs.map my),.sc (.int .i64 x.activated)]
def yu(x:uN):List T:=[.sc (.int .i64 x.epoch),.sc (.int .i64 x.holder),.sc (.int .i64 x.ends)]
def qb(x:qk):List T:=[.sc (.bool x.up),.sc (.bool x.intact),.sc (.int .i64 x.version),.sc (.int .i64 x.epoch),.sc (.int .i64 x.config.epoch),.sc (.int .i64 x.config.primary),.sl 1 (x.config.replicas.map λn=> [.sc (.int .i64 n)]),.sl 1 (x.config.witnesses.map λn=> [.sc (.int .i64 n)]),.sc (.int .i64 x.first),.sl 7 (x.log.map oJ),.sc (.int .i64 x.commit),.sl 7 (x.learned.map oJ)]
def uA(x:qh):List T:=[.sc (.int .i64 x.now),.sl 12 (x.servers.map qb),.sl 1 (x.sides.map λn=> [.sc (.int .i64 n)]),.sl 4 (x.master.configs.map my),.sc (.int .i64 x.master.activated),.sc (.int .i64 x.masterUp),.sc (.int .i64 x.lease.epoch),.sc (.int .i64 x.lease.holder),.sc (.int .i64 x.lease.ends),.sl 3 (x.places.map sX)]
def yw(x:wX):List T:=[.sc (.int .i64 x.code),.sc (.bool x.result.done),.sc (.int .i64 x.result.value),.sc (.int .i64 x.index)]
def BJ(x:Dd):List T:=[.sc (.int .i64 x.op.client),.sc (.int .i64 x.op.seq),.sc (.int .i64 x.op.kind),.sc (.int .i64 x.op.object),.sc (.int .i64 x.op.old),.sc (.int .i64 x.op.value),.sc (.int .i64 x.index)]
def yt(x:wT):List T:=[.sc (.int .i64 x.kind),.sc (.int .i64 x.server),.sc (.int .i64 x.other),.sc (.int .i64 x.n),.sc (.int .i64 x.op.client),.sc (.int .i64 x.op.seq),.sc (.int .i64 x.op.kind),.sc (.int .i64 x.op.object),.sc (.int .i64 x.op.old),.sc (.int .i64 x.op.value)]
def wI(x:tM):List T:=[.sc (.int .i64 x.server),.sc (.int .i64 x.index)]
def Av(x:Ba):List T:=[.sc (.int .i64 x.start),.sc (.int .i64 x.event),.sc (.bool x.read),.sc (.int .i64 x.index),.sc (.int .i64 x.value),.sc (.int .i64 x.op.client),.sc (.int .i64 x.op.seq),.sc (.int .i64 x.op.kind),.sc (.int .i64 x.op.object),.sc (.int .i64 x.op.old),.sc (.int .i64 x.op.value)]
def ga(x:qi):List T:=[.sc (.slice x.b.a x.b.n x.b.c),.sc (.int .i64 x.i),.sc (.int .i64 x.h)]
def Sn.row: (n:Sn)->n.D->List T
 | .op,x=>CI x
 | .result,x=>wJ x
 | .session,x=>li x
 | .machine,x=>uB x
 | .entry,x=>oJ x
 | .snapshot,x=>sY x
 | .config,x=>my x
 | .place,x=>sX x
 | .masterLog,x=>q8 x
 | .lease,x=>yu x
 | .server,x=>qb x
 | .cluster,x=>uA x
 | .reply,x=>yw x
 | .ack,x=>BJ x
 | .event,x=>yt x
 | .damage,x=>wI x
 | .mark,x=>Av x
 | .cur,x=>ga x
def Ty.row: (t:Ty)->t.D->List T
 | .i k,n=> [.sc (.int k n)] | .b,v=> [.sc (.bool v)] | .s,v=> [.sc (.string v)] | .h,v=> [.sc (.slice v.a v.n v.c)] | .st n,x=>n.row x| .ls t,l=> [.sl t.width (l.map t.row)]
def C.tree:C->T| .sc v=> .sc v| .ls t l=> .sl t.width (l.map t.row)
def C.good:C->Bool| .sc v=>gG v| .ls _ _=>true
theorem Ty.row_flat(t:Ty)(x:t.D):t.row x=(t.flat x).map C.tree:=by
 cases t with
 |st n=>cases n<;>rfl
 | _=>rfl
theorem Ty.flat_length(t:Ty)(x:t.D): (t.flat x).length=t.width:=by
 cases t with
 |st n=>cases n<;>rfl
 | _=>rfl
theorem Ty.row_length(t:Ty)(x:t.D): (t.row x).length=t.width:=by rw[t.row_flat,aH,t.flat_length]
theorem dF{k:IntKind}{α:Type}{cs:List C}{f:Int->List C->Option α}{y:α}(h:gI k cs f=some y): ∃n r,cs= .sc (.int k n)::r/\f n r=some y:=by
 unfold gI at h;split at h
 ·split at h
  ·rename_i hk;subst hk;exact⟨_,_,rfl,h⟩
  ·cases h
 ·cases h
theorem jg{α:Type}{cs:List C}{f:Bool->List C->Option α}{y:α}(h:gB cs f=some y): ∃n r,cs= .sc (.bool n)::r/\f n r=some y:=by
 unfold gB at h;split at h
 ·exact⟨_,_,rfl,h⟩
 ·cases h
theorem zV{α:Type}{cs:List C}{f:ByteArray->List C->Option α}{y:α}(h:gS cs f=some y): ∃n r,cs= .sc (.string n)::r/\f n r=some y:=by
 unfold gS at h;split at h
 ·exact⟨_,_,rfl,h⟩
 ·cases h
theorem vh{α:Type}{cs:List C}{f:Hd->List C->Option α}{y:α}(h:gH cs f=some y): ∃n r,cs= .sc (.slice n.a n.n n.c)::r/\f n r=some y:=by
 unfold gH at h;split at h
 ·exact⟨_,_,rfl,h⟩
 ·cases h
theorem fg{t:Ty}{α:Type}{cs:List C}{f:List t.D->List C->Option α}{y:α}(h:gL t cs f=some y): ∃n r,cs= .ls t n::r/\f n r=some y:=by
 unfold gL at h;split at h
 ·split at h
  ·rename_i hk;subst hk;exact⟨_,_,rfl,h⟩
  ·cases h
 ·cases h
theorem eF{α:Type}{cs:List C}{x y:α}(h:gN cs x=some y):cs= [] /\x=y:=by
 unfold gN at h;split at h
 ·simp only[af] at h;exact⟨rfl,h⟩
 ·cases h
theorem Sn.unflat_some: ∀ (n:Sn) (cs:List C) (x:n.D),n.unflat cs=some x->n.flat x=cs
 | .op,cs,x,h=>by unfold Sn.unflat at h;obtain⟨a0,r0,h0,h⟩:=dF h;obtain⟨a1,r1,h1,h⟩:=dF h;obtain⟨a2,r2,h2,h⟩:=dF h;obtain⟨a3,r3,h3,h⟩:=dF h;obtain⟨a4,r4,h4,h⟩:=dF h;obtain⟨a5,r5,h5,h⟩:=dF h;obtain⟨e,h⟩:=eF h;subst h e h5 h4 h3 h2 h1 h0;rfl
 | .result,cs,x,h=>by unfold Sn.unflat at h;obtain⟨a0,r0,h0,h⟩:=jg h;obtain⟨a1,r1,h1,h⟩:=dF h;obtain⟨e,h⟩:=eF h;subst h e h1 h0;rfl
 | .session,cs,x,h=>by unfold Sn.unflat at h;obtain⟨a0,r0,h0,h⟩:=dF h;obtain⟨a1,r1,h1,h⟩:=dF h;obtain⟨a2,r2,h2,h⟩:=jg h;obtain⟨a3,r3,h3,h⟩:=dF h;obtain⟨e,h⟩:=eF h;subst h e h3 h2 h1 h0;rfl
 | .machine,cs,x,h=>by unfold Sn.unflat at h;obtain⟨a0,r0,h0,h⟩:=fg h;obtain⟨a1,r1,h1,h⟩:=fg h;obtain⟨e,h⟩:=eF h;subst h e h1 h0;rfl
 | .entry,cs,x,h=>by unfold Sn.unflat at h;obtain⟨a0,r0,h0,h⟩:=dF h;obtain⟨a1,r1,h1,h⟩:=dF h;obtain⟨a2,r2,h2,h⟩:=dF h;obtain⟨a3,r3,h3,h⟩:=dF h;obtain⟨a4,r4,h4,h⟩:=dF h;obtain⟨a5,r5,h5,h⟩:=dF h;obtain⟨a6,r6,h6,h⟩:=dF h;obtain⟨e,h⟩:=eF h;subst h e h6 h5 h4 h3 h2 h1 h0;rfl
 | .snapshot,cs,x,h=>by unfold Sn.unflat at h;obtain⟨a0,r0,h0,h⟩:=dF h;obtain⟨a1,r1,h1,h⟩:=dF h;obtain⟨a2,r2,h2,h⟩:=fg h;obtain⟨a3,r3,h3,h⟩:=fg h;obtain⟨e,h⟩:=eF h;subst h e h3 h2 h1 h0;rfl
 | .config,cs,x,h=>by unfold Sn.unflat at h;obtain⟨a0,r0,h0,h⟩:=dF h;obtain⟨a1,r1,h1,h⟩:=dF h;obtain⟨a2,r2,h2,h⟩:=fg h;obtain⟨a3,r3,h3,h⟩:=fg h;obtain⟨e,h⟩:=eF h;subst h e h3 h2 h1 h0;rfl
 | .place,cs,x,h=>by unfold Sn.unflat at h;obtain⟨a0,r0,h0,h⟩:=dF h;obtain⟨a1,r1,h1,h⟩:=dF h;obtain⟨a2,r2,h2,h⟩:=dF h;obtain⟨e,h⟩:=eF h;subst h e h2 h1 h0;rfl
 | .masterLog,cs,x,h=>by unfold Sn.unflat at h;obtain⟨a0,r0,h0,h⟩:=fg h;obtain⟨a1,r1,h1,h⟩:=dF h;obtain⟨e,h⟩:=eF h;subst h e h1 h0;rfl
 | .lease,cs,x,h=>by unfold Sn.unflat at h;obtain⟨a0,r0,h0,h⟩:=dF h;obtain⟨a1,r1,h1,h⟩:=dF h;obtain⟨a2,r2,h2,h⟩:=dF h;obtain⟨e,h⟩:=eF h;subst h e h2 h1 h0;rfl
 | .server,cs,x,h=>by unfold Sn.unflat at h;obtain⟨a0,r0,h0,h⟩:=jg h;obtain⟨a1,r1,h1,h⟩:=jg h;obtain⟨a2,r2,h2,h⟩:=dF h;obtain⟨a3,r3,h3,h⟩:=dF h;obtain⟨a4,r4,h4,h⟩:=dF h;obtain⟨a5,r5,h5,h⟩:=dF h;obtain⟨a6,r6,h6,h⟩:=fg h;obtain⟨a7,r7,h7,h⟩:=fg h;obtain⟨a8,r8,h8,h⟩:=dF h;obtain⟨a9,r9,h9,h⟩:=fg h;obtain⟨a10,r10,h10,h⟩:=dF h;obtain⟨a11,r11,h11,h⟩:=fg h;obtain⟨e,h⟩:=eF h;subst h e h11 h10 h9 h8 h7 h6 h5 h4 h3 h2 h1 h0;rfl
 | .cluster,cs,x,h=>by unfold Sn.unflat at h;obtain⟨a0,r0,h0,h⟩:=dF h;obtain⟨a1,r1,h1,h⟩:=fg h;obtain⟨a2,r2,h2,h⟩:=fg h;obtain⟨a3,r3,h3,h⟩:=fg h;obtain⟨a4,r4,h4,h⟩:=dF h;obtain⟨a5,r5,h5,h⟩:=dF h;obtain⟨a6,r6,h6,h⟩:=dF h;obtain⟨a7,r7,h7,h⟩:=dF h;obtain⟨a8,r8,h8,h⟩:=dF h;obtain⟨a9,r9,h9,h⟩:=fg h;obtain⟨e,h⟩:=eF h;subst h e h9 h8 h7 h6 h5 h4 h3 h2 h1 h0;rfl
 | .reply,cs,x,h=>by unfold Sn.unflat at h;obtain⟨a0,r0,h0,h⟩:=dF h;obtain⟨a1,r1,h1,h⟩:=jg h;obtain⟨a2,r2,h2,h⟩:=dF h;obtain⟨a3,r3,h3,h⟩:=dF h;obtain⟨e,h⟩:=eF h;subst h e h3 h2 h1 h0;rfl
 | .ack,cs,x,h=>by unfold Sn.unflat at h;obtain⟨a0,r0,h0,h⟩:=dF h;obtain⟨a1,r1,h1,h⟩:=dF h;obtain⟨a2,r2,h2,h⟩:=dF h;obtain⟨a3,r3,h3,h⟩:=dF h;obtain⟨a4,r4,h4,h⟩:=dF h;obtain⟨a5,r5,h5,h⟩:=dF h;obtain⟨a6,r6,h6,h⟩:=dF h;obtain⟨e,h⟩:=eF h;subst h e h6 h5 h4 h3 h2 h1 h0;rfl
 | .event,cs,x,h=>by unfold Sn.unflat at h;obtain⟨a0,r0,h0,h⟩:=dF h;obtain⟨a1,r1,h1,h⟩:=dF h;obtain⟨a2,r2,h2,h⟩:=dF h;obtain⟨a3,r3,h3,h⟩:=dF h;obtain⟨a4,r4,h4,h⟩:=dF h;obtain⟨a5,r5,h5,h⟩:=dF h;obtain⟨a6,r6,h6,h⟩:=dF h;obtain⟨a7,r7,h7,h⟩:=dF h;obtain⟨a8,r8,h8,h⟩:=dF h;obtain⟨a9,r9,h9,h⟩:=dF h;obtain⟨e,h⟩:=eF h;subst h e h9 h8 h7 h6 h5 h4 h3 h2 h1 h0;rfl
 | .damage,cs,x,h=>by unfold Sn.unflat at h;obtain⟨a0,r0,h0,h⟩:=dF h;obtain⟨a1,r1,h1,h⟩:=dF h;obtain⟨e,h⟩:=eF h;subst h e h1 h0;rfl
 | .mark,cs,x,h=>by unfold Sn.unflat at h;obtain⟨a0,r0,h0,h⟩:=dF h;obtain⟨a1,r1,h1,h⟩:=dF h;obtain⟨a2,r2,h2,h⟩:=jg h;obtain⟨a3,r3,h3,h⟩:=dF h;obtain⟨a4,r4,h4,h⟩:=dF h;obtain⟨a5,r5,h5,h⟩:=dF h;obtain⟨a6,r6,h6,h⟩:=dF h;obtain⟨a7,r7,h7,h⟩:=dF h;obtain⟨a8,r8,h8,h⟩:=dF h;obtain⟨a9,r9,h9,h⟩:=dF h;obtain⟨a10,r10,h10,h⟩:=dF h;obtain⟨e,h⟩:=eF h;subst h e h10 h9 h8 h7 h6 h5 h4 h3 h2 h1 h0;rfl
 | .cur,cs,x,h=>by unfold Sn.unflat at h;obtain⟨a0,r0,h0,h⟩:=vh h;obtain⟨a1,r1,h1,h⟩:=dF h;obtain⟨a2,r2,h2,h⟩:=dF h;obtain⟨e,h⟩:=eF h;subst h e h2 h1 h0;rfl
theorem Ty.unflat_some(t:Ty)(cs:List C)(x:t.D)(h:t.unflat cs=some x):t.flat x=cs:=by
 cases t with
 |i k=>obtain⟨n,r,h1,h⟩:=dF h;obtain⟨h2,h⟩:=eF h;subst h h2 h1;rfl
 |b=>obtain⟨n,r,h1,h⟩:=jg h;obtain⟨h2,h⟩:=eF h;subst h h2 h1;rfl
 |s=>obtain⟨n,r,h1,h⟩:=zV h;obtain⟨h2,h⟩:=eF h;subst h h2 h1;rfl
 |h=>have h:gH cs (λn r=>gN r n)=some x:=h;obtain⟨n,r,h1,h⟩:=vh h;obtain⟨h2,h⟩:=eF h;subst h h2 h1;rfl
 |st n=>exact n.unflat_some cs x h
 |ls t=>have h:gL t cs (λl r=>gN r l)=some x:=h;obtain⟨n,r,h1,h⟩:=fg h;obtain⟨h2,h⟩:=eF h;subst h h2 h1;rfl
end
section
open Go
inductive Cl where
 |c (x:C)
 |em
 |own (p:dM) (sz lo len:Nat) (w:Bool)
 |pro (cs:List C)
 |ptrB (n j:Nat)
 |ptrT (p:dM) (sz i j:Nat)
 |dead
 deriving Inhabited
inductive V1 where
 |cl (x:Cl)
 |agg (cs:List Cl)
 |fn (f:FuncId) (cs:List Cl)
 deriving Inhabited
inductive V where
 |v (x:V1)
 |tup (l:List V1)
 deriving Inhabited
structure dJ where
 t:Ty
 l:List t.D
 hole:Option (Nat×Nat)
structure TS where
 env:List (Nat×V)
 bx:List (List Cl)
 gh:List (Option dJ)
 fz:Nat
 nt:Nat
structure TI where
 ty:Ty
 el:Nat
 fds:List (Nat×Nat×Bool)
 bytes:Nat
abbrev fV:=List (Nat×TI)
@[reducible] def V.c (x:C):V:=.v (.cl (.c x))
@[reducible] def V.sc (x:Value):V:=.v (.cl (.c (.sc x)))
@[reducible] def V.dead:V:=.v (.cl .dead)
def eS:List (Nat×V)->Nat->V
 | [],_=>V.dead
 | (t,v)::l,u=>bif Nat.beq t u then v else eS l u
def fA:fV->Nat->Option TI
 | [],_=>none
 | (t,v)::l,u=>bif Nat.beq t u then some v else fA l u
def gA{α:Type}:List α->Nat->Option α
 | [],_=>none
 |a::l,n=>bif Nat.beq n 0 then some a else gA l (n-1)
def cC(v:Value):Cl:=match v with | .slice none 0 0=> .em|v=>bif gG v then .c (.sc v) else .dead
def cV:Value->V
 | .agg cs=>bif cs.toList.all Value.oneCell' then .v (.agg (cs.toList.map cC)) else V.dead
 |v=> .v (.cl (cC v))
def TS.opd(S:TS):Operand->V
 | .tmp t=>eS S.env t
 | .const v=>cV v
 | .func f=>V.sc (.func (.func f) #[] #[])
 | .global _=>V.dead
def V1.cells:V1->List Cl
 | .cl x=> [x]
 | .agg cs=>cs
 | .fn _ _=> [.dead]
def C.flatB:C->Bool| .sc _=>true| _=>false
def Ty.flatB(t:Ty):Bool:=t.csh.all (·.isNone)
section
variable {ρ:Type}
def br{α:Type}(b:Bool)(x y:α):α:=cond b x y
def iteP{α:Type}(c:Prop)[Decidable c](x y:α):α:=if c then x else y
def rz(S:TS)(x:Operand)(κ:Bool->TS->Option ρ):Option ρ:=match x with
 | .tmp t=>match eS S.env t with
   | .v (.cl (.c (.sc (.bool b))))=>br b (κ true { S with env:=(t,V.sc (.bool true))::S.env }) (κ false { S with env:=(t,V.sc (.bool false))::S.env })
   | _=>none
 | .const (.bool b)=>κ b S
 | _=>none
def uf(v:V)(κ:Int->Option ρ):Option ρ:=match v with | .v (.cl (.c (.sc (.int _ n))))=>κ n| _=>none
def iq(S:TS)(p:dM)(κ: (t:Ty)->List t.D->Option ρ):Option ρ:=match gA S.gh p.r with
 |some (some tr)=>match tr.hole with
  |none=>match p.l with
   | [] =>κ tr.t tr.l
   | [(i,j)] =>(tr.l[i]?).bind λx=>match gA (tr.t.flat x) j with
     |some (.ls t l)=>κ t l
     | _=>none
   | _=>none
  |some _=>none
 | _=>none
def C.ro:C->Cl:=Cl.c
def uu(p:dM)(i j:Nat):C->Cl
 | .sc v=> .c (.sc v)
 | .ls t l=> .own ⟨p.r,p.l++ [(i,j)]⟩ t.width 0 l.length false
def mi{α β:Type}(f:Nat->α->β):Nat->List α->List β
 | _,[] => []
 |n,a::l=>f n a::mi f (n+1) l
def tX(S:TS)(n:Nat)(v:Cl)(κ:List Cl->Option ρ):Option ρ:=match v with
 | .ptrB b j=>match gA S.bx b with
   |some cs=>bif Nat.ble (j+n) cs.length then κ ((cs.drop j).take n) else none
   |none=>none
 | .pro cells=>bif Nat.ble n cells.length then κ ((cells.take n).map Cl.c) else none
 | .ptrT p sz i j=>iq S p λt l=>bif Nat.beq t.width sz&&Nat.ble (j+n) sz then (l[i]?).bind λx=>κ (mi (uu p i) j (((t.flat x).drop j).take n)) else none
 | _=>none
def Db(ag:Bool)(cs:List Cl)(κ:V->Option ρ):Option ρ:=bif ag then κ (.v (.agg cs)) else match cs with | [c] =>κ (.v (.cl c))| _=>none
def Ty.ag:Ty->Bool| .st _=>true| _=>false
def sA(Θ:fV)(S:TS)(t:TypeId)(v:V)(κ:V->Option ρ):Option ρ:=match fA Θ t with
 |some ti=>match v with | .v (.cl a)=>tX S ti.ty.width a λcs=>Db ti.ty.ag cs κ| _=>none
 |none=>none
def yx(S:TS)(p:dM)(κ:Int->Option ρ):Option ρ:=match p.l with
 | [] =>(match gA S.gh p.r with |some (some tr)=>κ tr.l.length| _=>none)
 | _=>none
def Bw(n:Nat)(i:Int)(S:TS)(v:Cl)(κ:Cl->Option ρ):Option ρ:=match v with
 | .c (.ls t l)=>bif Nat.beq t.width n then iteP (0<=i) ((l[i.toNat]?).bind λx=>κ (.pro (t.flat x))) none else none
 | .own p sz _ _ true=>bif Nat.beq sz n then yx S p λm=>iteP (0<=i/\i<m) (κ (.ptrT p sz i.toNat 0)) none else none
 | .own p sz lo len false=>bif Nat.beq sz n then iteP (0<=i/\i<len) (κ (.ptrT p sz (lo+i.toNat) 0)) none else none
 | _=>none
def z9(S:TS)(v:Cl)(κ:Int->Option ρ):Option ρ:=match v with
 | .c (.ls _ l)=>κ l.length
 | .own p _ _ _ true=>iq S p λ_ l=>κ l.length
 | .own _ _ _ len false=>κ len
 | .em=>κ 0
 | _=>none
def Bi(n:Nat)(lo hi:Int)(v:Cl)(κ:Cl->Option ρ):Option ρ:=match v with
 | .em=>iteP (lo=0/\hi=0) (κ .em) none
 | .c (.ls t l)=>bif Nat.beq t.width n then iteP (0<=lo/\lo<=hi/\hi<=l.length) (κ (.c (.ls t ((l.drop lo.toNat).take (hi.toNat-lo.toNat))))) none else none
 | .own p sz l len _=>bif Nat.beq sz n then iteP (0<=lo/\lo<=hi/\hi<=len) (κ (.own p sz (l+lo.toNat) (hi.toNat-lo.toNat) false)) none else none
 | _=>none
def qp(S:TS)(d:Int)(x:Option Operand)(κ:Int->Option ρ):Option ρ:=match x with
 |none=>κ d
 |some x=>uf (S.opd x) κ
def vS:List (Nat×Nat×Bool)->List Cl->List (Nat×V)->Option (List Cl)
 | _,cs,[] =>some cs
 |pl,cs,(k,v)::r=>match gA pl k with
  |some (off,n,_)=>match v with
   | .v x=>match x with
     | .cl .dead=>none
     | .fn _ _=>none
     |x=>bif Nat.beq x.cells.length n&&Nat.ble (off+n) cs.length then vS pl (cs.take off++x.cells++cs.drop (off+n)) r else none
   | _=>none
  |none=>none
def rP:Value->Value->Option Bool
 | .int _ a,.int _ b=>some (a==b)
 | .bool a,.bool b=>some (a==b)
 | _,_=>none
def kb:List Cl->List Cl->Option Bool
 | [],[] =>some true
 | .c (.sc a)::l,.c (.sc b)::m=>match rP a b,kb l m with
   |some x,some y=>some (x&&y)
   | _,_=>none
 | _,_=>none
def fE:List Value->List Cl->Bool
 | [],[] =>true
 | .int k _::zs,.c (.sc (.int k' _))::cs=>bif decide (k=k') then fE zs cs else false
 | .bool _::zs,.c (.sc (.bool _))::cs=>fE zs cs
 | _,_=>false
def V.ints(f:IntKind->Int->Int->Option ρ):V->V->Option ρ
 | .v (.cl (.c (.sc (.int k a)))),.v (.cl (.c (.sc (.int k' b))))=>if k=k' then f k a b else none
 | _,_=>none
def DX(a b:ByteArray):Bool:=a.toList==b.toList
def B6(Θ:fV)(t:TypeId)(x y:V)(κ:Bool->Option ρ):Option ρ:=match x,y with
 | .v (.cl (.c (.sc (.int k a)))),.v (.cl (.c (.sc (.int k' b))))=>if k=k' then κ (a==b) else none
 | .v (.cl (.c (.sc (.bool a)))),.v (.cl (.c (.sc (.bool b))))=>match fA Θ t with
   |some ti=>match ti.ty with | .b=>κ (a==b)| _=>none
   |none=>none
 | .v (.cl (.c (.sc (.string a)))),.v (.cl (.c (.sc (.string b))))=>κ (DX a b)
 | .v (.agg a),.v (.agg b)=>match fA Θ t with
   |some ti=>bif ti.ty.ag&&ti.ty.flatB&&fE ti.ty.zvs a&&fE ti.ty.zvs b then (match kb a b with |some r=>κ r|none=>none) else none
   |none=>none
 | _,_=>none
def Bd(x y:V)(κ:V->Option ρ):Option ρ:=match x,y with
 | .v (.cl (.c (.sc (.string a)))),.v (.cl (.c (.sc (.string b))))=>iteP (a.size+b.size<=2 ^ 40) (κ (V.sc (.string (a++b)))) none
 | _,_=>V.ints (λk a b=>κ (V.sc (.int k (k.wrap (a+b))))) x y
def Bh(Θ:fV)(op:BinOp)(t:TypeId)(x y:V)(κ:V->Option ρ):Option ρ:=match op with
 | .lss=>V.ints (λ_ a b=>κ (V.sc (.bool (decide (a<b))))) x y
 | .leq=>V.ints (λ_ a b=>κ (V.sc (.bool (decide (a<=b))))) x y
 | .gtr=>V.ints (λ_ a b=>κ (V.sc (.bool (decide (a>b))))) x y
 | .geq=>V.ints (λ_ a b=>κ (V.sc (.bool (decide (a≥b))))) x y
 | .add=>Bd x y κ
 | .sub=>V.ints (λk a b=>κ (V.sc (.int k (k.wrap (a-b))))) x y
 | .mul=>V.ints (λk a b=>κ (V.sc (.int k (k.wrap (a*b))))) x y
 | .quo=>V.ints (λk a b=>if b=0 then none else κ (V.sc (.int k (k.wrap (a.tdiv b))))) x y
 | .rem=>V.ints (λk a b=>if b=0 then none else κ (V.sc (.int k (a.tmod b)))) x y
 | .eql=>B6 Θ t x y λr=>κ (V.sc (.bool r))
 | .neq=>B6 Θ t x y λr=>κ (V.sc (.bool (!r)))
 | _=>none
def rF:List V->Option (List Cl)
 | [] =>some []
 | .v (.cl c)::l=>match rF l with |some r=>some (c::r)|none=>none
 | _=>none
def lq(Θ:fV)(S:TS)(o:Oper)(κ:V->TS->Option ρ):Option ρ:=
 let e:=S.opd
 match o.op with
 | .move x| .assign x=>κ (e x) S
 | .pick c a b=>rz S c λt S=>bif t then κ (S.opd a) S else κ (S.opd b) S
 | .load t a=>sA Θ S t (e a) (λv=>κ v S)
 | .nilCheck x=>match e x with
   | .v (.cl (.ptrB n j))=>κ (.v (.cl (.ptrB n j))) S
   | .v (.cl (.ptrT p sz i j))=>κ (.v (.cl (.ptrT p sz i j))) S
   | .v (.cl (.pro cs))=>κ (.v (.cl (.pro cs))) S
   | .v (.fn f cs)=>κ (.v (.fn f cs)) S
   | .v (.cl (.c (.sc (.func (.func f) a b))))=>κ (.v (.cl (.c (.sc (.func (.func f) a b))))) S
   | _=>none
 | .fieldAddr t x k=>match fA Θ t with
   |some ti=>match gA ti.fds k with
    |some (off,n,_)=>bif Nat.beq n 0 then none else match e x with
     | .v (.cl (.ptrB b j))=>κ (.v (.cl (.ptrB b (j+off)))) S
     | .v (.cl (.ptrT p sz i j))=>κ (.v (.cl (.ptrT p sz i (j+off)))) S
     | .v (.cl (.pro cs))=>κ (.v (.cl (.pro (cs.drop off)))) S
     | _=>none
    |none=>none
   |none=>none
 | .field t x k=>match fA Θ t with
   |some ti=>match gA ti.fds k with
    |some (off,n,ag)=>match e x with
     | .v (.agg cs)=>bif Nat.ble (off+n) cs.length&&Nat.blt 0 n then Db ag ((cs.drop off).take n) (λv=>κ v S) else none
     | _=>none
    |none=>none
   |none=>none
 | .indexAddr t x ix=>match fA Θ t with
   |some ti=>match ti.ty with
    | .ls el=>uf (e ix) λi=>match e x with | .v (.cl a)=>Bw el.width i S a (λc=>κ (.v (.cl c)) S)| _=>none
    | _=>none
   |none=>none
 | .build t parts=>match fA Θ t with
   |some ti=>bif ti.ty.ag then (match vS ti.fds (ti.ty.zvs.map cC) (parts.toList.map λx=>(x.1,e x.2)) with |some cs=>κ (.v (.agg cs)) S|none=>none) else none
   |none=>none
 | .slice t x lo hi none=>match fA Θ t with
   |some ti=>match ti.ty with
    | .ls el=>match e x with
      | .v (.cl a)=>z9 S a λn=>qp S 0 lo λl=>qp S n hi λh=>Bi el.width l h a (λc=>κ (.v (.cl c)) S)
      | _=>none
    | _=>none
   |none=>none
 | .convert s d x=>match fA Θ s,fA Θ d with
   |some _,some di=>match di.ty with
    | .i k'=>(match e x with | .v (.cl (.c (.sc (.int _ n))))=>κ (V.sc (.int k' (k'.wrap n))) S| _=>none)
    | _=>none
   | _,_=>none
 | .index t x ix=>match fA Θ t with
   |some ti=>match ti.ty with
    | .s=>(match e x,e ix with | .v (.cl (.c (.sc (.string s)))),.v (.cl (.c (.sc (.int _ i))))=>iteP (0<=i) ((s[i.toNat]?).bind λb=>κ (V.sc (.int .u8 b.toNat)) S) none| _,_=>none)
    | _=>none
   |none=>none
 | .extract x k=>match e x with | .tup vs=>(match gA vs k with |some v=>κ (.v v) S|none=>none)| _=>none
 | .makeFunc (.func f) first caps=>bif first.isEmpty then (match rF (caps.toList.map e) with |some cs=>κ (.v (.fn f cs)) S|none=>none) else none
 | .call { callee:=.builtin .len,args:=as,argTypes:=ts } =>match as.toList,ts.toList with
   | [x],[t] =>match fA Θ t with
     |some ti=>match ti.ty with
      | .ls _=>(match e x with | .v (.cl a)=>z9 S a λn=>κ (V.sc (.int .i64 n)) S| _=>none)
      | .s=>(match e x with | .v (.cl (.c (.sc (.string s))))=>κ (V.sc (.int .i64 s.size)) S| _=>none)
      | _=>none
     |none=>none
   | _,_=>none
 | .call { callee:=.builtin .cap,args:=as,argTypes:=ts } =>match as.toList,ts.toList with
   | [x],[t] =>match fA Θ t with
     |some ti=>match ti.ty with
      | .ls _=>(match e x with | .v (.cl .em)=>κ (V.sc (.int .i64 0)) S| _=>none)
      | _=>none
     |none=>none
   | _,_=>none
 | .call { callee:=.builtin .max,args:=as,argTypes:=_ } =>match as.toList with
   | [x,y] =>V.ints (λk a b=>κ (V.sc (.int k (if b>a then b else a))) S) (e x) (e y)
   | _=>none
 | .call { callee:=.builtin .min,args:=as,argTypes:=_ } =>match as.toList with
   | [x,y] =>V.ints (λk a b=>κ (V.sc (.int k (if b<a then b else a))) S) (e x) (e y)
   | _=>none
 | .binOp op t x y _=>Bh Θ op t (e x) (e y) (λv=>κ v S)
 | .unOp .neg _ x=>match e x with | .v (.cl (.c (.sc (.int k n))))=>κ (V.sc (.int k (k.wrap (0-n)))) S| _=>none
 | .unOp .not _ x=>match e x with | .v (.cl (.c (.sc (.bool b))))=>κ (V.sc (.bool (!b))) S| _=>none
 | _=>none
end
end
section
open Go
def C.av:C->AV
 | .sc v=> .sc v
 | .ls t l=> .ro t.width (l.map t.row)
def Cl.av:Cl->AV
 | .c x=>x.av
 | .em=> .em
 | .own p sz lo len _=> .own p sz lo len
 | .pro cs=> .pro (cs.map C.tree)
 | .ptrB n j=> .ptrB n j
 | .ptrT p sz i j=> .ptrT p sz i j
 | .dead=> .dead
def V1.av:V1->AV
 | .cl x=>x.av
 | .agg cs=> .agg (cs.map Cl.av)
 | .fn f cs=> .fn f (cs.map Cl.av)
def V.av:V->AV
 | .v x=>x.av
 | .tup l=> .tup (l.map V1.av)
def dJ.tree(x:dJ):T:=match x.hole with
 |none=> .sl x.t.width (x.l.map x.t.row)
 |some (i,j)=> .sl x.t.width ((x.l.map x.t.row).set i (((x.l.map x.t.row).getD i []).set j .dd))
def dX(G:List (Option dJ))(r:Nat):Option dJ:=(gA G r).getD none
def TS.st(S:TS):St where
 env:=λt=>(eS S.env t).av
 bx:=λn=>(gA S.bx n).map λcs=>cs.map Cl.av
 gh:=λr=>(dX S.gh r).map dJ.tree
 nb:=S.bx.length
 ng:=S.gh.length
 fz:=S.fz
 orc:=none
 nt:=S.nt
structure lz where
 f:FuncId->List V1->(ρ:Type)->(V->List dJ->Option ρ)->Option ρ
 kd:FuncId->Nat
instance:CoeFun lz λ_=>FuncId->List V1->(ρ:Type)->(V->List dJ->Option ρ)->Option ρ:=⟨lz.f⟩
def eT:Nat:=1048576
def sK:Nat:=eT+eT
def vC:Nat:=sK+eT
def nk(g:Nat):Nat:=g+eT
def pA(g:Nat):Nat:=g+sK
def oE(g:Nat):Nat:=g+vC
def q9(n:Nat):Cl->Cl
 | .own p sz lo len w=> .own ⟨p.r+n,p.l⟩ sz lo len w
 | .ptrT p sz i j=> .ptrT ⟨p.r+n,p.l⟩ sz i j
 | .c (.sc v)=> .c (.sc v)
 | _=> .dead
def kt(n:Nat):V1->V1
 | .agg cs=> .agg (cs.map (q9 n))
 | .cl c=> .cl (q9 n c)
 | .fn _ _=> .cl .dead
def iB(n:Nat):V->V
 | .tup vs=> .tup (vs.map (kt n))
 | .v x=> .v (kt n x)
def nn:Cl->Cl
 | .own p sz lo len w=>bif Nat.ble 1 p.r then .own ⟨p.r-1,p.l⟩ sz lo len w else .dead
 | .ptrT p sz i j=>bif Nat.ble 1 p.r then .ptrT ⟨p.r-1,p.l⟩ sz i j else .dead
 | .c (.sc v)=> .c (.sc v)
 | _=> .dead
def sF:V1->V1
 | .agg cs=> .agg (cs.map nn)
 | .cl c=> .cl (nn c)
 | .fn _ _=> .cl .dead
def xQ:V->V
 | .tup vs=> .tup (vs.map sF)
 | .v x=> .v (sF x)
def dW{α:Type}:List α->Nat->α->List α
 | [],_,_=> []
 |a::l,n,x=>bif Nat.beq n 0 then x::l else a::dW l (n-1) x
def jH(t t':Ty)(l:List t.D):Option (List t'.D):=if h:t=t' then some (h ▸ l) else none
def gW(r j:Nat):Cl->Cl
 | .own p sz lo len w=>match p.l with | (_,j')::_=>bif Nat.beq p.r r&&Nat.beq j j' then .dead else .own p sz lo len w| [] => .own p sz lo len w
 | .ptrT p sz a b=>match p.l with | (_,j')::_=>bif Nat.beq p.r r&&Nat.beq j j' then .dead else .ptrT p sz a b| [] => .ptrT p sz a b
 |c=>c
def iO(r j:Nat):V1->V1
 | .cl c=> .cl (gW r j c)
 | .agg cs=> .agg (cs.map (gW r j))
 | .fn f cs=> .fn f (cs.map (gW r j))
def pQ(r j:Nat):V->V
 | .v x=> .v (iO r j x)
 | .tup vs=> .tup (vs.map (iO r j))
def TS.kill(S:TS)(r j:Nat):TS:={ S with env:=S.env.map λx=>(x.1,pQ r j x.2),bx:=S.bx.map λcs=>cs.map (gW r j) }
def eU(S:TS)(no j:Nat)(et:Option Ty)(c:Cl):Option (C×TS):=match c,et with
 | .c (.sc v),none=>some (.sc v,S)
 | .em,some t=>some (.ls t [],S.kill no j)
 | .own p sz _ _ true,some t=>match p.l with
   | [] =>bif Nat.beq t.width sz&&Nat.ble S.fz p.r&& !(Nat.beq p.r no) then match gA S.gh p.r with
     |some (some tr)=>match tr.hole with
      |none=>bif Nat.beq tr.t.width sz then some (.ls tr.t tr.l,{ S with gh:=dW S.gh p.r none }.kill no j) else none
      |some _=>none
     | _=>none else none
   | _=>none
 | _,_=>none
def gX(no:Nat):Nat->TS->List (Option Ty)->List Cl->Option (List C×TS)
 |j,S,et::ets,c::cs=>match eU S no j et c with
  |some (x,S1)=>match gX no (j+1) S1 ets cs with
   |some (xs,S2)=>some (x::xs,S2)
   |none=>none
  |none=>none
 | _,S,[],[] =>some ([],S)
 | _,_,_,_=>none
def DZ(et:Option Ty)(v:Value):C:=match et with |some t=> .ls t [] |none=> .sc v
def Ty.zcs(t:Ty):List C:=List.zipWith DZ t.csh t.zvs
def BK:List Cl->Option (List C)
 | [] =>some []
 | .c (.sc v)::l=>match BK l with |some r=>some (.sc v::r)|none=>none
 | _=>none
section
variable {ρ:Type}
def sI{α β:Type}(f:α->(β->Option ρ)->Option ρ):List α->(List β->Option ρ)->Option ρ
 | [],κ=>κ []
 |a::l,κ=>f a λb=>sI f l λbs=>κ (b::bs)
def uJ(Θ:fV)(S:TS)(t:TypeId)(a v:V)(κ:TS->Option ρ):Option ρ:=match fA Θ t with
 |none=>none
 |some ti=>match v with
  | .tup _=>none
  | .v (.cl .dead)=>none
  | .v (.fn _ _)=>none
  | .v x=>bif Nat.beq x.cells.length ti.ty.width then match a with
    | .v (.cl (.ptrB b j))=>match gA S.bx b with
      |some cs=>bif Nat.ble (j+x.cells.length) cs.length then κ { S with bx:=dW S.bx b (cs.take j++x.cells++cs.drop (j+x.cells.length)) } else none
      |none=>none
    | .v (.cl (.ptrT p sz i j))=>match p.l with
      | [] =>match gA S.gh p.r with
        |some (some tr)=>bif Nat.beq tr.t.width sz&&Nat.ble (j+ti.ty.width) sz&&Nat.beq x.cells.length ti.ty.width then
         bif ti.ty.flatB then
          match tr.hole,BK x.cells with
          |none,some vs=>(tr.l[i]?).bind λy=>match tr.t.unflat ((tr.t.flat y).take j++vs++(tr.t.flat y).drop (j+ti.ty.width)) with
           |some z=>κ { S with gh:=dW S.gh p.r (some ⟨tr.t,tr.l.set i z,none⟩) }
           |none=>none
          | _,_=>none
         else bif Nat.ble S.fz p.r then match gX p.r j S ti.ty.csh x.cells with
          |some (vs,S1)=>(tr.l[i]?).bind λy=>match tr.t.unflat ((tr.t.flat y).take j++vs++(tr.t.flat y).drop (j+ti.ty.width)) with
           |some z=>match tr.hole with
            |none=>κ { S1 with gh:=dW S1.gh p.r (some ⟨tr.t,tr.l.set i z,none⟩) }
            |some (i0,j0)=>bif Nat.beq j j0&&Nat.beq ti.ty.width 1 then iteP (i=i0) (κ { S1 with gh:=dW S1.gh p.r (some ⟨tr.t,tr.l.set i z,none⟩) }) none else none
           |none=>none
          |none=>none else none
         else none
        | _=>none
      | _=>none
    | _=>none
    else none
def yU(S:TS)(et:Option Ty)(c:Cl)(κ:Cl->Option ρ):Option ρ:=match c with
 | .c x=>κ (.c x)
 | .em=>match et with |some t=>κ (.c (.ls t []))|none=>none
 | .own p sz _ _ true=>iq S p λt l=>bif Nat.beq t.width sz then κ (.c (.ls t l)) else none
 | .own p sz lo len false=>iq S p λt l=>bif Nat.beq t.width sz then iteP (lo+len<=l.length) (κ (.c (.ls t ((l.drop lo).take len)))) none else none
 | .pro cs=>κ (.pro cs)
 | .ptrT p sz i j=>iq S p λt l=>bif Nat.beq t.width sz then (l[i]?).bind λx=>κ (.pro ((t.flat x).drop j)) else none
 | .ptrB b j=>match gA S.bx b with
   |some cs=>sI (λc κ=>match c with
    | .c x=>κ x
    | .own p sz _ _ true=>iq S p λt l=>bif Nat.beq t.width sz then κ (.ls t l) else none
    | _=>none) (cs.drop j) λcs=>κ (.pro cs)
   |none=>none
 | .dead=>κ .dead
def An(S:TS):List (Option Ty)->List Cl->(List Cl->Option ρ)->Option ρ
 |et::ets,c::cs,κ=>yU S et c λc'=>An S ets cs λcs'=>κ (c'::cs')
 | [],[],κ=>κ []
 | _,_,_=>none
def Dw(Θ:fV)(S:TS)(t:TypeId)(v:V)(κ:V1->Option ρ):Option ρ:=match v with
 | .tup _=>none
 | .v (.fn f cs)=>sI (yU S none) cs λcs'=>κ (.fn f cs')
 | .v (.agg cs)=>match fA Θ t with |some ti=>An S ti.ty.csh cs λcs'=>κ (.agg cs')|none=>none
 | .v (.cl .em)=>κ (.cl .em)
 | .v (.cl c)=>match fA Θ t with |some ti=>yU S (ti.ty.csh.headD none) c λc'=>κ (.cl c')|none=>yU S none c λc'=>κ (.cl c')
def kE(Θ:fV)(S:TS):List TypeId->List Operand->(List V1->Option ρ)->Option ρ
 |t::ts,a::as,κ=>Dw Θ S t (S.opd a) λv=>kE Θ S ts as λvs=>κ (v::vs)
 | [],[],κ=>κ []
 | _,_,_=>none
def uY(Θ:fV)(Y:lz)(S:TS)(f:Operand)(ts:List TypeId)(as:List Operand)(κ:V->TS->Option ρ):Option ρ:=match S.opd f with
 | .v (.cl (.c (.sc (.func (.func g) _ _))))=>bif Nat.blt g eT then kE Θ S ts as λvs=>Y g vs ρ λres out=>κ (iB S.gh.length res) { S with gh:=S.gh++out.map some } else none
 | .v (.fn g caps)=>bif Nat.blt g eT then kE Θ S ts as λvs=>sI (yU S none) caps λcs=>Y g (vs++cs.map .cl) ρ λres out=>κ (iB S.gh.length res) { S with gh:=S.gh++out.map some } else none
 | _=>none
def yE(S:TS)(el:Ty)(v:Cl)(κ:List el.D->TS->Option ρ):Option ρ:=match v with
 | .em=>κ [] S
 | .c (.ls t l)=>bif el.flatB then match jH t el l with |some l=>κ l S|none=>none else none
 | .own p sz lo len w=>bif Nat.beq el.width sz then (bif el.flatB then iq S p λt l=>match jH t el l with
   |some l=>bif w then κ l S else iteP (lo+len<=l.length) (κ ((l.drop lo).take len) S) none
   |none=>none
   else match p.l with
   | [] =>bif w&&Nat.ble S.fz p.r then iq S p λt l=>match jH t el l with |some l=>κ l { S with gh:=dW S.gh p.r none } |none=>none else none
   | _=>none) else none
 | _=>none
def rx(S:TS)(el:Ty)(v:Cl)(more:List el.D)(κ:List el.D->TS->Option ρ):Option ρ:=match v with
 | .em=>κ more S
 | .own p sz lo len w=>bif Nat.ble S.fz p.r&&Nat.beq el.width sz then match p.l with
   | [] =>iq S p λt l=>match jH t el l with
     |some l=>bif w then κ (l++more) { S with gh:=dW S.gh p.r none }
      else iteP (lo=0) (iteP (l.length<len) none (κ (l.take len++more) { S with gh:=dW S.gh p.r none })) none
     |none=>none
   | [(i,j)] =>match gA S.gh p.r with
     |some (some tr)=>match tr.hole with
      |none=>iq S p λt l=>match jH t el l with
       |some l=>iteP (lo=0) (iteP (l.length<len) none (κ (l.take len++more) { S with gh:=dW S.gh p.r (some ⟨tr.t,tr.l,some (i,j)⟩) })) none
       |none=>none
      |some _=>none
     | _=>none
   | _=>none else none
 | _=>none
def zd(Θ:fV)(S:TS)(t:TypeId)(s x:V)(κ:V->TS->Option ρ):Option ρ:=match fA Θ t with
 |some ti=>match ti.ty,s,x with
  | .ls el,.v (.cl s),.v (.cl x)=>yE S el x λmore S1=>rx S1 el s more λl S2=>iteP (l.length*ti.el<=2 ^ 40) (κ (.v (.cl (.own ⟨S2.gh.length,[]⟩ el.width 0 l.length true))) { S2 with gh:=S2.gh++ [some ⟨el,l,none⟩] }) none
  | _,_,_=>none
 |none=>none
def B7:List Nat->List Nat->Bool
 | [],[] =>true
 |a::l,b::m=>bif Nat.beq a b then B7 l m else false
 | _,_=>false
def iR(el:Ty):TS->List V->Option (List el.D×TS)
 |S,[] =>some ([],S)
 |S,.v x::r=>match gX S.gh.length 0 S el.csh x.cells with
  |some (vs,S1)=>match el.unflat vs,iR el S1 r with
   |some y,some (ys,S2)=>some (y::ys,S2)
   | _,_=>none
  |none=>none
 | _,_=>none
def uh:Cl->Bool| .c (.ls _ _)=>true| _=>false
def oh:V->Bool| .v x=>x.cells.any uh| _=>false
def gx:List (Option Ty)->List Cl->Option (List C)
 | _::ets,.c x::cs=>(match gx ets cs with |some r=>some (x::r)|none=>none)
 |some t::ets,.em::cs=>(match gx ets cs with |some r=>some (.ls t []::r)|none=>none)
 | [],[] =>some []
 | _,_=>none
def iz(el:Ty):List V->Option (List el.D)
 | [] =>some []
 | .v x::r=>(match gx el.csh x.cells with
   |some xs=>(match el.unflat xs,iz el r with |some y,some ys=>some (y::ys)| _,_=>none)
   |none=>none)
 | _=>none
def A7(Θ:fV)(S:TS)(t:TypeId)(s x:V)(κ:V->TS->Option ρ):Option ρ:=match fA Θ t with
 |some ti=>match ti.ty,s with
  | .ls el,.v (.cl .em)=>uf x λn=>match el.unflat el.zcs with
    |some z=>iteP (0<n/\n*ti.el<=2 ^ 40) (κ (.v (.cl (.own ⟨S.gh.length,[]⟩ el.width 0 n.toNat true))) { S with gh:=S.gh++ [some ⟨el,List.replicate n.toNat z,none⟩] }) none
    |none=>none
  | _,_=>none
 |none=>none
def CJ(t:Ty)(l:List t.D)(sz lo len:Nat)(κ:ByteArray->Option ρ):Option ρ:=match t,l with
 | .i .u8,l=>bif Nat.beq sz 1 then iteP (0<len/\lo+len<=l.length) (κ (BM ((l.drop lo).take len))) none else none
 | _,_=>none
def jz(Θ:fV)(Y:lz)(S:TS)(o:Oper)(κ:V->TS->Option ρ):Option ρ:=
 let e:=S.opd
 match o.op with
 | .alloc t=>match fA Θ t with |some ti=>κ (.v (.cl (.ptrB S.bx.length 0))) { S with bx:=S.bx++ [ti.ty.zvs.map cC] } |none=>none
 | .box _ x=>match e x with
   | .v (.cl .dead)=>none
   | .v (.cl c)=>κ (.v (.cl (.ptrB S.bx.length 0))) { S with bx:=S.bx++ [[c]] }
   | .v (.agg cs)=>κ (.v (.cl (.ptrB S.bx.length 0))) { S with bx:=S.bx++ [cs] }
   | _=>none
 | .store t a x=>uJ Θ S t (e a) (e x) λS'=>κ V.dead S'
 | .makeSlice t l c=>match fA Θ t with
   |some ti=>match ti.ty with
    | .ls el=>uf (e l) λn=>uf (e c) λm=>match el.unflat el.zcs with
      |some z=>iteP (0<=n/\n=m/\n*ti.el<=2 ^ 40) (κ (.v (.cl (.own ⟨S.gh.length,[]⟩ el.width 0 n.toNat true))) { S with gh:=S.gh++ [some ⟨el,List.replicate n.toNat z,none⟩] }) none
      |none=>none
    | _=>none
   |none=>none
 | .buildSlice t len parts=>match fA Θ t with
   |some ti=>match ti.ty with
    | .ls el=>bif Nat.ble (len*el.width) 1048576&&B7 (parts.toList.map (·.1)) (List.range len) then (bif (parts.toList.map λx=>e x.2).any oh then (match iz el (parts.toList.map λx=>e x.2) with |some l=>κ (.v (.cl (.c (.ls el l)))) S|none=>none) else match iR el S (parts.toList.map λx=>e x.2) with
      |some (l,S1)=>κ (.v (.cl (.own ⟨S1.gh.length,[]⟩ el.width 0 l.length true))) { S1 with gh:=S1.gh++ [some ⟨el,l,none⟩] }
      |none=>none) else none
    | _=>none
   |none=>none
 | .call { callee:=.builtin .append,args:=as,argTypes:=ts } =>match as.toList,ts.toList with
   | [s,x],[t,t'] =>bif Nat.beq t t' then zd Θ S t (e s) (e x) κ else A7 Θ S t (e s) (e x) κ
   | _,_=>none
 | .call { callee:=.value f,args:=as,argTypes:=ts } =>uY Θ Y S f ts.toList as.toList κ
 | .convert s d x=>match e x with
   | .v (.cl (.own p sz lo len _))=>match fA Θ s,fA Θ d with
     |some si,some di=>match si.ty,di.ty with
      | .ls (.i .u8),.s=>iq S p λt l=>CJ t l sz lo len λb=>κ (V.sc (.string b)) S
      | _,_=>none
     | _,_=>none
   | _=>lq Θ S o κ
 | _=>lq Θ S o κ
def gZ(S:TS)(d:Option Tmp)(v:V)(κ:TS->Option ρ):Option ρ:=match d with
 |some t=>bif Nat.blt t S.nt then κ { S with env:=(t,v)::S.env } else none
 |none=>κ S
def vO(S:TS)(all:List Oper)(o:Oper)(κ:Bool->TS->Option ρ):Option ρ:=match o.guard with
 |none=>κ true S
 |some (j,want)=>match gA all j with
  |some oj=>match oj.dst with
   |some d=>match eS S.env d with
    | .tup [] =>κ false S
    | _=>rz S (.tmp d) λb S1=>κ (b==want) S1
   |none=>none
  |none=>none
noncomputable def zb{α:Type}(x y:α)(z:α):α:=open Classical in if x=y then x else z
def BG{α β:Type}(l:List α)(x y:β):β:=match l with | [] =>x| _::_=>y
def nC(o:Oper):Option (TypeId×Operand):=match o.op with
 | .binOp .eql t x (.const (.slice none 0 0)) _=>(match o.guard with |none=>some (t,x)|some _=>none)
 | _=>none
def Cw(Θ:fV)(t:TypeId):Bool:=match fA Θ t with |some ti=>(match ti.ty with | .ls _=>true| _=>false)|none=>false
inductive qj where
 |own (r sz:Nat)
 |pt (r sz:Nat)
 |nest (r i j sz lo len:Nat)
 |agg (cs:List Cl)
def mh:V->Option qj
 | .v (.cl (.own ⟨r,[]⟩ sz _ _ true))=>some (.own r sz)
 | .v (.cl (.ptrT ⟨r,[]⟩ sz 0 0))=>some (.pt r sz)
 | .v (.cl (.own ⟨r,[(i,j)]⟩ sz lo len _))=>some (.nest r i j sz lo len)
 | .v (.agg cs)=>some (.agg cs)
 | _=>none
def qj.fit(k:Nat):qj->Bool
 | .own _ _=>Nat.beq k 1||Nat.beq k 2
 | .pt _ _=>Nat.beq k 3
 | _=>Nat.beq k 1
def of(Y:lz)(S:TS)(o:Oper):Option (Nat×FuncId×List Cl×qj×List TypeId×List Operand):=match o.op with
 | .call { callee:=.value f,args:=as,argTypes:=ts } =>(match as.toList,ts.toList with
   |x::xs,_::us=>(match mh (S.opd x) with
    |some a=>(match S.opd f with
     | .v (.cl (.c (.sc (.func (.func g) _ _))))=>bif Nat.blt g eT&&a.fit (Y.kd g) then some (Y.kd g,g,[],a,us,xs) else none
     | .v (.fn g caps)=>bif Nat.blt g eT&&a.fit (Y.kd g) then some (Y.kd g,g,caps,a,us,xs) else none
     | _=>none)
    |none=>none)
   | _,_=>none)
 | _=>none
def Af:V->Bool
 | .v (.cl (.c (.sc _)))=>true
 | .tup [] =>true
 | _=>false
def kh(S:TS):List Cl->Option (List C×List Nat)
 | [] =>some ([],[])
 | .c (.sc v)::cs=>(match kh S cs with |some (xs,L)=>some (.sc v::xs,L)|none=>none)
 | .own ⟨r,[]⟩ sz _ _ true::cs=>(match dX S.gh r with
   |some ⟨el,l,none⟩=>bif Nat.beq sz el.width then (match kh S cs with |some (xs,L)=>some (.ls el l::xs,r::L)|none=>none) else none
   | _=>none)
 | _=>none
def AP(G:List (Option dJ))(L:List Nat):List (Option dJ):=L.foldl (λG r=>dW G r none) G
def nN(S:TS):List Nat->List dJ->(TS->Option ρ)->Option ρ
 | [],[],κ=>κ S
 |r::L,⟨t,l',none⟩::out,κ=>(match dX S.gh r with
  |some ⟨el,l,none⟩=>bif decide (t=el) then iteP (l'.length=l.length) (nN { S with gh:=dW S.gh r (some ⟨t,l',none⟩) } L out κ) none else none
  | _=>none)
 | _,_,_=>none
def lQ(Θ:fV)(S:TS)(us:List TypeId)(xs:List Operand)(caps:List Cl)(κ:List V1->Option ρ):Option ρ:=kE Θ S us xs λvs=>sI (yU S none) caps λks=>κ (vs++ks.map .cl)
def vH(S:TS)(r:Nat)(el:Ty)(l:List el.D)(res:V)(out:List dJ)(dst:Option Tmp)(κ:TS->Option ρ):Option ρ:=match out with
 | ⟨t,l',none⟩::more=>bif decide (t=el) then iteP (l'.length=l.length) (gZ { S with gh:=dW S.gh r (some ⟨t,l',none⟩)++more.map some } dst (iB S.gh.length (xQ res)) κ) none else none
 | _=>none
def od(Θ:fV)(Y:lz)(S:TS)(k:Nat)(g:FuncId)(caps:List Cl)(a:qj)(us:List TypeId)(xs:List Operand)(dst:Option Tmp)(κ:TS->Option ρ):Option ρ:=match a with
 | .own r sz=>(match dX S.gh r with
   |some ⟨el,l,none⟩=>bif Nat.beq sz el.width then lQ Θ { S with gh:=dW S.gh r none } us xs caps λvs=>
    bif Nat.beq k 1 then Y (nk g) (.cl (.c (.ls el l))::vs) ρ λres out=>vH S r el l res out dst κ
    else bif Nat.ble S.fz r then Y (pA g) (.cl (.c (.ls el l))::vs) ρ λres out=>gZ { S with gh:=dW S.gh r none++out.map some } dst (iB S.gh.length res) κ
    else none else none
   | _=>none)
 | .pt r sz=>(match dX S.gh r with
   |some ⟨el,l,none⟩=>bif Nat.beq sz el.width then lQ Θ { S with gh:=dW S.gh r none } us xs caps λvs=>Y (oE g) (.cl (.c (.ls el l))::vs) ρ λres out=>vH S r el l res out dst κ else none
   | _=>none)
 | .agg cs=>(match kh S cs with
   |some (ys,L)=>bif BF L then lQ Θ { S with gh:=AP S.gh L } us xs caps λvs=>Y (nk g) (.agg (ys.map .c)::vs) ρ λres out=>bif Af res then nN S L out λS3=>gZ S3 dst res κ else none else none
   |none=>none)
 | .nest r i j sz lo len=>(match dX S.gh r with
   |some ⟨t,l,none⟩=>(l[i]?).bind λy=>(match gA (t.flat y) j with
    |some (.ls el v)=>bif Nat.beq sz el.width then iteP (lo=0/\len=v.length) (lQ Θ { S with gh:=dW S.gh r (some ⟨t,l,some (i,j)⟩) } us xs caps λvs=>
     Y (nk g) (.cl (.c (.ls el v))::vs) ρ λres out=>(match out with
       | [⟨t',v',none⟩] =>bif decide (t'=el)&&Af res then iteP (v'.length=v.length) (match t.unflat (dW (t.flat y) j (.ls t' v')) with
         |some z=>gZ { S with gh:=dW S.gh r (some ⟨t,l.set i z,none⟩) } dst res κ
         |none=>none) none else none
       | _=>none)) none else none
    | _=>none)
   | _=>none)
def qv(S:TS)(o:Oper):Option (TypeId×Nat×Nat×Nat×Nat):=match o.op with
 | .call { callee:=.builtin .clear,args:=as,argTypes:=ts } =>(match o.guard with
   |some _=>none
   |none=>match as.toList,ts.toList with
    | [x],[t] =>(match S.opd x with
      | .v (.cl (.own ⟨r,[]⟩ sz lo len _))=>some (t,r,sz,lo,len)
      | _=>none)
    | _,_=>none)
 | _=>none
def tY(Θ:fV)(S:TS)(t:TypeId)(r sz lo len:Nat)(dst:Option Tmp)(κ:TS->Option ρ):Option ρ:=match fA Θ t with
 |some ti=>match dX S.gh r with
  |some ⟨el,l,none⟩=>bif decide (ti.ty= .ls el)&&Nat.beq el.width 1&&Nat.beq sz 1&&el.flatB then (match el.unflat el.zcs with
   |some z=>iteP (lo+len<=l.length) (gZ { S with gh:=dW S.gh r (some ⟨el,l.take lo++List.replicate len z++l.drop (lo+len),none⟩) } dst (.tup []) κ) none
   |none=>none) else none
  | _=>none
 |none=>none
def rA(b:Bool):V:=.v (.cl (.c (.sc (.bool b))))
noncomputable def n7(Θ:fV)(Y:lz)(all:List Oper):List Oper->TS->(TS->Option ρ)->Option ρ
 | [],S,κ=>κ S
 |o::os,S,κ=>match nC o with
  |some (t,x)=>bif Cw Θ t then (match S.opd x with
   | .v (.cl (.c (.ls _ l)))=>BG l (zb (gZ S o.dst (rA true) λS3=>n7 Θ Y all os S3 κ) (gZ S o.dst (rA false) λS3=>n7 Θ Y all os S3 κ) none) (gZ S o.dst (rA false) λS3=>n7 Θ Y all os S3 κ)
   | _=>none) else none
  |none=>match qv S o with
  |some (t,r,sz,lo,len)=>tY Θ S t r sz lo len o.dst λS3=>n7 Θ Y all os S3 κ
  |none=>vO S all o λb S1=>bif b then (match of Y S1 o with
   |some (k,g,caps,a,us,xs)=>od Θ Y S1 k g caps a us xs o.dst λS3=>n7 Θ Y all os S3 κ
   |none=>jz Θ Y S1 o λv S2=>gZ S2 o.dst v λS3=>n7 Θ Y all os S3 κ) else gZ S1 o.dst (V.tup []) λS3=>n7 Θ Y all os S3 κ
def gone:Nat->List (Option dJ)->List (Option dJ)->List Nat
 |n,some _::l,none::m=>n::gone (n+1) l m
 |n,_::l,_::m=>gone (n+1) l m
 | _,_,_=> []
def yM(l:List (Option dJ)):List T:=l.map λx=>match x with |some tr=>tr.tree|none=> .dd
def kT(S S':TS):eP:=⟨S.gh.length,yM (S'.gh.drop S.gh.length),gone 0 S.gh S'.gh⟩
def A2(d:Nat)(o:Oper):Bool:=match o.dst with |some d'=> !(Nat.beq d d')|none=>true
def CD(o:Oper)(os:List Oper):Bool:=match o.dst with |some d=>os.all (A2 d)|none=>false
def B8(Θ:fV)(t:TypeId):Bool:=match fA Θ t with
 |some ti=>(match ti.ty with | .ls _=>true| _=>false)
 |none=>false
def zO(Θ:fV)(o:Oper):Bool:=match o.op with
 | .buildSlice t _ _=>B8 Θ t
 | .call { callee:=.builtin .append,args:=_,argTypes:=ts } =>(match ts.toList with |t::_=>B8 Θ t| [] =>false)
 | _=>true
def vE:V->Bool
 | .v (.cl (.own p _ _ _ _))=>(match p.l with | [] =>true| _=>false)
 | _=>true
def uV(S:TS)(o:Oper):Bool:=match o.op with
 | .buildSlice _ _ parts=> !(parts.toList.map λx=>S.opd x.2).any oh
 | .call { callee:=.builtin .append,args:=as,argTypes:=ts } =>(match ts.toList with | [t,t'] =>Nat.beq t t'| _=>true)&&(match as.toList with |s::_=>vE (S.opd s)| [] =>true)
 | _=>true
def yd(Θ:fV):List Oper->TS->(TS->Option ρ)->Option ρ
 | [],S,κ=>κ S
 |o::os,S,κ=>match o.op with
  | .alloc t=>match fA Θ t with |some ti=>yd Θ os { S with bx:=S.bx++ [ti.ty.zvs.map cC] } κ|none=>none
  | _=>yd Θ os S κ
def rQ(Θ:fV)(Y:lz)(all:List Oper):List Oper->TS->List eP->(TS->List eP->Option ρ)->Option ρ
 | [],S,ms,κ=>κ S ms
 |o::os,S,ms,κ=>bif dB o then rQ Θ Y all os S (ms++ [⟨S.gh.length,[],[]⟩]) κ else bif dY o then (bif o.guard.isNone then gZ S o.dst (V.v (.cl (.ptrB (S.bx.length-1-ey os) 0))) λS3=>rQ Θ Y all os S3 (ms++ [⟨S.gh.length,[],[]⟩]) κ else none) else
   vO S all o λb S1=>bif b then
    (bif eA o then (bif CD o os&&zO Θ o&&uV S1 o then jz Θ Y S1 o λv S2=>gZ S2 o.dst v λS3=>rQ Θ Y all os S3 (ms++ [kT S1 S2]) κ else none)
    else lq Θ S1 o λv S2=>gZ S2 o.dst v λS3=>rQ Θ Y all os S3 (ms++ [⟨S1.gh.length,[],[]⟩]) κ)
    else gZ S1 o.dst (V.tup []) λS3=>rQ Θ Y all os S3 (ms++ [⟨S1.gh.length,[],[]⟩]) κ
def xq(Θ:fV)(Y:lz):List Oper->TS->(TS->Option ρ)->Option ρ
 | [],S,κ=>κ S
 |o::os,S,κ=>bif dB o then (bif o.guard.isNone&&o.dst.isNone then jz Θ Y S o λ_ S1=>xq Θ Y os S1 κ else none) else xq Θ Y os S κ
def vf(Θ:fV)(t:TypeId):Bool:=match fA Θ t with |some ti=>ti.ty.flatB|none=>false
def yC(Θ:fV)(S:TS)(o:Oper):Bool:=match o.op with
 | .store t x _=>(match S.opd x with | .v (.cl (.ptrB _ _))=>true| .v (.cl (.ptrT _ _ _ _))=>vf Θ t| _=>false)
 | _=>false
def qD(Θ:fV)(o:Oper):Bool:=match o.op with
 | .buildSlice t _ _=>(match fA Θ t with |some ti=>(match ti.ty with | .ls el=>el.flatB| _=>false)|none=>false)
 | _=>true
def xA(Θ:fV)(S:TS)(o:Oper)(κ:V->Option ρ):Option ρ:=match o.op with
 | .buildSlice t len parts=>match fA Θ t with
   |some ti=>match ti.ty with
    | .ls el=>bif Nat.ble (len*el.width) 1048576&&B7 (parts.toList.map (·.1)) (List.range len) then (match iz el (parts.toList.map λx=>S.opd x.2) with |some l=>κ (.v (.cl (.c (.ls el l))))|none=>none) else none
    | _=>none
   |none=>none
 | _=>none
def qA(Θ:fV)(Y:lz)(n0:Nat)(ops:List Oper)(B:List (List Nat)):Nat->List Oper->TS->(TS->Option ρ)->Option ρ
 | _,[],S,κ=>κ S
 |k,o::os,S,κ=>match of Y S o with
  |some (kd,g,caps,a,us,xs)=>od Θ Y S kd g caps a us xs o.dst λS3=>qA Θ Y n0 ops B (k+1) os S3 κ
  |none=>bif B4 o then xA Θ S o λv=>gZ S o.dst v λS3=>qA Θ Y n0 ops B (k+1) os S3 κ
   else bif dB o then
    (bif yC Θ S o||(os.isEmpty&&(List.range k).all λj=>(B.getD k []).contains j) then jz Θ Y S o λv S2=>gZ S2 o.dst v λS3=>qA Θ Y n0 ops B (k+1) os S3 κ else none)
   else bif eA o then jz Θ Y S o λv S2=>bif (!im o&&qD Θ o)||(zO Θ o&&uV S o&&(iI o||(gone 0 S.gh S2.gh).all λr=>Nat.ble n0 r)) then gZ S2 o.dst v λS3=>qA Θ Y n0 ops B (k+1) os S3 κ else none
   else bif uj n0 (Ca S.st ops B k) (yc S.st ops B k) S.st o then lq Θ S o λv S2=>gZ S2 o.dst v λS3=>qA Θ Y n0 ops B (k+1) os S3 κ else none
def Dc(Y:lz)(o:Oper):Bool:=match o.op with
 | .call { callee:=.value (.func g), .. } =>Nat.beq (Y.kd g) 3
 | _=>false
def Bl(Θ:fV)(Y:lz)(ops:List Oper)(S:TS)(κ:TS->Option ρ):Option ρ:=
 bif rH ops.toArray||(ops.any (Dc Y)&&A5 ops.toArray) then qA Θ Y S.gh.length ops (ef ops) 0 ops S κ else
 bif u7 ops.toArray then yd Θ ops S λS0=>rQ Θ Y ops ops S0 [] λSV ms=>bif ua (vf Θ) ops (ef ops) S0.st ms SV.st then xq Θ Y ops SV κ else none else none
def fB:Code->Nat
 | .region id _ _=>id
 | .seq a _=>fB a
 | .block _ c=>fB c
 | .loop c=>fB c
 | _=>0
abbrev gn:=Nat->TS->(ρ:Type)->(X->TS->Option ρ)->Option ρ
noncomputable def ma(Θ:fV)(Y:lz)(Λ:gn):Code->TS->(X->TS->Option ρ)->Option ρ
 | .skip,S,κ=>κ .nor S
 | .region _ ops false,S,κ=>n7 Θ Y ops.toList ops.toList S (κ .nor)
 | .region _ ops true,S,κ=>Bl Θ Y ops.toList S (κ .nor)
 | .seq a b,S,κ=>ma Θ Y Λ a S λx S1=>match x with | .nor=>ma Θ Y Λ b S1 κ|x=>κ x S1
 | .cond c a b,S,κ=>rz S c λt S1=>bif t then ma Θ Y Λ a S1 κ else ma Θ Y Λ b S1 κ
 | .block id c,S,κ=>ma Θ Y Λ c S λx S1=>match x with | .ext i=>bif Nat.beq i id then κ .nor S1 else κ (.ext i) S1|x=>κ x S1
 | .loop c,S,κ=>Λ (fB c) S ρ κ
 | .exit id,S,κ=>κ (.ext id) S
 | .ret,S,κ=>κ .ret S
 | _,_,_=>none
def xt(S:TS)(gs:List dJ)(et:Option Ty)(c:Cl)(κ:Cl->List dJ->TS->Option ρ):Option ρ:=match c,et with
 | .c (.sc v),_=>κ (.c (.sc v)) gs S
 | .em,some t=>κ (.own ⟨gs.length,[]⟩ t.width 0 0 true) (gs++ [⟨t,[],none⟩]) S
 | .own p sz lo len w,some t'=>match p.l with
   | [] =>bif Nat.ble S.fz p.r&&Nat.beq t'.width sz then iq S p λt l=>bif Nat.beq t.width sz then
     (bif w then κ (.own ⟨gs.length,[]⟩ sz 0 l.length true) (gs++ [⟨t,l,none⟩]) { S with gh:=dW S.gh p.r none }
     else iteP (lo=0/\len<=l.length) (κ (.own ⟨gs.length,[]⟩ sz 0 (l.take len).length true) (gs++ [⟨t,l.take len,none⟩]) { S with gh:=dW S.gh p.r none })
      (bif t.flatB&&Nat.ble sz 3 then iteP (lo+len<=l.length) (κ (.own ⟨gs.length,[]⟩ sz 0 ((l.drop lo).take len).length true) (gs++ [⟨t,(l.drop lo).take len,none⟩]) { S with gh:=dW S.gh p.r none }) none else none)) else none
     else none
   | _=>none
 | .ptrT p sz i j,none=>match p.l with
   | [] =>bif Nat.ble S.fz p.r then iq S p λt l=>bif Nat.beq t.width sz then κ (.ptrT ⟨gs.length,[]⟩ sz i j) (gs++ [⟨t,l,none⟩]) { S with gh:=dW S.gh p.r none } else none else none
   | _=>none
 | _,_=>none
def va:TS->List dJ->List (Option Ty)->List Cl->(List Cl->List dJ->TS->Option ρ)->Option ρ
 |S,gs,et::ets,c::cs,κ=>xt S gs et c λc' gs' S'=>va S' gs' ets cs λcs' gs'' S''=>κ (c'::cs') gs'' S''
 |S,gs,[],[],κ=>κ [] gs S
 | _,_,_,_,_=>none
def Bm(Θ:fV)(S:TS)(gs:List dJ)(t:TypeId)(v:V)(κ:V1->List dJ->TS->Option ρ):Option ρ:=match v with
 | .v (.cl (.ptrT p sz i j))=>xt S gs none (.ptrT p sz i j) λc' gs' S'=>κ (.cl c') gs' S'
 |v=>match fA Θ t with
  |none=>none
  |some ti=>match v with
   | .v (.agg cs)=>va S gs ti.ty.csh cs λcs' gs' S'=>κ (.agg cs') gs' S'
   | .v (.cl c)=>xt S gs (ti.ty.csh.headD none) c λc' gs' S'=>κ (.cl c') gs' S'
   | _=>none
def rS(Θ:fV):TS->List dJ->List (TypeId×V)->(List V1->List dJ->Option ρ)->Option ρ
 | _,gs,[],κ=>κ [] gs
 |S,gs,(t,v)::r,κ=>Bm Θ S gs t v λv' gs' S'=>rS Θ S' gs' r λvs gs''=>κ (v'::vs) gs''
def uw(Θ:fV)(S:TS):List ResultVar->List TypeId->(List (TypeId×V)->Option ρ)->Option ρ
 | .tmp a::rs,t::ts,κ=>uw Θ S rs ts λl=>κ ((t,eS S.env a)::l)
 | .cell a t'::rs,t::ts,κ=>sA Θ S t' (eS S.env a) λv=>uw Θ S rs ts λl=>κ ((t,v)::l)
 | [],[],κ=>κ []
 | _,_,_=>none
def qS:List V1->V
 | [v] => .v v
 |vs=> .tup vs
def iu:Nat->List V1->List (Nat×V)
 | _,[] => []
 |n,v::l=>(n,.v v)::iu (n+1) l
def kz(S:TS):Nat->Nat->Option (List dJ)
 | _,0=>some []
 |r,n+1=>(match dX S.gh r with
  |some ⟨t,l,none⟩=>(match kz S (r+1) n with |some ts=>some (⟨t,l,none⟩::ts)|none=>none)
  | _=>none)
noncomputable def Ct(Θ:fV)(Y:lz)(Λ:gn)(fn:Func)(args:List V1)(G:List dJ)(m:Nat)(κ:V->List dJ->Option ρ):Option ρ:=match fn.body with
 |none=>none
 |some c=>ma Θ Y Λ c { env:=iu 0 args,bx:=[],gh:=G.map some,fz:=m,nt:=args.length+(fn.ntmps-args.length) } λx S=>match x with
  | .ext _=>none
  | _=>uw Θ S fn.results.toList fn.resultTypes.toList λrs=>match kz S 0 m with
    |some gs=>rS Θ S gs rs λvs gs'=>κ (qS vs) gs'
    |none=>none
noncomputable abbrev C7(Θ:fV)(Y:lz)(Λ:gn)(fn:Func)(args:List V1)(κ:V->List dJ->Option ρ):Option ρ:=Ct Θ Y Λ fn args [] 0 κ
def uL:List Cl->Option (List C)
 | [] =>some []
 | .c x::l=>match uL l with |some r=>some (x::r)|none=>none
 | _=>none
def un(t:Ty)(a:V1)(κ:t.D->Option ρ):Option ρ:=match a with
 | .agg cs=>bif t.ag then (match uL cs with
   |some xs=>(match t.unflat xs with |some x=>κ x|none=>none)
   |none=>none) else none
 | .cl (.c y)=>bif t.ag then none else (match t.unflat [y] with |some x=>κ x|none=>none)
 | _=>none
def lf:List C->Nat->List Cl
 | [],_=> []
 | .sc v::r,n=> .c (.sc v)::lf r n
 | .ls t l::r,n=> .own ⟨n,[]⟩ t.width 0 l.length true::lf r (n+1)
def hU:List C->List dJ
 | [] => []
 | .sc _::r=>hU r
 | .ls t l::r=>⟨t,l,none⟩::hU r
def wF(t:Ty)(x:t.D)(n:Nat):V1:=bif t.ag then .agg (lf (t.flat x) n) else match lf (t.flat x) n with | [c] => .cl c| _=> .cl .dead
def kJ:Nat->List ((t:Ty)×t.D)->List V1
 | _,[] => []
 |n,⟨t,x⟩::r=>wF t x n::kJ (n+(hU (t.flat x)).length) r
def jx:List ((t:Ty)×t.D)->List dJ
 | [] => []
 | ⟨t,x⟩::r=>hU (t.flat x)++jx r
def ret(l:List ((t:Ty)×t.D))(κ:V->List dJ->Option ρ):Option ρ:=κ (qS (kJ 0 l)) (jx l)
end
abbrev tN:=List V1->(ρ:Type)->(V->List dJ->Option ρ)->Option ρ
def Br:List (Nat×tN)->FuncId->List V1->(ρ:Type)->(V->List dJ->Option ρ)->Option ρ
 | [],_,_,_,_=>none
 | (g,e)::l,f,as,ρ,κ=>bif Nat.beq g f then e as ρ κ else Br l f as ρ κ
def zW:List (Nat×tN)->Nat->Bool
 | [],_=>false
 | (g,_)::l,f=>bif Nat.beq g f then true else zW l f
def pq(l:List (Nat×tN)):lz:=⟨Br l,λg=>bif zW l (nk g) then 1 else bif zW l (pA g) then 2 else bif zW l (oE g) then 3 else 0⟩
noncomputable abbrev xz{ρ:Type}(Θ:fV)(Y:lz)(Λ:gn)(fn:Func)(m:Nat)(el:Ty)(l:List el.D)(args:List V1)(κ:V->List dJ->Option ρ):Option ρ:=Ct Θ Y Λ fn (.cl (.own ⟨0,[]⟩ el.width 0 l.length true)::args) [⟨el,l,none⟩] m κ
noncomputable abbrev Bp{ρ:Type}(Θ:fV)(Y:lz)(Λ:gn)(fn:Func)(el:Ty)(l:List el.D)(args:List V1)(κ:V->List dJ->Option ρ):Option ρ:=Ct Θ Y Λ fn (.cl (.ptrT ⟨0,[]⟩ el.width 0 0)::args) [⟨el,l,none⟩] 1 κ
def uT(t:Ty)(x:t.D):V1:=bif t.ag then .agg ((t.flat x).map .c) else match (t.flat x).map Cl.c with | [c] => .cl c| _=> .cl .dead
end
section
open Go
theorem eg{α:Type}: ∀ (l:List α) (n:Nat),gA l n=l[n]?
 | [],n=>by simp[gA]
 |a::l,0=>by simp[gA]
 |a::l,n+1=>by show gA l n=_;rw[eg l];simp
theorem eG{α:Type}: ∀ (l:List α) (n:Nat) (x:α),dW l n x=l.set n x
 | [],n,x=>by simp[dW]
 |a::l,0,x=>by simp[dW]
 |a::l,n+1,x=>by show a::dW l n x=_;rw[eG l];simp
theorem rZ: ∀ {l:List (Nat×V)} {t:Nat},eS l t=V.dead\/(t,eS l t)∈l
 | [],t=> .inl rfl
 | (u,v)::l,t=>by
   simp only[eS];cases h:Nat.beq u t with
   |true=>have :u=t:=an h;subst this;exact .inr (aK)
   |false=>
    rcases rZ (l:=l) (t:=t) with h'|h'
    ·exact .inl h'
    ·exact .inr (aI _ h')
def Cl.ok(G:List (Option dJ)):Cl->Prop
 | .own p _ lo len w=>p.r<G.length/\(w=true->p.l= [] /\lo=0/\ ∀tr,dX G p.r=some tr->len=tr.l.length)
 | .ptrT p _ _ _=>p.r<G.length
 | _=>True
def V1.ok(G:List (Option dJ)):V1->Prop
 | .cl c=>c.ok G
 | .agg cs=> ∀c∈cs,c.ok G
 | .fn _ cs=> ∀c∈cs,c.ok G
def V.ok(G:List (Option dJ)):V->Prop
 | .v x=>x.ok G
 | .tup l=> ∀x∈l,x.ok G
structure TS.ok (S:TS):Prop where
 env: ∀x∈S.env,x.2.ok S.gh
 bx: ∀cs∈S.bx,∀c∈cs,c.ok S.gh
def eL(G G':List (Option dJ)):Prop:=G.length<=G'.length/\ ∀r tr',r<G.length->dX G' r=some tr'-> ∃tr,dX G r=some tr/\tr.l.length=tr'.l.length
theorem eL.refl(G:List (Option dJ)):eL G G:=⟨az _,λ_ tr _ h=>⟨tr,h,rfl⟩⟩
theorem eL.trans{G H K:List (Option dJ)}(h:eL G H)(k:eL H K):eL G K:=⟨aX h.1 k.1,λr tr hr hK=>by obtain⟨t1,h1,h2⟩:=k.2 r tr (aM hr h.1) hK;obtain⟨t2,h3,h4⟩:=h.2 r t1 hr h1;exact⟨t2,h3,h4.trans h2⟩⟩
theorem Cl.ok_mono{G G':List (Option dJ)}(h:eL G G'){c:Cl}(hc:c.ok G):c.ok G':=by
 cases c with
 |own p sz lo len w=>obtain⟨h1,h2⟩:=hc;refine⟨aM h1 h.1,λhw=> ?_⟩;obtain⟨a,b,c⟩:=h2 hw;refine⟨a,b,λtr htr=> ?_⟩;obtain⟨tr0,k1,k2⟩:=h.2 _ tr h1 htr;rw[c tr0 k1,k2]
 |ptrT p sz i j=>exact aM hc h.1
 | _=>trivial
theorem V1.ok_mono{G G':List (Option dJ)}(h:eL G G'){v:V1}(hv:v.ok G):v.ok G':=by
 cases v with
 |cl c=>exact Cl.ok_mono h hv
 |agg cs=>exactλc hc=>Cl.ok_mono h (hv c hc)
 |fn f cs=>exactλc hc=>Cl.ok_mono h (hv c hc)
theorem V.ok_mono{G G':List (Option dJ)}(h:eL G G'){v:V}(hv:v.ok G):v.ok G':=by
 cases v with
 |v x=>exact V1.ok_mono h hv
 |tup l=>exactλx hx=>V1.ok_mono h (hv x hx)
theorem V.ok_dead(G:List (Option dJ)):V.dead.ok G:=trivial
theorem V.ok_sc(G:List (Option dJ))(v:Value): (V.sc v).ok G:=trivial
theorem nx{S:TS}(hS:S.ok)(t:Nat): (eS S.env t).ok S.gh:=by
 rcases rZ (l:=S.env) (t:=t) with h|h
 ·rw[h];trivial
 ·exact hS.env _ h
theorem gT(v:Value): (cC v).av=nD v:=by
 unfold cC nD;split
 ·rfl
 ·rename_i hn;split
  ·exact absurd rfl hn
  ·cases h:gG v<;>rfl
theorem Cf(v:Value): (cV v).av=pb v:=by
 cases v with
 |agg cs=>
  simp only[cV,pb];cases h:cs.toList.all Value.oneCell' with
  |true=>simp_all [V.av,V1.av,gT]
  |false=>rfl
 |bool b=>exact gT (.bool b)
 |int k n=>exact gT (.int k n)
 |float k n=>exact gT (.float k n)
 |complex k n m=>exact gT (.complex k n m)
 |string x=>exact gT (.string x)
 |pointer x=>exact gT (.pointer x)
 |slice x y z=>exact gT (.slice x y z)
 |map x=>exact gT (.map x)
 |chan x=>exact gT (.chan x)
 |func x y z=>exact gT (.func x y z)
 |nilFunc=>exact gT .nilFunc
 |iface x y=>exact gT (.iface x y)
 |nilIface=>exact gT .nilIface
 |tuple x=>exact gT (.tuple x)
theorem uX(G:List (Option dJ))(v:Value): (cC v).ok G:=by
 unfold cC;split
 ·trivial
 ·cases gG _<;>trivial
theorem Cg(G:List (Option dJ))(v:Value): (cV v).ok G:=by
 unfold cV;split
 ·rename_i cs;cases cs.toList.all Value.oneCell' with
  |true=>intro c hc;simp only[aG] at hc;obtain⟨x,_,rfl⟩:=hc;exact uX _ _
  |false=>trivial
 ·exact uX _ _
theorem dG{S:TS}(x:Operand):opd S.st x=(S.opd x).av:=by
 cases x with
 |tmp t=>rfl
 |const v=>exact (Cf v).symm
 |func f=>rfl
 |global g=>rfl
theorem fZ{S:TS}(hS:S.ok)(x:Operand): (S.opd x).ok S.gh:=by
 cases x with
 |tmp t=>exact nx hS t
 |const v=>exact Cg _ _
 |func f=>trivial
 |global g=>trivial
section
variable {ρ:Type}
theorem zx{α:Type}{b:Bool}{x y:Option α}{r:α}(h:br b x y=some r): (b=true/\x=some r)\/(b=false/\y=some r):=by
 cases b with
 |true=>exact .inl ⟨rfl,h⟩
 |false=>exact .inr ⟨rfl,h⟩
theorem dS{α:Type}{c:Prop}[Decidable c]{x:Option α}{r:α}(h:iteP c x none=some r):c/\x=some r:=by grind [iteP]
theorem z8{α:Type}{c:Prop}[Decidable c]{x y:Option α}{r:α}(h:iteP c x y=some r):c/\x=some r\/ ¬c/\y=some r:=by grind [iteP]
theorem mq{α:Type}{c:Prop}[Decidable c]{x:Option α}{r:α}(h:iteP c none x=some r): ¬c/\x=some r:=by grind [iteP]
theorem dC{α:Type}{c:Bool}{x:Option α}{r:α}(h: (bif c then x else none)=some r):c=true/\x=some r:=by grind
theorem sr{S:TS}{t:Nat}{b:Bool}(h:eS S.env t=V.sc (.bool b)): ({ S with env:=(t,V.sc (.bool b))::S.env }:TS).st=S.st:=by
 unfold TS.st;simp only
 congr 1
 funext u
 simp only[eS];cases hb:Nat.beq t u with
 |true=>simp_all
 |false=>rfl
theorem sq{S:TS}(hS:S.ok)(t:Nat)(b:Bool): ({ S with env:=(t,V.sc (.bool b))::S.env }:TS).ok:=
 ⟨λx hx=>by
  simp only[aZ] at hx;rcases hx with rfl|hx
  ·trivial
  ·exact hS.env x hx,hS.bx⟩
theorem nQ{S:TS}(hS:S.ok){x:Operand}{κ:Bool->TS->Option ρ}{r:ρ}(h:rz S x κ=some r):
  ∃b S',opd S.st x= .sc (.bool b)/\S'.st=S.st/\S'.ok/\S'.gh=S.gh/\κ b S'=some r:=by
 unfold rz at h;split at h
 ·rename_i t;split at h
  ·rename_i b hb;rcases zx h with ⟨rfl,h⟩| ⟨rfl,h⟩
   ·exact⟨true,_,by show (eS S.env t).av=_;rw[hb];rfl,sr hb,sq hS _ _,rfl,h⟩
   ·exact⟨false,_,by show (eS S.env t).av=_;rw[hb];rfl,sr hb,sq hS _ _,rfl,h⟩
  ·cases h
 ·rename_i b;exact⟨b,S,rfl,rfl,hS,rfl,h⟩
 ·cases h
theorem ji{v:V}{κ:Int->Option ρ}{r:ρ}(h:uf v κ=some r): ∃n,mp v.av=some n/\κ n=some r:=by
 unfold uf at h;split at h
 ·exact⟨_,rfl,h⟩
 ·cases h
theorem dJ.look{G:List (Option dJ)}{r:Nat}{tr:dJ}(h:gA G r=some (some tr)):dX G r=some tr:=by unfold dX;rw[h];rfl
theorem eE{S:TS}{p:dM}{κ: (t:Ty)->List t.D->Option ρ}{r:ρ}(h:iq S p κ=some r):
  ∃ (t:Ty) (l:List t.D),S.st.look p= .sl t.width (l.map t.row)/\(p.l= [] ->dX S.gh p.r=some ⟨t,l,none⟩)/\κ t l=some r:=by
 unfold iq at h;split at h
 ·rename_i tr htr;have hg:=dJ.look htr;split at h
  ·rename_i hh;obtain⟨t,l,hole⟩:=tr;simp only at hh;subst hh;split at h
   ·rename_i hp;refine⟨t,l,?_,λ_=>hg,h⟩;unfold St.look;have :S.st.gh p.r=some (.sl t.width (l.map t.row)):=by show (dX S.gh p.r).map dJ.tree=_;rw[hg];rfl
    rw[this,hp];rfl
   ·rename_i i j hp;simp only[ah] at h;obtain⟨x,hx,h⟩:=h;split at h
    ·rename_i t' l' hj;refine⟨t',l',?_,(λh0=>by rw[hp] at h0;cases h0),h⟩;unfold St.look;have :S.st.gh p.r=some (.sl t.width (l.map t.row)):=by show (dX S.gh p.r).map dJ.tree=_;rw[hg];rfl
     rw[this,hp];simp only[T.go,T.cell];have e1: (l.map t.row).getD i [] =t.row x:=by simp[aB,hx]
     rw[e1,t.row_flat]
     grind [eg,C.tree]
    ·cases h
   ·cases h
  ·cases h
 ·cases h
end
end
section
open Go
def Ty.shs(t:Ty):List Nat:=t.csh.map λ|some e=>e.width|none=>0
structure TI.ok (P:Program) (t:TypeId) (ti:TI):Prop where
 ag:pa P t=some ti.ty.ag
 cells:P.cellsOf t=ti.ty.width
 sh:gk P 9 t=ti.ty.shs
 ze:lV P t=some ti.ty.zvs
 fd: ∀k,wR P t k=gA ti.fds k
 pl:ti.ty.ag=true->CG P t=some (ti.fds.map λx=>(x.1,x.2.1))
 el: ∀e,ti.ty= .ls e-> ∃el,i8 P t=some el/\P.cellsOf el=e.width/\P.bytesOf el=ti.el/\0<ti.el/\gk P 9 el=e.shs/\lV P el=some e.zvs
 bool:ti.ty= .b->P.underlying t=some .bool
 gu:ti.ty.ag=true->ti.ty.flatB=true->P.eqGuardType P.depth t=false
 eq:ti.ty.ag=true-> ∀ (a b:List Cl) (r:Bool) (xs ys:List Value),fE ti.ty.zvs a=true->fE ti.ty.zvs b=true->kb a b=some r->a=xs.map (λx=> .c (.sc x))->b=ys.map (λx=> .c (.sc x))->dI P (Op.equal t (.agg xs.toArray) (.agg ys.toArray))=some r
 str:mG P t=(match ti.ty with | .s=>true| _=>false)
 int: ∀k,ti.ty= .i k->P.underlying t=some (.int k)
 el8: ∀k u,ti.ty= .ls (.i k)->i8 P t=some u->P.underlying u=some (.int k)
def ek(P:Program)(Θ:fV):Prop:=∀t ti,fA Θ t=some ti->ti.ok P t
theorem Ty.width_pos(t:Ty):0<t.width:=by
 cases t with
 |st n=>cases n<;>decide
 | _=>exact Nat.one_pos
theorem C.ro_tree(c:C):T.ro c.tree=c.av:=by cases c<;>rfl
theorem C.own_tree(p:dM)(i m:Nat)(c:C):xZ p i m c.tree=(uu p i m c).av:=by
 cases c with
 |sc v=>rfl
 |ls t l=>simp[xZ,C.tree,uu,Cl.av]
theorem mn{α β:Type}(f:Nat->α->β): ∀ (j:Nat) (l:List α) (k:Nat),(mi f j l)[k]? =(l[k]?).map (f (j+k))
 |j,[],k=>by simp[mi]
 |j,a::l,0=>by simp[mi]
 |j,a::l,k+1=>by simp only[mi,cj];rw[mn f (j+1) l k];congr 2;omega
section
variable {ρ:Type} {P:Program} {Θ:fV} {S:TS}
theorem fo{p:dM}{sz:Nat}{rows:List (List T)}(h:S.st.look p= .sl sz rows):S.st.rows p sz=some rows:=by unfold St.rows;rw[h];simp
theorem vW(hS:S.ok){n:Nat}{v:Cl}(hv:v.ok S.gh){κ:List Cl->Option ρ}{r:ρ}(h:tX S n v κ=some r):
  ∃cs:List Cl,dR S.st n v.av=some (cs.map Cl.av)/\(∀c∈cs,c.ok S.gh)/\κ cs=some r:=by
 unfold tX at h;split at h
 ·rename_i b j;split at h
  ·rename_i cs hcs;obtain⟨h1,h⟩:=dC h;have h1:j+n<=cs.length:=ax h1;refine⟨_,?_,λc hc=> ?_,h⟩
   ·simp_all [Cl.av,dR,TS.st]
   ·rw[eg] at hcs;exact hS.bx cs (aA hcs) c (bF (bS hc))
  ·cases h
 ·rename_i cells;obtain⟨h1,h⟩:=dC h;have h1:n<=cells.length:=ax h1;refine⟨_,?_,λc hc=> ?_,h⟩
  ·simp only[Cl.av,dR,aH];rw[if_pos h1]
   congr 1
   rw[<-b9,ba,ba];exact aE λc _=>C.ro_tree c
  ·obtain⟨x,_,rfl⟩:=aG.1 hc;trivial
 ·rename_i p sz i j;obtain⟨t,l,h1,_,h5⟩:=eE h;obtain⟨h2,h6⟩:=dC h5;clear h h5;simp only[ak] at h2;have h3:t.width=sz:=an h2.1;have h4:j+n<=sz:=ax h2.2;subst h3;obtain⟨x,hx,h⟩:=ah.1 h6;have hil:i<l.length:=(ai.1 hx).1;have hfl: (t.flat x).length=t.width:=t.flat_length x;refine⟨_,?_,λc hc=> ?_,h⟩
  ·have e1: (l.map t.row).getD i [] =t.row x:=by simp[aB,hx]
   simp only[Cl.av,dR,fo h1];rw[e1,if_pos ⟨by simpa using hil,by rw[t.row_length];exact h4⟩]
   congr 1
   apply bA;intro k;rw[aw,aw,mn];by_cases hk:k<n
   ·have hjk:j+k< (t.flat x).length:=by omega
    rw[List.getElem?_range hk,bn,if_pos hk,bh,aq hjk];simp only[aF];rw[t.row_flat,aB,aw,aq hjk]
    grind [C.own_tree]
   grind
  ·obtain⟨k,hk⟩:=List.getElem?_of_mem hc;rw[mn] at hk;simp only[aj] at hk;obtain⟨y,_,rfl⟩:=hk;cases y with
   |sc v=>trivial
   |ls t' l'=>exact⟨hv,λh=>by cases h⟩
 ·cases h
theorem xU{G:List (Option dJ)}{ag:Bool}{cs:List Cl}(hcs: ∀c∈cs,c.ok G){κ:V->Option ρ}{r:ρ}(h:Db ag cs κ=some r): ∃v,A4 ag (cs.map Cl.av)=some v.av/\v.ok G/\κ v=some r:=by
 unfold Db at h;cases ag with
 |true=>refine⟨_,rfl,?_,h⟩;exact hcs
 |false=>
  simp only[cond_false] at h;split at h
  ·rename_i c;refine⟨_,rfl,?_,h⟩;exact hcs c (by simp)
  ·cases h
theorem sB(hΘ:ek P Θ)(hS:S.ok){t:TypeId}{v:V}(hv:v.ok S.gh){κ:V->Option ρ}{r:ρ}(h:sA Θ S t v κ=some r):
  ∃u,load P S.st t v.av=some u.av/\u.ok S.gh/\κ u=some r:=by
 unfold sA at h;split at h
 ·rename_i ti hti;have hok:=hΘ _ _ hti;split at h
  ·rename_i a;obtain⟨cs,h1,h2,h⟩:=vW hS hv h;obtain⟨u,h3,h4,h⟩:=xU h2 h;refine⟨u,?_,h4,h⟩;unfold load;rw[hok.ag,hok.cells]
   grind [V.av,V1.av]
  ·cases h
 ·cases h
theorem yy{p:dM}{κ:Int->Option ρ}{r:ρ}(h:yx S p κ=some r): ∃tr,dX S.gh p.r=some tr/\κ tr.l.length=some r:=by grind [yx,dJ.look]
theorem zY{n:Nat}{i:Int}{v:Cl}(hv:v.ok S.gh){κ:Cl->Option ρ}{r:ρ}(h:Bw n i S v κ=some r): ∃c,lJ n i v.av=some c.av/\c.ok S.gh/\κ c=some r:=by
 unfold Bw at h;split at h
 ·rename_i t l;obtain⟨h1,h⟩:=dC h;have h1:t.width=n:=an h1;obtain⟨h2,h⟩:=dS h;obtain⟨x,hx,h⟩:=ah.1 h;have hil:=(ai.1 hx).1;refine⟨_,?_,?_,h⟩
  rotate_left
  ·trivial
  simp only[Cl.av,C.av,lJ,aH];rw[if_pos ⟨h2,by omega,h1⟩]
  congr 1
  simp[aB,hx,t.row_flat]
 ·rename_i p sz lo len;obtain⟨h1,h⟩:=dC h;have h1:sz=n:=an h1;obtain⟨tr,h3,h⟩:=yy h;obtain⟨h4,h⟩:=dS h;obtain⟨h5,h6⟩:=hv;obtain⟨h7,h8,h9⟩:=h6 rfl;have h10:=h9 _ h3;refine⟨_,?_,?_,h⟩
  rotate_left
  ·exact h5
  simp_all [Cl.av,lJ]
 ·rename_i p sz lo len;obtain⟨h1,h⟩:=dC h;have h1:sz=n:=an h1;obtain⟨h4,h⟩:=dS h;refine⟨_,?_,?_,h⟩
  rotate_left
  ·exact hv.1
  simp_all [Cl.av,lJ]
 ·cases h
theorem vq{v:Cl}(hv:v.ok S.gh){κ:Int->Option ρ}{r:ρ}(h:z9 S v κ=some r): ∃n,jv v.av=some n/\κ n=some r:=by
 unfold z9 at h;split at h
 ·grind [Cl.av,C.av,jv]
 ·obtain⟨t,l,h2,h3,h⟩:=eE h;obtain⟨h5,h6⟩:=hv
  simp_all [Cl.av,jv]
 ·exact⟨_,rfl,h⟩
 ·exact⟨_,rfl,h⟩
 ·cases h
theorem zA{n:Nat}{lo hi:Int}{v:Cl}(hv:v.ok S.gh){κ:Cl->Option ρ}{r:ρ}(h:Bi n lo hi v κ=some r): ∃c,AO n lo hi v.av=some c.av/\c.ok S.gh/\κ c=some r:=by
 unfold Bi at h;split at h
 ·obtain⟨h1,h⟩:=dS h;exact⟨.em,by simp[Cl.av,AO,h1],trivial,h⟩
 ·rename_i t l;obtain⟨h1,h⟩:=dC h;have h1:t.width=n:=an h1;obtain⟨h2,h⟩:=dS h;refine⟨_,?_,?_,h⟩
  rotate_left
  ·trivial
  simp_all [Cl.av,C.av,AO]
 ·rename_i p sz l len w;obtain⟨h1,h⟩:=dC h;have h1:sz=n:=an h1;obtain⟨h2,h⟩:=dS h;refine⟨_,?_,?_,h⟩
  rotate_left
  ·exact⟨hv.1,λh=>by cases h⟩
  simp_all [Cl.av,AO]
 ·cases h
theorem pJ{d:Int}{x:Option Operand}{κ:Int->Option ρ}{r:ρ}(h:qp S d x κ=some r): ∃n,gg S.st d x=some n/\κ n=some r:=by
 unfold qp at h;split at h
 all_goals simp_all [ji,gg,dG]
theorem zo{G:List (Option dJ)}: ∀ (parts:List (Nat×V)) (pl:List (Nat×Nat×Bool)) (cs cs':List Cl),(∀c∈cs,c.ok G)->(∀x∈parts,x.2.ok G)->vS pl cs parts=some cs'->
  zn (pl.map λx=>(x.1,x.2.1)) (cs.map Cl.av) (parts.map λx=>(x.1,x.2.av))=some (cs'.map Cl.av)/\ ∀c∈cs',c.ok G:=by
 intro parts
 induction parts with
 |nil=>intro pl cs cs' hcs _ h;simp only[vS,af] at h;subst h;exact⟨rfl,hcs⟩
 |cons x parts ih=>
  intro pl cs cs' hcs hp h;obtain⟨k,v⟩:=x;simp only[vS] at h;split at h
  ·rename_i off n ag hk;split at h
   ·rename_i x;have hx:x.ok G:=hp (k,.v x) (by simp)
    have fB: ∀ (hd: (V.v x).av.isDead=false) (hcell: (V.v x).av.cells=x.cells.map Cl.av) (hcok: ∀c∈x.cells,c.ok G)
      (h: (bif Nat.beq x.cells.length n&&Nat.ble (off+n) cs.length then vS pl (cs.take off++x.cells++cs.drop (off+n)) parts else none)=some cs'),
      zn (pl.map λx=>(x.1,x.2.1)) (cs.map Cl.av) (((k,V.v x)::parts).map λx=>(x.1,x.2.av))=some (cs'.map Cl.av)/\ ∀c∈cs',c.ok G:=by
     intro hd hcell hcok h;obtain⟨h1,h⟩:=dC h;simp only[ak] at h1;have h2:x.cells.length=n:=an h1.1;have h3:off+n<=cs.length:=ax h1.2
     obtain⟨g1,g2⟩:=ih pl _ cs' (λc hc=>by grind) (λy hy=>hp y (aI _ hy)) h
     refine⟨?_,g2⟩;rw[eg] at hk;simp only[aO,zn,aw,hk,aF];rw[if_pos ⟨hd,by rw[hcell];simpa using h2,by simpa using h3⟩,<-g1,hcell];simp[b9,cA]
    cases x with
    |cl c=>cases c with
     |dead=>cases h
     |c y=>cases y<;>exact fB rfl rfl (λc hc=>by simp only[V1.cells,aL] at hc;subst hc;exact hx) h
     |em=>exact fB rfl rfl (λc hc=>by simp only[V1.cells,aL] at hc;subst hc;exact hx) h
     |own p sz lo len w=>exact fB rfl rfl (λc hc=>by simp only[V1.cells,aL] at hc;subst hc;exact hx) h
     |pro cs=>exact fB rfl rfl (λc hc=>by simp only[V1.cells,aL] at hc;subst hc;exact hx) h
     |ptrB n j=>exact fB rfl rfl (λc hc=>by simp only[V1.cells,aL] at hc;subst hc;exact hx) h
     |ptrT p sz i j=>exact fB rfl rfl (λc hc=>by simp only[V1.cells,aL] at hc;subst hc;exact hx) h
    |agg cs2=>exact fB rfl rfl hx h
    |fn f cs2=>cases h
   ·cases h
  ·cases h
end
end
end Go.Proofs.YtkghndikalnipaaGreat.En
