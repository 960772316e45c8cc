import Derived.Test.YtkghndikalnipabGreatZX5
import Derived.Lib.Overlaps
set_option linter.unusedSimpArgs false
set_option linter.unusedVariables false
namespace Go.Proofs.YtkghndikalnipabGreat.En
section
open Go Go.RowKit
section
variable {P:Program} {w w':World} {W:Nat->Prop} {bt:Bt}
def sX(sz:Nat)(rows:List (List T)):Prop:=∀r∈rows,r.length=sz/\ ∀x∈r,∃v,x= .sc v/\fS v=true
structure A6 (P:Program) (f t e tn:Nat) (sz:Nat) (i:TypeInfo) (z:Value):Prop where
 enter: ∀ (args:Array Value) (w:World),(callFunc f args).run P w= .ok (.enter f args) w
 ht:P.underlying t=some (.slice e)
 hi:P.info? e=some i
 hz:i.zero=some z
 zs:z.cells.size=i.size
 z1: ∀u∈z.cells.toList,u.oneCell'=true
 hs:i.size=sz
 pos:0<sz
 htn:P.underlying tn=some (.int .i64)
 toEnd: ∀ (ab:Option Addr) (n c:Nat) (ad:Addr) (vc:Nat) (w w':World) (v:Value),n<=c->(ab=none->n=0)->n<=2 ^ 40->
  (∀ty,(Builtin.append_ #[t,t] ty #[.slice ab n c,.slice (some ad) 1 vc]).run P w= .ok v w')->
  Calls P f #[.slice ab n c,.int .i64 n,.slice (some ad) 1 vc] w λe w1=>e= .returned v/\w1=w'
 shift: ∀ (b n c i:Nat) (ad:Addr) (vc:Nat) (w W1 W2:World) (u1 u2:Value),i<n->n+1<=c->n<=2 ^ 40->ad.block≠b->
  (∃ra ta fa,w.heap[ad.block]? =some (.cells ra ta fa)/\0<ra.size)->(∃rb tb,w.heap[b]? =some (.cells rb tb (0,0)))->
  (∀ty dc sc,(Builtin.copy_ #[t,t] ty #[.slice (some ⟨b,(i+1)*sz,none⟩) (n-i) dc,.slice (some ⟨b,i*sz,none⟩) (n+1-i) sc]).run P w.drew= .ok u1 W1)->
  (∀ty dc,(Builtin.copy_ #[t,t] ty #[.slice (some ⟨b,i*sz,none⟩) (n+1-i) dc,.slice (some ad) 1 vc]).run P W1= .ok u2 W2)->
  Calls P f #[.slice (some ⟨b,0,none⟩) n c,.int .i64 i,.slice (some ad) 1 vc] w λe w1=>e= .returned (.slice (some ⟨b,0,none⟩) (n+1) c)/\w1=W2
 grow: ∀ (b g n c G i:Nat) (ad:Addr) (vc:Nat) (w W0 W1 W2:World) (u1 u2:Value),i<n->n<=c->c<n+1->n+1<=G->n<=2 ^ 40->
  (∀ty,(Builtin.append_ #[t,tn] ty #[.slice (some ⟨b,0,none⟩) i c,.int .i64 ((n:Int)+1-(i:Int))]).run P w= .ok (.slice (some ⟨g,0,none⟩) (n+1) G) W0)->
  (∀ty dc,(Builtin.copy_ #[t,t] ty #[.slice (some ⟨g,i*sz,none⟩) (n+1-i) dc,.slice (some ad) 1 vc]).run P W0= .ok u1 W1)->
  (∀ty dc sc,(Builtin.copy_ #[t,t] ty #[.slice (some ⟨g,(i+1)*sz,none⟩) (n-i) dc,.slice (some ⟨b,i*sz,none⟩) (n-i) sc]).run P W1.drew= .ok u2 W2)->
  Calls P f #[.slice (some ⟨b,0,none⟩) n c,.int .i64 i,.slice (some ad) 1 vc] w λe w1=>e= .returned (.slice (some ⟨g,0,none⟩) (n+1) G)/\w1=W2
theorem sX.ins{sz:Nat}{rows:List (List T)}{row:List T}(h:sX sz rows)(hr:sX sz [row])(i:Nat):sX sz (rows.take i++row::rows.drop i):=λr hm=>by
 rcases bq.1 hm with hm|hm
 ·exact h r (bK hm)
 ·rcases aU.1 hm with rfl|hm
  ·exact hr r aF
  ·exact h r (bw hm)
end
end
section
open Go
structure Hd where
 a:Option Addr
 n:Nat
 c:Nat
 deriving DecidableEq,Inhabited
structure Op where
 client:Int
 seq:Int
 kind:Int
 object:Int
 old:Int
 value:Int
 deriving DecidableEq,Inhabited
structure Result where
 done:Bool
 value:Int
 deriving DecidableEq,Inhabited
structure me where
 client:Int
 seq:Int
 result:Result
 deriving DecidableEq,Inhabited
structure md where
 objects:List Int
 sessions:List me
 deriving DecidableEq,Inhabited
structure pS where
 epoch:Int
 op:Op
 deriving DecidableEq,Inhabited
structure mw where
 count:Int
 digest:Int
 machine:md
 deriving DecidableEq,Inhabited
structure mt where
 epoch:Int
 primary:Int
 replicas:List Int
 witnesses:List Int
 deriving DecidableEq,Inhabited
structure sV where
 rack:Int
 capacity:Int
 load:Int
 deriving DecidableEq,Inhabited
structure jr where
 configs:List mt
 activated:Int
 deriving DecidableEq,Inhabited
structure sS where
 epoch:Int
 holder:Int
 ends:Int
 deriving DecidableEq,Inhabited
structure oU where
 up:Bool
 intact:Bool
 version:Int
 epoch:Int
 config:mt
 first:Int
 log:List pS
 commit:Int
 learned:List pS
 deriving DecidableEq,Inhabited
structure oQ where
 now:Int
 servers:List oU
 sides:List Int
 master:jr
 masterUp:Int
 lease:sS
 places:List sV
 deriving DecidableEq,Inhabited
structure vd where
 code:Int
 result:Result
 index:Int
 deriving DecidableEq,Inhabited
structure Bh where
 op:Op
 index:Int
 deriving DecidableEq,Inhabited
structure u7 where
 kind:Int
 server:Int
 other:Int
 n:Int
 op:Op
 deriving DecidableEq,Inhabited
structure rK where
 server:Int
 index:Int
 deriving DecidableEq,Inhabited
structure za where
 start:Int
 event:Int
 read:Bool
 index:Int
 value:Int
 op:Op
 deriving DecidableEq,Inhabited
structure oS where
 b:Hd
 i:Int
 h:Int
 deriving DecidableEq,Inhabited
inductive Sn where
 |op|result|session|machine|entry|snapshot|config|place|masterLog|lease|server|cluster|reply|ack|event|damage|mark|cur
 deriving DecidableEq,Inhabited
abbrev Sn.D:Sn->Type
 | .op=>Op
 | .result=>Result
 | .session=>me
 | .machine=>md
 | .entry=>pS
 | .snapshot=>mw
 | .config=>mt
 | .place=>sV
 | .masterLog=>jr
 | .lease=>sS
 | .server=>oU
 | .cluster=>oQ
 | .reply=>vd
 | .ack=>Bh
 | .event=>u7
 | .damage=>rK
 | .mark=>za
 | .cur=>oS
inductive Ty where|i (k:IntKind)|b|s|h|st (n:Sn)|ls (t:Ty)
 deriving DecidableEq,Inhabited
abbrev Ty.D:Ty->Type
 | .i _=>Int| .b=>Bool| .s=>ByteArray| .h=>Hd| .st n=>n.D| .ls t=>List t.D
inductive C where|sc (v:Value)|ls (t:Ty) (l:List t.D)
 deriving Inhabited
def Sn.flat: (n:Sn)->n.D->List C
 | .op,x=> [.sc (.int .i64 x.client),.sc (.int .i64 x.seq),.sc (.int .i64 x.kind),.sc (.int .i64 x.object),.sc (.int .i64 x.old),.sc (.int .i64 x.value)]
 | .result,x=> [.sc (.bool x.done),.sc (.int .i64 x.value)]
 | .session,x=> [.sc (.int .i64 x.client),.sc (.int .i64 x.seq),.sc (.bool x.result.done),.sc (.int .i64 x.result.value)]
 | .machine,x=> [.ls (.i .i64) x.objects,.ls (.st .session) x.sessions]
 | .entry,x=> [.sc (.int .i64 x.epoch),.sc (.int .i64 x.op.client),.sc (.int .i64 x.op.seq),.sc (.int .i64 x.op.kind),.sc (.int .i64 x.op.object),.sc (.int .i64 x.op.old),.sc (.int .i64 x.op.value)]
 | .snapshot,x=> [.sc (.int .i64 x.count),.sc (.int .i64 x.digest),.ls (.i .i64) x.machine.objects,.ls (.st .session) x.machine.sessions]
 | .config,x=> [.sc (.int .i64 x.epoch),.sc (.int .i64 x.primary),.ls (.i .i64) x.replicas,.ls (.i .i64) x.witnesses]
 | .place,x=> [.sc (.int .i64 x.rack),.sc (.int .i64 x.capacity),.sc (.int .i64 x.load)]
 | .masterLog,x=> [.ls (.st .config) x.configs,.sc (.int .i64 x.activated)]
 | .lease,x=> [.sc (.int .i64 x.epoch),.sc (.int .i64 x.holder),.sc (.int .i64 x.ends)]
 | .server,x=> [.sc (.bool x.up),.sc (.bool x.intact),.sc (.int .i64 x.version),.sc (.int .i64 x.epoch),.sc (.int .i64 x.config.epoch),.sc (.int .i64 x.config.primary),.ls (.i .i64) x.config.replicas,.ls (.i .i64) x.config.witnesses,.sc (.int .i64 x.first),.ls (.st .entry) x.log,.sc (.int .i64 x.commit),.ls (.st .entry) x.learned]
 | .cluster,x=> [.sc (.int .i64 x.now),.ls (.st .server) x.servers,.ls (.i .i64) x.sides,.ls (.st .config) x.master.configs,.sc (.int .i64 x.master.activated),.sc (.int .i64 x.masterUp),.sc (.int .i64 x.lease.epoch),.sc (.int .i64 x.lease.holder),.sc (.int .i64 x.lease.ends),.ls (.st .place) x.places]
 | .reply,x=> [.sc (.int .i64 x.code),.sc (.bool x.result.done),.sc (.int .i64 x.result.value),.sc (.int .i64 x.index)]
 | .ack,x=> [.sc (.int .i64 x.op.client),.sc (.int .i64 x.op.seq),.sc (.int .i64 x.op.kind),.sc (.int .i64 x.op.object),.sc (.int .i64 x.op.old),.sc (.int .i64 x.op.value),.sc (.int .i64 x.index)]
 | .event,x=> [.sc (.int .i64 x.kind),.sc (.int .i64 x.server),.sc (.int .i64 x.other),.sc (.int .i64 x.n),.sc (.int .i64 x.op.client),.sc (.int .i64 x.op.seq),.sc (.int .i64 x.op.kind),.sc (.int .i64 x.op.object),.sc (.int .i64 x.op.old),.sc (.int .i64 x.op.value)]
 | .damage,x=> [.sc (.int .i64 x.server),.sc (.int .i64 x.index)]
 | .mark,x=> [.sc (.int .i64 x.start),.sc (.int .i64 x.event),.sc (.bool x.read),.sc (.int .i64 x.index),.sc (.int .i64 x.value),.sc (.int .i64 x.op.client),.sc (.int .i64 x.op.seq),.sc (.int .i64 x.op.kind),.sc (.int .i64 x.op.object),.sc (.int .i64 x.op.old),.sc (.int .i64 x.op.value)]
 | .cur,x=> [.sc (.slice x.b.a x.b.n x.b.c),.sc (.int .i64 x.i),.sc (.int .i64 x.h)]
def Ty.flat: (t:Ty)->t.D->List C
 | .i k,n=> [.sc (.int k n)] | .b,v=> [.sc (.bool v)] | .s,v=> [.sc (.string v)] | .h,v=> [.sc (.slice v.a v.n v.c)] | .st n,x=>n.flat x| .ls t,l=> [.ls t l]
def Sn.width:Sn->Nat
 | .op=>6| .result=>2| .session=>4| .machine=>2| .entry=>7| .snapshot=>4| .config=>4| .place=>3| .masterLog=>2| .lease=>3| .server=>12| .cluster=>10| .reply=>4| .ack=>7| .event=>10| .damage=>2| .mark=>11| .cur=>3
def Ty.width:Ty->Nat| .st n=>n.width| _=>1
def Sn.csh:Sn->List (Option Ty)
 | .op=> [none,none,none,none,none,none]
 | .result=> [none,none]
 | .session=> [none,none,none,none]
 | .machine=> [some (.i .i64),some (.st .session)]
 | .entry=> [none,none,none,none,none,none,none]
 | .snapshot=> [none,none,some (.i .i64),some (.st .session)]
 | .config=> [none,none,some (.i .i64),some (.i .i64)]
 | .place=> [none,none,none]
 | .masterLog=> [some (.st .config),none]
 | .lease=> [none,none,none]
 | .server=> [none,none,none,none,none,none,some (.i .i64),some (.i .i64),none,some (.st .entry),none,some (.st .entry)]
 | .cluster=> [none,some (.st .server),some (.i .i64),some (.st .config),none,none,none,none,none,some (.st .place)]
 | .reply=> [none,none,none,none]
 | .ack=> [none,none,none,none,none,none,none]
 | .event=> [none,none,none,none,none,none,none,none,none,none]
 | .damage=> [none,none]
 | .mark=> [none,none,none,none,none,none,none,none,none,none,none]
 | .cur=> [none,none,none]
def Ty.csh:Ty->List (Option Ty)| .st n=>n.csh| .ls t=> [some t] | _=> [none]
def Sn.zvs:Sn->List Value
 | .op=> [.int .i64 0,.int .i64 0,.int .i64 0,.int .i64 0,.int .i64 0,.int .i64 0]
 | .result=> [.bool false,.int .i64 0]
 | .session=> [.int .i64 0,.int .i64 0,.bool false,.int .i64 0]
 | .machine=> [.slice none 0 0,.slice none 0 0]
 | .entry=> [.int .i64 0,.int .i64 0,.int .i64 0,.int .i64 0,.int .i64 0,.int .i64 0,.int .i64 0]
 | .snapshot=> [.int .i64 0,.int .i64 0,.slice none 0 0,.slice none 0 0]
 | .config=> [.int .i64 0,.int .i64 0,.slice none 0 0,.slice none 0 0]
 | .place=> [.int .i64 0,.int .i64 0,.int .i64 0]
 | .masterLog=> [.slice none 0 0,.int .i64 0]
 | .lease=> [.int .i64 0,.int .i64 0,.int .i64 0]
 | .server=> [.bool false,.bool false,.int .i64 0,.int .i64 0,.int .i64 0,.int .i64 0,.slice none 0 0,.slice none 0 0,.int .i64 0,.slice none 0 0,.int .i64 0,.slice none 0 0]
 | .cluster=> [.int .i64 0,.slice none 0 0,.slice none 0 0,.slice none 0 0,.int .i64 0,.int .i64 0,.int .i64 0,.int .i64 0,.int .i64 0,.slice none 0 0]
 | .reply=> [.int .i64 0,.bool false,.int .i64 0,.int .i64 0]
 | .ack=> [.int .i64 0,.int .i64 0,.int .i64 0,.int .i64 0,.int .i64 0,.int .i64 0,.int .i64 0]
 | .event=> [.int .i64 0,.int .i64 0,.int .i64 0,.int .i64 0,.int .i64 0,.int .i64 0,.int .i64 0,.int .i64 0,.int .i64 0,.int .i64 0]
 | .damage=> [.int .i64 0,.int .i64 0]
 | .mark=> [.int .i64 0,.int .i64 0,.bool false,.int .i64 0,.int .i64 0,.int .i64 0,.int .i64 0,.int .i64 0,.int .i64 0,.int .i64 0,.int .i64 0]
 | .cur=> [.nilFunc,.int .i64 0,.int .i64 0]
def Ty.zvs:Ty->List Value| .i k=> [.int k 0] | .b=> [.bool false] | .s=> [.string ByteArray.empty] | .h=> [.nilFunc] | .st n=>n.zvs| .ls _=> [.slice none 0 0]
def gI(k:IntKind){α:Type}(cs:List C)(f:Int->List C->Option α):Option α:=match cs with | .sc (.int k' n)::r=>if k'=k then f n r else none| _=>none
def gB{α:Type}(cs:List C)(f:Bool->List C->Option α):Option α:=match cs with | .sc (.bool v)::r=>f v r| _=>none
def gS{α:Type}(cs:List C)(f:ByteArray->List C->Option α):Option α:=match cs with | .sc (.string v)::r=>f v r| _=>none
def gH{α:Type}(cs:List C)(f:Hd->List C->Option α):Option α:=match cs with | .sc (.slice a n c)::r=>f ⟨a,n,c⟩ r| _=>none
def gL(t:Ty){α:Type}(cs:List C)(f:List t.D->List C->Option α):Option α:=match cs with | .ls t' l::r=>if h:t'=t then f (h ▸ l) r else none| _=>none
def gN{α:Type}(cs:List C)(x:α):Option α:=match cs with | [] =>some x| _=>none
def Sn.unflat: (n:Sn)->List C->Option n.D
 | .op,cs=>gI .i64 cs λa0 r0=>gI .i64 r0 λa1 r1=>gI .i64 r1 λa2 r2=>gI .i64 r2 λa3 r3=>gI .i64 r3 λa4 r4=>gI .i64 r4 λa5 r5=>gN r5 (⟨a0,a1,a2,a3,a4,a5⟩:Op)
 | .result,cs=>gB cs λa0 r0=>gI .i64 r0 λa1 r1=>gN r1 (⟨a0,a1⟩:Result)
 | .session,cs=>gI .i64 cs λa0 r0=>gI .i64 r0 λa1 r1=>gB r1 λa2 r2=>gI .i64 r2 λa3 r3=>gN r3 (⟨a0,a1,⟨a2,a3⟩⟩:me)
 | .machine,cs=>gL (.i .i64) cs λa0 r0=>gL (.st .session) r0 λa1 r1=>gN r1 (⟨a0,a1⟩:md)
 | .entry,cs=>gI .i64 cs λa0 r0=>gI .i64 r0 λa1 r1=>gI .i64 r1 λa2 r2=>gI .i64 r2 λa3 r3=>gI .i64 r3 λa4 r4=>gI .i64 r4 λa5 r5=>gI .i64 r5 λa6 r6=>gN r6 (⟨a0,⟨a1,a2,a3,a4,a5,a6⟩⟩:pS)
 | .snapshot,cs=>gI .i64 cs λa0 r0=>gI .i64 r0 λa1 r1=>gL (.i .i64) r1 λa2 r2=>gL (.st .session) r2 λa3 r3=>gN r3 (⟨a0,a1,⟨a2,a3⟩⟩:mw)
 | .config,cs=>gI .i64 cs λa0 r0=>gI .i64 r0 λa1 r1=>gL (.i .i64) r1 λa2 r2=>gL (.i .i64) r2 λa3 r3=>gN r3 (⟨a0,a1,a2,a3⟩:mt)
 | .place,cs=>gI .i64 cs λa0 r0=>gI .i64 r0 λa1 r1=>gI .i64 r1 λa2 r2=>gN r2 (⟨a0,a1,a2⟩:sV)
 | .masterLog,cs=>gL (.st .config) cs λa0 r0=>gI .i64 r0 λa1 r1=>gN r1 (⟨a0,a1⟩:jr)
 | .lease,cs=>gI .i64 cs λa0 r0=>gI .i64 r0 λa1 r1=>gI .i64 r1 λa2 r2=>gN r2 (⟨a0,a1,a2⟩:sS)
 | .server,cs=>gB cs λa0 r0=>gB r0 λa1 r1=>gI .i64 r1 λa2 r2=>gI .i64 r2 λa3 r3=>gI .i64 r3 λa4 r4=>gI .i64 r4 λa5 r5=>gL (.i .i64) r5 λa6 r6=>gL (.i .i64) r6 λa7 r7=>gI .i64 r7 λa8 r8=>gL (.st .entry) r8 λa9 r9=>gI .i64 r9 λa10 r10=>gL (.st .entry) r10 λa11 r11=>gN r11 (⟨a0,a1,a2,a3,⟨a4,a5,a6,a7⟩,a8,a9,a10,a11⟩:oU)
 | .cluster,cs=>gI .i64 cs λa0 r0=>gL (.st .server) r0 λa1 r1=>gL (.i .i64) r1 λa2 r2=>gL (.st .config) r2 λa3 r3=>gI .i64 r3 λa4 r4=>gI .i64 r4 λa5 r5=>gI .i64 r5 λa6 r6=>gI .i64 r6 λa7 r7=>gI .i64 r7 λa8 r8=>gL (.st .place) r8 λa9 r9=>gN r9 (⟨a0,a1,a2,⟨a3,a4⟩,a5,⟨a6,a7,a8⟩,a9⟩:oQ)
 | .reply,cs=>gI .i64 cs λa0 r0=>gB r0 λa1 r1=>gI .i64 r1 λa2 r2=>gI .i64 r2 λa3 r3=>gN r3 (⟨a0,⟨a1,a2⟩,a3⟩:vd)
 | .ack,cs=>gI .i64 cs λa0 r0=>gI .i64 r0 λa1 r1=>gI .i64 r1 λa2 r2=>gI .i64 r2 λa3 r3=>gI .i64 r3 λa4 r4=>gI .i64 r4 λa5 r5=>gI .i64 r5 λa6 r6=>gN r6 (⟨⟨a0,a1,a2,a3,a4,a5⟩,a6⟩:Bh)
 | .event,cs=>gI .i64 cs λa0 r0=>gI .i64 r0 λa1 r1=>gI .i64 r1 λa2 r2=>gI .i64 r2 λa3 r3=>gI .i64 r3 λa4 r4=>gI .i64 r4 λa5 r5=>gI .i64 r5 λa6 r6=>gI .i64 r6 λa7 r7=>gI .i64 r7 λa8 r8=>gI .i64 r8 λa9 r9=>gN r9 (⟨a0,a1,a2,a3,⟨a4,a5,a6,a7,a8,a9⟩⟩:u7)
 | .damage,cs=>gI .i64 cs λa0 r0=>gI .i64 r0 λa1 r1=>gN r1 (⟨a0,a1⟩:rK)
 | .mark,cs=>gI .i64 cs λa0 r0=>gI .i64 r0 λa1 r1=>gB r1 λa2 r2=>gI .i64 r2 λa3 r3=>gI .i64 r3 λa4 r4=>gI .i64 r4 λa5 r5=>gI .i64 r5 λa6 r6=>gI .i64 r6 λa7 r7=>gI .i64 r7 λa8 r8=>gI .i64 r8 λa9 r9=>gI .i64 r9 λa10 r10=>gN r10 (⟨a0,a1,a2,a3,a4,⟨a5,a6,a7,a8,a9,a10⟩⟩:za)
 | .cur,cs=>gH cs λa0 r0=>gI .i64 r0 λa1 r1=>gI .i64 r1 λa2 r2=>gN r2 (⟨a0,a1,a2⟩:oS)
def Ty.unflat: (t:Ty)->List C->Option t.D
 | .i k,cs=>gI k cs λn r=>gN r n| .b,cs=>gB cs λn r=>gN r n| .s,cs=>gS cs λn r=>gN r n| .h,cs=>gH cs λn r=>gN r n| .st n,cs=>n.unflat cs| .ls t,cs=>gL t cs λl r=>gN r l
def AG(x:Op):List T:=[.sc (.int .i64 x.client),.sc (.int .i64 x.seq),.sc (.int .i64 x.kind),.sc (.int .i64 x.object),.sc (.int .i64 x.old),.sc (.int .i64 x.value)]
def uS(x:Result):List T:=[.sc (.bool x.done),.sc (.int .i64 x.value)]
def kp(x:me):List T:=[.sc (.int .i64 x.client),.sc (.int .i64 x.seq),.sc (.bool x.result.done),.sc (.int .i64 x.result.value)]
def sG(x:md):List T:=[.sl 1 (x.objects.map λn=> [.sc (.int .i64 n)]),.sl 4 (x.sessions.map kp)]
def nw(x:pS):List T:=[.sc (.int .i64 x.epoch),.sc (.int .i64 x.op.client),.sc (.int .i64 x.op.seq),.sc (.int .i64 x.op.kind),.sc (.int .i64 x.op.object),.sc (.int .i64 x.op.old),.sc (.int .i64 x.op.value)]
def rg(x:mw):List T:=[.sc (.int .i64 x.count),.sc (.int .i64 x.digest),.sl 1 (x.machine.objects.map λn=> [.sc (.int .i64 n)]),.sl 4 (x.machine.sessions.map kp)]
def lC(x:mt):List T:=[.sc (.int .i64 x.epoch),.sc (.int .i64 x.primary),.sl 1 (x.replicas.map λn=> [.sc (.int .i64 n)]),.sl 1 (x.witnesses.map λn=> [.sc (.int .i64 n)])]
def rf(x:sV):List T:=[.sc (.int .i64 x.rack),.sc (.int .i64 x.capacity),.sc (.int .i64 x.load)]
def pI(x:jr):List T:=[.sl 4 (x.configs.map lC),.sc (.int .i64 x.activated)]
def wq(x:sS):List T:=[.sc (.int .i64 x.epoch),.sc (.int .i64 x.holder),.sc (.int .i64 x.ends)]
def oJ(x:oU):List T:=[.sc (.bool x.up),.sc (.bool x.intact),.sc (.int .i64 x.version),.sc (.int .i64 x.epoch),.sc (.int .i64 x.config.epoch),.sc (.int .i64 x.config.primary),.sl 1 (x.config.replicas.map λn=> [.sc (.int .i64 n)]),.sl 1 (x.config.witnesses.map λn=> [.sc (.int .i64 n)]),.sc (.int .i64 x.first),.sl 7 (x.log.map nw),.sc (.int .i64 x.commit),.sl 7 (x.learned.map nw)]
def sF(x:oQ):List T:=[.sc (.int .i64 x.now),.sl 12 (x.servers.map oJ),.sl 1 (x.sides.map λn=> [.sc (.int .i64 n)]),.sl 4 (x.master.configs.map lC),.sc (.int .i64 x.master.activated),.sc (.int .i64 x.masterUp),.sc (.int .i64 x.lease.epoch),.sc (.int .i64 x.lease.holder),.sc (.int .i64 x.lease.ends),.sl 3 (x.places.map rf)]
def wt(x:vd):List T:=[.sc (.int .i64 x.code),.sc (.bool x.result.done),.sc (.int .i64 x.result.value),.sc (.int .i64 x.index)]
def zL(x:Bh):List T:=[.sc (.int .i64 x.op.client),.sc (.int .i64 x.op.seq),.sc (.int .i64 x.op.kind),.sc (.int .i64 x.op.object),.sc (.int .i64 x.op.old),.sc (.int .i64 x.op.value),.sc (.int .i64 x.index)]
def wo(x:u7):List T:=[.sc (.int .i64 x.kind),.sc (.int .i64 x.server),.sc (.int .i64 x.other),.sc (.int .i64 x.n),.sc (.int .i64 x.op.client),.sc (.int .i64 x.op.seq),.sc (.int .i64 x.op.kind),.sc (.int .i64 x.op.object),.sc (.int .i64 x.op.old),.sc (.int .i64 x.op.value)]
def uR(x:rK):List T:=[.sc (.int .i64 x.server),.sc (.int .i64 x.index)]
def ym(x:za):List T:=[.sc (.int .i64 x.start),.sc (.int .i64 x.event),.sc (.bool x.read),.sc (.int .i64 x.index),.sc (.int .i64 x.value),.sc (.int .i64 x.op.client),.sc (.int .i64 x.op.seq),.sc (.int .i64 x.op.kind),.sc (.int .i64 x.op.object),.sc (.int .i64 x.op.old),.sc (.int .i64 x.op.value)]
def fA(x:oS):List T:=[.sc (.slice x.b.a x.b.n x.b.c),.sc (.int .i64 x.i),.sc (.int .i64 x.h)]
def Sn.row: (n:Sn)->n.D->List T
 | .op,x=>AG x
 | .result,x=>uS x
 | .session,x=>kp x
 | .machine,x=>sG x
 | .entry,x=>nw x
 | .snapshot,x=>rg x
 | .config,x=>lC x
 | .place,x=>rf x
 | .masterLog,x=>pI x
 | .lease,x=>wq x
 | .server,x=>oJ x
 | .cluster,x=>sF x
 | .reply,x=>wt x
 | .ack,x=>zL x
 | .event,x=>wo x
 | .damage,x=>uR x
 | .mark,x=>ym x
 | .cur,x=>fA x
def Ty.row: (t:Ty)->t.D->List T
 | .i k,n=> [.sc (.int k n)] | .b,v=> [.sc (.bool v)] | .s,v=> [.sc (.string v)] | .h,v=> [.sc (.slice v.a v.n v.c)] | .st n,x=>n.row x| .ls t,l=> [.sl t.width (l.map t.row)]
def C.tree:C->T| .sc v=> .sc v| .ls t l=> .sl t.width (l.map t.row)
def C.good:C->Bool| .sc v=>fS v| .ls _ _=>true
theorem Ty.row_flat(t:Ty)(x:t.D):t.row x=(t.flat x).map C.tree:=by
 cases t with
 |st n=>cases n<;>rfl
 | _=>rfl
theorem Ty.flat_length(t:Ty)(x:t.D): (t.flat x).length=t.width:=by
 cases t with
 |st n=>cases n<;>rfl
 | _=>rfl
theorem Ty.row_length(t:Ty)(x:t.D): (t.row x).length=t.width:=by rw[t.row_flat,aD,t.flat_length]
theorem dq{k:IntKind}{α:Type}{cs:List C}{f:Int->List C->Option α}{y:α}(h:gI k cs f=some y): ∃n r,cs= .sc (.int k n)::r/\f n r=some y:=by
 unfold gI at h;split at h
 ·split at h
  ·rename_i hk;subst hk;exact⟨_,_,rfl,h⟩
  ·cases h
 ·cases h
theorem iE{α:Type}{cs:List C}{f:Bool->List C->Option α}{y:α}(h:gB cs f=some y): ∃n r,cs= .sc (.bool n)::r/\f n r=some y:=by
 unfold gB at h;split at h
 ·exact⟨_,_,rfl,h⟩
 ·cases h
theorem xL{α:Type}{cs:List C}{f:ByteArray->List C->Option α}{y:α}(h:gS cs f=some y): ∃n r,cs= .sc (.string n)::r/\f n r=some y:=by
 unfold gS at h;split at h
 ·exact⟨_,_,rfl,h⟩
 ·cases h
theorem tC{α:Type}{cs:List C}{f:Hd->List C->Option α}{y:α}(h:gH cs f=some y): ∃n r,cs= .sc (.slice n.a n.n n.c)::r/\f n r=some y:=by
 unfold gH at h;split at h
 ·exact⟨_,_,rfl,h⟩
 ·cases h
theorem eF{t:Ty}{α:Type}{cs:List C}{f:List t.D->List C->Option α}{y:α}(h:gL t cs f=some y): ∃n r,cs= .ls t n::r/\f n r=some y:=by
 unfold gL at h;split at h
 ·split at h
  ·rename_i hk;subst hk;exact⟨_,_,rfl,h⟩
  ·cases h
 ·cases h
theorem dX{α:Type}{cs:List C}{x y:α}(h:gN cs x=some y):cs= [] /\x=y:=by
 unfold gN at h;split at h
 ·simp only[ae] at h;exact⟨rfl,h⟩
 ·cases h
theorem Sn.unflat_some: ∀ (n:Sn) (cs:List C) (x:n.D),n.unflat cs=some x->n.flat x=cs
 | .op,cs,x,h=>by unfold Sn.unflat at h;obtain⟨a0,r0,h0,h⟩:=dq h;obtain⟨a1,r1,h1,h⟩:=dq h;obtain⟨a2,r2,h2,h⟩:=dq h;obtain⟨a3,r3,h3,h⟩:=dq h;obtain⟨a4,r4,h4,h⟩:=dq h;obtain⟨a5,r5,h5,h⟩:=dq h;obtain⟨e,h⟩:=dX h;subst h e h5 h4 h3 h2 h1 h0;rfl
 | .result,cs,x,h=>by unfold Sn.unflat at h;obtain⟨a0,r0,h0,h⟩:=iE h;obtain⟨a1,r1,h1,h⟩:=dq h;obtain⟨e,h⟩:=dX h;subst h e h1 h0;rfl
 | .session,cs,x,h=>by unfold Sn.unflat at h;obtain⟨a0,r0,h0,h⟩:=dq h;obtain⟨a1,r1,h1,h⟩:=dq h;obtain⟨a2,r2,h2,h⟩:=iE h;obtain⟨a3,r3,h3,h⟩:=dq h;obtain⟨e,h⟩:=dX h;subst h e h3 h2 h1 h0;rfl
 | .machine,cs,x,h=>by unfold Sn.unflat at h;obtain⟨a0,r0,h0,h⟩:=eF h;obtain⟨a1,r1,h1,h⟩:=eF h;obtain⟨e,h⟩:=dX h;subst h e h1 h0;rfl
 | .entry,cs,x,h=>by unfold Sn.unflat at h;obtain⟨a0,r0,h0,h⟩:=dq h;obtain⟨a1,r1,h1,h⟩:=dq h;obtain⟨a2,r2,h2,h⟩:=dq h;obtain⟨a3,r3,h3,h⟩:=dq h;obtain⟨a4,r4,h4,h⟩:=dq h;obtain⟨a5,r5,h5,h⟩:=dq h;obtain⟨a6,r6,h6,h⟩:=dq h;obtain⟨e,h⟩:=dX h;subst h e h6 h5 h4 h3 h2 h1 h0;rfl
 | .snapshot,cs,x,h=>by unfold Sn.unflat at h;obtain⟨a0,r0,h0,h⟩:=dq h;obtain⟨a1,r1,h1,h⟩:=dq h;obtain⟨a2,r2,h2,h⟩:=eF h;obtain⟨a3,r3,h3,h⟩:=eF h;obtain⟨e,h⟩:=dX h;subst h e h3 h2 h1 h0;rfl
 | .config,cs,x,h=>by unfold Sn.unflat at h;obtain⟨a0,r0,h0,h⟩:=dq h;obtain⟨a1,r1,h1,h⟩:=dq h;obtain⟨a2,r2,h2,h⟩:=eF h;obtain⟨a3,r3,h3,h⟩:=eF h;obtain⟨e,h⟩:=dX h;subst h e h3 h2 h1 h0;rfl
 | .place,cs,x,h=>by unfold Sn.unflat at h;obtain⟨a0,r0,h0,h⟩:=dq h;obtain⟨a1,r1,h1,h⟩:=dq h;obtain⟨a2,r2,h2,h⟩:=dq h;obtain⟨e,h⟩:=dX h;subst h e h2 h1 h0;rfl
 | .masterLog,cs,x,h=>by unfold Sn.unflat at h;obtain⟨a0,r0,h0,h⟩:=eF h;obtain⟨a1,r1,h1,h⟩:=dq h;obtain⟨e,h⟩:=dX h;subst h e h1 h0;rfl
 | .lease,cs,x,h=>by unfold Sn.unflat at h;obtain⟨a0,r0,h0,h⟩:=dq h;obtain⟨a1,r1,h1,h⟩:=dq h;obtain⟨a2,r2,h2,h⟩:=dq h;obtain⟨e,h⟩:=dX h;subst h e h2 h1 h0;rfl
 | .server,cs,x,h=>by unfold Sn.unflat at h;obtain⟨a0,r0,h0,h⟩:=iE h;obtain⟨a1,r1,h1,h⟩:=iE h;obtain⟨a2,r2,h2,h⟩:=dq h;obtain⟨a3,r3,h3,h⟩:=dq h;obtain⟨a4,r4,h4,h⟩:=dq h;obtain⟨a5,r5,h5,h⟩:=dq h;obtain⟨a6,r6,h6,h⟩:=eF h;obtain⟨a7,r7,h7,h⟩:=eF h;obtain⟨a8,r8,h8,h⟩:=dq h;obtain⟨a9,r9,h9,h⟩:=eF h;obtain⟨a10,r10,h10,h⟩:=dq h;obtain⟨a11,r11,h11,h⟩:=eF h;obtain⟨e,h⟩:=dX h;subst h e h11 h10 h9 h8 h7 h6 h5 h4 h3 h2 h1 h0;rfl
 | .cluster,cs,x,h=>by unfold Sn.unflat at h;obtain⟨a0,r0,h0,h⟩:=dq h;obtain⟨a1,r1,h1,h⟩:=eF h;obtain⟨a2,r2,h2,h⟩:=eF h;obtain⟨a3,r3,h3,h⟩:=eF h;obtain⟨a4,r4,h4,h⟩:=dq h;obtain⟨a5,r5,h5,h⟩:=dq h;obtain⟨a6,r6,h6,h⟩:=dq h;obtain⟨a7,r7,h7,h⟩:=dq h;obtain⟨a8,r8,h8,h⟩:=dq h;obtain⟨a9,r9,h9,h⟩:=eF h;obtain⟨e,h⟩:=dX h;subst h e h9 h8 h7 h6 h5 h4 h3 h2 h1 h0;rfl
 | .reply,cs,x,h=>by unfold Sn.unflat at h;obtain⟨a0,r0,h0,h⟩:=dq h;obtain⟨a1,r1,h1,h⟩:=iE h;obtain⟨a2,r2,h2,h⟩:=dq h;obtain⟨a3,r3,h3,h⟩:=dq h;obtain⟨e,h⟩:=dX h;subst h e h3 h2 h1 h0;rfl
 | .ack,cs,x,h=>by unfold Sn.unflat at h;obtain⟨a0,r0,h0,h⟩:=dq h;obtain⟨a1,r1,h1,h⟩:=dq h;obtain⟨a2,r2,h2,h⟩:=dq h;obtain⟨a3,r3,h3,h⟩:=dq h;obtain⟨a4,r4,h4,h⟩:=dq h;obtain⟨a5,r5,h5,h⟩:=dq h;obtain⟨a6,r6,h6,h⟩:=dq h;obtain⟨e,h⟩:=dX h;subst h e h6 h5 h4 h3 h2 h1 h0;rfl
 | .event,cs,x,h=>by unfold Sn.unflat at h;obtain⟨a0,r0,h0,h⟩:=dq h;obtain⟨a1,r1,h1,h⟩:=dq h;obtain⟨a2,r2,h2,h⟩:=dq h;obtain⟨a3,r3,h3,h⟩:=dq h;obtain⟨a4,r4,h4,h⟩:=dq h;obtain⟨a5,r5,h5,h⟩:=dq h;obtain⟨a6,r6,h6,h⟩:=dq h;obtain⟨a7,r7,h7,h⟩:=dq h;obtain⟨a8,r8,h8,h⟩:=dq h;obtain⟨a9,r9,h9,h⟩:=dq h;obtain⟨e,h⟩:=dX h;subst h e h9 h8 h7 h6 h5 h4 h3 h2 h1 h0;rfl
 | .damage,cs,x,h=>by unfold Sn.unflat at h;obtain⟨a0,r0,h0,h⟩:=dq h;obtain⟨a1,r1,h1,h⟩:=dq h;obtain⟨e,h⟩:=dX h;subst h e h1 h0;rfl
 | .mark,cs,x,h=>by unfold Sn.unflat at h;obtain⟨a0,r0,h0,h⟩:=dq h;obtain⟨a1,r1,h1,h⟩:=dq h;obtain⟨a2,r2,h2,h⟩:=iE h;obtain⟨a3,r3,h3,h⟩:=dq h;obtain⟨a4,r4,h4,h⟩:=dq h;obtain⟨a5,r5,h5,h⟩:=dq h;obtain⟨a6,r6,h6,h⟩:=dq h;obtain⟨a7,r7,h7,h⟩:=dq h;obtain⟨a8,r8,h8,h⟩:=dq h;obtain⟨a9,r9,h9,h⟩:=dq h;obtain⟨a10,r10,h10,h⟩:=dq h;obtain⟨e,h⟩:=dX h;subst h e h10 h9 h8 h7 h6 h5 h4 h3 h2 h1 h0;rfl
 | .cur,cs,x,h=>by unfold Sn.unflat at h;obtain⟨a0,r0,h0,h⟩:=tC h;obtain⟨a1,r1,h1,h⟩:=dq h;obtain⟨a2,r2,h2,h⟩:=dq h;obtain⟨e,h⟩:=dX h;subst h e h2 h1 h0;rfl
theorem Ty.unflat_some(t:Ty)(cs:List C)(x:t.D)(h:t.unflat cs=some x):t.flat x=cs:=by
 cases t with
 |i k=>obtain⟨n,r,h1,h⟩:=dq h;obtain⟨h2,h⟩:=dX h;subst h h2 h1;rfl
 |b=>obtain⟨n,r,h1,h⟩:=iE h;obtain⟨h2,h⟩:=dX h;subst h h2 h1;rfl
 |s=>obtain⟨n,r,h1,h⟩:=xL h;obtain⟨h2,h⟩:=dX h;subst h h2 h1;rfl
 |h=>have h:gH cs (λn r=>gN r n)=some x:=h;obtain⟨n,r,h1,h⟩:=tC h;obtain⟨h2,h⟩:=dX h;subst h h2 h1;rfl
 |st n=>exact n.unflat_some cs x h
 |ls t=>have h:gL t cs (λl r=>gN r l)=some x:=h;obtain⟨n,r,h1,h⟩:=eF h;obtain⟨h2,h⟩:=dX h;subst h h2 h1;rfl
end
section
open Go
inductive Cl where
 |c (x:C)
 |em
 |own (p:dA) (sz lo len:Nat) (w:Bool)
 |pro (cs:List C)
 |ptrB (n j:Nat)
 |ptrT (p:dA) (sz i j:Nat)
 |dead
 deriving Inhabited
inductive V1 where
 |cl (x:Cl)
 |agg (cs:List Cl)
 |fn (f:FuncId) (cs:List Cl)
 deriving Inhabited
inductive V where
 |v (x:V1)
 |tup (l:List V1)
 deriving Inhabited
structure dw where
 t:Ty
 l:List t.D
 hole:Option (Nat×Nat)
structure TS where
 env:List (Nat×V)
 bx:List (List Cl)
 gh:List (Option dw)
 fz:Nat
 nt:Nat
structure TI where
 ty:Ty
 el:Nat
 fds:List (Nat×Nat×Bool)
 bytes:Nat
abbrev ft:=List (Nat×TI)
@[reducible] def V.c (x:C):V:=.v (.cl (.c x))
@[reducible] def V.sc (x:Value):V:=.v (.cl (.c (.sc x)))
@[reducible] def V.dead:V:=.v (.cl .dead)
def en:List (Nat×V)->Nat->V
 | [],_=>V.dead
 | (t,v)::l,u=>bif Nat.beq t u then v else en l u
def eT:ft->Nat->Option TI
 | [],_=>none
 | (t,v)::l,u=>bif Nat.beq t u then some v else eT l u
def fR{α:Type}:List α->Nat->Option α
 | [],_=>none
 |a::l,n=>bif Nat.beq n 0 then some a else fR l (n-1)
def cC(v:Value):Cl:=match v with | .slice none 0 0=> .em|v=>bif fS v then .c (.sc v) else .dead
def cV:Value->V
 | .agg cs=>bif cs.toList.all Value.oneCell' then .v (.agg (cs.toList.map cC)) else V.dead
 |v=> .v (.cl (cC v))
def TS.opd(S:TS):Operand->V
 | .tmp t=>en S.env t
 | .const v=>cV v
 | .func f=>V.sc (.func (.func f) #[] #[])
 | .global _=>V.dead
def V1.cells:V1->List Cl
 | .cl x=> [x]
 | .agg cs=>cs
 | .fn _ _=> [.dead]
def C.flatB:C->Bool| .sc _=>true| _=>false
def Ty.flatB(t:Ty):Bool:=t.csh.all (·.isNone)
section
variable {ρ:Type}
def br{α:Type}(b:Bool)(x y:α):α:=cond b x y
def iteP{α:Type}(c:Prop)[Decidable c](x y:α):α:=if c then x else y
def p9(S:TS)(x:Operand)(κ:Bool->TS->Option ρ):Option ρ:=match x with
 | .tmp t=>match en S.env t with
   | .v (.cl (.c (.sc (.bool b))))=>br b (κ true { S with env:=(t,V.sc (.bool true))::S.env }) (κ false { S with env:=(t,V.sc (.bool false))::S.env })
   | _=>none
 | .const (.bool b)=>κ b S
 | _=>none
def sf(v:V)(κ:Int->Option ρ):Option ρ:=match v with | .v (.cl (.c (.sc (.int _ n))))=>κ n| _=>none
def gE(S:TS)(p:dA)(κ: (t:Ty)->List t.D->Option ρ):Option ρ:=match fR S.gh p.r with
 |some (some tr)=>match tr.hole with
  |none=>match p.l with
   | [] =>κ tr.t tr.l
   | [(i,j)] =>(tr.l[i]?).bind λx=>match fR (tr.t.flat x) j with
     |some (.ls t l)=>κ t l
     | _=>none
   | _=>none
  |some _=>none
 | _=>none
def C.ro:C->Cl:=Cl.c
def sy(p:dA)(i j:Nat):C->Cl
 | .sc v=> .c (.sc v)
 | .ls t l=> .own ⟨p.r,p.l++ [(i,j)]⟩ t.width 0 l.length false
def lq{α β:Type}(f:Nat->α->β):Nat->List α->List β
 | _,[] => []
 |n,a::l=>f n a::lq f (n+1) l
def rS(S:TS)(n:Nat)(v:Cl)(κ:List Cl->Option ρ):Option ρ:=match v with
 | .ptrB b j=>match fR S.bx b with
   |some cs=>bif Nat.ble (j+n) cs.length then κ ((cs.drop j).take n) else none
   |none=>none
 | .pro cells=>bif Nat.ble n cells.length then κ ((cells.take n).map Cl.c) else none
 | .ptrT p sz i j=>gE S p λt l=>bif Nat.beq t.width sz&&Nat.ble (j+n) sz then (l[i]?).bind λx=>κ (lq (sy p i) j (((t.flat x).drop j).take n)) else none
 | _=>none
def Bf(ag:Bool)(cs:List Cl)(κ:V->Option ρ):Option ρ:=bif ag then κ (.v (.agg cs)) else match cs with | [c] =>κ (.v (.cl c))| _=>none
def Ty.ag:Ty->Bool| .st _=>true| _=>false
def qK(Θ:ft)(S:TS)(t:TypeId)(v:V)(κ:V->Option ρ):Option ρ:=match eT Θ t with
 |some ti=>match v with | .v (.cl a)=>rS S ti.ty.width a λcs=>Bf ti.ty.ag cs κ| _=>none
 |none=>none
def wu(S:TS)(p:dA)(κ:Int->Option ρ):Option ρ:=match p.l with
 | [] =>(match fR S.gh p.r with |some (some tr)=>κ tr.l.length| _=>none)
 | _=>none
def zz(n:Nat)(i:Int)(S:TS)(v:Cl)(κ:Cl->Option ρ):Option ρ:=match v with
 | .c (.ls t l)=>bif Nat.beq t.width n then iteP (0<=i) ((l[i.toNat]?).bind λx=>κ (.pro (t.flat x))) none else none
 | .own p sz _ _ true=>bif Nat.beq sz n then wu S p λm=>iteP (0<=i/\i<m) (κ (.ptrT p sz i.toNat 0)) none else none
 | .own p sz lo len false=>bif Nat.beq sz n then iteP (0<=i/\i<len) (κ (.ptrT p sz (lo+i.toNat) 0)) none else none
 | _=>none
def xT(S:TS)(v:Cl)(κ:Int->Option ρ):Option ρ:=match v with
 | .c (.ls _ l)=>κ l.length
 | .own p _ _ _ true=>gE S p λ_ l=>κ l.length
 | .own _ _ _ len false=>κ len
 | .em=>κ 0
 | _=>none
def zk(n:Nat)(lo hi:Int)(v:Cl)(κ:Cl->Option ρ):Option ρ:=match v with
 | .em=>iteP (lo=0/\hi=0) (κ .em) none
 | .c (.ls t l)=>bif Nat.beq t.width n then iteP (0<=lo/\lo<=hi/\hi<=l.length) (κ (.c (.ls t ((l.drop lo.toNat).take (hi.toNat-lo.toNat))))) none else none
 | .own p sz l len _=>bif Nat.beq sz n then iteP (0<=lo/\lo<=hi/\hi<=len) (κ (.own p sz (l+lo.toNat) (hi.toNat-lo.toNat) false)) none else none
 | _=>none
def oY(S:TS)(d:Int)(x:Option Operand)(κ:Int->Option ρ):Option ρ:=match x with
 |none=>κ d
 |some x=>sf (S.opd x) κ
def uf:List (Nat×Nat×Bool)->List Cl->List (Nat×V)->Option (List Cl)
 | _,cs,[] =>some cs
 |pl,cs,(k,v)::r=>match fR pl k with
  |some (off,n,_)=>match v with
   | .v x=>match x with
     | .cl .dead=>none
     | .fn _ _=>none
     |x=>bif Nat.beq x.cells.length n&&Nat.ble (off+n) cs.length then uf pl (cs.take off++x.cells++cs.drop (off+n)) r else none
   | _=>none
  |none=>none
def qq:Value->Value->Option Bool
 | .int _ a,.int _ b=>some (a==b)
 | .bool a,.bool b=>some (a==b)
 | _,_=>none
def jv:List Cl->List Cl->Option Bool
 | [],[] =>some true
 | .c (.sc a)::l,.c (.sc b)::m=>match qq a b,jv l m with
   |some x,some y=>some (x&&y)
   | _,_=>none
 | _,_=>none
def eX:List Value->List Cl->Bool
 | [],[] =>true
 | .int k _::zs,.c (.sc (.int k' _))::cs=>bif decide (k=k') then eX zs cs else false
 | .bool _::zs,.c (.sc (.bool _))::cs=>eX zs cs
 | _,_=>false
def V.ints(f:IntKind->Int->Int->Option ρ):V->V->Option ρ
 | .v (.cl (.c (.sc (.int k a)))),.v (.cl (.c (.sc (.int k' b))))=>if k=k' then f k a b else none
 | _,_=>none
def B3(a b:ByteArray):Bool:=a.toList==b.toList
def z7(Θ:ft)(t:TypeId)(x y:V)(κ:Bool->Option ρ):Option ρ:=match x,y with
 | .v (.cl (.c (.sc (.int k a)))),.v (.cl (.c (.sc (.int k' b))))=>if k=k' then κ (a==b) else none
 | .v (.cl (.c (.sc (.bool a)))),.v (.cl (.c (.sc (.bool b))))=>match eT Θ t with
   |some ti=>match ti.ty with | .b=>κ (a==b)| _=>none
   |none=>none
 | .v (.cl (.c (.sc (.string a)))),.v (.cl (.c (.sc (.string b))))=>κ (B3 a b)
 | .v (.agg a),.v (.agg b)=>match eT Θ t with
   |some ti=>bif ti.ty.ag&&ti.ty.flatB&&eX ti.ty.zvs a&&eX ti.ty.zvs b then (match jv a b with |some r=>κ r|none=>none) else none
   |none=>none
 | _,_=>none
def zf(x y:V)(κ:V->Option ρ):Option ρ:=match x,y with
 | .v (.cl (.c (.sc (.string a)))),.v (.cl (.c (.sc (.string b))))=>iteP (a.size+b.size<=2 ^ 40) (κ (V.sc (.string (a++b)))) none
 | _,_=>V.ints (λk a b=>κ (V.sc (.int k (k.wrap (a+b))))) x y
def zj(Θ:ft)(op:BinOp)(t:TypeId)(x y:V)(κ:V->Option ρ):Option ρ:=match op with
 | .lss=>V.ints (λ_ a b=>κ (V.sc (.bool (decide (a<b))))) x y
 | .leq=>V.ints (λ_ a b=>κ (V.sc (.bool (decide (a<=b))))) x y
 | .gtr=>V.ints (λ_ a b=>κ (V.sc (.bool (decide (a>b))))) x y
 | .geq=>V.ints (λ_ a b=>κ (V.sc (.bool (decide (a≥b))))) x y
 | .add=>zf x y κ
 | .sub=>V.ints (λk a b=>κ (V.sc (.int k (k.wrap (a-b))))) x y
 | .mul=>V.ints (λk a b=>κ (V.sc (.int k (k.wrap (a*b))))) x y
 | .quo=>V.ints (λk a b=>if b=0 then none else κ (V.sc (.int k (k.wrap (a.tdiv b))))) x y
 | .rem=>V.ints (λk a b=>if b=0 then none else κ (V.sc (.int k (a.tmod b)))) x y
 | .eql=>z7 Θ t x y λr=>κ (V.sc (.bool r))
 | .neq=>z7 Θ t x y λr=>κ (V.sc (.bool (!r)))
 | _=>none
def qf:List V->Option (List Cl)
 | [] =>some []
 | .v (.cl c)::l=>match qf l with |some r=>some (c::r)|none=>none
 | _=>none
def kv(Θ:ft)(S:TS)(o:Oper)(κ:V->TS->Option ρ):Option ρ:=
 let e:=S.opd
 match o.op with
 | .move x| .assign x=>κ (e x) S
 | .pick c a b=>p9 S c λt S=>bif t then κ (S.opd a) S else κ (S.opd b) S
 | .load t a=>qK Θ S t (e a) (λv=>κ v S)
 | .nilCheck x=>match e x with
   | .v (.cl (.ptrB n j))=>κ (.v (.cl (.ptrB n j))) S
   | .v (.cl (.ptrT p sz i j))=>κ (.v (.cl (.ptrT p sz i j))) S
   | .v (.cl (.pro cs))=>κ (.v (.cl (.pro cs))) S
   | .v (.fn f cs)=>κ (.v (.fn f cs)) S
   | .v (.cl (.c (.sc (.func (.func f) a b))))=>κ (.v (.cl (.c (.sc (.func (.func f) a b))))) S
   | _=>none
 | .fieldAddr t x k=>match eT Θ t with
   |some ti=>match fR ti.fds k with
    |some (off,n,_)=>bif Nat.beq n 0 then none else match e x with
     | .v (.cl (.ptrB b j))=>κ (.v (.cl (.ptrB b (j+off)))) S
     | .v (.cl (.ptrT p sz i j))=>κ (.v (.cl (.ptrT p sz i (j+off)))) S
     | .v (.cl (.pro cs))=>κ (.v (.cl (.pro (cs.drop off)))) S
     | _=>none
    |none=>none
   |none=>none
 | .field t x k=>match eT Θ t with
   |some ti=>match fR ti.fds k with
    |some (off,n,ag)=>match e x with
     | .v (.agg cs)=>bif Nat.ble (off+n) cs.length&&Nat.blt 0 n then Bf ag ((cs.drop off).take n) (λv=>κ v S) else none
     | _=>none
    |none=>none
   |none=>none
 | .indexAddr t x ix=>match eT Θ t with
   |some ti=>match ti.ty with
    | .ls el=>sf (e ix) λi=>match e x with | .v (.cl a)=>zz el.width i S a (λc=>κ (.v (.cl c)) S)| _=>none
    | _=>none
   |none=>none
 | .build t parts=>match eT Θ t with
   |some ti=>bif ti.ty.ag then (match uf ti.fds (ti.ty.zvs.map cC) (parts.toList.map λx=>(x.1,e x.2)) with |some cs=>κ (.v (.agg cs)) S|none=>none) else none
   |none=>none
 | .slice t x lo hi none=>match eT Θ t with
   |some ti=>match ti.ty with
    | .ls el=>match e x with
      | .v (.cl a)=>xT S a λn=>oY S 0 lo λl=>oY S n hi λh=>zk el.width l h a (λc=>κ (.v (.cl c)) S)
      | _=>none
    | _=>none
   |none=>none
 | .convert s d x=>match eT Θ s,eT Θ d with
   |some _,some di=>match di.ty with
    | .i k'=>(match e x with | .v (.cl (.c (.sc (.int _ n))))=>κ (V.sc (.int k' (k'.wrap n))) S| _=>none)
    | _=>none
   | _,_=>none
 | .index t x ix=>match eT Θ t with
   |some ti=>match ti.ty with
    | .s=>(match e x,e ix with | .v (.cl (.c (.sc (.string s)))),.v (.cl (.c (.sc (.int _ i))))=>iteP (0<=i) ((s[i.toNat]?).bind λb=>κ (V.sc (.int .u8 b.toNat)) S) none| _,_=>none)
    | _=>none
   |none=>none
 | .extract x k=>match e x with | .tup vs=>(match fR vs k with |some v=>κ (.v v) S|none=>none)| _=>none
 | .makeFunc (.func f) first caps=>bif first.isEmpty then (match qf (caps.toList.map e) with |some cs=>κ (.v (.fn f cs)) S|none=>none) else none
 | .call { callee:=.builtin .len,args:=as,argTypes:=ts } =>match as.toList,ts.toList with
   | [x],[t] =>match eT Θ t with
     |some ti=>match ti.ty with
      | .ls _=>(match e x with | .v (.cl a)=>xT S a λn=>κ (V.sc (.int .i64 n)) S| _=>none)
      | .s=>(match e x with | .v (.cl (.c (.sc (.string s))))=>κ (V.sc (.int .i64 s.size)) S| _=>none)
      | _=>none
     |none=>none
   | _,_=>none
 | .call { callee:=.builtin .cap,args:=as,argTypes:=ts } =>match as.toList,ts.toList with
   | [x],[t] =>match eT Θ t with
     |some ti=>match ti.ty with
      | .ls _=>(match e x with | .v (.cl .em)=>κ (V.sc (.int .i64 0)) S| _=>none)
      | _=>none
     |none=>none
   | _,_=>none
 | .call { callee:=.builtin .max,args:=as,argTypes:=_ } =>match as.toList with
   | [x,y] =>V.ints (λk a b=>κ (V.sc (.int k (if b>a then b else a))) S) (e x) (e y)
   | _=>none
 | .call { callee:=.builtin .min,args:=as,argTypes:=_ } =>match as.toList with
   | [x,y] =>V.ints (λk a b=>κ (V.sc (.int k (if b<a then b else a))) S) (e x) (e y)
   | _=>none
 | .binOp op t x y _=>zj Θ op t (e x) (e y) (λv=>κ v S)
 | .unOp .neg _ x=>match e x with | .v (.cl (.c (.sc (.int k n))))=>κ (V.sc (.int k (k.wrap (0-n)))) S| _=>none
 | .unOp .not _ x=>match e x with | .v (.cl (.c (.sc (.bool b))))=>κ (V.sc (.bool (!b))) S| _=>none
 | _=>none
end
end
section
open Go
def C.av:C->AV
 | .sc v=> .sc v
 | .ls t l=> .ro t.width (l.map t.row)
def Cl.av:Cl->AV
 | .c x=>x.av
 | .em=> .em
 | .own p sz lo len _=> .own p sz lo len
 | .pro cs=> .pro (cs.map C.tree)
 | .ptrB n j=> .ptrB n j
 | .ptrT p sz i j=> .ptrT p sz i j
 | .dead=> .dead
def V1.av:V1->AV
 | .cl x=>x.av
 | .agg cs=> .agg (cs.map Cl.av)
 | .fn f cs=> .fn f (cs.map Cl.av)
def V.av:V->AV
 | .v x=>x.av
 | .tup l=> .tup (l.map V1.av)
def dw.tree(x:dw):T:=match x.hole with
 |none=> .sl x.t.width (x.l.map x.t.row)
 |some (i,j)=> .sl x.t.width ((x.l.map x.t.row).set i (((x.l.map x.t.row).getD i []).set j .dd))
def dI(G:List (Option dw))(r:Nat):Option dw:=(fR G r).getD none
def TS.st(S:TS):St where
 env:=λt=>(en S.env t).av
 bx:=λn=>(fR S.bx n).map λcs=>cs.map Cl.av
 gh:=λr=>(dI S.gh r).map dw.tree
 nb:=S.bx.length
 ng:=S.gh.length
 fz:=S.fz
 orc:=none
 nt:=S.nt
structure kA where
 f:FuncId->List V1->(ρ:Type)->(V->List dw->Option ρ)->Option ρ
 kd:FuncId->Nat
instance:CoeFun kA λ_=>FuncId->List V1->(ρ:Type)->(V->List dw->Option ρ)->Option ρ:=⟨kA.f⟩
def eu:Nat:=1048576
def qU:Nat:=eu+eu
def tT:Nat:=qU+eu
def l9(g:Nat):Nat:=g+eu
def n9(g:Nat):Nat:=g+qU
def np(g:Nat):Nat:=g+tT
def pJ(n:Nat):Cl->Cl
 | .own p sz lo len w=> .own ⟨p.r+n,p.l⟩ sz lo len w
 | .ptrT p sz i j=> .ptrT ⟨p.r+n,p.l⟩ sz i j
 | .c (.sc v)=> .c (.sc v)
 | _=> .dead
def jG(n:Nat):V1->V1
 | .agg cs=> .agg (cs.map (pJ n))
 | .cl c=> .cl (pJ n c)
 | .fn _ _=> .cl .dead
def gQ(n:Nat):V->V
 | .tup vs=> .tup (vs.map (jG n))
 | .v x=> .v (jG n x)
def ma:Cl->Cl
 | .own p sz lo len w=>bif Nat.ble 1 p.r then .own ⟨p.r-1,p.l⟩ sz lo len w else .dead
 | .ptrT p sz i j=>bif Nat.ble 1 p.r then .ptrT ⟨p.r-1,p.l⟩ sz i j else .dead
 | .c (.sc v)=> .c (.sc v)
 | _=> .dead
def qP:V1->V1
 | .agg cs=> .agg (cs.map ma)
 | .cl c=> .cl (ma c)
 | .fn _ _=> .cl .dead
def vR:V->V
 | .tup vs=> .tup (vs.map qP)
 | .v x=> .v (qP x)
def dH{α:Type}:List α->Nat->α->List α
 | [],_,_=> []
 |a::l,n,x=>bif Nat.beq n 0 then x::l else a::dH l (n-1) x
def jb(t t':Ty)(l:List t.D):Option (List t'.D):=if h:t=t' then some (h ▸ l) else none
def gl(r j:Nat):Cl->Cl
 | .own p sz lo len w=>match p.l with | (_,j')::_=>bif Nat.beq p.r r&&Nat.beq j j' then .dead else .own p sz lo len w| [] => .own p sz lo len w
 | .ptrT p sz a b=>match p.l with | (_,j')::_=>bif Nat.beq p.r r&&Nat.beq j j' then .dead else .ptrT p sz a b| [] => .ptrT p sz a b
 |c=>c
def ia(r j:Nat):V1->V1
 | .cl c=> .cl (gl r j c)
 | .agg cs=> .agg (cs.map (gl r j))
 | .fn f cs=> .fn f (cs.map (gl r j))
def oy(r j:Nat):V->V
 | .v x=> .v (ia r j x)
 | .tup vs=> .tup (vs.map (ia r j))
def TS.kill(S:TS)(r j:Nat):TS:={ S with env:=S.env.map λx=>(x.1,oy r j x.2),bx:=S.bx.map λcs=>cs.map (gl r j) }
def ev(S:TS)(no j:Nat)(et:Option Ty)(c:Cl):Option (C×TS):=match c,et with
 | .c (.sc v),none=>some (.sc v,S)
 | .em,some t=>some (.ls t [],S.kill no j)
 | .own p sz _ _ true,some t=>match p.l with
   | [] =>bif Nat.beq t.width sz&&Nat.ble S.fz p.r&& !(Nat.beq p.r no) then match fR S.gh p.r with
     |some (some tr)=>match tr.hole with
      |none=>bif Nat.beq tr.t.width sz then some (.ls tr.t tr.l,{ S with gh:=dH S.gh p.r none }.kill no j) else none
      |some _=>none
     | _=>none else none
   | _=>none
 | _,_=>none
def gm(no:Nat):Nat->TS->List (Option Ty)->List Cl->Option (List C×TS)
 |j,S,et::ets,c::cs=>match ev S no j et c with
  |some (x,S1)=>match gm no (j+1) S1 ets cs with
   |some (xs,S2)=>some (x::xs,S2)
   |none=>none
  |none=>none
 | _,S,[],[] =>some ([],S)
 | _,_,_,_=>none
def B5(et:Option Ty)(v:Value):C:=match et with |some t=> .ls t [] |none=> .sc v
def Ty.zcs(t:Ty):List C:=List.zipWith B5 t.csh t.zvs
def zM:List Cl->Option (List C)
 | [] =>some []
 | .c (.sc v)::l=>match zM l with |some r=>some (.sc v::r)|none=>none
 | _=>none
section
variable {ρ:Type}
def qS{α β:Type}(f:α->(β->Option ρ)->Option ρ):List α->(List β->Option ρ)->Option ρ
 | [],κ=>κ []
 |a::l,κ=>f a λb=>qS f l λbs=>κ (b::bs)
def sO(Θ:ft)(S:TS)(t:TypeId)(a v:V)(κ:TS->Option ρ):Option ρ:=match eT Θ t with
 |none=>none
 |some ti=>match v with
  | .tup _=>none
  | .v (.cl .dead)=>none
  | .v (.fn _ _)=>none
  | .v x=>bif Nat.beq x.cells.length ti.ty.width then match a with
    | .v (.cl (.ptrB b j))=>match fR S.bx b with
      |some cs=>bif Nat.ble (j+x.cells.length) cs.length then κ { S with bx:=dH S.bx b (cs.take j++x.cells++cs.drop (j+x.cells.length)) } else none
      |none=>none
    | .v (.cl (.ptrT p sz i j))=>match p.l with
      | [] =>match fR S.gh p.r with
        |some (some tr)=>bif Nat.beq tr.t.width sz&&Nat.ble (j+ti.ty.width) sz&&Nat.beq x.cells.length ti.ty.width then
         bif ti.ty.flatB then
          match tr.hole,zM x.cells with
          |none,some vs=>(tr.l[i]?).bind λy=>match tr.t.unflat ((tr.t.flat y).take j++vs++(tr.t.flat y).drop (j+ti.ty.width)) with
           |some z=>κ { S with gh:=dH S.gh p.r (some ⟨tr.t,tr.l.set i z,none⟩) }
           |none=>none
          | _,_=>none
         else bif Nat.ble S.fz p.r then match gm p.r j S ti.ty.csh x.cells with
          |some (vs,S1)=>(tr.l[i]?).bind λy=>match tr.t.unflat ((tr.t.flat y).take j++vs++(tr.t.flat y).drop (j+ti.ty.width)) with
           |some z=>match tr.hole with
            |none=>κ { S1 with gh:=dH S1.gh p.r (some ⟨tr.t,tr.l.set i z,none⟩) }
            |some (i0,j0)=>bif Nat.beq j j0&&Nat.beq ti.ty.width 1 then iteP (i=i0) (κ { S1 with gh:=dH S1.gh p.r (some ⟨tr.t,tr.l.set i z,none⟩) }) none else none
           |none=>none
          |none=>none else none
         else none
        | _=>none
      | _=>none
    | _=>none
    else none
def wR(S:TS)(et:Option Ty)(c:Cl)(κ:Cl->Option ρ):Option ρ:=match c with
 | .c x=>κ (.c x)
 | .em=>match et with |some t=>κ (.c (.ls t []))|none=>none
 | .own p sz _ _ true=>gE S p λt l=>bif Nat.beq t.width sz then κ (.c (.ls t l)) else none
 | .own p sz lo len false=>gE S p λt l=>bif Nat.beq t.width sz then iteP (lo+len<=l.length) (κ (.c (.ls t ((l.drop lo).take len)))) none else none
 | .pro cs=>κ (.pro cs)
 | .ptrT p sz i j=>gE S p λt l=>bif Nat.beq t.width sz then (l[i]?).bind λx=>κ (.pro ((t.flat x).drop j)) else none
 | .ptrB b j=>match fR S.bx b with
   |some cs=>qS (λc κ=>match c with
    | .c x=>κ x
    | .own p sz _ _ true=>gE S p λt l=>bif Nat.beq t.width sz then κ (.ls t l) else none
    | _=>none) (cs.drop j) λcs=>κ (.pro cs)
   |none=>none
 | .dead=>κ .dead
def yg(S:TS):List (Option Ty)->List Cl->(List Cl->Option ρ)->Option ρ
 |et::ets,c::cs,κ=>wR S et c λc'=>yg S ets cs λcs'=>κ (c'::cs')
 | [],[],κ=>κ []
 | _,_,_=>none
def BB(Θ:ft)(S:TS)(t:TypeId)(v:V)(κ:V1->Option ρ):Option ρ:=match v with
 | .tup _=>none
 | .v (.fn f cs)=>qS (wR S none) cs λcs'=>κ (.fn f cs')
 | .v (.agg cs)=>match eT Θ t with |some ti=>yg S ti.ty.csh cs λcs'=>κ (.agg cs')|none=>none
 | .v (.cl .em)=>κ (.cl .em)
 | .v (.cl c)=>match eT Θ t with |some ti=>wR S (ti.ty.csh.headD none) c λc'=>κ (.cl c')|none=>wR S none c λc'=>κ (.cl c')
def jO(Θ:ft)(S:TS):List TypeId->List Operand->(List V1->Option ρ)->Option ρ
 |t::ts,a::as,κ=>BB Θ S t (S.opd a) λv=>jO Θ S ts as λvs=>κ (v::vs)
 | [],[],κ=>κ []
 | _,_,_=>none
def te(Θ:ft)(Y:kA)(S:TS)(f:Operand)(ts:List TypeId)(as:List Operand)(κ:V->TS->Option ρ):Option ρ:=match S.opd f with
 | .v (.cl (.c (.sc (.func (.func g) _ _))))=>bif Nat.blt g eu then jO Θ S ts as λvs=>Y g vs ρ λres out=>κ (gQ S.gh.length res) { S with gh:=S.gh++out.map some } else none
 | .v (.fn g caps)=>bif Nat.blt g eu then jO Θ S ts as λvs=>qS (wR S none) caps λcs=>Y g (vs++cs.map .cl) ρ λres out=>κ (gQ S.gh.length res) { S with gh:=S.gh++out.map some } else none
 | _=>none
def wB(S:TS)(el:Ty)(v:Cl)(κ:List el.D->TS->Option ρ):Option ρ:=match v with
 | .em=>κ [] S
 | .c (.ls t l)=>bif el.flatB then match jb t el l with |some l=>κ l S|none=>none else none
 | .own p sz lo len w=>bif Nat.beq el.width sz then (bif el.flatB then gE S p λt l=>match jb t el l with
   |some l=>bif w then κ l S else iteP (lo+len<=l.length) (κ ((l.drop lo).take len) S) none
   |none=>none
   else match p.l with
   | [] =>bif w&&Nat.ble S.fz p.r then gE S p λt l=>match jb t el l with |some l=>κ l { S with gh:=dH S.gh p.r none } |none=>none else none
   | _=>none) else none
 | _=>none
def pY(S:TS)(el:Ty)(v:Cl)(more:List el.D)(κ:List el.D->TS->Option ρ):Option ρ:=match v with
 | .em=>κ more S
 | .own p sz lo len w=>bif Nat.ble S.fz p.r&&Nat.beq el.width sz then match p.l with
   | [] =>gE S p λt l=>match jb t el l with
     |some l=>bif w then κ (l++more) { S with gh:=dH S.gh p.r none }
      else iteP (lo=0) (iteP (l.length<len) none (κ (l.take len++more) { S with gh:=dH S.gh p.r none })) none
     |none=>none
   | [(i,j)] =>match fR S.gh p.r with
     |some (some tr)=>match tr.hole with
      |none=>gE S p λt l=>match jb t el l with
       |some l=>iteP (lo=0) (iteP (l.length<len) none (κ (l.take len++more) { S with gh:=dH S.gh p.r (some ⟨tr.t,tr.l,some (i,j)⟩) })) none
       |none=>none
      |some _=>none
     | _=>none
   | _=>none else none
 | _=>none
def wZ(Θ:ft)(S:TS)(t:TypeId)(s x:V)(κ:V->TS->Option ρ):Option ρ:=match eT Θ t with
 |some ti=>match ti.ty,s,x with
  | .ls el,.v (.cl s),.v (.cl x)=>wB S el x λmore S1=>pY S1 el s more λl S2=>iteP (l.length*ti.el<=2 ^ 40) (κ (.v (.cl (.own ⟨S2.gh.length,[]⟩ el.width 0 l.length true))) { S2 with gh:=S2.gh++ [some ⟨el,l,none⟩] }) none
  | _,_,_=>none
 |none=>none
def z8:List Nat->List Nat->Bool
 | [],[] =>true
 |a::l,b::m=>bif Nat.beq a b then z8 l m else false
 | _,_=>false
def ig(el:Ty):TS->List V->Option (List el.D×TS)
 |S,[] =>some ([],S)
 |S,.v x::r=>match gm S.gh.length 0 S el.csh x.cells with
  |some (vs,S1)=>match el.unflat vs,ig el S1 r with
   |some y,some (ys,S2)=>some (y::ys,S2)
   | _,_=>none
  |none=>none
 | _,_=>none
def sj:Cl->Bool| .c (.ls _ _)=>true| _=>false
def mZ:V->Bool| .v x=>x.cells.any sj| _=>false
def fM:List (Option Ty)->List Cl->Option (List C)
 | _::ets,.c x::cs=>(match fM ets cs with |some r=>some (x::r)|none=>none)
 |some t::ets,.em::cs=>(match fM ets cs with |some r=>some (.ls t []::r)|none=>none)
 | [],[] =>some []
 | _,_=>none
def gO(el:Ty):List V->Option (List el.D)
 | [] =>some []
 | .v x::r=>(match fM el.csh x.cells with
   |some xs=>(match el.unflat xs,gO el r with |some y,some ys=>some (y::ys)| _,_=>none)
   |none=>none)
 | _=>none
def yX(Θ:ft)(S:TS)(t:TypeId)(s x:V)(κ:V->TS->Option ρ):Option ρ:=match eT Θ t with
 |some ti=>match ti.ty,s with
  | .ls el,.v (.cl .em)=>sf x λn=>match el.unflat el.zcs with
    |some z=>iteP (0<n/\n*ti.el<=2 ^ 40) (κ (.v (.cl (.own ⟨S.gh.length,[]⟩ el.width 0 n.toNat true))) { S with gh:=S.gh++ [some ⟨el,List.replicate n.toNat z,none⟩] }) none
    |none=>none
  | _,_=>none
 |none=>none
def AH(t:Ty)(l:List t.D)(sz lo len:Nat)(κ:ByteArray->Option ρ):Option ρ:=match t,l with
 | .i .u8,l=>bif Nat.beq sz 1 then iteP (0<len/\lo+len<=l.length) (κ (zO ((l.drop lo).take len))) none else none
 | _,_=>none
def iZ(Θ:ft)(Y:kA)(S:TS)(o:Oper)(κ:V->TS->Option ρ):Option ρ:=
 let e:=S.opd
 match o.op with
 | .alloc t=>match eT Θ t with |some ti=>κ (.v (.cl (.ptrB S.bx.length 0))) { S with bx:=S.bx++ [ti.ty.zvs.map cC] } |none=>none
 | .box _ x=>match e x with
   | .v (.cl .dead)=>none
   | .v (.cl c)=>κ (.v (.cl (.ptrB S.bx.length 0))) { S with bx:=S.bx++ [[c]] }
   | .v (.agg cs)=>κ (.v (.cl (.ptrB S.bx.length 0))) { S with bx:=S.bx++ [cs] }
   | _=>none
 | .store t a x=>sO Θ S t (e a) (e x) λS'=>κ V.dead S'
 | .makeSlice t l c=>match eT Θ t with
   |some ti=>match ti.ty with
    | .ls el=>sf (e l) λn=>sf (e c) λm=>match el.unflat el.zcs with
      |some z=>iteP (0<=n/\n=m/\n*ti.el<=2 ^ 40) (κ (.v (.cl (.own ⟨S.gh.length,[]⟩ el.width 0 n.toNat true))) { S with gh:=S.gh++ [some ⟨el,List.replicate n.toNat z,none⟩] }) none
      |none=>none
    | _=>none
   |none=>none
 | .buildSlice t len parts=>match eT Θ t with
   |some ti=>match ti.ty with
    | .ls el=>bif Nat.ble (len*el.width) 1048576&&z8 (parts.toList.map (·.1)) (List.range len) then (bif (parts.toList.map λx=>e x.2).any mZ then (match gO el (parts.toList.map λx=>e x.2) with |some l=>κ (.v (.cl (.c (.ls el l)))) S|none=>none) else match ig el S (parts.toList.map λx=>e x.2) with
      |some (l,S1)=>κ (.v (.cl (.own ⟨S1.gh.length,[]⟩ el.width 0 l.length true))) { S1 with gh:=S1.gh++ [some ⟨el,l,none⟩] }
      |none=>none) else none
    | _=>none
   |none=>none
 | .call { callee:=.builtin .append,args:=as,argTypes:=ts } =>match as.toList,ts.toList with
   | [s,x],[t,t'] =>bif Nat.beq t t' then wZ Θ S t (e s) (e x) κ else yX Θ S t (e s) (e x) κ
   | _,_=>none
 | .call { callee:=.value f,args:=as,argTypes:=ts } =>te Θ Y S f ts.toList as.toList κ
 | .convert s d x=>match e x with
   | .v (.cl (.own p sz lo len _))=>match eT Θ s,eT Θ d with
     |some si,some di=>match si.ty,di.ty with
      | .ls (.i .u8),.s=>gE S p λt l=>AH t l sz lo len λb=>κ (V.sc (.string b)) S
      | _,_=>none
     | _,_=>none
   | _=>kv Θ S o κ
 | _=>kv Θ S o κ
def gp(S:TS)(d:Option Tmp)(v:V)(κ:TS->Option ρ):Option ρ:=match d with
 |some t=>bif Nat.blt t S.nt then κ { S with env:=(t,v)::S.env } else none
 |none=>κ S
def ub(S:TS)(all:List Oper)(o:Oper)(κ:Bool->TS->Option ρ):Option ρ:=match o.guard with
 |none=>κ true S
 |some (j,want)=>match fR all j with
  |some oj=>match oj.dst with
   |some d=>match en S.env d with
    | .tup [] =>κ false S
    | _=>p9 S (.tmp d) λb S1=>κ (b==want) S1
   |none=>none
  |none=>none
noncomputable def wY{α:Type}(x y:α)(z:α):α:=open Classical in if x=y then x else z
def zI{α β:Type}(l:List α)(x y:β):β:=match l with | [] =>x| _::_=>y
def mn(o:Oper):Option (TypeId×Operand):=match o.op with
 | .binOp .eql t x (.const (.slice none 0 0)) _=>(match o.guard with |none=>some (t,x)|some _=>none)
 | _=>none
def Ar(Θ:ft)(t:TypeId):Bool:=match eT Θ t with |some ti=>(match ti.ty with | .ls _=>true| _=>false)|none=>false
inductive oT where
 |own (r sz:Nat)
 |pt (r sz:Nat)
 |nest (r i j sz lo len:Nat)
 |agg (cs:List Cl)
def lp:V->Option oT
 | .v (.cl (.own ⟨r,[]⟩ sz _ _ true))=>some (.own r sz)
 | .v (.cl (.ptrT ⟨r,[]⟩ sz 0 0))=>some (.pt r sz)
 | .v (.cl (.own ⟨r,[(i,j)]⟩ sz lo len _))=>some (.nest r i j sz lo len)
 | .v (.agg cs)=>some (.agg cs)
 | _=>none
def oT.fit(k:Nat):oT->Bool
 | .own _ _=>Nat.beq k 1||Nat.beq k 2
 | .pt _ _=>Nat.beq k 3
 | _=>Nat.beq k 1
def mX(Y:kA)(S:TS)(o:Oper):Option (Nat×FuncId×List Cl×oT×List TypeId×List Operand):=match o.op with
 | .call { callee:=.value f,args:=as,argTypes:=ts } =>(match as.toList,ts.toList with
   |x::xs,_::us=>(match lp (S.opd x) with
    |some a=>(match S.opd f with
     | .v (.cl (.c (.sc (.func (.func g) _ _))))=>bif Nat.blt g eu&&a.fit (Y.kd g) then some (Y.kd g,g,[],a,us,xs) else none
     | .v (.fn g caps)=>bif Nat.blt g eu&&a.fit (Y.kd g) then some (Y.kd g,g,caps,a,us,xs) else none
     | _=>none)
    |none=>none)
   | _,_=>none)
 | _=>none
def xY:V->Bool
 | .v (.cl (.c (.sc _)))=>true
 | .tup [] =>true
 | _=>false
def jz(S:TS):List Cl->Option (List C×List Nat)
 | [] =>some ([],[])
 | .c (.sc v)::cs=>(match jz S cs with |some (xs,L)=>some (.sc v::xs,L)|none=>none)
 | .own ⟨r,[]⟩ sz _ _ true::cs=>(match dI S.gh r with
   |some ⟨el,l,none⟩=>bif Nat.beq sz el.width then (match jz S cs with |some (xs,L)=>some (.ls el l::xs,r::L)|none=>none) else none
   | _=>none)
 | _=>none
def yI(G:List (Option dw))(L:List Nat):List (Option dw):=L.foldl (λG r=>dH G r none) G
def mC(S:TS):List Nat->List dw->(TS->Option ρ)->Option ρ
 | [],[],κ=>κ S
 |r::L,⟨t,l',none⟩::out,κ=>(match dI S.gh r with
  |some ⟨el,l,none⟩=>bif decide (t=el) then iteP (l'.length=l.length) (mC { S with gh:=dH S.gh r (some ⟨t,l',none⟩) } L out κ) none else none
  | _=>none)
 | _,_,_=>none
def kO(Θ:ft)(S:TS)(us:List TypeId)(xs:List Operand)(caps:List Cl)(κ:List V1->Option ρ):Option ρ:=jO Θ S us xs λvs=>qS (wR S none) caps λks=>κ (vs++ks.map .cl)
def tY(S:TS)(r:Nat)(el:Ty)(l:List el.D)(res:V)(out:List dw)(dst:Option Tmp)(κ:TS->Option ρ):Option ρ:=match out with
 | ⟨t,l',none⟩::more=>bif decide (t=el) then iteP (l'.length=l.length) (gp { S with gh:=dH S.gh r (some ⟨t,l',none⟩)++more.map some } dst (gQ S.gh.length (vR res)) κ) none else none
 | _=>none
def mW(Θ:ft)(Y:kA)(S:TS)(k:Nat)(g:FuncId)(caps:List Cl)(a:oT)(us:List TypeId)(xs:List Operand)(dst:Option Tmp)(κ:TS->Option ρ):Option ρ:=match a with
 | .own r sz=>(match dI S.gh r with
   |some ⟨el,l,none⟩=>bif Nat.beq sz el.width then kO Θ { S with gh:=dH S.gh r none } us xs caps λvs=>
    bif Nat.beq k 1 then Y (l9 g) (.cl (.c (.ls el l))::vs) ρ λres out=>tY S r el l res out dst κ
    else bif Nat.ble S.fz r then Y (n9 g) (.cl (.c (.ls el l))::vs) ρ λres out=>gp { S with gh:=dH S.gh r none++out.map some } dst (gQ S.gh.length res) κ
    else none else none
   | _=>none)
 | .pt r sz=>(match dI S.gh r with
   |some ⟨el,l,none⟩=>bif Nat.beq sz el.width then kO Θ { S with gh:=dH S.gh r none } us xs caps λvs=>Y (np g) (.cl (.c (.ls el l))::vs) ρ λres out=>tY S r el l res out dst κ else none
   | _=>none)
 | .agg cs=>(match jz S cs with
   |some (ys,L)=>bif zH L then kO Θ { S with gh:=yI S.gh L } us xs caps λvs=>Y (l9 g) (.agg (ys.map .c)::vs) ρ λres out=>bif xY res then mC S L out λS3=>gp S3 dst res κ else none else none
   |none=>none)
 | .nest r i j sz lo len=>(match dI S.gh r with
   |some ⟨t,l,none⟩=>(l[i]?).bind λy=>(match fR (t.flat y) j with
    |some (.ls el v)=>bif Nat.beq sz el.width then iteP (lo=0/\len=v.length) (kO Θ { S with gh:=dH S.gh r (some ⟨t,l,some (i,j)⟩) } us xs caps λvs=>
     Y (l9 g) (.cl (.c (.ls el v))::vs) ρ λres out=>(match out with
       | [⟨t',v',none⟩] =>bif decide (t'=el)&&xY res then iteP (v'.length=v.length) (match t.unflat (dH (t.flat y) j (.ls t' v')) with
         |some z=>gp { S with gh:=dH S.gh r (some ⟨t,l.set i z,none⟩) } dst res κ
         |none=>none) none else none
       | _=>none)) none else none
    | _=>none)
   | _=>none)
def o5(S:TS)(o:Oper):Option (TypeId×Nat×Nat×Nat×Nat):=match o.op with
 | .call { callee:=.builtin .clear,args:=as,argTypes:=ts } =>(match o.guard with
   |some _=>none
   |none=>match as.toList,ts.toList with
    | [x],[t] =>(match S.opd x with
      | .v (.cl (.own ⟨r,[]⟩ sz lo len _))=>some (t,r,sz,lo,len)
      | _=>none)
    | _,_=>none)
 | _=>none
def rT(Θ:ft)(S:TS)(t:TypeId)(r sz lo len:Nat)(dst:Option Tmp)(κ:TS->Option ρ):Option ρ:=match eT Θ t with
 |some ti=>match dI S.gh r with
  |some ⟨el,l,none⟩=>bif decide (ti.ty= .ls el)&&Nat.beq el.width 1&&Nat.beq sz 1&&el.flatB then (match el.unflat el.zcs with
   |some z=>iteP (lo+len<=l.length) (gp { S with gh:=dH S.gh r (some ⟨el,l.take lo++List.replicate len z++l.drop (lo+len),none⟩) } dst (.tup []) κ) none
   |none=>none) else none
  | _=>none
 |none=>none
def qa(b:Bool):V:=.v (.cl (.c (.sc (.bool b))))
noncomputable def mQ(Θ:ft)(Y:kA)(all:List Oper):List Oper->TS->(TS->Option ρ)->Option ρ
 | [],S,κ=>κ S
 |o::os,S,κ=>match mn o with
  |some (t,x)=>bif Ar Θ t then (match S.opd x with
   | .v (.cl (.c (.ls _ l)))=>zI l (wY (gp S o.dst (qa true) λS3=>mQ Θ Y all os S3 κ) (gp S o.dst (qa false) λS3=>mQ Θ Y all os S3 κ) none) (gp S o.dst (qa false) λS3=>mQ Θ Y all os S3 κ)
   | _=>none) else none
  |none=>match o5 S o with
  |some (t,r,sz,lo,len)=>rT Θ S t r sz lo len o.dst λS3=>mQ Θ Y all os S3 κ
  |none=>ub S all o λb S1=>bif b then (match mX Y S1 o with
   |some (k,g,caps,a,us,xs)=>mW Θ Y S1 k g caps a us xs o.dst λS3=>mQ Θ Y all os S3 κ
   |none=>iZ Θ Y S1 o λv S2=>gp S2 o.dst v λS3=>mQ Θ Y all os S3 κ) else gp S1 o.dst (V.tup []) λS3=>mQ Θ Y all os S3 κ
def gone:Nat->List (Option dw)->List (Option dw)->List Nat
 |n,some _::l,none::m=>n::gone (n+1) l m
 |n,_::l,_::m=>gone (n+1) l m
 | _,_,_=> []
def wJ(l:List (Option dw)):List T:=l.map λx=>match x with |some tr=>tr.tree|none=> .dd
def j8(S S':TS):ej:=⟨S.gh.length,wJ (S'.gh.drop S.gh.length),gone 0 S.gh S'.gh⟩
def yS(d:Nat)(o:Oper):Bool:=match o.dst with |some d'=> !(Nat.beq d d')|none=>true
def AA(o:Oper)(os:List Oper):Bool:=match o.dst with |some d=>os.all (yS d)|none=>false
def z9(Θ:ft)(t:TypeId):Bool:=match eT Θ t with
 |some ti=>(match ti.ty with | .ls _=>true| _=>false)
 |none=>false
def xG(Θ:ft)(o:Oper):Bool:=match o.op with
 | .buildSlice t _ _=>z9 Θ t
 | .call { callee:=.builtin .append,args:=_,argTypes:=ts } =>(match ts.toList with |t::_=>z9 Θ t| [] =>false)
 | _=>true
def tV:V->Bool
 | .v (.cl (.own p _ _ _ _))=>(match p.l with | [] =>true| _=>false)
 | _=>true
def s9(S:TS)(o:Oper):Bool:=match o.op with
 | .buildSlice _ _ parts=> !(parts.toList.map λx=>S.opd x.2).any mZ
 | .call { callee:=.builtin .append,args:=as,argTypes:=ts } =>(match ts.toList with | [t,t'] =>Nat.beq t t'| _=>true)&&(match as.toList with |s::_=>tV (S.opd s)| [] =>true)
 | _=>true
def v7(Θ:ft):List Oper->TS->(TS->Option ρ)->Option ρ
 | [],S,κ=>κ S
 |o::os,S,κ=>match o.op with
  | .alloc t=>match eT Θ t with |some ti=>v7 Θ os { S with bx:=S.bx++ [ti.ty.zvs.map cC] } κ|none=>none
  | _=>v7 Θ os S κ
def qs(Θ:ft)(Y:kA)(all:List Oper):List Oper->TS->List ej->(TS->List ej->Option ρ)->Option ρ
 | [],S,ms,κ=>κ S ms
 |o::os,S,ms,κ=>bif dh o then qs Θ Y all os S (ms++ [⟨S.gh.length,[],[]⟩]) κ else bif dJ o then (bif o.guard.isNone then gp S o.dst (V.v (.cl (.ptrB (S.bx.length-1-dR os) 0))) λS3=>qs Θ Y all os S3 (ms++ [⟨S.gh.length,[],[]⟩]) κ else none) else
   ub S all o λb S1=>bif b then
    (bif dS o then (bif AA o os&&xG Θ o&&s9 S1 o then iZ Θ Y S1 o λv S2=>gp S2 o.dst v λS3=>qs Θ Y all os S3 (ms++ [j8 S1 S2]) κ else none)
    else kv Θ S1 o λv S2=>gp S2 o.dst v λS3=>qs Θ Y all os S3 (ms++ [⟨S1.gh.length,[],[]⟩]) κ)
    else gp S1 o.dst (V.tup []) λS3=>qs Θ Y all os S3 (ms++ [⟨S1.gh.length,[],[]⟩]) κ
def vv(Θ:ft)(Y:kA):List Oper->TS->(TS->Option ρ)->Option ρ
 | [],S,κ=>κ S
 |o::os,S,κ=>bif dh o then (bif o.guard.isNone&&o.dst.isNone then iZ Θ Y S o λ_ S1=>vv Θ Y os S1 κ else none) else vv Θ Y os S κ
def tA(Θ:ft)(t:TypeId):Bool:=match eT Θ t with |some ti=>ti.ty.flatB|none=>false
def wz(Θ:ft)(S:TS)(o:Oper):Bool:=match o.op with
 | .store t x _=>(match S.opd x with | .v (.cl (.ptrB _ _))=>true| .v (.cl (.ptrT _ _ _ _))=>tA Θ t| _=>false)
 | _=>false
def pc(Θ:ft)(o:Oper):Bool:=match o.op with
 | .buildSlice t _ _=>(match eT Θ t with |some ti=>(match ti.ty with | .ls el=>el.flatB| _=>false)|none=>false)
 | _=>true
def vB(Θ:ft)(S:TS)(o:Oper)(κ:V->Option ρ):Option ρ:=match o.op with
 | .buildSlice t len parts=>match eT Θ t with
   |some ti=>match ti.ty with
    | .ls el=>bif Nat.ble (len*el.width) 1048576&&z8 (parts.toList.map (·.1)) (List.range len) then (match gO el (parts.toList.map λx=>S.opd x.2) with |some l=>κ (.v (.cl (.c (.ls el l))))|none=>none) else none
    | _=>none
   |none=>none
 | _=>none
def o9(Θ:ft)(Y:kA)(n0:Nat)(ops:List Oper)(B:List (List Nat)):Nat->List Oper->TS->(TS->Option ρ)->Option ρ
 | _,[],S,κ=>κ S
 |k,o::os,S,κ=>match mX Y S o with
  |some (kd,g,caps,a,us,xs)=>mW Θ Y S kd g caps a us xs o.dst λS3=>o9 Θ Y n0 ops B (k+1) os S3 κ
  |none=>bif z6 o then vB Θ S o λv=>gp S o.dst v λS3=>o9 Θ Y n0 ops B (k+1) os S3 κ
   else bif dh o then
    (bif wz Θ S o||(os.isEmpty&&(List.range k).all λj=>(B.getD k []).contains j) then iZ Θ Y S o λv S2=>gp S2 o.dst v λS3=>o9 Θ Y n0 ops B (k+1) os S3 κ else none)
   else bif dS o then iZ Θ Y S o λv S2=>bif (!gD o&&pc Θ o)||(xG Θ o&&s9 S o&&(gX o||(gone 0 S.gh S2.gh).all λr=>Nat.ble n0 r)) then gp S2 o.dst v λS3=>o9 Θ Y n0 ops B (k+1) os S3 κ else none
   else bif sk n0 (Ab S.st ops B k) (v6 S.st ops B k) S.st o then kv Θ S o λv S2=>gp S2 o.dst v λS3=>o9 Θ Y n0 ops B (k+1) os S3 κ else none
def Bg(Y:kA)(o:Oper):Bool:=match o.op with
 | .call { callee:=.value (.func g), .. } =>Nat.beq (Y.kd g) 3
 | _=>false
def zm(Θ:ft)(Y:kA)(ops:List Oper)(S:TS)(κ:TS->Option ρ):Option ρ:=
 bif qh ops.toArray||(ops.any (Bg Y)&&yV ops.toArray) then o9 Θ Y S.gh.length ops (dM ops) 0 ops S κ else
 bif tg ops.toArray then v7 Θ ops S λS0=>qs Θ Y ops ops S0 [] λSV ms=>bif rX (tA Θ) ops (dM ops) S0.st ms SV.st then vv Θ Y ops SV κ else none else none
def eU:Code->Nat
 | .region id _ _=>id
 | .seq a _=>eU a
 | .block _ c=>eU c
 | .loop c=>eU c
 | _=>0
abbrev fH:=Nat->TS->(ρ:Type)->(X->TS->Option ρ)->Option ρ
noncomputable def ld(Θ:ft)(Y:kA)(Λ:fH):Code->TS->(X->TS->Option ρ)->Option ρ
 | .skip,S,κ=>κ .nor S
 | .region _ ops false,S,κ=>mQ Θ Y ops.toList ops.toList S (κ .nor)
 | .region _ ops true,S,κ=>zm Θ Y ops.toList S (κ .nor)
 | .seq a b,S,κ=>ld Θ Y Λ a S λx S1=>match x with | .nor=>ld Θ Y Λ b S1 κ|x=>κ x S1
 | .cond c a b,S,κ=>p9 S c λt S1=>bif t then ld Θ Y Λ a S1 κ else ld Θ Y Λ b S1 κ
 | .block id c,S,κ=>ld Θ Y Λ c S λx S1=>match x with | .ext i=>bif Nat.beq i id then κ .nor S1 else κ (.ext i) S1|x=>κ x S1
 | .loop c,S,κ=>Λ (eU c) S ρ κ
 | .exit id,S,κ=>κ (.ext id) S
 | .ret,S,κ=>κ .ret S
 | _,_,_=>none
def vw(S:TS)(gs:List dw)(et:Option Ty)(c:Cl)(κ:Cl->List dw->TS->Option ρ):Option ρ:=match c,et with
 | .c (.sc v),_=>κ (.c (.sc v)) gs S
 | .em,some t=>κ (.own ⟨gs.length,[]⟩ t.width 0 0 true) (gs++ [⟨t,[],none⟩]) S
 | .own p sz lo len w,some t'=>match p.l with
   | [] =>bif Nat.ble S.fz p.r&&Nat.beq t'.width sz then gE S p λt l=>bif Nat.beq t.width sz then
     (bif w then κ (.own ⟨gs.length,[]⟩ sz 0 l.length true) (gs++ [⟨t,l,none⟩]) { S with gh:=dH S.gh p.r none }
     else iteP (lo=0/\len<=l.length) (κ (.own ⟨gs.length,[]⟩ sz 0 (l.take len).length true) (gs++ [⟨t,l.take len,none⟩]) { S with gh:=dH S.gh p.r none })
      (bif t.flatB&&Nat.ble sz 3 then iteP (lo+len<=l.length) (κ (.own ⟨gs.length,[]⟩ sz 0 ((l.drop lo).take len).length true) (gs++ [⟨t,(l.drop lo).take len,none⟩]) { S with gh:=dH S.gh p.r none }) none else none)) else none
     else none
   | _=>none
 | .ptrT p sz i j,none=>match p.l with
   | [] =>bif Nat.ble S.fz p.r then gE S p λt l=>bif Nat.beq t.width sz then κ (.ptrT ⟨gs.length,[]⟩ sz i j) (gs++ [⟨t,l,none⟩]) { S with gh:=dH S.gh p.r none } else none else none
   | _=>none
 | _,_=>none
def tj:TS->List dw->List (Option Ty)->List Cl->(List Cl->List dw->TS->Option ρ)->Option ρ
 |S,gs,et::ets,c::cs,κ=>vw S gs et c λc' gs' S'=>tj S' gs' ets cs λcs' gs'' S''=>κ (c'::cs') gs'' S''
 |S,gs,[],[],κ=>κ [] gs S
 | _,_,_,_,_=>none
def zn(Θ:ft)(S:TS)(gs:List dw)(t:TypeId)(v:V)(κ:V1->List dw->TS->Option ρ):Option ρ:=match v with
 | .v (.cl (.ptrT p sz i j))=>vw S gs none (.ptrT p sz i j) λc' gs' S'=>κ (.cl c') gs' S'
 |v=>match eT Θ t with
  |none=>none
  |some ti=>match v with
   | .v (.agg cs)=>tj S gs ti.ty.csh cs λcs' gs' S'=>κ (.agg cs') gs' S'
   | .v (.cl c)=>vw S gs (ti.ty.csh.headD none) c λc' gs' S'=>κ (.cl c') gs' S'
   | _=>none
def qu(Θ:ft):TS->List dw->List (TypeId×V)->(List V1->List dw->Option ρ)->Option ρ
 | _,gs,[],κ=>κ [] gs
 |S,gs,(t,v)::r,κ=>zn Θ S gs t v λv' gs' S'=>qu Θ S' gs' r λvs gs''=>κ (v'::vs) gs''
def sB(Θ:ft)(S:TS):List ResultVar->List TypeId->(List (TypeId×V)->Option ρ)->Option ρ
 | .tmp a::rs,t::ts,κ=>sB Θ S rs ts λl=>κ ((t,en S.env a)::l)
 | .cell a t'::rs,t::ts,κ=>qK Θ S t' (en S.env a) λv=>sB Θ S rs ts λl=>κ ((t,v)::l)
 | [],[],κ=>κ []
 | _,_,_=>none
def pA:List V1->V
 | [v] => .v v
 |vs=> .tup vs
def gJ:Nat->List V1->List (Nat×V)
 | _,[] => []
 |n,v::l=>(n,.v v)::gJ (n+1) l
def jK(S:TS):Nat->Nat->Option (List dw)
 | _,0=>some []
 |r,n+1=>(match dI S.gh r with
  |some ⟨t,l,none⟩=>(match jK S (r+1) n with |some ts=>some (⟨t,l,none⟩::ts)|none=>none)
  | _=>none)
noncomputable def Ap(Θ:ft)(Y:kA)(Λ:fH)(fn:Func)(args:List V1)(G:List dw)(m:Nat)(κ:V->List dw->Option ρ):Option ρ:=match fn.body with
 |none=>none
 |some c=>ld Θ Y Λ c { env:=gJ 0 args,bx:=[],gh:=G.map some,fz:=m,nt:=args.length+(fn.ntmps-args.length) } λx S=>match x with
  | .ext _=>none
  | _=>sB Θ S fn.results.toList fn.resultTypes.toList λrs=>match jK S 0 m with
    |some gs=>qu Θ S gs rs λvs gs'=>κ (pA vs) gs'
    |none=>none
noncomputable abbrev Bb(Θ:ft)(Y:kA)(Λ:fH)(fn:Func)(args:List V1)(κ:V->List dw->Option ρ):Option ρ:=Ap Θ Y Λ fn args [] 0 κ
def sQ:List Cl->Option (List C)
 | [] =>some []
 | .c x::l=>match sQ l with |some r=>some (x::r)|none=>none
 | _=>none
def un(t:Ty)(a:V1)(κ:t.D->Option ρ):Option ρ:=match a with
 | .agg cs=>bif t.ag then (match sQ cs with
   |some xs=>(match t.unflat xs with |some x=>κ x|none=>none)
   |none=>none) else none
 | .cl (.c y)=>bif t.ag then none else (match t.unflat [y] with |some x=>κ x|none=>none)
 | _=>none
def km:List C->Nat->List Cl
 | [],_=> []
 | .sc v::r,n=> .c (.sc v)::km r n
 | .ls t l::r,n=> .own ⟨n,[]⟩ t.width 0 l.length true::km r (n+1)
def gr:List C->List dw
 | [] => []
 | .sc _::r=>gr r
 | .ls t l::r=>⟨t,l,none⟩::gr r
def uP(t:Ty)(x:t.D)(n:Nat):V1:=bif t.ag then .agg (km (t.flat x) n) else match km (t.flat x) n with | [c] => .cl c| _=> .cl .dead
def jS:Nat->List ((t:Ty)×t.D)->List V1
 | _,[] => []
 |n,⟨t,x⟩::r=>uP t x n::jS (n+(gr (t.flat x)).length) r
def iX:List ((t:Ty)×t.D)->List dw
 | [] => []
 | ⟨t,x⟩::r=>gr (t.flat x)++iX r
def ret(l:List ((t:Ty)×t.D))(κ:V->List dw->Option ρ):Option ρ:=κ (pA (jS 0 l)) (iX l)
end
abbrev uY:=List V1->(ρ:Type)->(V->List dw->Option ρ)->Option ρ
def zu:List (Nat×uY)->FuncId->List V1->(ρ:Type)->(V->List dw->Option ρ)->Option ρ
 | [],_,_,_,_=>none
 | (g,e)::l,f,as,ρ,κ=>bif Nat.beq g f then e as ρ κ else zu l f as ρ κ
def xM:List (Nat×uY)->Nat->Bool
 | [],_=>false
 | (g,_)::l,f=>bif Nat.beq g f then true else xM l f
def nZ(l:List (Nat×uY)):kA:=⟨zu l,λg=>bif xM l (l9 g) then 1 else bif xM l (n9 g) then 2 else bif xM l (np g) then 3 else 0⟩
noncomputable abbrev vA{ρ:Type}(Θ:ft)(Y:kA)(Λ:fH)(fn:Func)(m:Nat)(el:Ty)(l:List el.D)(args:List V1)(κ:V->List dw->Option ρ):Option ρ:=Ap Θ Y Λ fn (.cl (.own ⟨0,[]⟩ el.width 0 l.length true)::args) [⟨el,l,none⟩] m κ
noncomputable abbrev zq{ρ:Type}(Θ:ft)(Y:kA)(Λ:fH)(fn:Func)(el:Ty)(l:List el.D)(args:List V1)(κ:V->List dw->Option ρ):Option ρ:=Ap Θ Y Λ fn (.cl (.ptrT ⟨0,[]⟩ el.width 0 0)::args) [⟨el,l,none⟩] 1 κ
def sZ(t:Ty)(x:t.D):V1:=bif t.ag then .agg ((t.flat x).map .c) else match (t.flat x).map Cl.c with | [c] => .cl c| _=> .cl .dead
end
section
open Go
theorem dN{α:Type}: ∀ (l:List α) (n:Nat),fR l n=l[n]?
 | [],n=>by simp[fR]
 |a::l,0=>by simp[fR]
 |a::l,n+1=>by show fR l n=_;rw[dN l];simp
theorem dY{α:Type}: ∀ (l:List α) (n:Nat) (x:α),dH l n x=l.set n x
 | [],n,x=>by simp[dH]
 |a::l,0,x=>by simp[dH]
 |a::l,n+1,x=>by show a::dH l n x=_;rw[dY l];simp
theorem qA: ∀ {l:List (Nat×V)} {t:Nat},en l t=V.dead\/(t,en l t)∈l
 | [],t=> .inl rfl
 | (u,v)::l,t=>by
   simp only[en];cases h:Nat.beq u t with
   |true=>have :u=t:=ak h;subst this;exact .inr (aF)
   |false=>
    rcases qA (l:=l) (t:=t) with h'|h'
    ·exact .inl h'
    ·exact .inr (aE _ h')
def Cl.ok(G:List (Option dw)):Cl->Prop
 | .own p _ lo len w=>p.r<G.length/\(w=true->p.l= [] /\lo=0/\ ∀tr,dI G p.r=some tr->len=tr.l.length)
 | .ptrT p _ _ _=>p.r<G.length
 | _=>True
def V1.ok(G:List (Option dw)):V1->Prop
 | .cl c=>c.ok G
 | .agg cs=> ∀c∈cs,c.ok G
 | .fn _ cs=> ∀c∈cs,c.ok G
def V.ok(G:List (Option dw)):V->Prop
 | .v x=>x.ok G
 | .tup l=> ∀x∈l,x.ok G
structure TS.ok (S:TS):Prop where
 env: ∀x∈S.env,x.2.ok S.gh
 bx: ∀cs∈S.bx,∀c∈cs,c.ok S.gh
def ef(G G':List (Option dw)):Prop:=G.length<=G'.length/\ ∀r tr',r<G.length->dI G' r=some tr'-> ∃tr,dI G r=some tr/\tr.l.length=tr'.l.length
theorem ef.refl(G:List (Option dw)):ef G G:=⟨au _,λ_ tr _ h=>⟨tr,h,rfl⟩⟩
theorem ef.trans{G H K:List (Option dw)}(h:ef G H)(k:ef H K):ef G K:=⟨aR h.1 k.1,λr tr hr hK=>by obtain⟨t1,h1,h2⟩:=k.2 r tr (aI hr h.1) hK;obtain⟨t2,h3,h4⟩:=h.2 r t1 hr h1;exact⟨t2,h3,h4.trans h2⟩⟩
theorem Cl.ok_mono{G G':List (Option dw)}(h:ef G G'){c:Cl}(hc:c.ok G):c.ok G':=by
 cases c with
 |own p sz lo len w=>obtain⟨h1,h2⟩:=hc;refine⟨aI h1 h.1,λhw=> ?_⟩;obtain⟨a,b,c⟩:=h2 hw;refine⟨a,b,λtr htr=> ?_⟩;obtain⟨tr0,k1,k2⟩:=h.2 _ tr h1 htr;rw[c tr0 k1,k2]
 |ptrT p sz i j=>exact aI hc h.1
 | _=>trivial
theorem V1.ok_mono{G G':List (Option dw)}(h:ef G G'){v:V1}(hv:v.ok G):v.ok G':=by
 cases v with
 |cl c=>exact Cl.ok_mono h hv
 |agg cs=>exactλc hc=>Cl.ok_mono h (hv c hc)
 |fn f cs=>exactλc hc=>Cl.ok_mono h (hv c hc)
theorem V.ok_mono{G G':List (Option dw)}(h:ef G G'){v:V}(hv:v.ok G):v.ok G':=by
 cases v with
 |v x=>exact V1.ok_mono h hv
 |tup l=>exactλx hx=>V1.ok_mono h (hv x hx)
theorem V.ok_dead(G:List (Option dw)):V.dead.ok G:=trivial
theorem V.ok_sc(G:List (Option dw))(v:Value): (V.sc v).ok G:=trivial
theorem mg{S:TS}(hS:S.ok)(t:Nat): (en S.env t).ok S.gh:=by
 rcases qA (l:=S.env) (t:=t) with h|h
 ·rw[h];trivial
 ·exact hS.env _ h
theorem gg(v:Value): (cC v).av=mp v:=by
 unfold cC mp;split
 ·rfl
 ·rename_i hn;split
  ·exact absurd rfl hn
  ·cases h:fS v<;>rfl
theorem Ag(v:Value): (cV v).av=nQ v:=by
 cases v with
 |agg cs=>
  simp only[cV,nQ];cases h:cs.toList.all Value.oneCell' with
  |true=>simp_all [V.av,V1.av,gg]
  |false=>rfl
 |bool b=>exact gg (.bool b)
 |int k n=>exact gg (.int k n)
 |float k n=>exact gg (.float k n)
 |complex k n m=>exact gg (.complex k n m)
 |string x=>exact gg (.string x)
 |pointer x=>exact gg (.pointer x)
 |slice x y z=>exact gg (.slice x y z)
 |map x=>exact gg (.map x)
 |chan x=>exact gg (.chan x)
 |func x y z=>exact gg (.func x y z)
 |nilFunc=>exact gg .nilFunc
 |iface x y=>exact gg (.iface x y)
 |nilIface=>exact gg .nilIface
 |tuple x=>exact gg (.tuple x)
theorem td(G:List (Option dw))(v:Value): (cC v).ok G:=by
 unfold cC;split
 ·trivial
 ·cases fS _<;>trivial
theorem Ah(G:List (Option dw))(v:Value): (cV v).ok G:=by
 unfold cV;split
 ·rename_i cs;cases cs.toList.all Value.oneCell' with
  |true=>intro c hc;simp only[aB] at hc;obtain⟨x,_,rfl⟩:=hc;exact td _ _
  |false=>trivial
 ·exact td _ _
theorem dt{S:TS}(x:Operand):opd S.st x=(S.opd x).av:=by
 cases x with
 |tmp t=>rfl
 |const v=>exact (Ag v).symm
 |func f=>rfl
 |global g=>rfl
theorem fy{S:TS}(hS:S.ok)(x:Operand): (S.opd x).ok S.gh:=by
 cases x with
 |tmp t=>exact mg hS t
 |const v=>exact Ah _ _
 |func f=>trivial
 |global g=>trivial
section
variable {ρ:Type}
theorem xj{α:Type}{b:Bool}{x y:Option α}{r:α}(h:br b x y=some r): (b=true/\x=some r)\/(b=false/\y=some r):=by
 cases b with
 |true=>exact .inl ⟨rfl,h⟩
 |false=>exact .inr ⟨rfl,h⟩
theorem dE{α:Type}{c:Prop}[Decidable c]{x:Option α}{r:α}(h:iteP c x none=some r):c/\x=some r:=by grind [iteP]
theorem xS{α:Type}{c:Prop}[Decidable c]{x y:Option α}{r:α}(h:iteP c x y=some r):c/\x=some r\/ ¬c/\y=some r:=by grind [iteP]
theorem lx{α:Type}{c:Prop}[Decidable c]{x:Option α}{r:α}(h:iteP c none x=some r): ¬c/\x=some r:=by grind [iteP]
theorem dj{α:Type}{c:Bool}{x:Option α}{r:α}(h: (bif c then x else none)=some r):c=true/\x=some r:=by grind
theorem qI{S:TS}{t:Nat}{b:Bool}(h:en S.env t=V.sc (.bool b)): ({ S with env:=(t,V.sc (.bool b))::S.env }:TS).st=S.st:=by
 unfold TS.st;simp only
 congr 1
 funext u
 simp only[en];cases hb:Nat.beq t u with
 |true=>simp_all
 |false=>rfl
theorem qH{S:TS}(hS:S.ok)(t:Nat)(b:Bool): ({ S with env:=(t,V.sc (.bool b))::S.env }:TS).ok:=
 ⟨λx hx=>by
  simp only[aU] at hx;rcases hx with rfl|hx
  ·trivial
  ·exact hS.env x hx,hS.bx⟩
theorem mE{S:TS}(hS:S.ok){x:Operand}{κ:Bool->TS->Option ρ}{r:ρ}(h:p9 S x κ=some r):
  ∃b S',opd S.st x= .sc (.bool b)/\S'.st=S.st/\S'.ok/\S'.gh=S.gh/\κ b S'=some r:=by
 unfold p9 at h;split at h
 ·rename_i t;split at h
  ·rename_i b hb;rcases xj h with ⟨rfl,h⟩| ⟨rfl,h⟩
   ·exact⟨true,_,by show (en S.env t).av=_;rw[hb];rfl,qI hb,qH hS _ _,rfl,h⟩
   ·exact⟨false,_,by show (en S.env t).av=_;rw[hb];rfl,qI hb,qH hS _ _,rfl,h⟩
  ·cases h
 ·rename_i b;exact⟨b,S,rfl,rfl,hS,rfl,h⟩
 ·cases h
theorem iH{v:V}{κ:Int->Option ρ}{r:ρ}(h:sf v κ=some r): ∃n,lw v.av=some n/\κ n=some r:=by
 unfold sf at h;split at h
 ·exact⟨_,rfl,h⟩
 ·cases h
theorem dw.look{G:List (Option dw)}{r:Nat}{tr:dw}(h:fR G r=some (some tr)):dI G r=some tr:=by unfold dI;rw[h];rfl
theorem dW{S:TS}{p:dA}{κ: (t:Ty)->List t.D->Option ρ}{r:ρ}(h:gE S p κ=some r):
  ∃ (t:Ty) (l:List t.D),S.st.look p= .sl t.width (l.map t.row)/\(p.l= [] ->dI S.gh p.r=some ⟨t,l,none⟩)/\κ t l=some r:=by
 unfold gE at h;split at h
 ·rename_i tr htr;have hg:=dw.look htr;split at h
  ·rename_i hh;obtain⟨t,l,hole⟩:=tr;simp only at hh;subst hh;split at h
   ·rename_i hp;refine⟨t,l,?_,λ_=>hg,h⟩;unfold St.look;have :S.st.gh p.r=some (.sl t.width (l.map t.row)):=by show (dI S.gh p.r).map dw.tree=_;rw[hg];rfl
    rw[this,hp];rfl
   ·rename_i i j hp;simp only[af] at h;obtain⟨x,hx,h⟩:=h;split at h
    ·rename_i t' l' hj;refine⟨t',l',?_,(λh0=>by rw[hp] at h0;cases h0),h⟩;unfold St.look;have :S.st.gh p.r=some (.sl t.width (l.map t.row)):=by show (dI S.gh p.r).map dw.tree=_;rw[hg];rfl
     rw[this,hp];simp only[T.go,T.cell];have e1: (l.map t.row).getD i [] =t.row x:=by simp[ax,hx]
     rw[e1,t.row_flat]
     grind [dN,C.tree]
    ·cases h
   ·cases h
  ·cases h
 ·cases h
end
end
section
open Go
def Ty.shs(t:Ty):List Nat:=t.csh.map λ|some e=>e.width|none=>0
structure TI.ok (P:Program) (t:TypeId) (ti:TI):Prop where
 ag:nP P t=some ti.ty.ag
 cells:P.cellsOf t=ti.ty.width
 sh:fE P 9 t=ti.ty.shs
 ze:kT P t=some ti.ty.zvs
 fd: ∀k,u6 P t k=fR ti.fds k
 pl:ti.ty.ag=true->AE P t=some (ti.fds.map λx=>(x.1,x.2.1))
 el: ∀e,ti.ty= .ls e-> ∃el,iv P t=some el/\P.cellsOf el=e.width/\P.bytesOf el=ti.el/\0<ti.el/\fE P 9 el=e.shs/\kT P el=some e.zvs
 bool:ti.ty= .b->P.underlying t=some .bool
 gu:ti.ty.ag=true->ti.ty.flatB=true->P.eqGuardType P.depth t=false
 eq:ti.ty.ag=true-> ∀ (a b:List Cl) (r:Bool) (xs ys:List Value),eX ti.ty.zvs a=true->eX ti.ty.zvs b=true->jv a b=some r->a=xs.map (λx=> .c (.sc x))->b=ys.map (λx=> .c (.sc x))->dv P (Op.equal t (.agg xs.toArray) (.agg ys.toArray))=some r
 str:lI P t=(match ti.ty with | .s=>true| _=>false)
 int: ∀k,ti.ty= .i k->P.underlying t=some (.int k)
 el8: ∀k u,ti.ty= .ls (.i k)->iv P t=some u->P.underlying u=some (.int k)
def dQ(P:Program)(Θ:ft):Prop:=∀t ti,eT Θ t=some ti->ti.ok P t
theorem Ty.width_pos(t:Ty):0<t.width:=by
 cases t with
 |st n=>cases n<;>decide
 | _=>exact Nat.one_pos
theorem C.ro_tree(c:C):T.ro c.tree=c.av:=by cases c<;>rfl
theorem C.own_tree(p:dA)(i m:Nat)(c:C):v3 p i m c.tree=(sy p i m c).av:=by
 cases c with
 |sc v=>rfl
 |ls t l=>simp[v3,C.tree,sy,Cl.av]
theorem lu{α β:Type}(f:Nat->α->β): ∀ (j:Nat) (l:List α) (k:Nat),(lq f j l)[k]? =(l[k]?).map (f (j+k))
 |j,[],k=>by simp[lq]
 |j,a::l,0=>by simp[lq]
 |j,a::l,k+1=>by simp only[lq,cb];rw[lu f (j+1) l k];congr 2;omega
section
variable {ρ:Type} {P:Program} {Θ:ft} {S:TS}
theorem eL{p:dA}{sz:Nat}{rows:List (List T)}(h:S.st.look p= .sl sz rows):S.st.rows p sz=some rows:=by unfold St.rows;rw[h];simp
theorem uk(hS:S.ok){n:Nat}{v:Cl}(hv:v.ok S.gh){κ:List Cl->Option ρ}{r:ρ}(h:rS S n v κ=some r):
  ∃cs:List Cl,dD S.st n v.av=some (cs.map Cl.av)/\(∀c∈cs,c.ok S.gh)/\κ cs=some r:=by
 unfold rS at h;split at h
 ·rename_i b j;split at h
  ·rename_i cs hcs;obtain⟨h1,h⟩:=dj h;have h1:j+n<=cs.length:=aq h1;refine⟨_,?_,λc hc=> ?_,h⟩
   ·simp_all [Cl.av,dD,TS.st]
   ·rw[dN] at hcs;exact hS.bx cs (aw hcs) c (bw (bK hc))
  ·cases h
 ·rename_i cells;obtain⟨h1,h⟩:=dj h;have h1:n<=cells.length:=aq h1;refine⟨_,?_,λc hc=> ?_,h⟩
  ·simp only[Cl.av,dD,aD];rw[if_pos h1]
   congr 1
   rw[<-bX,aW,aW];exact az λc _=>C.ro_tree c
  ·obtain⟨x,_,rfl⟩:=aB.1 hc;trivial
 ·rename_i p sz i j;obtain⟨t,l,h1,_,h5⟩:=dW h;obtain⟨h2,h6⟩:=dj h5;clear h h5;simp only[aj] at h2;have h3:t.width=sz:=ak h2.1;have h4:j+n<=sz:=aq h2.2;subst h3;obtain⟨x,hx,h⟩:=af.1 h6;have hil:i<l.length:=(ah.1 hx).1;have hfl: (t.flat x).length=t.width:=t.flat_length x;refine⟨_,?_,λc hc=> ?_,h⟩
  ·have e1: (l.map t.row).getD i [] =t.row x:=by simp[ax,hx]
   simp only[Cl.av,dD,eL h1];rw[e1,if_pos ⟨by simpa using hil,by rw[t.row_length];exact h4⟩]
   congr 1
   apply bu;intro k;rw[ap,ap,lu];by_cases hk:k<n
   ·have hjk:j+k< (t.flat x).length:=by omega
    rw[List.getElem?_range hk,bg,if_pos hk,bc,an hjk];simp only[aA];rw[t.row_flat,ax,ap,an hjk]
    grind [C.own_tree]
   grind
  ·obtain⟨k,hk⟩:=List.getElem?_of_mem hc;rw[lu] at hk;simp only[ai] at hk;obtain⟨y,_,rfl⟩:=hk;cases y with
   |sc v=>trivial
   |ls t' l'=>exact⟨hv,λh=>by cases h⟩
 ·cases h
theorem vV{G:List (Option dw)}{ag:Bool}{cs:List Cl}(hcs: ∀c∈cs,c.ok G){κ:V->Option ρ}{r:ρ}(h:Bf ag cs κ=some r): ∃v,yU ag (cs.map Cl.av)=some v.av/\v.ok G/\κ v=some r:=by
 unfold Bf at h;cases ag with
 |true=>refine⟨_,rfl,?_,h⟩;exact hcs
 |false=>
  simp only[cond_false] at h;split at h
  ·rename_i c;refine⟨_,rfl,?_,h⟩;exact hcs c (by simp)
  ·cases h
theorem qL(hΘ:dQ P Θ)(hS:S.ok){t:TypeId}{v:V}(hv:v.ok S.gh){κ:V->Option ρ}{r:ρ}(h:qK Θ S t v κ=some r):
  ∃u,load P S.st t v.av=some u.av/\u.ok S.gh/\κ u=some r:=by
 unfold qK at h;split at h
 ·rename_i ti hti;have hok:=hΘ _ _ hti;split at h
  ·rename_i a;obtain⟨cs,h1,h2,h⟩:=uk hS hv h;obtain⟨u,h3,h4,h⟩:=vV h2 h;refine⟨u,?_,h4,h⟩;unfold load;rw[hok.ag,hok.cells]
   grind [V.av,V1.av]
  ·cases h
 ·cases h
theorem wv{p:dA}{κ:Int->Option ρ}{r:ρ}(h:wu S p κ=some r): ∃tr,dI S.gh p.r=some tr/\κ tr.l.length=some r:=by grind [wu,dw.look]
theorem xO{n:Nat}{i:Int}{v:Cl}(hv:v.ok S.gh){κ:Cl->Option ρ}{r:ρ}(h:zz n i S v κ=some r): ∃c,kI n i v.av=some c.av/\c.ok S.gh/\κ c=some r:=by
 unfold zz at h;split at h
 ·rename_i t l;obtain⟨h1,h⟩:=dj h;have h1:t.width=n:=ak h1;obtain⟨h2,h⟩:=dE h;obtain⟨x,hx,h⟩:=af.1 h;have hil:=(ah.1 hx).1;refine⟨_,?_,?_,h⟩
  rotate_left
  ·trivial
  simp only[Cl.av,C.av,kI,aD];rw[if_pos ⟨h2,by omega,h1⟩]
  congr 1
  simp[ax,hx,t.row_flat]
 ·rename_i p sz lo len;obtain⟨h1,h⟩:=dj h;have h1:sz=n:=ak h1;obtain⟨tr,h3,h⟩:=wv h;obtain⟨h4,h⟩:=dE h;obtain⟨h5,h6⟩:=hv;obtain⟨h7,h8,h9⟩:=h6 rfl;have h10:=h9 _ h3;refine⟨_,?_,?_,h⟩
  rotate_left
  ·exact h5
  simp_all [Cl.av,kI]
 ·rename_i p sz lo len;obtain⟨h1,h⟩:=dj h;have h1:sz=n:=ak h1;obtain⟨h4,h⟩:=dE h;refine⟨_,?_,?_,h⟩
  rotate_left
  ·exact hv.1
  simp_all [Cl.av,kI]
 ·cases h
theorem tK{v:Cl}(hv:v.ok S.gh){κ:Int->Option ρ}{r:ρ}(h:xT S v κ=some r): ∃n,iV v.av=some n/\κ n=some r:=by
 unfold xT at h;split at h
 ·grind [Cl.av,C.av,iV]
 ·obtain⟨t,l,h2,h3,h⟩:=dW h;obtain⟨h5,h6⟩:=hv
  simp_all [Cl.av,iV]
 ·exact⟨_,rfl,h⟩
 ·exact⟨_,rfl,h⟩
 ·cases h
theorem xn{n:Nat}{lo hi:Int}{v:Cl}(hv:v.ok S.gh){κ:Cl->Option ρ}{r:ρ}(h:zk n lo hi v κ=some r): ∃c,yH n lo hi v.av=some c.av/\c.ok S.gh/\κ c=some r:=by
 unfold zk at h;split at h
 ·obtain⟨h1,h⟩:=dE h;exact⟨.em,by simp[Cl.av,yH,h1],trivial,h⟩
 ·rename_i t l;obtain⟨h1,h⟩:=dj h;have h1:t.width=n:=ak h1;obtain⟨h2,h⟩:=dE h;refine⟨_,?_,?_,h⟩
  rotate_left
  ·trivial
  simp_all [Cl.av,C.av,yH]
 ·rename_i p sz l len w;obtain⟨h1,h⟩:=dj h;have h1:sz=n:=ak h1;obtain⟨h2,h⟩:=dE h;refine⟨_,?_,?_,h⟩
  rotate_left
  ·exact⟨hv.1,λh=>by cases h⟩
  simp_all [Cl.av,yH]
 ·cases h
theorem om{d:Int}{x:Option Operand}{κ:Int->Option ρ}{r:ρ}(h:oY S d x κ=some r): ∃n,fC S.st d x=some n/\κ n=some r:=by
 unfold oY at h;split at h
 all_goals simp_all [iH,fC,dt]
theorem xd{G:List (Option dw)}: ∀ (parts:List (Nat×V)) (pl:List (Nat×Nat×Bool)) (cs cs':List Cl),(∀c∈cs,c.ok G)->(∀x∈parts,x.2.ok G)->uf pl cs parts=some cs'->
  xb (pl.map λx=>(x.1,x.2.1)) (cs.map Cl.av) (parts.map λx=>(x.1,x.2.av))=some (cs'.map Cl.av)/\ ∀c∈cs',c.ok G:=by
 intro parts
 induction parts with
 |nil=>intro pl cs cs' hcs _ h;simp only[uf,ae] at h;subst h;exact⟨rfl,hcs⟩
 |cons x parts ih=>
  intro pl cs cs' hcs hp h;obtain⟨k,v⟩:=x;simp only[uf] at h;split at h
  ·rename_i off n ag hk;split at h
   ·rename_i x;have hx:x.ok G:=hp (k,.v x) (by simp)
    have eU: ∀ (hd: (V.v x).av.isDead=false) (hcell: (V.v x).av.cells=x.cells.map Cl.av) (hcok: ∀c∈x.cells,c.ok G)
      (h: (bif Nat.beq x.cells.length n&&Nat.ble (off+n) cs.length then uf pl (cs.take off++x.cells++cs.drop (off+n)) parts else none)=some cs'),
      xb (pl.map λx=>(x.1,x.2.1)) (cs.map Cl.av) (((k,V.v x)::parts).map λx=>(x.1,x.2.av))=some (cs'.map Cl.av)/\ ∀c∈cs',c.ok G:=by
     intro hd hcell hcok h;obtain⟨h1,h⟩:=dj h;simp only[aj] at h1;have h2:x.cells.length=n:=ak h1.1;have h3:off+n<=cs.length:=aq h1.2
     obtain⟨g1,g2⟩:=ih pl _ cs' (λc hc=>by grind) (λy hy=>hp y (aE _ hy)) h
     refine⟨?_,g2⟩;rw[dN] at hk;simp only[aK,xb,ap,hk,aA];rw[if_pos ⟨hd,by rw[hcell];simpa using h2,by simpa using h3⟩,<-g1,hcell];simp[bX,co]
    cases x with
    |cl c=>cases c with
     |dead=>cases h
     |c y=>cases y<;>exact eU rfl rfl (λc hc=>by simp only[V1.cells,aH] at hc;subst hc;exact hx) h
     |em=>exact eU rfl rfl (λc hc=>by simp only[V1.cells,aH] at hc;subst hc;exact hx) h
     |own p sz lo len w=>exact eU rfl rfl (λc hc=>by simp only[V1.cells,aH] at hc;subst hc;exact hx) h
     |pro cs=>exact eU rfl rfl (λc hc=>by simp only[V1.cells,aH] at hc;subst hc;exact hx) h
     |ptrB n j=>exact eU rfl rfl (λc hc=>by simp only[V1.cells,aH] at hc;subst hc;exact hx) h
     |ptrT p sz i j=>exact eU rfl rfl (λc hc=>by simp only[V1.cells,aH] at hc;subst hc;exact hx) h
    |agg cs2=>exact eU rfl rfl hx h
    |fn f cs2=>cases h
   ·cases h
  ·cases h
end
end
end Go.Proofs.YtkghndikalnipabGreat.En
