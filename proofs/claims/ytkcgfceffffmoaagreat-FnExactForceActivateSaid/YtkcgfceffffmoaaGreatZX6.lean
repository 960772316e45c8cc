import Derived.Test.YtkcgfceffffmoaaGreatZX5
namespace Go.Proofs.YtkcgfceffffmoaaGreat.En
open Go
inductive Cl where
 | c (x:C)
 | em
 | own (p:ci) (sz lo len:Nat) (w:Bool)
 | pro (cs:List C)
 | ptrB (n j:Nat)
 | ptrT (p:ci) (sz i j:Nat)
 | dead
 deriving Inhabited
inductive V1 where
 | cl (x:Cl)
 | agg (cs:List Cl)
 | fn (f:FuncId) (cs:List Cl)
 deriving Inhabited
inductive V where
 | v (x:V1)
 | tup (l:List V1)
 deriving Inhabited
structure cc where
 t:Ty
 l:List t.D
 hole:Option (Nat×Nat)
structure TS where
 env:List (Nat×V)
 bx:List (List Cl)
 gh:List (Option cc)
 fz:Nat
 nt:Nat
structure TI where
 ty:Ty
 el:Nat
 fds:List (Nat×Nat×Bool)
 bytes:Nat
abbrev to:=List (Nat×TI)
@[reducible] def V.c (x:C):V:= .v (.cl (.c x))
@[reducible] def V.sc (x:Value):V:= .v (.cl (.c (.sc x)))
@[reducible] def V.dead:V:= .v (.cl .dead)
def ki:List (Nat×V)→Nat→V
 | [],_=>V.dead
 | (t,v)::l,u=>bif Nat.beq t u then v else ki l u
def qw:to→Nat→Option TI
 | [],_=>none
 | (t,v)::l,u=>bif Nat.beq t u then some v else qw l u
def tp {α:Type}:List α→Nat→Option α
 | [],_=>none
 | a::l,n=>bif Nat.beq n 0 then some a else tp l (n - 1)
def cC (v:Value):Cl:=bif uU v then .c (.sc v) else match v with | .slice none 0 0=> .em | _=> .dead
def cV:Value→V
 | .agg cs=>bif cs.toList.all Value.oneCell' then .v (.agg (cs.toList.map cC)) else V.dead
 | v=> .v (.cl (cC v))
def TS.opd (S:TS):Operand→V
 | .tmp t=>ki S.env t
 | .const v=>cV v
 | .func f=>V.sc (.func (.func f) #[] #[])
 | .global _=>V.dead
def V1.cells:V1→List Cl
 | .cl x=> [x]
 | .agg cs=>cs
 | .fn _ _=> [.dead]
def C.flatB:C→Bool | .sc _=>true | _=>false
def Ty.flatB (t:Ty):Bool:=t.csh.all (·.isNone)
section
variable {ρ:Type}
def br {α:Type} (b:Bool) (x y:α):α:=cond b x y
def aq {α:Type} (c:Prop) [Decidable c] (x y:α):α:=if c then x else y
def S4 (S:TS) (x:Operand) (κ:Bool→TS→Option ρ):Option ρ:=match x with
 | .tmp t=>match ki S.env t with
   | .v (.cl (.c (.sc (.bool b))))=>br b (κ true { S with env:=(t,V.sc (.bool true))::S.env }) (κ false { S with env:=(t,V.sc (.bool false))::S.env })
   | _=>none
 | .const (.bool b)=>κ b S
 | _=>none
def Vr (v:V) (κ:Int→Option ρ):Option ρ:=match v with | .v (.cl (.c (.sc (.int _ n))))=>κ n | _=>none
def wn (S:TS) (p:ci) (κ: (t:Ty)→List t.D→Option ρ):Option ρ:=match tp S.gh p.r with
 | some (some tr)=>match tr.hole with
   | none=>match p.l with
     | [] =>κ tr.t tr.l
     | [(i,j)] =>(tr.l[i]?).bind fun x=>match tp (tr.t.flat x) j with
       | some (.ls t l)=>κ t l
       | _=>none
     | _=>none
   | some _=>none
 | _=>none
def C.ro:C→Cl:=Cl.c
def Vs (p:ci) (i j:Nat):C→Cl
 | .sc v=> .c (.sc v)
 | .ls t l=> .own ⟨p.r,p.l++ [(i,j)]⟩ t.width 0 l.length false
def Hd {α β:Type} (f:Nat→α→β):Nat→List α→List β
 | _,[] => []
 | n,a::l=>f n a::Hd f (n+1) l
def Vt (S:TS) (n:Nat) (v:Cl) (κ:List Cl→Option ρ):Option ρ:=match v with
 | .ptrB b j=>match tp S.bx b with
   | some cs=>bif Nat.ble (j+n) cs.length then κ ((cs.drop j).take n) else none
   | none=>none
 | .pro cells=>bif Nat.ble n cells.length then κ ((cells.take n).map Cl.c) else none
 | .ptrT p sz i j=>wn S p fun t l=>bif Nat.beq t.width sz&&Nat.ble (j+n) sz then (l[i]?).bind fun x=>κ (Hd (Vs p i) j (((t.flat x).drop j).take n)) else none
 | _=>none
def mkK (ag:Bool) (cs:List Cl) (κ:V→Option ρ):Option ρ:=bif ag then κ (.v (.agg cs)) else match cs with | [c] =>κ (.v (.cl c)) | _=>none
def Ty.ag:Ty→Bool | .st _=>true | _=>false
def S5 (Θ:to) (S:TS) (t:TypeId) (v:V) (κ:V→Option ρ):Option ρ:=match qw Θ t with
 | some ti=>match v with | .v (.cl a)=>Vt S ti.ty.width a fun cs=>mkK ti.ty.ag cs κ | _=>none
 | none=>none
def acg (n:Nat) (i:Int) (S:TS) (v:Cl) (κ:Cl→Option ρ):Option ρ:=match v with
 | .c (.ls t l)=>bif Nat.beq t.width n then aq (0≤i) ((l[i.toNat]?).bind fun x=>κ (.pro (t.flat x))) none else none
 | .own p sz _ _ true=>bif Nat.beq sz n then wn S p fun _ l=>aq (0≤i∧i < l.length) (κ (.ptrT p sz i.toNat 0)) none else none
 | .own p sz lo len false=>bif Nat.beq sz n then aq (0≤i∧i < len) (κ (.ptrT p sz (lo+i.toNat) 0)) none else none
 | _=>none
def aaG (S:TS) (v:Cl) (κ:Int→Option ρ):Option ρ:=match v with
 | .c (.ls _ l)=>κ l.length
 | .own p _ _ _ true=>wn S p fun _ l=>κ l.length
 | .own _ _ _ len false=>κ len
 | .em=>κ 0
 | _=>none
def ach (n:Nat) (lo hi:Int) (v:Cl) (κ:Cl→Option ρ):Option ρ:=match v with
 | .em=>aq (lo=0∧hi=0) (κ .em) none
 | .c (.ls t l)=>bif Nat.beq t.width n then aq (0≤lo∧lo≤hi∧hi≤l.length) (κ (.c (.ls t ((l.drop lo.toNat).take (hi.toNat - lo.toNat))))) none else none
 | .own p sz l len _=>bif Nat.beq sz n then aq (0≤lo∧lo≤hi∧hi≤len) (κ (.own p sz (l+lo.toNat) (hi.toNat - lo.toNat) false)) none else none
 | _=>none
def QK (S:TS) (d:Int) (x:Option Operand) (κ:Int→Option ρ):Option ρ:=match x with
 | none=>κ d
 | some x=>Vr (S.opd x) κ
def Xx:List (Nat×Nat×Bool)→List Cl→List (Nat×V)→Option (List Cl)
 | _,cs,[] =>some cs
 | pl,cs,(k,v)::r=>match tp pl k with
   | some (off,n,_)=>match v with
     | .v x=>match x with
       | .cl .dead=>none
       | .fn _ _=>none
       | x=>bif Nat.beq x.cells.length n&&Nat.ble (off+n) cs.length then Xx pl (cs.take off++x.cells++cs.drop (off+n)) r else none
     | _=>none
   | none=>none
def S6:Value→Value→Option Bool
 | .int _ a, .int _ b=>some (a==b)
 | .bool a, .bool b=>some (a==b)
 | _,_=>none
def Ca:List Cl→List Cl→Option Bool
 | [],[] =>some true
 | .c (.sc a)::l, .c (.sc b)::m=>match S6 a b,Ca l m with
   | some x,some y=>some (x&&y)
   | _,_=>none
 | _,_=>none
def oF:List Value→List Cl→Bool
 | [],[] =>true
 | .int k _::zs, .c (.sc (.int k' _))::cs=>bif decide (k=k') then oF zs cs else false
 | .bool _::zs, .c (.sc (.bool _))::cs=>oF zs cs
 | _,_=>false
def V.ints (f:IntKind→Int→Int→Option ρ):V→V→Option ρ
 | .v (.cl (.c (.sc (.int k a)))), .v (.cl (.c (.sc (.int k' b))))=>if k=k' then f k a b else none
 | _,_=>none
def eqK (Θ:to) (t:TypeId) (x y:V) (κ:Bool→Option ρ):Option ρ:=match x,y with
 | .v (.cl (.c (.sc (.int k a)))), .v (.cl (.c (.sc (.int k' b))))=>if k=k' then κ (a==b) else none
 | .v (.cl (.c (.sc (.bool a)))), .v (.cl (.c (.sc (.bool b))))=>match qw Θ t with
   | some ti=>match ti.ty with | .b=>κ (a==b) | _=>none
   | none=>none
 | .v (.agg a), .v (.agg b)=>match qw Θ t with
   | some ti=>bif ti.ty.ag&&ti.ty.flatB&&oF ti.ty.zvs a&&oF ti.ty.zvs b then (match Ca a b with | some r=>κ r | none=>none) else none
   | none=>none
 | _,_=>none
def aci (Θ:to) (op:BinOp) (t:TypeId) (x y:V) (κ:V→Option ρ):Option ρ:=match op with
 | .lss=>V.ints (fun _ a b=>κ (V.sc (.bool (decide (a < b))))) x y
 | .leq=>V.ints (fun _ a b=>κ (V.sc (.bool (decide (a≤b))))) x y
 | .gtr=>V.ints (fun _ a b=>κ (V.sc (.bool (decide (a > b))))) x y
 | .geq=>V.ints (fun _ a b=>κ (V.sc (.bool (decide (a≥b))))) x y
 | .add=>V.ints (fun k a b=>κ (V.sc (.int k (k.wrap (a+b))))) x y
 | .sub=>V.ints (fun k a b=>κ (V.sc (.int k (k.wrap (a - b))))) x y
 | .mul=>V.ints (fun k a b=>κ (V.sc (.int k (k.wrap (a*b))))) x y
 | .quo=>V.ints (fun k a b=>if b=0 then none else κ (V.sc (.int k (k.wrap (a.tdiv b))))) x y
 | .rem=>V.ints (fun k a b=>if b=0 then none else κ (V.sc (.int k (a.tmod b)))) x y
 | .eql=>eqK Θ t x y fun r=>κ (V.sc (.bool r))
 | .neq=>eqK Θ t x y fun r=>κ (V.sc (.bool (!r)))
 | _=>none
def S7:List V→Option (List Cl)
 | [] =>some []
 | .v (.cl c)::l=>match S7 l with | some r=>some (c::r) | none=>none
 | _=>none
def LQ (Θ:to) (S:TS) (o:Oper) (κ:V→TS→Option ρ):Option ρ:=
 let e:=S.opd
 match o.op with
 | .move x | .assign x=>κ (e x) S
 | .pick c a b=>S4 S c fun t S=>bif t then κ (S.opd a) S else κ (S.opd b) S
 | .load t a=>S5 Θ S t (e a) (fun v=>κ v S)
 | .nilCheck x=>match e x with
   | .v (.cl (.ptrB n j))=>κ (.v (.cl (.ptrB n j))) S
   | .v (.cl (.ptrT p sz i j))=>κ (.v (.cl (.ptrT p sz i j))) S
   | .v (.cl (.pro cs))=>κ (.v (.cl (.pro cs))) S
   | .v (.fn f cs)=>κ (.v (.fn f cs)) S
   | .v (.cl (.c (.sc (.func (.func f) a b))))=>κ (.v (.cl (.c (.sc (.func (.func f) a b))))) S
   | _=>none
 | .fieldAddr t x k=>match qw Θ t with
   | some ti=>match tp ti.fds k with
     | some (off,n,_)=>bif Nat.beq n 0 then none else match e x with
       | .v (.cl (.ptrB b j))=>κ (.v (.cl (.ptrB b (j+off)))) S
       | .v (.cl (.ptrT p sz i j))=>κ (.v (.cl (.ptrT p sz i (j+off)))) S
       | .v (.cl (.pro cs))=>κ (.v (.cl (.pro (cs.drop off)))) S
       | _=>none
     | none=>none
   | none=>none
 | .field t x k=>match qw Θ t with
   | some ti=>match tp ti.fds k with
     | some (off,n,ag)=>match e x with
       | .v (.agg cs)=>bif Nat.ble (off+n) cs.length&&Nat.blt 0 n then mkK ag ((cs.drop off).take n) (fun v=>κ v S) else none
       | _=>none
     | none=>none
   | none=>none
 | .indexAddr t x ix=>match qw Θ t with
   | some ti=>match ti.ty with
     | .ls el=>Vr (e ix) fun i=>match e x with | .v (.cl a)=>acg el.width i S a (fun c=>κ (.v (.cl c)) S) | _=>none
     | _=>none
   | none=>none
 | .build t parts=>match qw Θ t with
   | some ti=>bif ti.ty.ag then (match Xx ti.fds (ti.ty.zvs.map cC) (parts.toList.map fun x=>(x.1,e x.2)) with | some cs=>κ (.v (.agg cs)) S | none=>none) else none
   | none=>none
 | .slice t x lo hi none=>match qw Θ t with
   | some ti=>match ti.ty with
     | .ls el=>match e x with
       | .v (.cl a)=>aaG S a fun n=>QK S 0 lo fun l=>QK S n hi fun h=>ach el.width l h a (fun c=>κ (.v (.cl c)) S)
       | _=>none
     | _=>none
   | none=>none
 | .convert s d x=>match qw Θ s,qw Θ d with
   | some _,some di=>match di.ty with
     | .i k'=>(match e x with | .v (.cl (.c (.sc (.int _ n))))=>κ (V.sc (.int k' (k'.wrap n))) S | _=>none)
     | _=>none
   | _,_=>none
 | .index t x ix=>match qw Θ t with
   | some ti=>match ti.ty with
     | .s=>(match e x,e ix with | .v (.cl (.c (.sc (.string s)))), .v (.cl (.c (.sc (.int _ i))))=>aq (0≤i) ((s[i.toNat]?).bind fun b=>κ (V.sc (.int .u8 b.toNat)) S) none | _,_=>none)
     | _=>none
   | none=>none
 | .extract x k=>match e x with | .tup vs=>(match tp vs k with | some v=>κ (.v v) S | none=>none) | _=>none
 | .makeFunc (.func f) first caps=>bif first.isEmpty then (match S7 (caps.toList.map e) with | some cs=>κ (.v (.fn f cs)) S | none=>none) else none
 | .call { callee:= .builtin .len,args:=as,argTypes:=ts } =>match as.toList,ts.toList with
   | [x],[t] =>match qw Θ t with
     | some ti=>match ti.ty with
       | .ls _=>(match e x with | .v (.cl a)=>aaG S a fun n=>κ (V.sc (.int .i64 n)) S | _=>none)
       | _=>none
     | none=>none
   | _,_=>none
 | .call { callee:= .builtin .cap,args:=as,argTypes:=ts } =>match as.toList,ts.toList with
   | [x],[t] =>match qw Θ t with
     | some ti=>match ti.ty with
       | .ls _=>(match e x with | .v (.cl .em)=>κ (V.sc (.int .i64 0)) S | _=>none)
       | _=>none
     | none=>none
   | _,_=>none
 | .call { callee:= .builtin .max,args:=as,argTypes:=_ } =>match as.toList with
   | [x,y] =>V.ints (fun k a b=>κ (V.sc (.int k (if b > a then b else a))) S) (e x) (e y)
   | _=>none
 | .call { callee:= .builtin .min,args:=as,argTypes:=_ } =>match as.toList with
   | [x,y] =>V.ints (fun k a b=>κ (V.sc (.int k (if b < a then b else a))) S) (e x) (e y)
   | _=>none
 | .binOp op t x y _=>aci Θ op t (e x) (e y) (fun v=>κ v S)
 | .unOp .not _ x=>match e x with | .v (.cl (.c (.sc (.bool b))))=>κ (V.sc (.bool (!b))) S | _=>none
 | _=>none
end
end Go.Proofs.YtkcgfceffffmoaaGreat.En
namespace Go.Proofs.YtkcgfceffffmoaaGreat.En
open Go
def C.av:C→AV
 | .sc v=> .sc v
 | .ls t l=> .ro t.width (l.map t.row)
def Cl.av:Cl→AV
 | .c x=>x.av
 | .em=> .em
 | .own p sz lo len _=> .own p sz lo len
 | .pro cs=> .pro (cs.map C.tree)
 | .ptrB n j=> .ptrB n j
 | .ptrT p sz i j=> .ptrT p sz i j
 | .dead=> .dead
def V1.av:V1→AV
 | .cl x=>x.av
 | .agg cs=> .agg (cs.map Cl.av)
 | .fn f cs=> .fn f (cs.map Cl.av)
def V.av:V→AV
 | .v x=>x.av
 | .tup l=> .tup (l.map V1.av)
def cc.tree (x:cc):T:=match x.hole with
 | none=> .sl x.t.width (x.l.map x.t.row)
 | some (i,j)=> .sl x.t.width ((x.l.map x.t.row).set i (((x.l.map x.t.row).getD i []).set j .dd))
def dG (G:List (Option cc)) (r:Nat):Option cc:=(tp G r).getD none
def TS.st (S:TS):St where
 env:=fun t=>(ki S.env t).av
 bx:=fun n=>(tp S.bx n).map fun cs=>cs.map Cl.av
 gh:=fun r=>(dG S.gh r).map cc.tree
 nb:=S.bx.length
 ng:=S.gh.length
 fz:=S.fz
 orc:=none
 nt:=S.nt
structure Fe where
 f:FuncId→List V1→(ρ:Type)→(V→List cc→Option ρ)→Option ρ
 kd:FuncId→Nat
instance:CoeFun Fe fun _=>FuncId→List V1→(ρ:Type)→(V→List cc→Option ρ)→Option ρ:=⟨Fe.f⟩
def kQ:Nat:=1048576
def PM:Nat:=kQ+kQ
def qx (g:Nat):Nat:=g+kQ
def LR (g:Nat):Nat:=g+PM
def QL (n:Nat):Cl→Cl
 | .own p sz lo len w=> .own ⟨p.r+n,p.l⟩ sz lo len w
 | .c (.sc v)=> .c (.sc v)
 | _=> .dead
def Cb (n:Nat):V1→V1
 | .agg cs=> .agg (cs.map (QL n))
 | .cl c=> .cl (QL n c)
 | .fn _ _=> .cl .dead
def yG (n:Nat):V→V
 | .tup vs=> .tup (vs.map (Cb n))
 | .v x=> .v (Cb n x)
def dS {α:Type}:List α→Nat→α→List α
 | [],_,_=> []
 | a::l,n,x=>bif Nat.beq n 0 then x::l else a::dS l (n - 1) x
def AO (t t':Ty) (l:List t.D):Option (List t'.D):=if h:t=t' then some (h ▸ l) else none
def uI (r j:Nat):Cl→Cl
 | .own p sz lo len w=>match p.l with | (_,j')::_=>bif Nat.beq p.r r&&Nat.beq j j' then .dead else .own p sz lo len w | [] => .own p sz lo len w
 | .ptrT p sz a b=>match p.l with | (_,j')::_=>bif Nat.beq p.r r&&Nat.beq j j' then .dead else .ptrT p sz a b | [] => .ptrT p sz a b
 | c=>c
def xb (r j:Nat):V1→V1
 | .cl c=> .cl (uI r j c)
 | .agg cs=> .agg (cs.map (uI r j))
 | .fn f cs=> .fn f (cs.map (uI r j))
def PN (r j:Nat):V→V
 | .v x=> .v (xb r j x)
 | .tup vs=> .tup (vs.map (xb r j))
def TS.kill (S:TS) (r j:Nat):TS:= { S with env:=S.env.map fun x=>(x.1,PN r j x.2),bx:=S.bx.map fun cs=>cs.map (uI r j) }
def kR (S:TS) (no j:Nat) (et:Option Ty) (c:Cl):Option (C×TS):=match c,et with
 | .c (.sc v),none=>some (.sc v,S)
 | .em,some t=>some (.ls t [],S.kill no j)
 | .own p sz _ _ true,some t=>match p.l with
   | [] =>bif Nat.beq t.width sz&&Nat.ble S.fz p.r&& !(Nat.beq p.r no) then match tp S.gh p.r with
     | some (some tr)=>match tr.hole with
       | none=>bif Nat.beq tr.t.width sz then some (.ls tr.t tr.l,{ S with gh:=dS S.gh p.r none }.kill no j) else none
       | some _=>none
     | _=>none else none
   | _=>none
 | _,_=>none
def uJ (no:Nat):Nat→TS→List (Option Ty)→List Cl→Option (List C×TS)
 | j,S,et::ets,c::cs=>match kR S no j et c with
   | some (x,S1)=>match uJ no (j+1) S1 ets cs with
     | some (xs,S2)=>some (x::xs,S2)
     | none=>none
   | none=>none
 | _,S,[],[] =>some ([],S)
 | _,_,_,_=>none
def zc1 (et:Option Ty) (v:Value):C:=match et with | some t=> .ls t [] | none=> .sc v
def Ty.zcs (t:Ty):List C:=List.zipWith zc1 t.csh t.zvs
def scs:List Cl→Option (List C)
 | [] =>some []
 | .c (.sc v)::l=>match scs l with | some r=>some (.sc v::r) | none=>none
 | _=>none
section
variable {ρ:Type}
def LS {α β:Type} (f:α→(β→Option ρ)→Option ρ):List α→(List β→Option ρ)→Option ρ
 | [],κ=>κ []
 | a::l,κ=>f a fun b=>LS f l fun bs=>κ (b::bs)
def Vu (Θ:to) (S:TS) (t:TypeId) (a v:V) (κ:TS→Option ρ):Option ρ:=match qw Θ t with
 | none=>none
 | some ti=>match v with
   | .tup _=>none
   | .v (.cl .dead)=>none
   | .v (.fn _ _)=>none
   | .v x=>bif Nat.beq x.cells.length ti.ty.width then match a with
     | .v (.cl (.ptrB b j))=>match tp S.bx b with
       | some cs=>bif Nat.ble (j+x.cells.length) cs.length then κ { S with bx:=dS S.bx b (cs.take j++x.cells++cs.drop (j+x.cells.length)) } else none
       | none=>none
     | .v (.cl (.ptrT p sz i j))=>match p.l with
       | [] =>match tp S.gh p.r with
         | some (some tr)=>bif Nat.beq tr.t.width sz&&Nat.ble (j+ti.ty.width) sz&&Nat.beq x.cells.length ti.ty.width then
           bif ti.ty.flatB then
            match tr.hole,scs x.cells with
            | none,some vs=>(tr.l[i]?).bind fun y=>match tr.t.unflat ((tr.t.flat y).take j++vs++(tr.t.flat y).drop (j+ti.ty.width)) with
              | some z=>κ { S with gh:=dS S.gh p.r (some ⟨tr.t,tr.l.set i z,none⟩) }
              | none=>none
            | _,_=>none
           else bif Nat.ble S.fz p.r then match uJ p.r j S ti.ty.csh x.cells with
            | some (vs,S1)=>(tr.l[i]?).bind fun y=>match tr.t.unflat ((tr.t.flat y).take j++vs++(tr.t.flat y).drop (j+ti.ty.width)) with
              | some z=>match tr.hole with
                | none=>κ { S1 with gh:=dS S1.gh p.r (some ⟨tr.t,tr.l.set i z,none⟩) }
                | some (i0,j0)=>bif Nat.beq j j0&&Nat.beq ti.ty.width 1 then aq (i=i0) (κ { S1 with gh:=dS S1.gh p.r (some ⟨tr.t,tr.l.set i z,none⟩) }) none else none
              | none=>none
            | none=>none else none
           else none
         | _=>none
       | _=>none
     | _=>none
     else none
def Xy (S:TS) (et:Option Ty) (c:Cl) (κ:Cl→Option ρ):Option ρ:=match c with
 | .c x=>κ (.c x)
 | .em=>match et with | some t=>κ (.c (.ls t [])) | none=>none
 | .own p sz _ _ true=>wn S p fun t l=>bif Nat.beq t.width sz then κ (.c (.ls t l)) else none
 | .own p sz lo len false=>wn S p fun t l=>bif Nat.beq t.width sz then aq (lo+len≤l.length) (κ (.c (.ls t ((l.drop lo).take len)))) none else none
 | .pro cs=>κ (.pro cs)
 | .ptrT p sz i j=>wn S p fun t l=>bif Nat.beq t.width sz then (l[i]?).bind fun x=>κ (.pro ((t.flat x).drop j)) else none
 | .ptrB b j=>match tp S.bx b with
   | some cs=>LS (fun c κ=>match c with
     | .c x=>κ x
     | .own p sz _ _ true=>wn S p fun t l=>bif Nat.beq t.width sz then κ (.ls t l) else none
     | _=>none) (cs.drop j) fun cs=>κ (.pro cs)
   | none=>none
 | .dead=>κ .dead
def aaH (S:TS):List (Option Ty)→List Cl→(List Cl→Option ρ)→Option ρ
 | et::ets,c::cs,κ=>Xy S et c fun c'=>aaH S ets cs fun cs'=>κ (c'::cs')
 | [],[],κ=>κ []
 | _,_,_=>none
def reV (Θ:to) (S:TS) (t:TypeId) (v:V) (κ:V1→Option ρ):Option ρ:=match v with
 | .tup _=>none
 | .v (.fn f cs)=>LS (Xy S none) cs fun cs'=>κ (.fn f cs')
 | .v (.agg cs)=>match qw Θ t with | some ti=>aaH S ti.ty.csh cs fun cs'=>κ (.agg cs') | none=>none
 | .v (.cl .em)=>κ (.cl .em)
 | .v (.cl c)=>match qw Θ t with | some ti=>Xy S (ti.ty.csh.headD none) c fun c'=>κ (.cl c') | none=>Xy S none c fun c'=>κ (.cl c')
def xD (Θ:to) (S:TS):List TypeId→List Operand→(List V1→Option ρ)→Option ρ
 | t::ts,a::as,κ=>reV Θ S t (S.opd a) fun v=>xD Θ S ts as fun vs=>κ (v::vs)
 | [],[],κ=>κ []
 | _,_,_=>none
def WE (Θ:to) (Y:Fe) (S:TS) (f:Operand) (ts:List TypeId) (as:List Operand) (κ:V→TS→Option ρ):Option ρ:=match S.opd f with
 | .v (.cl (.c (.sc (.func (.func g) _ _))))=>bif Nat.blt g kQ then xD Θ S ts as fun vs=>Y g vs ρ fun res out=>κ (yG S.gh.length res) { S with gh:=S.gh++out.map some } else none
 | .v (.fn g caps)=>bif Nat.blt g kQ then xD Θ S ts as fun vs=>LS (Xy S none) caps fun cs=>Y g (vs++cs.map .cl) ρ fun res out=>κ (yG S.gh.length res) { S with gh:=S.gh++out.map some } else none
 | _=>none
def YZ (S:TS) (el:Ty) (v:Cl) (κ:List el.D→TS→Option ρ):Option ρ:=match v with
 | .em=>κ [] S
 | .c (.ls t l)=>bif el.flatB then match AO t el l with | some l=>κ l S | none=>none else none
 | .own p sz lo len w=>bif Nat.beq el.width sz then (bif el.flatB then wn S p fun t l=>match AO t el l with
   | some l=>bif w then κ l S else aq (lo+len≤l.length) (κ ((l.drop lo).take len) S) none
   | none=>none
   else match p.l with
   | [] =>bif w&&Nat.ble S.fz p.r then wn S p fun t l=>match AO t el l with | some l=>κ l { S with gh:=dS S.gh p.r none } | none=>none else none
   | _=>none) else none
 | _=>none
def S8 (S:TS) (el:Ty) (v:Cl) (more:List el.D) (κ:List el.D→TS→Option ρ):Option ρ:=match v with
 | .em=>κ more S
 | .own p sz lo len w=>bif Nat.ble S.fz p.r&&Nat.beq el.width sz then match p.l with
   | [] =>wn S p fun t l=>match AO t el l with
     | some l=>bif w then κ (l++more) { S with gh:=dS S.gh p.r none }
       else aq (lo=0) (aq (l.length < len) none (κ (l.take len++more) { S with gh:=dS S.gh p.r none })) none
     | none=>none
   | [(i,j)] =>match tp S.gh p.r with
     | some (some tr)=>match tr.hole with
       | none=>wn S p fun t l=>match AO t el l with
         | some l=>aq (lo=0) (aq (l.length < len) none (κ (l.take len++more) { S with gh:=dS S.gh p.r (some ⟨tr.t,tr.l,some (i,j)⟩) })) none
         | none=>none
       | some _=>none
     | _=>none
   | _=>none else none
 | _=>none
def aaI (Θ:to) (S:TS) (t:TypeId) (s x:V) (κ:V→TS→Option ρ):Option ρ:=match qw Θ t with
 | some ti=>match ti.ty,s,x with
   | .ls el, .v (.cl s), .v (.cl x)=>YZ S el x fun more S1=>S8 S1 el s more fun l S2=>
     aq (l.length*ti.el≤2 ^ 40) (κ (.v (.cl (.own ⟨S2.gh.length,[]⟩ el.width 0 l.length true))) { S2 with gh:=S2.gh++ [some ⟨el,l,none⟩] }) none
   | _,_,_=>none
 | none=>none
def eqN:List Nat→List Nat→Bool
 | [],[] =>true
 | a::l,b::m=>bif Nat.beq a b then eqN l m else false
 | _,_=>false
def xd (el:Ty):TS→List V→Option (List el.D×TS)
 | S,[] =>some ([],S)
 | S, .v x::r=>match uJ S.gh.length 0 S el.csh x.cells with
   | some (vs,S1)=>match el.unflat vs,xd el S1 r with
     | some y,some (ys,S2)=>some (y::ys,S2)
     | _,_=>none
   | none=>none
 | _,_=>none
def Vv:Cl→Bool | .c (.ls _ _)=>true | _=>false
def LU:V→Bool | .v x=>x.cells.any Vv | _=>false
def qE:List (Option Ty)→List Cl→Option (List C)
 | _::ets, .c x::cs=>(match qE ets cs with | some r=>some (x::r) | none=>none)
 | some t::ets, .em::cs=>(match qE ets cs with | some r=>some (.ls t []::r) | none=>none)
 | [],[] =>some []
 | _,_=>none
def xE (el:Ty):List V→Option (List el.D)
 | [] =>some []
 | .v x::r=>(match qE el.csh x.cells with
   | some xs=>(match el.unflat xs,xE el r with | some y,some ys=>some (y::ys) | _,_=>none)
   | none=>none)
 | _=>none
def abT (Θ:to) (S:TS) (t:TypeId) (s x:V) (κ:V→TS→Option ρ):Option ρ:=match qw Θ t with
 | some ti=>match ti.ty,s with
   | .ls el, .v (.cl .em)=>Vr x fun n=>match el.unflat el.zcs with
     | some z=>aq (0 < n∧n*ti.el≤2 ^ 40) (κ (.v (.cl (.own ⟨S.gh.length,[]⟩ el.width 0 n.toNat true))) { S with gh:=S.gh++ [some ⟨el,List.replicate n.toNat z,none⟩] }) none
     | none=>none
   | _,_=>none
 | none=>none
def Ff (Θ:to) (Y:Fe) (S:TS) (o:Oper) (κ:V→TS→Option ρ):Option ρ:=
 let e:=S.opd
 match o.op with
 | .alloc t=>match qw Θ t with | some ti=>κ (.v (.cl (.ptrB S.bx.length 0))) { S with bx:=S.bx++ [ti.ty.zvs.map cC] } | none=>none
 | .box _ x=>match e x with
   | .v (.cl .dead)=>none
   | .v (.cl c)=>κ (.v (.cl (.ptrB S.bx.length 0))) { S with bx:=S.bx++ [[c]] }
   | .v (.agg cs)=>κ (.v (.cl (.ptrB S.bx.length 0))) { S with bx:=S.bx++ [cs] }
   | _=>none
 | .store t a x=>Vu Θ S t (e a) (e x) fun S'=>κ V.dead S'
 | .makeSlice t l c=>match qw Θ t with
   | some ti=>match ti.ty with
     | .ls el=>Vr (e l) fun n=>Vr (e c) fun m=>match el.unflat el.zcs with
       | some z=>aq (0≤n∧n=m∧n*ti.el≤2 ^ 40) (κ (.v (.cl (.own ⟨S.gh.length,[]⟩ el.width 0 n.toNat true))) { S with gh:=S.gh++ [some ⟨el,List.replicate n.toNat z,none⟩] }) none
       | none=>none
     | _=>none
   | none=>none
 | .buildSlice t len parts=>match qw Θ t with
   | some ti=>match ti.ty with
     | .ls el=>bif Nat.ble (len*el.width) 1048576&&eqN (parts.toList.map (·.1)) (List.range len) then (bif (parts.toList.map fun x=>e x.2).any LU then (match xE el (parts.toList.map fun x=>e x.2) with | some l=>κ (.v (.cl (.c (.ls el l)))) S | none=>none) else match xd el S (parts.toList.map fun x=>e x.2) with
       | some (l,S1)=>κ (.v (.cl (.own ⟨S1.gh.length,[]⟩ el.width 0 l.length true))) { S1 with gh:=S1.gh++ [some ⟨el,l,none⟩] }
       | none=>none) else none
     | _=>none
   | none=>none
 | .call { callee:= .builtin .append,args:=as,argTypes:=ts } =>match as.toList,ts.toList with
   | [s,x],[t,t'] =>bif Nat.beq t t' then aaI Θ S t (e s) (e x) κ else abT Θ S t (e s) (e x) κ
   | _,_=>none
 | .call { callee:= .value f,args:=as,argTypes:=ts } =>WE Θ Y S f ts.toList as.toList κ
 | _=>LQ Θ S o κ
def xF (S:TS) (d:Option Tmp) (v:V) (κ:TS→Option ρ):Option ρ:=match d with
 | some t=>bif Nat.blt t S.nt then κ { S with env:=(t,v)::S.env } else none
 | none=>κ S
def WF (S:TS) (all:List Oper) (o:Oper) (κ:Bool→TS→Option ρ):Option ρ:=match o.guard with
 | none=>κ true S
 | some (j,want)=>match tp all j with
   | some oj=>match oj.dst with
     | some d=>match ki S.env d with
       | .tup [] =>κ false S
       | _=>S4 S (.tmp d) fun b S1=>κ (b==want) S1
     | none=>none
   | none=>none
noncomputable def Y0 {α:Type} (x y:α) (z:α):α:=open Classical in if x=y then x else z
def Y1 {α β:Type} (l:List α) (x y:β):β:=match l with | [] =>x | _::_=>y
def K6 (o:Oper):Option (TypeId×Operand):=match o.op with
 | .binOp .eql t x (.const (.slice none 0 0)) _=>(match o.guard with | none=>some (t,x) | some _=>none)
 | _=>none
def adb (Θ:to) (t:TypeId):Bool:=match qw Θ t with | some ti=>(match ti.ty with | .ls _=>true | _=>false) | none=>false
def S9 (Y:Fe) (S:TS) (o:Oper):Option (Nat×FuncId×List Cl×Nat×Nat×List TypeId×List Operand):=match o.op with
 | .call { callee:= .value f,args:=as,argTypes:=ts } =>(match o.guard with
   | some _=>none
   | none=>match as.toList,ts.toList with
     | x::xs,_::us=>(match S.opd x with
       | .v (.cl (.own ⟨r,[]⟩ sz _ _ true))=>(match S.opd f with
         | .v (.cl (.c (.sc (.func (.func g) _ _))))=>bif Nat.blt g kQ&& !Nat.beq (Y.kd g) 0 then some (Y.kd g,g,[],r,sz,us,xs) else none
         | .v (.fn g caps)=>bif Nat.blt g kQ&& !Nat.beq (Y.kd g) 0 then some (Y.kd g,g,caps,r,sz,us,xs) else none
         | _=>none)
       | _=>none)
     | _,_=>none)
 | _=>none
def Vw:V→Bool
 | .v (.cl (.c (.sc _)))=>true
 | .tup [] =>true
 | _=>false
def Y2 (Θ:to) (Y:Fe) (S:TS) (k:Nat) (g:FuncId) (caps:List Cl) (r sz:Nat) (us:List TypeId) (xs:List Operand) (dst:Option Tmp) (κ:TS→Option ρ):Option ρ:=match dG S.gh r with
 | some ⟨el,l,none⟩=>bif Nat.beq sz el.width then xD Θ { S with gh:=dS S.gh r none } us xs fun vs=>LS (Xy { S with gh:=dS S.gh r none } none) caps fun cs=>
   bif Nat.beq k 1 then Y (qx g) (.cl (.c (.ls el l)):: (vs++cs.map .cl)) ρ fun res out=>(match out with
    | [⟨t,l',none⟩] =>bif decide (t=el)&&Vw res then aq (l'.length=l.length) (xF { S with gh:=dS S.gh r (some ⟨t,l',none⟩) } dst res κ) none else none
    | _=>none)
   else bif Nat.ble S.fz r then Y (LR g) (.cl (.c (.ls el l)):: (vs++cs.map .cl)) ρ fun res out=>xF { S with gh:=dS S.gh r none++out.map some } dst (yG S.gh.length res) κ
   else none else none
 | _=>none
inductive Vx where
 | nest (r i j sz lo len:Nat)
 | agg (cs:List Cl)
def QM:V→Option Vx
 | .v (.cl (.own ⟨r,[(i,j)]⟩ sz lo len _))=>some (.nest r i j sz lo len)
 | .v (.agg cs)=>some (.agg cs)
 | _=>none
def LV (Y:Fe) (S:TS) (o:Oper):Option (FuncId×List Cl×Vx×List TypeId×List Operand):=match o.op with
 | .call { callee:= .value f,args:=as,argTypes:=ts } =>(match o.guard with
   | some _=>none
   | none=>match as.toList,ts.toList with
     | x::xs,_::us=>(match QM (S.opd x) with
       | some a=>(match S.opd f with
         | .v (.cl (.c (.sc (.func (.func g) _ _))))=>bif Nat.blt g kQ&&Nat.beq (Y.kd g) 1 then some (g,[],a,us,xs) else none
         | .v (.fn g caps)=>bif Nat.blt g kQ&&Nat.beq (Y.kd g) 1 then some (g,caps,a,us,xs) else none
         | _=>none)
       | none=>none)
     | _,_=>none)
 | _=>none
def Cc (S:TS):List Cl→Option (List C×List Nat)
 | [] =>some ([],[])
 | .c (.sc v)::cs=>(match Cc S cs with | some (xs,L)=>some (.sc v::xs,L) | none=>none)
 | .own ⟨r,[]⟩ sz _ _ true::cs=>(match dG S.gh r with
   | some ⟨el,l,none⟩=>bif Nat.beq sz el.width then (match Cc S cs with | some (xs,L)=>some (.ls el l::xs,r::L) | none=>none) else none
   | _=>none)
 | _=>none
def Y3 (G:List (Option cc)) (L:List Nat):List (Option cc):=L.foldl (fun G r=>dS G r none) G
def LW (S:TS):List Nat→List cc→(TS→Option ρ)→Option ρ
 | [],[],κ=>κ S
 | r::L,⟨t,l',none⟩::out,κ=>(match dG S.gh r with
   | some ⟨el,l,none⟩=>bif decide (t=el) then aq (l'.length=l.length) (LW { S with gh:=dS S.gh r (some ⟨t,l',none⟩) } L out κ) none else none
   | _=>none)
 | _,_,_=>none
def QN (Θ:to) (Y:Fe) (S:TS) (g:FuncId) (caps:List Cl) (a:Vx) (us:List TypeId) (xs:List Operand) (dst:Option Tmp) (κ:TS→Option ρ):Option ρ:=match a with
 | .agg cs=>(match Cc S cs with
   | some (ys,L)=>bif ndB L then xD Θ { S with gh:=Y3 S.gh L } us xs fun vs=>LS (Xy { S with gh:=Y3 S.gh L } none) caps fun ks=>
     Y (qx g) (.agg (ys.map .c):: (vs++ks.map .cl)) ρ fun res out=>bif Vw res then LW S L out fun S3=>xF S3 dst res κ else none else none
   | none=>none)
 | .nest r i j sz lo len=>(match dG S.gh r with
   | some ⟨t,l,none⟩=>(l[i]?).bind fun y=>(match tp (t.flat y) j with
     | some (.ls el v)=>bif Nat.beq sz el.width then aq (lo=0∧len=v.length) (xD Θ { S with gh:=dS S.gh r (some ⟨t,l,some (i,j)⟩) } us xs fun vs=>LS (Xy { S with gh:=dS S.gh r (some ⟨t,l,some (i,j)⟩) } none) caps fun ks=>
       Y (qx g) (.cl (.c (.ls el v)):: (vs++ks.map .cl)) ρ fun res out=>(match out with
         | [⟨t',v',none⟩] =>bif decide (t'=el)&&Vw res then aq (v'.length=v.length) (match t.unflat (dS (t.flat y) j (.ls t' v')) with
           | some z=>xF { S with gh:=dS S.gh r (some ⟨t,l.set i z,none⟩) } dst res κ
           | none=>none) none else none
         | _=>none)) none else none
     | _=>none)
   | _=>none)
def QO (S:TS) (o:Oper):Option (TypeId×Nat×Nat×Nat×Nat):=match o.op with
 | .call { callee:= .builtin .clear,args:=as,argTypes:=ts } =>(match o.guard with
   | some _=>none
   | none=>match as.toList,ts.toList with
     | [x],[t] =>(match S.opd x with
       | .v (.cl (.own ⟨r,[]⟩ sz lo len _))=>some (t,r,sz,lo,len)
       | _=>none)
     | _,_=>none)
 | _=>none
def Vy (Θ:to) (S:TS) (t:TypeId) (r sz lo len:Nat) (dst:Option Tmp) (κ:TS→Option ρ):Option ρ:=match qw Θ t with
 | some ti=>match dG S.gh r with
   | some ⟨el,l,none⟩=>bif decide (ti.ty= .ls el)&&Nat.beq el.width 1&&Nat.beq sz 1&&el.flatB then (match el.unflat el.zcs with
     | some z=>aq (lo+len≤l.length) (xF { S with gh:=dS S.gh r (some ⟨el,l.take lo++List.replicate len z++l.drop (lo+len),none⟩) } dst (.tup []) κ) none
     | none=>none) else none
   | _=>none
 | none=>none
def Ta (b:Bool):V:= .v (.cl (.c (.sc (.bool b))))
noncomputable def JD (Θ:to) (Y:Fe) (all:List Oper):List Oper→TS→(TS→Option ρ)→Option ρ
 | [],S,κ=>κ S
 | o::os,S,κ=>match K6 o with
   | some (t,x)=>bif adb Θ t then (match S.opd x with
     | .v (.cl (.c (.ls _ l)))=>Y1 l (Y0 (xF S o.dst (Ta true) fun S3=>JD Θ Y all os S3 κ) (xF S o.dst (Ta false) fun S3=>JD Θ Y all os S3 κ) none) (xF S o.dst (Ta false) fun S3=>JD Θ Y all os S3 κ)
     | _=>none) else none
   | none=>match QO S o with
   | some (t,r,sz,lo,len)=>Vy Θ S t r sz lo len o.dst fun S3=>JD Θ Y all os S3 κ
   | none=>match S9 Y S o with
   | some (k,g,caps,r,sz,us,xs)=>Y2 Θ Y S k g caps r sz us xs o.dst fun S3=>JD Θ Y all os S3 κ
   | none=>match LV Y S o with
   | some (g,caps,a,us,xs)=>QN Θ Y S g caps a us xs o.dst fun S3=>JD Θ Y all os S3 κ
   | none=>WF S all o fun b S1=>bif b then Ff Θ Y S1 o fun v S2=>xF S2 o.dst v fun S3=>JD Θ Y all os S3 κ else xF S1 o.dst (V.tup []) fun S3=>JD Θ Y all os S3 κ
def gone:Nat→List (Option cc)→List (Option cc)→List Nat
 | n,some _::l,none::m=>n::gone (n+1) l m
 | n,_::l,_::m=>gone (n+1) l m
 | _,_,_=> []
def Y4 (l:List (Option cc)):List T:=l.map fun x=>match x with | some tr=>tr.tree | none=> .dd
def He (S S':TS):kh:=⟨S.gh.length,Y4 (S'.gh.drop S.gh.length),gone 0 S.gh S'.gh⟩
def abU (d:Nat) (o:Oper):Bool:=match o.dst with | some d'=> !(Nat.beq d d') | none=>true
def adc (o:Oper) (os:List Oper):Bool:=match o.dst with | some d=>os.all (abU d) | none=>false
def lsT (Θ:to) (t:TypeId):Bool:=match qw Θ t with
 | some ti=>(match ti.ty with | .ls _=>true | _=>false)
 | none=>false
def ade (Θ:to) (o:Oper):Bool:=match o.op with
 | .buildSlice t _ _=>lsT Θ t
 | .call { callee:= .builtin .append,args:=_,argTypes:=ts } =>(match ts.toList with | t::_=>lsT Θ t | [] =>false)
 | _=>true
def WG:V→Bool
 | .v (.cl (.own p _ _ _ _))=>(match p.l with | [] =>true | _=>false)
 | _=>true
def abV (S:TS) (o:Oper):Bool:=match o.op with
 | .buildSlice _ _ parts=> !(parts.toList.map fun x=>S.opd x.2).any LU
 | .call { callee:= .builtin .append,args:=as,argTypes:=ts } =>(match ts.toList with | [t,t'] =>Nat.beq t t' | _=>true)&&(match as.toList with | s::_=>WG (S.opd s) | [] =>true)
 | _=>true
def Y5 (Θ:to):List Oper→TS→(TS→Option ρ)→Option ρ
 | [],S,κ=>κ S
 | o::os,S,κ=>match o.op with
   | .alloc t=>match qw Θ t with | some ti=>Y5 Θ os { S with bx:=S.bx++ [ti.ty.zvs.map cC] } κ | none=>none
   | _=>Y5 Θ os S κ
def Tb (Θ:to) (Y:Fe) (all:List Oper):List Oper→TS→List kh→(TS→List kh→Option ρ)→Option ρ
 | [],S,ms,κ=>κ S ms
 | o::os,S,ms,κ=>bif aA o then Tb Θ Y all os S (ms++ [⟨S.gh.length,[],[]⟩]) κ else bif ei o then (bif o.guard.isNone then xF S o.dst (V.v (.cl (.ptrB (S.bx.length - 1 - dU os) 0))) fun S3=>Tb Θ Y all os S3 (ms++ [⟨S.gh.length,[],[]⟩]) κ else none) else
    WF S all o fun b S1=>bif b then
     (bif md o then (bif adc o os&&ade Θ o&&abV S1 o then Ff Θ Y S1 o fun v S2=>xF S2 o.dst v fun S3=>Tb Θ Y all os S3 (ms++ [He S1 S2]) κ else none)
     else LQ Θ S1 o fun v S2=>xF S2 o.dst v fun S3=>Tb Θ Y all os S3 (ms++ [⟨S1.gh.length,[],[]⟩]) κ)
     else xF S1 o.dst (V.tup []) fun S3=>Tb Θ Y all os S3 (ms++ [⟨S1.gh.length,[],[]⟩]) κ
def Y6 (Θ:to) (Y:Fe):List Oper→TS→(TS→Option ρ)→Option ρ
 | [],S,κ=>κ S
 | o::os,S,κ=>bif aA o then (bif o.guard.isNone&&o.dst.isNone then Ff Θ Y S o fun _ S1=>Y6 Θ Y os S1 κ else none) else Y6 Θ Y os S κ
def Y7 (Θ:to) (t:TypeId):Bool:=match qw Θ t with | some ti=>ti.ty.flatB | none=>false
def acl (Θ:to) (Y:Fe) (ops:List Oper) (S:TS) (κ:TS→Option ρ):Option ρ:=
 Y5 Θ ops S fun S0=>Tb Θ Y ops ops S0 [] fun SV ms=>bif U5 (Y7 Θ) ops (jb ops) S0.st ms SV.st then Y6 Θ Y ops SV κ else none
def bU:Code→Nat
 | .region id _ _=>id
 | .seq a _=>bU a
 | .block _ c=>bU c
 | .loop c=>bU c
 | _=>0
abbrev tu:=Nat→TS→(ρ:Type)→(X→TS→Option ρ)→Option ρ
noncomputable def ez (Θ:to) (Y:Fe) (Λ:tu):Code→TS→(X→TS→Option ρ)→Option ρ
 | .skip,S,κ=>κ .nor S
 | .region _ ops false,S,κ=>JD Θ Y ops.toList ops.toList S (κ .nor)
 | .region _ ops true,S,κ=>acl Θ Y ops.toList S (κ .nor)
 | .seq a b,S,κ=>ez Θ Y Λ a S fun x S1=>match x with | .nor=>ez Θ Y Λ b S1 κ | x=>κ x S1
 | .cond c a b,S,κ=>S4 S c fun t S1=>bif t then ez Θ Y Λ a S1 κ else ez Θ Y Λ b S1 κ
 | .block id c,S,κ=>ez Θ Y Λ c S fun x S1=>match x with | .ext i=>bif Nat.beq i id then κ .nor S1 else κ (.ext i) S1 | x=>κ x S1
 | .loop c,S,κ=>Λ (bU c) S ρ κ
 | .exit id,S,κ=>κ (.ext id) S
 | .ret,S,κ=>κ .ret S
 | _,_,_=>none
def aaJ (S:TS) (gs:List cc) (et:Option Ty) (c:Cl) (κ:Cl→List cc→TS→Option ρ):Option ρ:=match c,et with
 | .c (.sc v),_=>κ (.c (.sc v)) gs S
 | .em,some t=>κ (.own ⟨gs.length,[]⟩ t.width 0 0 true) (gs++ [⟨t,[],none⟩]) S
 | .own p sz lo len w,some t'=>match p.l with
   | [] =>bif Nat.ble S.fz p.r&&Nat.beq t'.width sz then wn S p fun t l=>bif Nat.beq t.width sz then
     (bif w then κ (.own ⟨gs.length,[]⟩ sz 0 l.length true) (gs++ [⟨t,l,none⟩]) { S with gh:=dS S.gh p.r none }
     else aq (lo=0∧len≤l.length) (κ (.own ⟨gs.length,[]⟩ sz 0 (l.take len).length true) (gs++ [⟨t,l.take len,none⟩]) { S with gh:=dS S.gh p.r none }) none) else none
     else none
   | _=>none
 | _,_=>none
def WH:TS→List cc→List (Option Ty)→List Cl→(List Cl→List cc→TS→Option ρ)→Option ρ
 | S,gs,et::ets,c::cs,κ=>aaJ S gs et c fun c' gs' S'=>WH S' gs' ets cs fun cs' gs'' S''=>κ (c'::cs') gs'' S''
 | S,gs,[],[],κ=>κ [] gs S
 | _,_,_,_,_=>none
def acm (Θ:to) (S:TS) (gs:List cc) (t:TypeId) (v:V) (κ:V1→List cc→TS→Option ρ):Option ρ:=match qw Θ t with
 | none=>none
 | some ti=>match v with
   | .v (.agg cs)=>WH S gs ti.ty.csh cs fun cs' gs' S'=>κ (.agg cs') gs' S'
   | .v (.cl c)=>aaJ S gs (ti.ty.csh.headD none) c fun c' gs' S'=>κ (.cl c') gs' S'
   | _=>none
def xG (Θ:to):TS→List cc→List (TypeId×V)→(List V1→List cc→Option ρ)→Option ρ
 | _,gs,[],κ=>κ [] gs
 | S,gs,(t,v)::r,κ=>acm Θ S gs t v fun v' gs' S'=>xG Θ S' gs' r fun vs gs''=>κ (v'::vs) gs''
def JE (Θ:to) (S:TS):List ResultVar→List TypeId→(List (TypeId×V)→Option ρ)→Option ρ
 | .tmp a::rs,t::ts,κ=>JE Θ S rs ts fun l=>κ ((t,ki S.env a)::l)
 | .cell a t'::rs,t::ts,κ=>S5 Θ S t' (ki S.env a) fun v=>JE Θ S rs ts fun l=>κ ((t,v)::l)
 | [],[],κ=>κ []
 | _,_,_=>none
def Cy:List V1→V
 | [v] => .v v
 | vs=> .tup vs
def oT:Nat→List V1→List (Nat×V)
 | _,[] => []
 | n,v::l=>(n, .v v)::oT (n+1) l
noncomputable def fnK (Θ:to) (Y:Fe) (Λ:tu) (fn:Func) (args:List V1) (κ:V→List cc→Option ρ):Option ρ:=match fn.body with
 | none=>none
 | some c=>ez Θ Y Λ c { env:=oT 0 args,bx:= [],gh:= [],fz:=0,nt:=args.length+(fn.ntmps - args.length) } fun x S=>match x with
   | .ext _=>none
   | _=>JE Θ S fn.results.toList fn.resultTypes.toList fun rs=>xG Θ S [] rs fun vs gs=>κ (Cy vs) gs
def QP:List Cl→Option (List C)
 | [] =>some []
 | .c x::l=>match QP l with | some r=>some (x::r) | none=>none
 | _=>none
def un (t:Ty) (a:V1) (κ:t.D→Option ρ):Option ρ:=match a with
 | .agg cs=>bif t.ag then (match QP cs with
   | some xs=>(match t.unflat xs with | some x=>κ x | none=>none)
   | none=>none) else none
 | .cl (.c y)=>bif t.ag then none else (match t.unflat [y] with | some x=>κ x | none=>none)
 | _=>none
def Aj:List C→Nat→List Cl
 | [],_=> []
 | .sc v::r,n=> .c (.sc v)::Aj r n
 | .ls t l::r,n=> .own ⟨n,[]⟩ t.width 0 l.length true::Aj r (n+1)
def qy:List C→List cc
 | [] => []
 | .sc _::r=>qy r
 | .ls t l::r=>⟨t,l,none⟩::qy r
def LX (t:Ty) (x:t.D) (n:Nat):V1:=bif t.ag then .agg (Aj (t.flat x) n) else match Aj (t.flat x) n with | [c] => .cl c | _=> .cl .dead
def CT:Nat→List ((t:Ty)×t.D)→List V1
 | _,[] => []
 | n,⟨t,x⟩::r=>LX t x n::CT (n+(qy (t.flat x)).length) r
def CU:List ((t:Ty)×t.D)→List cc
 | [] => []
 | ⟨t,x⟩::r=>qy (t.flat x)++CU r
def ret (l:List ((t:Ty)×t.D)) (κ:V→List cc→Option ρ):Option ρ:=κ (Cy (CT 0 l)) (CU l)
end
abbrev bc:=List V1→(ρ:Type)→(V→List cc→Option ρ)→Option ρ
def acn:List (Nat×bc)→FuncId→List V1→(ρ:Type)→(V→List cc→Option ρ)→Option ρ
 | [],_,_,_,_=>none
 | (g,e)::l,f,as,ρ,κ=>bif Nat.beq g f then e as ρ κ else acn l f as ρ κ
def aco:List (Nat×bc)→Nat→Bool
 | [],_=>false
 | (g,_)::l,f=>bif Nat.beq g f then true else aco l f
def aE (l:List (Nat×bc)):Fe:=⟨acn l,fun g=>bif aco l (qx g) then 1 else bif aco l (LR g) then 2 else 0⟩
noncomputable def aaK {ρ:Type} (Θ:to) (Y:Fe) (Λ:tu) (fn:Func) (m:Nat) (el:Ty) (l:List el.D) (args:List V1) (κ:V→List cc→Option ρ):Option ρ:=match fn.body with
 | none=>none
 | some c=>ez Θ Y Λ c { env:=oT 0 (.cl (.own ⟨0,[]⟩ el.width 0 l.length true)::args),bx:= [],gh:= [some ⟨el,l,none⟩],fz:=m,nt:=(args.length+1)+(fn.ntmps - (args.length+1)) } fun x S=>match x with
   | .ext _=>none
   | _=>JE Θ S fn.results.toList fn.resultTypes.toList fun rs=>bif Nat.beq m 0 then xG Θ S [] rs fun vs gs=>κ (Cy vs) gs else match dG S.gh 0 with
     | some ⟨t,l',none⟩=>xG Θ S [⟨t,l',none⟩] rs fun vs gs=>κ (Cy vs) gs
     | _=>none
def Cd (S:TS):Nat→Nat→Option (List cc)
 | _,0=>some []
 | r,n+1=>(match dG S.gh r with
   | some ⟨t,l,none⟩=>(match Cd S (r+1) n with | some ts=>some (⟨t,l,none⟩::ts) | none=>none)
   | _=>none)
noncomputable def acp {ρ:Type} (Θ:to) (Y:Fe) (Λ:tu) (fn:Func) (t:Ty) (x:t.D) (args:List V1) (κ:V→List cc→Option ρ):Option ρ:=match fn.body with
 | none=>none
 | some c=>ez Θ Y Λ c { env:=oT 0 (LX t x 0::args),bx:= [],gh:=(qy (t.flat x)).map some,fz:=(qy (t.flat x)).length,nt:=(args.length+1)+(fn.ntmps - (args.length+1)) } fun y S=>match y with
   | .ext _=>none
   | _=>JE Θ S fn.results.toList fn.resultTypes.toList fun rs=>match Cd S 0 (qy (t.flat x)).length with
     | some gs=>xG Θ S gs rs fun vs gs'=>κ (Cy vs) gs'
     | none=>none
def Tc (t:Ty) (x:t.D):V1:=bif t.ag then .agg ((t.flat x).map .c) else match (t.flat x).map Cl.c with | [c] => .cl c | _=> .cl .dead
end Go.Proofs.YtkcgfceffffmoaaGreat.En
namespace Go.Proofs.YtkcgfceffffmoaaGreat.En
open Go
theorem ej {α:Type}: ∀ (l:List α) (n:Nat),tp l n=l[n]?
 | [],n=>by simp [tp]
 | a::l,0=>by simp [tp]
 | a::l,n+1=>by show tp l n=_; rw [ej l]; simp
theorem hO {α:Type}: ∀ (l:List α) (n:Nat) (x:α),dS l n x=l.set n x
 | [],n,x=>by simp [dS]
 | a::l,0,x=>by simp [dS]
 | a::l,n+1,x=>by show a::dS l n x=_; rw [hO l]; simp
theorem Td: ∀ {l:List (Nat×V)} {t:Nat},ki l t=V.dead∨(t,ki l t)∈l
 | [],t=> .inl rfl
 | (u,v)::l,t=>by
   simp only [ki]
   cases h:Nat.beq u t with
   | true=>
     have :u=t:=Nat.eq_of_beq_eq_true h
     subst this
     exact .inr (List.mem_cons_self)
   | false=>
     rcases Td (l:=l) (t:=t) with h' | h'
     ·exact .inl h'
     ·exact .inr (List.mem_cons_of_mem _ h')
def Cl.ok (G:List (Option cc)):Cl→Prop
 | .own p _ lo len w=>p.r < G.length∧(w=true→p.l= [] ∧lo=0∧ ∀ tr,dG G p.r=some tr→len=tr.l.length)
 | .ptrT p _ _ _=>p.r < G.length
 | _=>True
def V1.ok (G:List (Option cc)):V1→Prop
 | .cl c=>c.ok G
 | .agg cs=> ∀ c∈cs,c.ok G
 | .fn _ cs=> ∀ c∈cs,c.ok G
def V.ok (G:List (Option cc)):V→Prop
 | .v x=>x.ok G
 | .tup l=> ∀ x∈l,x.ok G
structure TS.ok (S:TS):Prop where
 env: ∀ x∈S.env,x.2.ok S.gh
 bx: ∀ cs∈S.bx,∀ c∈cs,c.ok S.gh
def jL (G G':List (Option cc)):Prop:=G.length≤G'.length∧ ∀ r tr',r < G.length→dG G' r=some tr'→ ∃ tr,dG G r=some tr∧tr.l.length=tr'.l.length
theorem jL.refl (G:List (Option cc)):jL G G:=⟨Nat.le_refl _,fun _ tr _ h=>⟨tr,h,rfl⟩⟩
theorem jL.trans {G H K:List (Option cc)} (h:jL G H) (k:jL H K):jL G K:=⟨Nat.le_trans h.1 k.1,fun r tr hr hK=>by
 obtain⟨t1,h1,h2⟩:=k.2 r tr (Nat.lt_of_lt_of_le hr h.1) hK
 obtain⟨t2,h3,h4⟩:=h.2 r t1 hr h1
 exact⟨t2,h3,h4.trans h2⟩⟩
theorem Cl.ok_mono {G G':List (Option cc)} (h:jL G G') {c:Cl} (hc:c.ok G):c.ok G':=by
 cases c with
 | own p sz lo len w=>
   obtain⟨h1,h2⟩:=hc
   refine⟨Nat.lt_of_lt_of_le h1 h.1,fun hw=> ?_⟩
   obtain⟨a,b,c⟩:=h2 hw
   refine⟨a,b,fun tr htr=> ?_⟩
   obtain⟨tr0,k1,k2⟩:=h.2 _ tr h1 htr
   rw [c tr0 k1,k2]
 | ptrT p sz i j=>exact Nat.lt_of_lt_of_le hc h.1
 | _=>trivial
theorem V1.ok_mono {G G':List (Option cc)} (h:jL G G') {v:V1} (hv:v.ok G):v.ok G':=by
 cases v with
 | cl c=>exact Cl.ok_mono h hv
 | agg cs=>exact fun c hc=>Cl.ok_mono h (hv c hc)
 | fn f cs=>exact fun c hc=>Cl.ok_mono h (hv c hc)
theorem V.ok_mono {G G':List (Option cc)} (h:jL G G') {v:V} (hv:v.ok G):v.ok G':=by
 cases v with
 | v x=>exact V1.ok_mono h hv
 | tup l=>exact fun x hx=>V1.ok_mono h (hv x hx)
theorem V.ok_dead (G:List (Option cc)):V.dead.ok G:=trivial
theorem V.ok_sc (G:List (Option cc)) (v:Value): (V.sc v).ok G:=trivial
theorem K7 {S:TS} (hS:S.ok) (t:Nat): (ki S.env t).ok S.gh:=by
 rcases Td (l:=S.env) (t:=t) with h | h
 ·rw [h]; trivial
 ·exact hS.env _ h
theorem uK (v:Value): (cC v).av=K1 v:=by
 unfold cC K1
 cases h:uU v with
 | true=>rfl
 | false=>
   simp only [cond_false,Bool.false_eq_true,if_false]
   split
   ·rfl
   ·split
    ·exact absurd rfl ‹_›
    ·rfl
theorem adf (v:Value): (cV v).av=NZ v:=by
 cases v with
 | agg cs=>
   simp only [cV,NZ]
   cases h:cs.toList.all Value.oneCell' with
   | true=>
     simp only [cond_true,if_true]
     simp only [V.av,V1.av,List.map_map]
     congr 1
     exact List.map_congr_left fun x _=>uK x
   | false=>rfl
 | bool b=>exact uK (.bool b)
 | int k n=>exact uK (.int k n)
 | float k n=>exact uK (.float k n)
 | complex k n m=>exact uK (.complex k n m)
 | string x=>exact uK (.string x)
 | pointer x=>exact uK (.pointer x)
 | slice x y z=>exact uK (.slice x y z)
 | map x=>exact uK (.map x)
 | chan x=>exact uK (.chan x)
 | func x y z=>exact uK (.func x y z)
 | nilFunc=>exact uK .nilFunc
 | iface x y=>exact uK (.iface x y)
 | nilIface=>exact uK .nilIface
 | tuple x=>exact uK (.tuple x)
theorem WI (G:List (Option cc)) (v:Value): (cC v).ok G:=by
 unfold cC
 cases uU v with
 | true=>trivial
 | false=>simp only [cond_false]; split <;> trivial
theorem adg (G:List (Option cc)) (v:Value): (cV v).ok G:=by
 unfold cV
 split
 ·rename_i cs
  cases cs.toList.all Value.oneCell' with
  | true=>intro c hc; simp only [List.mem_map] at hc; obtain⟨x,_,rfl⟩:=hc; exact WI _ _
  | false=>trivial
 ·exact WI _ _
theorem bk {S:TS} (x:Operand):opd S.st x=(S.opd x).av:=by
 cases x with
 | tmp t=>rfl
 | const v=>exact (adf v).symm
 | func f=>rfl
 | global g=>rfl
theorem oU {S:TS} (hS:S.ok) (x:Operand): (S.opd x).ok S.gh:=by
 cases x with
 | tmp t=>exact K7 hS t
 | const v=>exact adg _ _
 | func f=>trivial
 | global g=>trivial
section
variable {ρ:Type}
theorem aaL {α:Type} {b:Bool} {x y:Option α} {r:α} (h:br b x y=some r): (b=true∧x=some r)∨(b=false∧y=some r):=by
 cases b with
 | true=>exact .inl ⟨rfl,h⟩
 | false=>exact .inr ⟨rfl,h⟩
theorem dT {α:Type} {c:Prop} [Decidable c] {x:Option α} {r:α} (h:aq c x none=some r):c∧x=some r:=by
 unfold aq at h
 split at h
 ·exact⟨‹_›,h⟩
 ·cases h
theorem Hf {α:Type} {c:Prop} [Decidable c] {x:Option α} {r:α} (h:aq c none x=some r): ¬ c∧x=some r:=by
 unfold aq at h
 split at h
 ·cases h
 ·exact⟨‹_›,h⟩
theorem aB {α:Type} {c:Bool} {x:Option α} {r:α} (h: (bif c then x else none)=some r):c=true∧x=some r:=by
 cases c with
 | true=>exact⟨rfl,h⟩
 | false=>cases h
theorem Te {S:TS} {t:Nat} {b:Bool} (h:ki S.env t=V.sc (.bool b)): ({ S with env:=(t,V.sc (.bool b))::S.env }:TS).st=S.st:=by
 unfold TS.st
 simp only
 congr 1
 funext u
 simp only [ki]
 cases hb:Nat.beq t u with
 | true=>
   have :t=u:=Nat.eq_of_beq_eq_true hb
   subst this
   rw [h]
   rfl
 | false=>rfl
theorem Tf {S:TS} (hS:S.ok) (t:Nat) (b:Bool): ({ S with env:=(t,V.sc (.bool b))::S.env }:TS).ok:=
 ⟨fun x hx=>by
  simp only [List.mem_cons] at hx
  rcases hx with rfl | hx
  ·trivial
  ·exact hS.env x hx,hS.bx⟩
theorem LY {S:TS} (hS:S.ok) {x:Operand} {κ:Bool→TS→Option ρ} {r:ρ} (h:S4 S x κ=some r):
  ∃ b S',opd S.st x= .sc (.bool b)∧S'.st=S.st∧S'.ok∧S'.gh=S.gh∧κ b S'=some r:=by
 unfold S4 at h
 split at h
 ·rename_i t
  split at h
  ·rename_i b hb
   rcases aaL h with ⟨rfl,h⟩ | ⟨rfl,h⟩
   ·exact⟨true,_,by show (ki S.env t).av=_; rw [hb]; rfl,Te hb,Tf hS _ _,rfl,h⟩
   ·exact⟨false,_,by show (ki S.env t).av=_; rw [hb]; rfl,Te hb,Tf hS _ _,rfl,h⟩
  ·cases h
 ·rename_i b
  exact⟨b,S,rfl,rfl,hS,rfl,h⟩
 ·cases h
theorem Fg {v:V} {κ:Int→Option ρ} {r:ρ} (h:Vr v κ=some r): ∃ n,Lj v.av=some n∧κ n=some r:=by
 unfold Vr at h
 split at h
 ·exact⟨_,rfl,h⟩
 ·cases h
theorem cc.look {G:List (Option cc)} {r:Nat} {tr:cc} (h:tp G r=some (some tr)):dG G r=some tr:=by
 unfold dG
 rw [h]
 rfl
theorem gm {S:TS} {p:ci} {κ: (t:Ty)→List t.D→Option ρ} {r:ρ} (h:wn S p κ=some r):
  ∃ (t:Ty) (l:List t.D),S.st.look p= .sl t.width (l.map t.row)∧(p.l= [] →dG S.gh p.r=some ⟨t,l,none⟩)∧κ t l=some r:=by
 unfold wn at h
 split at h
 ·rename_i tr htr
  have hg:=cc.look htr
  split at h
  ·rename_i hh
   obtain⟨t,l,hole⟩:=tr
   simp only at hh
   subst hh
   split at h
   ·rename_i hp
    refine⟨t,l,?_,fun _=>hg,h⟩
    unfold St.look
    have :S.st.gh p.r=some (.sl t.width (l.map t.row)):=by show (dG S.gh p.r).map cc.tree=_; rw [hg]; rfl
    rw [this,hp]
    rfl
   ·rename_i i j hp
    simp only [Option.bind_eq_some_iff] at h
    obtain⟨x,hx,h⟩:=h
    split at h
    ·rename_i t' l' hj
     refine⟨t',l',?_,(fun h0=>by rw [hp] at h0; cases h0),h⟩
     unfold St.look
     have :S.st.gh p.r=some (.sl t.width (l.map t.row)):=by show (dG S.gh p.r).map cc.tree=_; rw [hg]; rfl
     rw [this,hp]
     simp only [T.go,T.cell]
     have e1: (l.map t.row).getD i [] =t.row x:=by simp [List.getD_eq_getElem?_getD,hx]
     rw [e1,t.row_flat]
     rw [ej] at hj
     simp [List.getD_eq_getElem?_getD,hj,C.tree]
    ·cases h
   ·cases h
  ·cases h
 ·cases h
end
end Go.Proofs.YtkcgfceffffmoaaGreat.En
namespace Go.Proofs.YtkcgfceffffmoaaGreat.En
open Go
def Ty.shs (t:Ty):List Nat:=t.csh.map fun | some e=>e.width | none=>0
structure TI.ok (P:Program) (t:TypeId) (ti:TI):Prop where
 ag:NY P t=some ti.ty.ag
 cells:P.cellsOf t=ti.ty.width
 sh:th P 9 t=ti.ty.shs
 ze:G0 P t=some ti.ty.zvs
 fd: ∀ k,Yv P t k=tp ti.fds k
 pl:ti.ty.ag=true→plT P t=some (ti.fds.map fun x=>(x.1,x.2.1))
 el: ∀ e,ti.ty= .ls e→ ∃ el,Cx P t=some el∧P.cellsOf el=e.width∧P.bytesOf el=ti.el∧0 < ti.el∧th P 9 el=e.shs∧G0 P el=some e.zvs
 bool:ti.ty= .b→P.underlying t=some .bool
 gu:ti.ty.ag=true→ti.ty.flatB=true→P.eqGuardType P.depth t=false
 eq:ti.ty.ag=true→ ∀ (a b:List Cl) (r:Bool) (xs ys:List Value),oF ti.ty.zvs a=true→oF ti.ty.zvs b=true→Ca a b=some r→a=xs.map (fun x=> .c (.sc x))→b=ys.map (fun x=> .c (.sc x))→bQ P (Op.equal t (.agg xs.toArray) (.agg ys.toArray))=some r
 str:Qo P t=(match ti.ty with | .s=>true | _=>false)
 int: ∀ k,ti.ty= .i k→P.underlying t=some (.int k)
def fk (P:Program) (Θ:to):Prop:= ∀ t ti,qw Θ t=some ti→ti.ok P t
theorem Ty.width_pos (t:Ty):0 < t.width:=by
 cases t with
 | st n=>cases n <;> decide
 | _=>exact Nat.one_pos
theorem C.ro_tree (c:C):T.ro c.tree=c.av:=by cases c <;> rfl
theorem C.own_tree (p:ci) (i m:Nat) (c:C):Yx p i m c.tree=(Vs p i m c).av:=by
 cases c with
 | sc v=>rfl
 | ls t l=>simp [Yx,C.tree,Vs,Cl.av]
theorem Hg {α β:Type} (f:Nat→α→β): ∀ (j:Nat) (l:List α) (k:Nat),(Hd f j l)[k]? =(l[k]?).map (f (j+k))
 | j,[],k=>by simp [Hd]
 | j,a::l,0=>by simp [Hd]
 | j,a::l,k+1=>by simp only [Hd,List.getElem?_cons_succ]; rw [Hg f (j+1) l k]; congr 2; omega
section
variable {ρ:Type} {P:Program} {Θ:to} {S:TS}
theorem oz {p:ci} {sz:Nat} {rows:List (List T)} (h:S.st.look p= .sl sz rows):S.st.rows p sz=some rows:=by
 unfold St.rows
 rw [h]
 simp
theorem Xz (hS:S.ok) {n:Nat} {v:Cl} (hv:v.ok S.gh) {κ:List Cl→Option ρ} {r:ρ} (h:Vt S n v κ=some r):
  ∃ cs:List Cl,dB S.st n v.av=some (cs.map Cl.av)∧(∀ c∈cs,c.ok S.gh)∧κ cs=some r:=by
 unfold Vt at h
 split at h
 ·rename_i b j
  split at h
  ·rename_i cs hcs
   obtain⟨h1,h⟩:=aB h
   have h1:j+n≤cs.length:=Nat.le_of_ble_eq_true h1
   refine⟨_,?_,fun c hc=> ?_,h⟩
   ·simp only [Cl.av,dB,TS.st,hcs,Option.map_some,Option.bind_some,List.length_map]
    rw [if_pos h1]
    simp [List.map_take,List.map_drop]
   ·rw [ej] at hcs
    exact hS.bx cs (List.mem_of_getElem? hcs) c (List.mem_of_mem_drop (List.mem_of_mem_take hc))
  ·cases h
 ·rename_i cells
  obtain⟨h1,h⟩:=aB h
  have h1:n≤cells.length:=Nat.le_of_ble_eq_true h1
  refine⟨_,?_,fun c hc=> ?_,h⟩
  ·simp only [Cl.av,dB,List.length_map]
   rw [if_pos h1]
   congr 1
   rw [←List.map_take,List.map_map,List.map_map]
   exact List.map_congr_left fun c _=>C.ro_tree c
  ·obtain⟨x,_,rfl⟩:=List.mem_map.1 hc
   trivial
 ·rename_i p sz i j
  obtain⟨t,l,h1,_,h5⟩:=gm h
  obtain⟨h2,h6⟩:=aB h5
  clear h h5
  simp only [Bool.and_eq_true] at h2
  have h3:t.width=sz:=Nat.eq_of_beq_eq_true h2.1
  have h4:j+n≤sz:=Nat.le_of_ble_eq_true h2.2
  subst h3
  obtain⟨x,hx,h⟩:=Option.bind_eq_some_iff.1 h6
  have hil:i < l.length:=(List.getElem?_eq_some_iff.1 hx).1
  have hfl: (t.flat x).length=t.width:=t.flat_length x
  refine⟨_,?_,fun c hc=> ?_,h⟩
  ·have e1: (l.map t.row).getD i [] =t.row x:=by simp [List.getD_eq_getElem?_getD,hx]
   simp only [Cl.av,dB,oz h1]
   rw [e1,if_pos ⟨by simpa using hil,by rw [t.row_length]; exact h4⟩]
   congr 1
   apply List.ext_getElem?
   intro k
   rw [List.getElem?_map,List.getElem?_map,Hg]
   by_cases hk:k < n
   ·have hjk:j+k < (t.flat x).length:=by omega
    rw [List.getElem?_range hk,List.getElem?_take,if_pos hk,List.getElem?_drop,List.getElem?_eq_getElem hjk]
    simp only [Option.map_some]
    rw [t.row_flat,List.getD_eq_getElem?_getD,List.getElem?_map,List.getElem?_eq_getElem hjk]
    simp only [Option.map_some,Option.getD_some]
    rw [C.own_tree]
   ·rw [List.getElem?_take,if_neg hk,List.getElem?_eq_none (by simp; omega)]
    rfl
  ·obtain⟨k,hk⟩:=List.getElem?_of_mem hc
   rw [Hg] at hk
   simp only [Option.map_eq_some_iff] at hk
   obtain⟨y,_,rfl⟩:=hk
   cases y with
   | sc v=>trivial
   | ls t' l'=>exact⟨hv,fun h=>by cases h⟩
 ·cases h
theorem Y8 {G:List (Option cc)} {ag:Bool} {cs:List Cl} (hcs: ∀ c∈cs,c.ok G) {κ:V→Option ρ} {r:ρ} (h:mkK ag cs κ=some r): ∃ v,mkV ag (cs.map Cl.av)=some v.av∧v.ok G∧κ v=some r:=by
 unfold mkK at h
 cases ag with
 | true=>refine⟨_,rfl,?_,h⟩; exact hcs
 | false=>
   simp only [cond_false] at h
   split at h
   ·rename_i c
    refine⟨_,rfl,?_,h⟩; exact hcs c (by simp)
   ·cases h
theorem Tg (hΘ:fk P Θ) (hS:S.ok) {t:TypeId} {v:V} (hv:v.ok S.gh) {κ:V→Option ρ} {r:ρ} (h:S5 Θ S t v κ=some r):
  ∃ u,load P S.st t v.av=some u.av∧u.ok S.gh∧κ u=some r:=by
 unfold S5 at h
 split at h
 ·rename_i ti hti
  have hok:=hΘ _ _ hti
  split at h
  ·rename_i a
   obtain⟨cs,h1,h2,h⟩:=Xz hS hv h
   obtain⟨u,h3,h4,h⟩:=Y8 h2 h
   refine⟨u,?_,h4,h⟩
   unfold load
   rw [hok.ag,hok.cells]
   simp only [Option.bind_some,V.av,V1.av,h1]
   exact h3
  ·cases h
 ·cases h
theorem aaM {n:Nat} {i:Int} {v:Cl} (hv:v.ok S.gh) {κ:Cl→Option ρ} {r:ρ} (h:acg n i S v κ=some r): ∃ c,EY n i v.av=some c.av∧c.ok S.gh∧κ c=some r:=by
 unfold acg at h
 split at h
 ·rename_i t l
  obtain⟨h1,h⟩:=aB h
  have h1:t.width=n:=Nat.eq_of_beq_eq_true h1
  obtain⟨h2,h⟩:=dT h
  obtain⟨x,hx,h⟩:=Option.bind_eq_some_iff.1 h
  have hil:=(List.getElem?_eq_some_iff.1 hx).1
  refine⟨_,?_,?_,h⟩
  rotate_left
  ·trivial
  simp only [Cl.av,C.av,EY,List.length_map]
  rw [if_pos ⟨h2,by omega,h1⟩]
  congr 1
  simp [List.getD_eq_getElem?_getD,hx,t.row_flat]
 ·rename_i p sz lo len
  obtain⟨h1,h⟩:=aB h
  have h1:sz=n:=Nat.eq_of_beq_eq_true h1
  obtain⟨t,l,h2,h3,h⟩:=gm h
  obtain⟨h4,h⟩:=dT h
  obtain⟨h5,h6⟩:=hv
  obtain⟨h7,h8,h9⟩:=h6 rfl
  have h10:=h9 _ (h3 h7)
  simp only at h10
  refine⟨_,?_,?_,h⟩
  rotate_left
  ·exact h5
  simp only [Cl.av,EY]
  rw [if_pos ⟨h4.1,by omega,h1⟩,h8,Nat.zero_add]
 ·rename_i p sz lo len
  obtain⟨h1,h⟩:=aB h
  have h1:sz=n:=Nat.eq_of_beq_eq_true h1
  obtain⟨h4,h⟩:=dT h
  refine⟨_,?_,?_,h⟩
  rotate_left
  ·exact hv.1
  simp only [Cl.av,EY]
  rw [if_pos ⟨h4.1,h4.2,h1⟩]
 ·cases h
theorem WJ {v:Cl} (hv:v.ok S.gh) {κ:Int→Option ρ} {r:ρ} (h:aaG S v κ=some r): ∃ n,zp v.av=some n∧κ n=some r:=by
 unfold aaG at h
 split at h
 ·exact⟨_,by simp [Cl.av,C.av,zp],h⟩
 ·obtain⟨t,l,h2,h3,h⟩:=gm h
  obtain⟨h5,h6⟩:=hv
  obtain⟨h7,h8,h9⟩:=h6 rfl
  have h10:=h9 _ (h3 h7)
  simp only at h10
  exact⟨_,by simp [Cl.av,zp,h10],h⟩
 ·exact⟨_,rfl,h⟩
 ·exact⟨_,rfl,h⟩
 ·cases h
theorem aaN {n:Nat} {lo hi:Int} {v:Cl} (hv:v.ok S.gh) {κ:Cl→Option ρ} {r:ρ} (h:ach n lo hi v κ=some r): ∃ c,cut n lo hi v.av=some c.av∧c.ok S.gh∧κ c=some r:=by
 unfold ach at h
 split at h
 ·obtain⟨h1,h⟩:=dT h
  exact⟨.em,by simp [Cl.av,cut,h1],trivial,h⟩
 ·rename_i t l
  obtain⟨h1,h⟩:=aB h
  have h1:t.width=n:=Nat.eq_of_beq_eq_true h1
  obtain⟨h2,h⟩:=dT h
  refine⟨_,?_,?_,h⟩
  rotate_left
  ·trivial
  simp only [Cl.av,C.av,cut,List.length_map]
  rw [if_pos ⟨h1,h2⟩]
  simp [List.map_take,List.map_drop]
 ·rename_i p sz l len w
  obtain⟨h1,h⟩:=aB h
  have h1:sz=n:=Nat.eq_of_beq_eq_true h1
  obtain⟨h2,h⟩:=dT h
  refine⟨_,?_,?_,h⟩
  rotate_left
  ·exact⟨hv.1,fun h=>by cases h⟩
  simp only [Cl.av,cut]
  rw [if_pos ⟨h1,h2⟩]
 ·cases h
theorem PO {d:Int} {x:Option Operand} {κ:Int→Option ρ} {r:ρ} (h:QK S d x κ=some r): ∃ n,ox S.st d x=some n∧κ n=some r:=by
 unfold QK at h
 split at h
 ·exact⟨_,rfl,h⟩
 ·obtain⟨n,h1,h⟩:=Fg h
  exact⟨n,by simp only [ox,bk]; exact h1,h⟩
theorem aaO {G:List (Option cc)}: ∀ (parts:List (Nat×V)) (pl:List (Nat×Nat×Bool)) (cs cs':List Cl),(∀ c∈cs,c.ok G)→(∀ x∈parts,x.2.ok G)→Xx pl cs parts=some cs'→
  bld (pl.map fun x=>(x.1,x.2.1)) (cs.map Cl.av) (parts.map fun x=>(x.1,x.2.av))=some (cs'.map Cl.av)∧ ∀ c∈cs',c.ok G:=by
 intro parts
 induction parts with
 | nil=>
   intro pl cs cs' hcs _ h
   simp only [Xx,Option.some.injEq] at h
   subst h
   exact⟨rfl,hcs⟩
 | cons x parts ih=>
   intro pl cs cs' hcs hp h
   obtain⟨k,v⟩:=x
   simp only [Xx] at h
   split at h
   ·rename_i off n ag hk
    split at h
    ·rename_i x
     have hx:x.ok G:=hp (k, .v x) (by simp)
     have bU: ∀ (hd: (V.v x).av.isDead=false) (hcell: (V.v x).av.cells=x.cells.map Cl.av) (hcok: ∀ c∈x.cells,c.ok G)
       (h: (bif Nat.beq x.cells.length n&&Nat.ble (off+n) cs.length then Xx pl (cs.take off++x.cells++cs.drop (off+n)) parts else none)=some cs'),
       bld (pl.map fun x=>(x.1,x.2.1)) (cs.map Cl.av) (((k,V.v x)::parts).map fun x=>(x.1,x.2.av))=some (cs'.map Cl.av)∧ ∀ c∈cs',c.ok G:=by
      intro hd hcell hcok h
      obtain⟨h1,h⟩:=aB h
      simp only [Bool.and_eq_true] at h1
      have h2:x.cells.length=n:=Nat.eq_of_beq_eq_true h1.1
      have h3:off+n≤cs.length:=Nat.le_of_ble_eq_true h1.2
      obtain⟨g1,g2⟩:=ih pl _ cs' (fun c hc=>by
       simp only [List.mem_append] at hc
       rcases hc with (hc | hc) | hc
       ·exact hcs c (List.mem_of_mem_take hc)
       ·exact hcok c hc
       ·exact hcs c (List.mem_of_mem_drop hc)) (fun y hy=>hp y (List.mem_cons_of_mem _ hy)) h
      refine⟨?_,g2⟩
      rw [ej] at hk
      simp only [List.map_cons,bld,List.getElem?_map,hk,Option.map_some]
      rw [if_pos ⟨hd,by rw [hcell]; simpa using h2,by simpa using h3⟩,←g1,hcell]
      simp [List.map_take,List.map_drop]
     cases x with
     | cl c=>cases c with
       | dead=>cases h
       | c y=>cases y <;> exact bU rfl rfl (fun c hc=>by simp only [V1.cells,List.mem_singleton] at hc; subst hc; exact hx) h
       | em=>exact bU rfl rfl (fun c hc=>by simp only [V1.cells,List.mem_singleton] at hc; subst hc; exact hx) h
       | own p sz lo len w=>exact bU rfl rfl (fun c hc=>by simp only [V1.cells,List.mem_singleton] at hc; subst hc; exact hx) h
       | pro cs=>exact bU rfl rfl (fun c hc=>by simp only [V1.cells,List.mem_singleton] at hc; subst hc; exact hx) h
       | ptrB n j=>exact bU rfl rfl (fun c hc=>by simp only [V1.cells,List.mem_singleton] at hc; subst hc; exact hx) h
       | ptrT p sz i j=>exact bU rfl rfl (fun c hc=>by simp only [V1.cells,List.mem_singleton] at hc; subst hc; exact hx) h
     | agg cs2=>exact bU rfl rfl hx h
     | fn f cs2=>cases h
    ·cases h
   ·cases h
end
end Go.Proofs.YtkcgfceffffmoaaGreat.En
namespace Go.Proofs.YtkcgfceffffmoaaGreat.En
open Go
theorem bz {α β:Type} {P:Program} (s:Sem α) (f:α→Sem β):bQ P (s >>=f)=(bQ P s).bind fun a=>bQ P (f a):=by
 show bQ P (s.bind f)=_
 induction s with
 | pure a=>rfl
 | program k ih=>exact ih P
 | _=>rfl
theorem cy {α:Type} {P:Program} (a:α):bQ P (pure a)=some a:=rfl
theorem Ce: ∀ {zs:List Value} {a:List Cl},oF zs a=true→ ∃ xs:List Value,a=xs.map (fun x=>Cl.c (.sc x))
 | [],[],_=>⟨[],rfl⟩
 | .int k n::zs,a,h=>by
   unfold oF at h
   split at h
   ·rename_i heq
    cases heq
   ·rename_i k1 n1 zs1 k2 n2 cs h1
    have hd:=h
    cases hk:decide (k1=k2) with
    | false=>rw [hk] at h; cases h
    | true=>
      rw [hk] at h
      obtain⟨xs,hx⟩:=Ce (zs:=zs1) (a:=cs) h
      exact⟨.int k2 n2::xs,by rw [hx]; rfl⟩
   ·rename_i b1 zs1 b2 cs h1
    cases h1
   ·cases h
 | .bool b::zs,a,h=>by
   unfold oF at h
   split at h
   ·rename_i heq
    cases heq
   ·rename_i h1
    cases h1
   ·rename_i b1 zs1 b2 cs h1
    obtain⟨xs,hx⟩:=Ce (zs:=zs1) (a:=cs) h
    exact⟨.bool b2::xs,by rw [hx]; rfl⟩
   ·cases h
 | .float _ _::_,_,h=>by simp [oF] at h
 | .complex _ _ _::_,_,h=>by simp [oF] at h
 | .string _::_,_,h=>by simp [oF] at h
 | .pointer _::_,_,h=>by simp [oF] at h
 | .slice _ _ _::_,_,h=>by simp [oF] at h
 | .map _::_,_,h=>by simp [oF] at h
 | .chan _::_,_,h=>by simp [oF] at h
 | .func _ _ _::_,_,h=>by simp [oF] at h
 | .nilFunc::_,_,h=>by simp [oF] at h
 | .iface _ _::_,_,h=>by simp [oF] at h
 | .nilIface::_,_,h=>by simp [oF] at h
 | .agg _::_,_,h=>by simp [oF] at h
 | .tuple _::_,_,h=>by simp [oF] at h
 | [],_::_,h=>by simp [oF] at h
theorem WK (f:AV→Option Value) (hf: ∀ v,f (.sc v)=some v): ∀ xs:List Value,((xs.map fun x=>Cl.c (.sc x)).map Cl.av).mapM f=some xs
 | [] =>rfl
 | x::xs=>by
   simp only [List.map_cons,List.mapM_cons,WK f hf xs]
   show (f (.sc x)).bind _=_
   rw [hf]
   rfl
theorem WL (xs:List Value):yx (V.v (.agg (xs.map fun x=>Cl.c (.sc x)))).av=some (.agg xs.toArray):=by
 simp only [V.av,V1.av,yx]
 rw [WK _ (fun _=>rfl)]
 rfl
theorem dV {P:Program} {t:TypeId} {d:TypeDesc} (h:P.underlying t=some d):bQ P (underlying t)=some d:=by
 simp only [underlying,bz,program,bQ,Option.bind_some,h]
 rfl
section
variable {ρ:Type} {P:Program} {Θ:to} {S:TS}
theorem Y9 (hΘ:fk P Θ) {t:TypeId} {x y:V} {κ:Bool→Option ρ} {r:ρ} (h:eqK Θ t x y κ=some r):
  ∃ b,κ b=some r∧((∃ k a c,x.av= .sc (.int k a)∧y.av= .sc (.int k c)∧b=(a==c))∨
    ((∀ k a k' c,¬ (x.av= .sc (.int k a)∧y.av= .sc (.int k' c)))∧ ∃ xv yv,yx x.av=some xv∧yx y.av=some yv∧(∀ op xo yo,bQ P (eqGuard op t xo yo xv yv)=some ())∧bQ P (binOp .eql t xv yv)=some (.bool b)∧bQ P (binOp .neq t xv yv)=some (.bool (!b)))):=by
 unfold eqK at h
 split at h
 ·rename_i k a k' c
  split at h
  ·rename_i hk
   subst hk
   exact⟨_,h, .inl ⟨k,a,c,rfl,rfl,rfl⟩⟩
  ·cases h
 ·rename_i a c
  split at h
  ·rename_i ti hti
   split at h
   ·rename_i hb
    have hu:=(hΘ _ _ hti).bool hb
    have hE:bQ P (Op.equal t (.bool a) (.bool c))=some (a==c):=by
     show bQ P (Op.equalIn (9999+1) t (.bool a) (.bool c))=_
     rw [Op.equalIn]
     simp only [bz,dV hu,Option.bind_some,cy]
    refine⟨_,h, .inr ⟨fun k a k' c hc=>by simp [V.av,V1.av,Cl.av,C.av] at hc, .bool a, .bool c,rfl,rfl,fun op xo yo=> ?_,?_,?_⟩⟩
    ·cases op <;> simp [eqGuard,cy] <;> rfl
    ·simp only [binOp,bz,hE,Option.bind_some,cy]
    ·simp only [binOp,bz,hE,Option.bind_some,cy]
   ·cases h
  ·cases h
 ·rename_i a c
  split at h
  ·rename_i ti hti
   obtain⟨h1,h'⟩:=aB h
   simp only [Bool.and_eq_true] at h1
   obtain⟨⟨⟨h1,hfl⟩,h2⟩,h3⟩:=h1
   split at h'
   ·rename_i b hb
    obtain⟨xs,hx⟩:=Ce h2
    obtain⟨ys,hy⟩:=Ce h3
    have hok:=hΘ _ _ hti
    have hE:=hok.eq h1 a c b xs ys h2 h3 hb hx hy
    have hg:=hok.gu h1 hfl
    refine⟨_,h', .inr ⟨fun k a k' c hc=>by simp [V.av,V1.av] at hc, .agg xs.toArray, .agg ys.toArray,by rw [hx]; exact WL xs,by rw [hy]; exact WL ys,fun op xo yo=> ?_,?_,?_⟩⟩
    ·cases op <;> simp [eqGuard,bz,cy,program,bQ,hg]
    ·simp only [binOp,bz,hE,Option.bind_some,cy]
    ·simp only [binOp,bz,hE,Option.bind_some,cy]
   ·cases h'
  ·cases h
 ·cases h
theorem sq {f:IntKind→Int→Int→Option ρ} {x y:V} {r:ρ} (h:V.ints f x y=some r): ∃ k a b,x.av= .sc (.int k a)∧y.av= .sc (.int k b)∧f k a b=some r:=by
 unfold V.ints at h
 split at h
 ·split at h
  ·rename_i k a k' b hk
   subst hk
   exact⟨k,a,b,rfl,rfl,h⟩
  ·cases h
 ·cases h
theorem aaP (hΘ:fk P Θ) {D:wj} {op:BinOp} {t t':TypeId} {x y:Operand} {κ:V→Option ρ} {r:ρ} (h:aci Θ op t (S.opd x) (S.opd y) κ=some r) {dst:Option Tmp} {ty:TypeId} {pos:String} {aft:Array Edge} {gd:Option (Nat×Bool)}:
  ∃ v:V,aH D P S.st ⟨dst, .binOp op t x y t',ty,pos,aft,gd⟩=some v.av∧(∀ G,v.ok G)∧κ v=some r:=by
 have eqs: ∀ (b:Bool) (xv yv:Value),yx (opd S.st x)=some xv→yx (opd S.st y)=some yv→bQ P (eqGuard op t x y xv yv)=some ()→bQ P (binOp op t xv yv)=some (.bool b)→
   co P S.st ⟨dst, .binOp op t x y t',ty,pos,aft,gd⟩=some (.sc (.bool b)):=by
  intro b xv yv h1 h2 h3 h4
  unfold co
  rw [if_pos (by simp [Op.operands,h1,h2])]
  simp only [execOp,h1,h2,Option.getD_some,bz,h3,h4,Option.bind_some,cy,ofS,uU,if_true]
 cases op with
 | lss=>obtain⟨k,a,b,h1,h2,h3⟩:=sq h; exact⟨_,by simp only [aH,bk,h1,h2,if_true]; rfl,fun G=>V.ok_sc G _,h3⟩
 | leq=>obtain⟨k,a,b,h1,h2,h3⟩:=sq h; exact⟨_,by simp only [aH,bk,h1,h2,if_true]; rfl,fun G=>V.ok_sc G _,h3⟩
 | gtr=>obtain⟨k,a,b,h1,h2,h3⟩:=sq h; exact⟨_,by simp only [aH,bk,h1,h2,if_true]; rfl,fun G=>V.ok_sc G _,h3⟩
 | geq=>obtain⟨k,a,b,h1,h2,h3⟩:=sq h; exact⟨_,by simp only [aH,bk,h1,h2,if_true]; rfl,fun G=>V.ok_sc G _,h3⟩
 | add=>obtain⟨k,a,b,h1,h2,h3⟩:=sq h; exact⟨_,by simp only [aH,bk,h1,h2,if_true]; rfl,fun G=>V.ok_sc G _,h3⟩
 | sub=>obtain⟨k,a,b,h1,h2,h3⟩:=sq h; exact⟨_,by simp only [aH,bk,h1,h2,if_true]; rfl,fun G=>V.ok_sc G _,h3⟩
 | mul=>obtain⟨k,a,b,h1,h2,h3⟩:=sq h; exact⟨_,by simp only [aH,bk,h1,h2,if_true]; rfl,fun G=>V.ok_sc G _,h3⟩
 | eql=>
   have h':eqK Θ t (S.opd x) (S.opd y) (fun r=>κ (V.sc (.bool r)))=some r:=h
   obtain⟨b,h1,h2⟩:=Y9 hΘ h'
   refine⟨_,?_,fun G=>V.ok_sc G _,h1⟩
   rcases h2 with ⟨k,a,c,e1,e2,rfl⟩ | ⟨hn,xv,yv,e1,e2,e3,e4,e5⟩
   ·simp only [aH,bk,e1,e2,if_true]; rfl
   ·simp only [aH]
    split
    ·rename_i k a k' c g1 g2
     exact absurd ⟨by rw [←bk]; exact g1,by rw [←bk]; exact g2⟩ (hn k a k' c)
    ·exact eqs b xv yv (by rw [bk]; exact e1) (by rw [bk]; exact e2) (e3 _ _ _) e4
 | neq=>
   have h':eqK Θ t (S.opd x) (S.opd y) (fun r=>κ (V.sc (.bool (!r))))=some r:=h
   obtain⟨b,h1,h2⟩:=Y9 hΘ h'
   refine⟨_,?_,fun G=>V.ok_sc G _,h1⟩
   rcases h2 with ⟨k,a,c,e1,e2,rfl⟩ | ⟨hn,xv,yv,e1,e2,e3,e4,e5⟩
   ·simp only [aH,bk,e1,e2,if_true]; rfl
   ·simp only [aH]
    split
    ·rename_i k a k' c g1 g2
     exact absurd ⟨by rw [←bk]; exact g1,by rw [←bk]; exact g2⟩ (hn k a k' c)
    ·exact eqs (!b) xv yv (by rw [bk]; exact e1) (by rw [bk]; exact e2) (e3 _ _ _) e5
 | quo=>
   have h':V.ints (fun k a b=>if b=0 then none else κ (V.sc (.int k (k.wrap (a.tdiv b))))) (S.opd x) (S.opd y)=some r:=h
   obtain⟨k,a,b,h1,h2,h3⟩:=sq h'
   split at h3
   ·cases h3
   ·rename_i hb
    refine⟨_,?_,fun G=>V.ok_sc G _,h3⟩
    have hx:yx (opd S.st x)=some (.int k a):=by rw [bk,h1]; rfl
    have hy:yx (opd S.st y)=some (.int k b):=by rw [bk,h2]; rfl
    simp only [aH]
    unfold co
    rw [if_pos (by simp [Op.operands,hx,hy])]
    have e:bQ P (binOp .quo t (.int k a) (.int k b))=some (.int k (k.wrap (a.tdiv b))):=by
     simp only [binOp,ne_eq,not_true,if_false,Op.intDiv,if_neg hb,cy]
    have e2:bQ P (execOp (fun x=>(yx (opd S.st x)).getD undef) ⟨dst, .binOp .quo t x y t',ty,pos,aft,gd⟩)=some (.value (.int k (k.wrap (a.tdiv b)))):=by
     show bQ P (do pure (Next.value (←(do eqGuard .quo t x y ((yx (opd S.st x)).getD undef) ((yx (opd S.st y)).getD undef); binOp .quo t ((yx (opd S.st x)).getD undef) ((yx (opd S.st y)).getD undef)))))=_
     rw [hx,hy]
     have g:bQ P (eqGuard .quo t x y (.int k a) (.int k b))=some ():=rfl
     simp only [bz,Option.getD_some,g,e,Option.bind_some,cy]
    rw [e2]
    rfl
 | rem=>
   have h':V.ints (fun k a b=>if b=0 then none else κ (V.sc (.int k (a.tmod b)))) (S.opd x) (S.opd y)=some r:=h
   obtain⟨k,a,b,h1,h2,h3⟩:=sq h'
   split at h3
   ·cases h3
   ·rename_i hb
    refine⟨_,?_,fun G=>V.ok_sc G _,h3⟩
    have hx:yx (opd S.st x)=some (.int k a):=by rw [bk,h1]; rfl
    have hy:yx (opd S.st y)=some (.int k b):=by rw [bk,h2]; rfl
    simp only [aH]
    unfold co
    rw [if_pos (by simp [Op.operands,hx,hy])]
    have e:bQ P (binOp .rem t (.int k a) (.int k b))=some (.int k (a.tmod b)):=by
     simp only [binOp,ne_eq,not_true,if_false,Op.intDiv,if_neg hb,cy]
    have e2:bQ P (execOp (fun x=>(yx (opd S.st x)).getD undef) ⟨dst, .binOp .rem t x y t',ty,pos,aft,gd⟩)=some (.value (.int k (a.tmod b))):=by
     show bQ P (do pure (Next.value (←(do eqGuard .rem t x y ((yx (opd S.st x)).getD undef) ((yx (opd S.st y)).getD undef); binOp .rem t ((yx (opd S.st x)).getD undef) ((yx (opd S.st y)).getD undef)))))=_
     rw [hx,hy]
     have g:bQ P (eqGuard .rem t x y (.int k a) (.int k b))=some ():=rfl
     simp only [bz,Option.getD_some,g,e,Option.bind_some,cy]
    rw [e2]
    rfl
 | _=>simp [aci] at h
end
end Go.Proofs.YtkcgfceffffmoaaGreat.En
namespace Go.Proofs.YtkcgfceffffmoaaGreat.En
open Go
theorem Th {G:List (Option cc)}: ∀ (l:List V) (cs:List Cl),(∀ v∈l,v.ok G)→S7 l=some cs→l.map V.av=cs.map Cl.av∧ ∀ c∈cs,c.ok G
 | [],cs,_,h=>by
   simp only [S7,Option.some.injEq] at h
   subst h
   exact⟨rfl,fun c hc=>by cases hc⟩
 | v::l,cs,hl,h=>by
   unfold S7 at h
   split at h
   ·rename_i heq; cases heq
   ·rename_i c l' heq
    cases heq
    split at h
    ·rename_i r hr
     simp only [Option.some.injEq] at h
     subst h
     obtain⟨h1,h2⟩:=Th l r (fun v hv=>hl v (List.mem_cons_of_mem _ hv)) hr
     refine⟨by simp only [List.map_cons,h1]; rfl,fun x hx=> ?_⟩
     rcases List.mem_cons.1 hx with rfl | hx
     ·exact hl _ List.mem_cons_self
     ·exact h2 x hx
    ·cases h
   ·cases h
section
variable {ρ:Type} {P:Program} {Θ:to} {S:TS} {D:wj}
theorem PP (hΘ:fk P Θ) (hS:S.ok) {o:Oper} {κ:V→TS→Option ρ} {r:ρ} (h:LQ Θ S o κ=some r):
  ∃ v S',aH D P S.st o=some v.av∧S'.st=S.st∧S'.ok∧S'.gh=S.gh∧v.ok S.gh∧κ v S'=some r:=by
 have ok: ∀ x,(S.opd x).ok S.gh:=fun x=>oU hS x
 have done: ∀ {v:V},aH D P S.st o=some v.av→v.ok S.gh→κ v S=some r→ ∃ v S',aH D P S.st o=some v.av∧S'.st=S.st∧S'.ok∧S'.gh=S.gh∧v.ok S.gh∧κ v S'=some r:=fun h1 h2 h3=>⟨_,S,h1,rfl,hS,rfl,h2,h3⟩
 obtain⟨dst,op,ty,pos,aft,gd⟩:=o
 unfold LQ at h
 cases op with
 | move x=>exact done (by simp only [aH,bk]) (ok x) h
 | assign x=>exact done (by simp only [aH,bk]) (ok x) h
 | pick c a b=>
   simp only at h
   obtain⟨t,S1,h1,h2,h3,h4,h⟩:=LY hS h
   cases t with
   | true=>exact⟨_,S1,by simp only [aH,h1,if_true]; rw [←h2,bk],h2,h3,h4,by rw [←h4]; exact oU h3 _,h⟩
   | false=>exact⟨_,S1,by simp only [aH,h1,Bool.false_eq_true,if_false]; rw [←h2,bk],h2,h3,h4,by rw [←h4]; exact oU h3 _,h⟩
 | load t a=>
   simp only at h
   obtain⟨u,h1,h2,h⟩:=Tg hΘ hS (ok a) h
   exact done (by simp only [aH,bk]; exact h1) h2 h
 | nilCheck x=>
   simp only at h
   split at h <;> rename_i hx
   ·exact done (by simp only [aH,bk,hx]; rfl) (by rw [←hx]; exact ok x) h
   ·exact done (by simp only [aH,bk,hx]; rfl) (by rw [←hx]; exact ok x) h
   ·exact done (by simp only [aH,bk,hx]; rfl) (by rw [←hx]; exact ok x) h
   ·exact done (by simp only [aH,bk,hx]; rfl) (by rw [←hx]; exact ok x) h
   ·exact done (by simp only [aH,bk,hx]; rfl) (by rw [←hx]; exact ok x) h
   ·cases h
 | fieldAddr t x k=>
   simp only at h
   split at h
   ·rename_i ti hti
    split at h
    ·rename_i off n ag hk
     have hfd:=(hΘ _ _ hti).fd k
     rw [hk] at hfd
     cases hn:Nat.beq n 0 with
     | true=>rw [hn] at h; cases h
     | false=>
       rw [hn] at h
       have hn': ¬ n=0:=by intro h0; subst h0; cases hn
       simp only [cond_false] at h
       split at h <;> rename_i hx
       ·refine done ?_ ?_ h
        ·simp only [aH,hfd,Option.bind_some,bk,hx]
         rw [if_neg hn']
         rfl
        ·trivial
       ·refine done ?_ ?_ h
        ·simp only [aH,hfd,Option.bind_some,bk,hx]
         rw [if_neg hn']
         rfl
        ·have:=ok x
         rw [hx] at this
         exact this
       ·refine done ?_ ?_ h
        ·simp only [aH,hfd,Option.bind_some,bk,hx]
         rw [if_neg hn']
         simp [V.av,V1.av,Cl.av,List.map_drop]
        ·trivial
       ·cases h
    ·cases h
   ·cases h
 | field t x k=>
   simp only at h
   split at h
   ·rename_i ti hti
    split at h
    ·rename_i off n ag hk
     have hfd:=(hΘ _ _ hti).fd k
     rw [hk] at hfd
     split at h
     ·rename_i cs hx
      obtain⟨h1,h⟩:=aB h
      simp only [Bool.and_eq_true] at h1
      have h2:off+n≤cs.length:=Nat.le_of_ble_eq_true h1.1
      have h3:0 < n:=Nat.le_of_ble_eq_true h1.2
      have hcs:=ok x
      rw [hx] at hcs
      obtain⟨v,h4,h5,h⟩:=Y8 (G:=S.gh) (fun c hc=>hcs c (List.mem_of_mem_drop (List.mem_of_mem_take hc))) h
      refine done ?_ h5 h
      simp only [aH,hfd,Option.bind_some,bk,hx,V.av,V1.av,List.length_map]
      rw [if_pos ⟨h2,h3⟩,←List.map_drop,←List.map_take]
      exact h4
     ·cases h
    ·cases h
   ·cases h
 | indexAddr t x ix=>
   simp only at h
   split at h
   ·rename_i ti hti
    split at h
    ·rename_i e he
     obtain⟨el,g1,g2,_⟩:=(hΘ _ _ hti).el e he
     obtain⟨i,h1,h⟩:=Fg h
     split at h
     ·rename_i a hx
      have ha:=ok x
      rw [hx] at ha
      obtain⟨c,h2,h3,h⟩:=aaM ha h
      refine done ?_ ?_ h
      ·simp only [aH,g1,Option.bind_some,bk,h1,hx,g2]
       exact h2
      ·exact h3
     ·cases h
    ·cases h
   ·cases h
 | build t parts=>
   simp only at h
   split at h
   ·rename_i ti hti
    obtain⟨h1,h⟩:=aB h
    split at h
    ·rename_i cs hcs
     have hok:=hΘ _ _ hti
     obtain⟨g1,g2⟩:=aaO (G:=S.gh) _ _ _ _ (fun c hc=>by
      obtain⟨v,_,rfl⟩:=List.mem_map.1 hc
      exact WI _ _) (fun y hy=>by
      obtain⟨z,_,rfl⟩:=List.mem_map.1 hy
      exact ok z.2) hcs
     refine done ?_ ?_ h
     ·simp only [aH,hok.pl h1,hok.ze,Option.bind_some]
      have e1:ti.ty.zvs.map K1=(ti.ty.zvs.map cC).map Cl.av:=by
       rw [List.map_map]
       exact List.map_congr_left fun v _=>(uK v).symm
      have e2:parts.toList.map (fun x=>(x.1,opd S.st x.2))=(parts.toList.map fun x=>(x.1,S.opd x.2)).map fun x=>(x.1,x.2.av):=by
       rw [List.map_map]
       exact List.map_congr_left fun x _=>by simp [bk]
      rw [e1,e2,g1]
      rfl
     ·exact g2
    ·cases h
   ·cases h
 | slice t x lo hi mx=>
   cases mx with
   | some m=>simp at h
   | none=>
     simp only at h
     split at h
     ·rename_i ti hti
      split at h
      ·rename_i e he
       obtain⟨el,g1,g2,_⟩:=(hΘ _ _ hti).el e he
       split at h
       ·rename_i a hx
        have ha:=ok x
        rw [hx] at ha
        obtain⟨n,h1,h⟩:=WJ ha h
        obtain⟨l,h2,h⟩:=PO h
        obtain⟨m,h3,h⟩:=PO h
        obtain⟨c,h4,h5,h⟩:=aaN ha h
        refine done ?_ ?_ h
        ·simp only [aH,bk,hx]
         split
         ·rename_i s hs
          have hs':a.av= .sc (.string s):=hs
          rw [hs'] at h1
          cases h1
         ·show (Cx P t).bind _=_
          rw [g1]
          simp only [Option.bind_some]
          show (zp a.av).bind _=_
          rw [h1]
          simp only [Option.bind_some,h2,h3,g2]
          exact h4
        ·exact h5
       ·cases h
      ·cases h
     ·cases h
 | extract x k=>
   simp only at h
   split at h
   ·rename_i vs hx
    split at h
    ·rename_i v hv
     have hvs:=ok x
     rw [hx] at hvs
     rw [ej] at hv
     refine done ?_ ?_ h
     ·simp only [aH,bk,hx,V.av,List.getElem?_map,hv,Option.map_some]
     ·exact hvs v (List.mem_of_getElem? hv)
    ·cases h
   ·cases h
 | makeFunc fn first caps=>
   cases fn with
   | func f=>
     simp only at h
     obtain⟨h1,h⟩:=aB h
     split at h
     ·rename_i cs hcs
      obtain⟨g1,g2⟩:=Th (G:=S.gh) _ _ (fun v hv=>by
       obtain⟨y,_,rfl⟩:=List.mem_map.1 hv
       exact ok y) hcs
      refine done ?_ ?_ h
      ·simp only [aH,h1,if_true]
       have e:caps.toList.map (opd S.st)=(caps.toList.map S.opd).map V.av:=by
        rw [List.map_map]
        exact List.map_congr_left fun x _=>bk x
       rw [e,g1]
       rfl
      ·exact g2
     ·cases h
   | _=>simp at h
 | unOp op t x=>
   cases op with
   | not=>
     simp only at h
     split at h
     ·rename_i b hx
      refine done ?_ ?_ h
      ·simp only [aH,bk,hx]; rfl
      ·trivial
     ·cases h
   | _=>simp at h
 | binOp op t x y t'=>
   simp only at h
   obtain⟨v,h1,h2,h⟩:=aaP (D:=D) (t':=t') (dst:=dst) (ty:=ty) (pos:=pos) (aft:=aft) (gd:=gd) hΘ h
   exact done h1 (h2 _) h
 | call c=>
   obtain⟨cl,as,ts⟩:=c
   cases cl with
   | value f=>simp at h
   | invoke a b=>simp at h
   | builtin b=>
     cases b with
     | cap=>
       simp only at h
       split at h
       ·rename_i x t e1 e2
        split at h
        ·rename_i ti hti
         split at h
         ·rename_i e he
          obtain⟨el,g1,g2,_⟩:=(hΘ _ _ hti).el e he
          split at h
          ·rename_i hx
           refine done ?_ ?_ h
           ·simp only [aH,e1,e2,g1,Option.isSome_some,if_true,bk,hx]
            rfl
           ·trivial
          ·cases h
         ·cases h
        ·cases h
       ·cases h
     | len=>
       simp only at h
       split at h
       ·rename_i x t e1 e2
        split at h
        ·rename_i ti hti
         split at h
         ·rename_i e he
          obtain⟨el,g1,g2,_⟩:=(hΘ _ _ hti).el e he
          split at h
          ·rename_i a hx
           have ha:=ok x
           rw [hx] at ha
           obtain⟨n,h1,h⟩:=WJ ha h
           refine done ?_ ?_ h
           ·simp only [aH,e1,e2,g1,Option.isSome_some,if_true,bk,hx]
            show (zp a.av).map _=_
            rw [h1]
            rfl
           ·trivial
          ·cases h
         ·cases h
        ·cases h
       ·cases h
     | max=>
       simp only at h
       split at h
       ·rename_i x y e1
        obtain⟨k,a,b,h1,h2,h⟩:=sq h
        refine done ?_ (V.ok_sc _ _) h
        simp only [aH,e1,List.map_cons,List.map_nil,bk,h1,h2]
        rfl
       ·cases h
     | min=>
       simp only at h
       split at h
       ·rename_i x y e1
        obtain⟨k,a,b,h1,h2,h⟩:=sq h
        refine done ?_ (V.ok_sc _ _) h
        simp only [aH,e1,List.map_cons,List.map_nil,bk,h1,h2]
        rfl
       ·cases h
     | _=>simp at h
 | convert s d x=>
   simp only at h
   split at h
   ·rename_i si di hs hd
    split at h
    ·rename_i k' hk
     split at h
     ·rename_i k n hx
      refine done ?_ (V.ok_sc _ _) h
      have hud:=(hΘ _ _ hd).int _ hk
      obtain⟨ds,hus⟩: ∃ ds,P.underlying s=some ds:=by
       have:=(hΘ _ _ hs).ag
       unfold NY at this
       cases hu:P.underlying s with
       | none=>rw [hu] at this; cases this
       | some ds=>exact⟨ds,rfl⟩
      have hxv:yx (opd S.st x)=some (.int k n):=by rw [bk,hx]; rfl
      simp only [aH]
      unfold co
      rw [if_pos (by simp [Op.operands,hxv])]
      have e:bQ P (Go.convert s d (.int k n))=some (.int k' (k'.wrap n)):=by
       unfold Go.convert
       simp only [bz,dV hus,dV hud,Option.bind_some]
       cases ds <;> rfl
      have e2:bQ P (execOp (fun x=>(yx (opd S.st x)).getD undef) ⟨dst, .convert s d x,ty,pos,aft,gd⟩)=some (.value (.int k' (k'.wrap n))):=by
       show bQ P (do pure (Next.value (←Go.convert s d ((yx (opd S.st x)).getD undef))))=_
       rw [hxv]
       simp only [bz,Option.getD_some,e,Option.bind_some,cy]
      rw [e2]
      rfl
     ·cases h
    ·cases h
   ·cases h
 | index t x ix=>
   simp only at h
   split at h
   ·rename_i ti hti
    split at h
    ·rename_i hs
     split at h
     ·rename_i s k i hx hi
      unfold aq at h
      split at h
      ·rename_i h0
       obtain⟨b,hb,h⟩:=Option.bind_eq_some_iff.1 h
       refine done ?_ (V.ok_sc _ _) h
       have hus:P.underlying t=some .string:=by
        have:=(hΘ _ _ hti).str
        rw [hs] at this
        unfold Qo at this
        split at this
        ·assumption
        ·cases this
       have hxv:yx (opd S.st x)=some (.string s):=by rw [bk,hx]; rfl
       have hiv:yx (opd S.st ix)=some (.int k i):=by rw [bk,hi]; rfl
       have hxa:opd S.st x= .sc (.string s):=by rw [bk,hx]; rfl
       simp only [aH,hxa]
       unfold co
       rw [if_pos (by simp [Op.operands,hxv,hiv])]
       have e:bQ P (Instr.index t (.string s) (.int k i))=some (.int .u8 b.toNat):=by
        unfold Instr.index
        simp only [bz,asIntOf,cy,Option.bind_some,dV hus]
        rw [if_pos h0,hb]
        rfl
       have e2:bQ P (execOp (fun x=>(yx (opd S.st x)).getD undef) ⟨dst, .index t x ix,ty,pos,aft,gd⟩)=some (.value (.int .u8 b.toNat)):=by
        show bQ P (do pure (Next.value (←Instr.index t ((yx (opd S.st x)).getD undef) ((yx (opd S.st ix)).getD undef))))=_
        rw [hxv,hiv]
        simp only [bz,Option.getD_some,e,Option.bind_some,cy]
       rw [e2]
       rfl
      ·cases h
     ·cases h
    ·cases h
   ·cases h
 | _=>simp at h
end
end Go.Proofs.YtkcgfceffffmoaaGreat.En
namespace Go.Proofs.YtkcgfceffffmoaaGreat.En
open Go
theorem oV {G:List (Option cc)} {x:Option cc} (r:Nat):dG (G++ [x]) r=if r=G.length then x else dG G r:=by
 unfold dG
 rw [ej,ej]
 by_cases h:r=G.length
 ·subst h; simp
 ·rw [if_neg h]
  rcases Nat.lt_or_ge r G.length with h' | h'
  ·rw [List.getElem?_append_left h']
  ·rw [List.getElem?_eq_none (by simp; omega),List.getElem?_eq_none h']
theorem Hh {G:List (Option cc)} (l:List cc) (r:Nat):dG (G++l.map some) r=if G.length≤r then l[r - G.length]? else dG G r:=by
 unfold dG
 rw [ej,ej]
 by_cases h:G.length≤r
 ·rw [if_pos h,List.getElem?_append_right h,List.getElem?_map]
  cases l[r - G.length]? <;> rfl
 ·rw [if_neg h,List.getElem?_append_left (by omega)]
theorem Cf {G:List (Option cc)} {r:Nat} (h:G.length≤r):dG G r=none:=by
 unfold dG
 rw [ej,List.getElem?_eq_none h]
 rfl
theorem yH {G:List (Option cc)} {r:Nat} {tr:cc} (h:dG G r=some tr):r < G.length:=by
 rcases Nat.lt_or_ge r G.length with h' | h'
 ·exact h'
 ·rw [Cf h'] at h; cases h
theorem t8 {G:List (Option cc)} {x:Option cc} (q r:Nat) (hq:q < G.length∨x=none):dG (dS G q x) r=if r=q then x else dG G r:=by
 unfold dG
 rw [ej,ej,hO,List.getElem?_set]
 by_cases h:q=r
 ·subst h
  simp only [if_true]
  rcases hq with hq | rfl
  ·rw [if_pos hq]; rfl
  ·split <;> rfl
 ·rw [if_neg h,if_neg (fun e=>h e.symm)]
theorem jL.app (G:List (Option cc)) (x:Option cc):jL G (G++ [x]):=⟨by simp,fun r tr hr h=>by
 rw [oV,if_neg (by omega)] at h
 exact⟨tr,h,rfl⟩⟩
theorem jL.apps (G:List (Option cc)) (l:List cc):jL G (G++l.map some):=⟨by simp,fun r tr hr h=>by
 rw [Hh,if_neg (by omega)] at h
 exact⟨tr,h,rfl⟩⟩
theorem jL.gone (G:List (Option cc)) (q:Nat):jL G (dS G q none):=⟨by rw [hO]; simp,fun r tr hr h=>by
 rw [t8 q r (.inr rfl)] at h
 split at h
 ·cases h
 ·exact⟨tr,h,rfl⟩⟩
theorem jL.put {G:List (Option cc)} {q:Nat} {tr tr':cc} (h:dG G q=some tr) (hl:tr'.l.length=tr.l.length):jL G (dS G q (some tr')):=⟨by rw [hO]; simp,fun r t hr h'=>by
 rw [t8 q r (.inl (yH h))] at h'
 split at h'
 ·rename_i hq
  subst hq
  cases h'
  exact⟨tr,h,hl.symm⟩
 ·exact⟨t,h',rfl⟩⟩
theorem TS.ok_gh {S:TS} (hS:S.ok) {G:List (Option cc)} (hG:jL S.gh G): ({ S with gh:=G }:TS).ok:=
 ⟨fun x hx=>V.ok_mono hG (hS.env x hx),fun cs hcs c hc=>Cl.ok_mono hG (hS.bx cs hcs c hc)⟩
theorem LZ (S:TS) (x:cc): ({ S with gh:=S.gh++ [some x] }:TS).st= { S.st with gh:=cm S.st.gh S.gh.length (some x.tree),ng:=S.gh.length+1 } :=by
 unfold TS.st
 simp only [List.length_append,List.length_singleton]
 congr 1
 funext r
 rw [oV]
 unfold cm
 split <;> rfl
theorem Fh (S:TS) (q:Nat): ({ S with gh:=dS S.gh q none }:TS).st= { S.st with gh:=cm S.st.gh q none } :=by
 unfold TS.st
 simp only
 have : (dS S.gh q none).length=S.gh.length:=by rw [hO]; simp
 rw [this]
 congr 1
 funext r
 rw [t8 q r (.inr rfl)]
 unfold cm
 split <;> rfl
theorem Hi (S:TS) {q:Nat} (x:cc) (hq:q < S.gh.length): ({ S with gh:=dS S.gh q (some x) }:TS).st= { S.st with gh:=cm S.st.gh q (some x.tree) } :=by
 unfold TS.st
 simp only
 have : (dS S.gh q (some x)).length=S.gh.length:=by rw [hO]; simp
 rw [this]
 congr 1
 funext r
 rw [t8 q r (.inl hq)]
 unfold cm
 split <;> rfl
theorem Vz (S:TS) (cs:List Cl): ({ S with bx:=S.bx++ [cs] }:TS).st= { S.st with bx:=cm S.st.bx S.bx.length (some (cs.map Cl.av)),nb:=S.bx.length+1 } :=by
 unfold TS.st
 simp only [List.length_append,List.length_singleton]
 congr 1
 funext n
 unfold cm
 simp only [ej]
 by_cases h:n=S.bx.length
 ·subst h; simp
 ·rw [if_neg h]
  rcases Nat.lt_or_ge n S.bx.length with h' | h'
  ·rw [List.getElem?_append_left h']
  ·rw [List.getElem?_eq_none (by simp; omega),List.getElem?_eq_none h']
theorem XA (S:TS) {b:Nat} (cs:List Cl) (hb:b < S.bx.length): ({ S with bx:=dS S.bx b cs }:TS).st= { S.st with bx:=cm S.st.bx b (some (cs.map Cl.av)) } :=by
 unfold TS.st
 have : (dS S.bx b cs).length=S.bx.length:=by rw [hO]; simp
 simp only
 rw [this]
 congr 1
 funext n
 unfold cm
 simp only [ej]
 rw [hO,List.getElem?_set]
 by_cases h:b=n
 ·subst h; simp [hb]
 ·rw [if_neg h,if_neg (fun e=>h e.symm)]
theorem Za (t:Ty): (t.zvs.map cC).map Cl.av=t.zvs.map NZ:=by
 cases t with
 | st n=>cases n <;> rfl
 | _=>rfl
theorem Zb (G:List (Option cc)) (t:Ty): ∀ c∈t.zvs.map cC,c.ok G:=fun c hc=>by
 obtain⟨v,_,rfl⟩:=List.mem_map.1 hc
 exact WI _ _
def AP (P:Program) (g:FuncId) (args:List V1) (b:Bool) (res:V) (out:List cc):Prop:=
 ∃ (t:Ty) (x:t.D) (as:List V1),args=Tc t x::as∧qv P g ((LX t x 0).av::as.map V1.av) ((qy (t.flat x)).map cc.tree) (bif b then (qy (t.flat x)).length else 0) res.av (out.map cc.tree)
structure IV (P:Program) (f:Nat) (args:List V1) (res:V) (out:List cc):Prop where
 fn:f < kQ→w6 P f (args.map V1.av) [] res.av (out.map cc.tree)
 io: ∀ g,f=qx g→g < kQ→AP P g args true res out
 mv: ∀ g,f=LR g→AP P g args false res out
theorem Zc (g:Nat): ¬ qx g < kQ:=Nat.not_lt.2 (Nat.le_add_left kQ g)
theorem WM (g:Nat): ¬ LR g < kQ:=Nat.not_lt.2 (Nat.le_trans (Nat.le_add_left kQ kQ) (Nat.le_add_left PM g))
theorem Zd {g g':Nat} (hg:g < kQ):qx g≠LR g':=fun h=>by
 have h1:qx g < PM:=Nat.add_lt_add_right hg kQ
 rw [h] at h1
 exact Nat.not_lt.2 (Nat.le_add_left PM g') h1
theorem IV.of_fn {P:Program} {f:Nat} {args:List V1} {res:V} {out:List cc} (h:w6 P f (args.map V1.av) [] res.av (out.map cc.tree)) (hf:f < kQ):IV P f args res out:=
 ⟨fun _=>h,fun g e _=>absurd (e ▸ hf) (Zc g),fun g e=>absurd (e ▸ hf) (WM g)⟩
theorem IV.of_io {P:Program} {g:Nat} {args:List V1} {res:V} {out:List cc} (h:AP P g args true res out) (hg:g < kQ):IV P (qx g) args res out:=
 ⟨fun h'=>absurd h' (Zc g),fun g' e _=>by rw [←Nat.add_right_cancel (e:g+kQ=g'+kQ)]; exact h,fun g' e=>absurd e (Zd hg)⟩
theorem IV.of_mv {P:Program} {g:Nat} {args:List V1} {res:V} {out:List cc} (h:AP P g args false res out):IV P (LR g) args res out:=
 ⟨fun h'=>absurd h' (WM g),fun g' e hg=>absurd e.symm (Zd hg),fun g' e=>by rw [←Nat.add_right_cancel (e:g+PM=g'+PM)]; exact h⟩
theorem AP.get {P:Program} {g:FuncId} {el:Ty} {l:List el.D} {as:List V1} {b:Bool} {res:V} {out:List cc} (h:AP P g (.cl (.c (.ls el l))::as) b res out):qv P g (.own ⟨0,[]⟩ el.width 0 l.length::as.map V1.av) [.sl el.width (l.map el.row)] (bif b then 1 else 0) res.av (out.map cc.tree):=by
 obtain⟨t,x,as',he,h⟩:=h
 simp only [List.cons.injEq] at he
 obtain⟨he,rfl⟩:=he
 cases t with
 | ls el'=>
   have he':V1.cl (.c (.ls el l))= .cl (.c (.ls el' x)):=he
   cases he'
   exact h
 | st n=>cases n <;> cases he
 | _=>cases he
theorem AP.getA {P:Program} {g:FuncId} {ys:List C} {as:List V1} {res:V} {out:List cc} (h:AP P g (.agg (ys.map .c)::as) true res out):qv P g (.agg ((Aj ys 0).map Cl.av)::as.map V1.av) ((qy ys).map cc.tree) (qy ys).length res.av (out.map cc.tree):=by
 obtain⟨t,x,as',he,h⟩:=h
 simp only [List.cons.injEq] at he
 obtain⟨he,rfl⟩:=he
 cases t with
 | st n=>
   have he':V1.agg (ys.map Cl.c)= .agg ((n.flat x).map Cl.c):=he
   simp only [V1.agg.injEq] at he'
   have :ys=n.flat x:=by
    have hi: ∀ (l m:List C),l.map Cl.c=m.map Cl.c→l=m:=by
     intro l
     induction l with
     | nil=>intro m hm; cases m with | nil=>rfl | cons a m=>cases hm
     | cons a l ih=>
       intro m hm
       cases m with
       | nil=>cases hm
       | cons b m=>
         simp only [List.map_cons,List.cons.injEq,Cl.c.injEq] at hm
         rw [hm.1,ih m hm.2]
    exact hi _ _ he'
   subst this
   exact h
 | _=>cases he
def au (P:Program) (Y:Fe):Prop:= ∀ f args ρ κ r,Y f args ρ κ=some r→ ∃ res out,IV P f args res out∧res.ok (out.map some)∧κ res out=some r
section
variable {ρ:Type} {P:Program} {Θ:to} {S:TS}
theorem QQ {α β:Type} {f:α→(β→Option ρ)→Option ρ} {R:α→β→Prop} (hf: ∀ a κ r,f a κ=some r→ ∃ b,R a b∧κ b=some r):
  ∀ (l:List α) (κ:List β→Option ρ) (r:ρ),LS f l κ=some r→ ∃ bs,l.length=bs.length∧(∀ (k:Nat) (a:α) (b:β),l[k]? =some a→bs[k]? =some b→R a b)∧κ bs=some r:=by
 intro l
 induction l with
 | nil=>intro κ r h; exact⟨[],rfl,fun k a b ha=>by simp at ha,h⟩
 | cons a l ih=>
   intro κ r h
   obtain⟨b,h1,h⟩:=hf a _ r h
   obtain⟨bs,h2,h3,h⟩:=ih _ r h
   refine⟨b::bs,by simp [h2],fun k x y hx hy=> ?_,h⟩
   cases k with
   | zero=>simp at hx hy; subst hx hy; exact h1
   | succ k=>exact h3 k x y (by simpa using hx) (by simpa using hy)
theorem Ze {α β γ:Type} {f:α→γ} {g:β→γ} {l:List α} {bs:List β} (h1:l.length=bs.length) (h2: ∀ (k:Nat) (a:α) (b:β),l[k]? =some a→bs[k]? =some b→f a=g b):l.map f=bs.map g:=by
 apply List.ext_getElem?
 intro k
 rw [List.getElem?_map,List.getElem?_map]
 cases ha:l[k]? with
 | none=>
   rw [List.getElem?_eq_none_iff] at ha
   rw [List.getElem?_eq_none (by omega)]
   rfl
 | some a=>
   have:=(List.getElem?_eq_some_iff.1 ha).1
   rw [List.getElem?_eq_getElem (by omega:k < bs.length)]
   simp only [Option.map_some]
   rw [h2 k a _ ha (List.getElem?_eq_getElem (by omega))]
theorem AQ {p:ci} {sz lo len:Nat} {t:Ty} {l:List t.D} (hc: (Cl.own p sz lo len true).ok S.gh) (h:p.l= [] →dG S.gh p.r=some ⟨t,l,none⟩):p.l= [] ∧lo=0∧len=l.length:=by
 obtain⟨_,h2⟩:=hc
 obtain⟨a,b,c⟩:=h2 rfl
 exact⟨a,b,c _ (h a)⟩
theorem L0 (hS:S.ok) {et:Option Ty} {c:Cl} (hc:c.ok S.gh) {κ:Cl→Option ρ} {r:ρ} (h:Xy S et c κ=some r): ∃ c',(∀ sz,(∀ t,et=some t→sz=t.width)→ey S.st sz c.av=c'.av)∧κ c'=some r:=by
 unfold Xy at h
 split at h
 ·rename_i x
  exact⟨_,fun sz _=>by cases x <;> rfl,h⟩
 ·split at h
  ·rename_i t
   exact⟨_,fun sz hsz=>by rw [hsz t rfl]; rfl,h⟩
  ·cases h
 ·rename_i p sz lo len
  obtain⟨t,l,h1,h2,h⟩:=gm h
  obtain⟨h3,h⟩:=aB h
  have h3:t.width=sz:=Nat.eq_of_beq_eq_true h3
  obtain⟨h4,h5,h6⟩:=AQ hc h2
  refine⟨_,fun sz' _=> ?_,h⟩
  simp only [Cl.av,ey,←h3,oz h1,h5,h6,Nat.zero_add,List.length_map,Nat.le_refl,if_true,List.drop_zero,C.av]
  rw [List.take_of_length_le (by simp)]
 ·rename_i p sz lo len
  obtain⟨t,l,h1,h2,h⟩:=gm h
  obtain⟨h3,h⟩:=aB h
  have h3:t.width=sz:=Nat.eq_of_beq_eq_true h3
  obtain⟨h4,h⟩:=dT h
  refine⟨_,fun sz' _=> ?_,h⟩
  simp only [Cl.av,ey,←h3,oz h1,List.length_map,h4,if_true,C.av]
  simp [List.map_take,List.map_drop]
 ·exact⟨_,fun _ _=>rfl,h⟩
 ·rename_i p sz i j
  obtain⟨t,l,h1,h2,h⟩:=gm h
  obtain⟨h3,h⟩:=aB h
  have h3:t.width=sz:=Nat.eq_of_beq_eq_true h3
  obtain⟨x,hx,h⟩:=Option.bind_eq_some_iff.1 h
  refine⟨_,fun sz' _=> ?_,h⟩
  simp only [Cl.av,ey,←h3,oz h1]
  have e1: (l.map t.row).getD i [] =t.row x:=by simp [List.getD_eq_getElem?_getD,hx]
  rw [e1,t.row_flat,List.map_drop]
 ·rename_i b j
  split at h
  ·rename_i cs hcs
   obtain⟨bs,h1,h2,h⟩:=QQ (R:=fun (c:Cl) (x:C)=>c.ok S.gh→T.ofAV S.st 0 c.av=x.tree) (fun c κ r h=>by
    split at h
    ·rename_i x
     exact⟨x,fun _=>by cases x <;> rfl,h⟩
    ·rename_i p sz lo len
     obtain⟨t,l,h1,h2,h⟩:=gm h
     obtain⟨h3,h⟩:=aB h
     have h3:t.width=sz:=Nat.eq_of_beq_eq_true h3
     refine⟨_,fun hc=> ?_,h⟩
     obtain⟨h4,h5,h6⟩:=AQ hc h2
     simp only [Cl.av,T.ofAV,←h3,oz h1,h5,h6,Nat.zero_add,List.length_map,Nat.le_refl,if_true,List.drop_zero,C.tree]
     rw [List.take_of_length_le (by simp)]
    ·cases h) _ _ _ h
   refine⟨_,fun sz _=> ?_,h⟩
   simp only [Cl.av,ey,TS.st,hcs,Option.map_some]
   rw [←List.map_drop,List.map_map]
   congr 1
   refine Ze h1 (fun k a b ha hb=>h2 k a b ha hb ?_)
   rw [ej] at hcs
   exact hS.bx cs (List.mem_of_getElem? hcs) a (List.mem_of_mem_drop (List.mem_of_getElem? ha))
  ·cases h
 ·exact⟨_,fun _ _=>rfl,h⟩
theorem aaQ (hS:S.ok): ∀ (ets:List (Option Ty)) (cs:List Cl) (κ:List Cl→Option ρ) (r:ρ),(∀ c∈cs,c.ok S.gh)→aaH S ets cs κ=some r→
  ∃ cs',ets.length=cs.length∧List.zipWith (ey S.st) (ets.map fun | some e=>e.width | none=>0) (cs.map Cl.av)=cs'.map Cl.av∧κ cs'=some r:=by
 intro ets
 induction ets with
 | nil=>
   intro cs κ r hcs h
   cases cs with
   | nil=>exact⟨[],rfl,rfl,h⟩
   | cons c cs=>cases h
 | cons et ets ih=>
   intro cs κ r hcs h
   cases cs with
   | nil=>cases h
   | cons c cs=>
     unfold aaH at h
     obtain⟨c',h1,h⟩:=L0 hS (hcs c List.mem_cons_self) h
     obtain⟨cs',h2,h3,h⟩:=ih cs _ r (fun x hx=>hcs x (List.mem_cons_of_mem _ hx)) h
     refine⟨c'::cs',by simp [h2],?_,h⟩
     simp only [List.map_cons,List.zipWith_cons_cons,h3]
     rw [h1]
     intro t ht
     subst ht
     rfl
theorem Zf (hΘ:fk P Θ) (hS:S.ok) {t:TypeId} {v:V} (hv:v.ok S.gh) {κ:V1→Option ρ} {r:ρ} (h:reV Θ S t v κ=some r): ∃ v1:V1,mm S.st (th P 9 t) v.av=v1.av∧κ v1=some r:=by
 unfold reV at h
 split at h
 ·cases h
 ·rename_i f cs
  obtain⟨bs,h1,h2,h⟩:=QQ (R:=fun (c c':Cl)=>c.ok S.gh→ey S.st 0 c.av=c'.av) (fun c κ r h=>by
   by_cases hc:c.ok S.gh
   ·obtain⟨c',h1,h⟩:=L0 hS hc h
    exact⟨c',fun _=>h1 0 (fun t ht=>by cases ht),h⟩
   ·have : ∃ c',κ c'=some r:=by
     unfold Xy at h
     split at h
     ·exact⟨_,h⟩
     ·cases h
     ·obtain⟨t,l,_,_,h⟩:=gm h; exact⟨_,(aB h).2⟩
     ·obtain⟨t,l,_,_,h⟩:=gm h; exact⟨_,(dT (aB h).2).2⟩
     ·exact⟨_,h⟩
     ·obtain⟨t,l,_,_,h⟩:=gm h; obtain⟨x,_,h⟩:=Option.bind_eq_some_iff.1 (aB h).2; exact⟨_,h⟩
     ·split at h
      ·obtain⟨bs,_,_,h⟩:=QQ (R:=fun _ _=>True) (fun c κ r h=>by
        split at h
        ·exact⟨_,trivial,h⟩
        ·obtain⟨t,l,_,_,h⟩:=gm h; exact⟨_,trivial,(aB h).2⟩
        ·cases h) _ _ _ h
       exact⟨_,h⟩
      ·cases h
     ·exact⟨_,h⟩
    obtain⟨c',h⟩:=this
    exact⟨c',fun hc'=>absurd hc' hc,h⟩) _ _ _ h
  refine⟨_,?_,h⟩
  simp only [V.av,V1.av,mm,List.map_map]
  congr 1
  exact Ze h1 (fun k a b ha hb=>h2 k a b ha hb (hv a (List.mem_of_getElem? ha)))
 ·rename_i cs
  split at h
  ·rename_i ti hti
   obtain⟨cs',h1,h2,h⟩:=aaQ hS _ _ _ _ hv h
   refine⟨_,?_,h⟩
   have e: (ti.ty.csh.map fun | some e=>e.width | none=>0)=ti.ty.shs:=rfl
   simp only [V.av,V1.av,mm,(hΘ _ _ hti).sh]
   rw [if_pos (by rw [←e]; simpa using h1),←e,h2]
  ·cases h
 ·exact⟨_,rfl,h⟩
 ·rename_i c hne
  have bU: ∀ (szs:List Nat),mm S.st szs (V.v (.cl c)).av=ey S.st (szs.headD 0) c.av:=by
   intro szs
   cases c with
   | c x=>cases x <;> rfl
   | em=>exact absurd rfl hne
   | _=>rfl
  split at h
  ·rename_i ti hti
   obtain⟨c',h1,h⟩:=L0 hS hv h
   refine⟨_,?_,h⟩
   rw [bU]
   refine h1 _ (fun t ht=> ?_)
   rw [(hΘ _ _ hti).sh]
   unfold Ty.shs
   cases hc:ti.ty.csh with
   | nil=>rw [hc] at ht; cases ht
   | cons a l=>
     rw [hc] at ht
     simp only [List.headD_cons] at ht
     subst ht
     rfl
  ·obtain⟨c',h1,h⟩:=L0 hS hv h
   exact⟨_,by rw [bU]; exact h1 _ (fun t ht=>by cases ht),h⟩
theorem xH (hΘ:fk P Θ) (hS:S.ok): ∀ (ts:List TypeId) (as:List Operand) (κ:List V1→Option ρ) (r:ρ),xD Θ S ts as κ=some r→
  ∃ vs:List V1,List.zipWith (fun t a=>mm S.st (th P 9 t) (opd S.st a)) ts as=vs.map V1.av∧κ vs=some r:=by
 intro ts
 induction ts with
 | nil=>
   intro as κ r h
   cases as with
   | nil=>exact⟨[],rfl,h⟩
   | cons a as=>cases h
 | cons t ts ih=>
   intro as κ r h
   cases as with
   | nil=>cases h
   | cons a as=>
     unfold xD at h
     obtain⟨v,h1,h⟩:=Zf hΘ hS (oU hS a) h
     obtain⟨vs,h2,h⟩:=ih as _ r h
     exact⟨v::vs,by rw [List.zipWith_cons_cons,h2,bk,h1,List.map_cons],h⟩
end
end Go.Proofs.YtkcgfceffffmoaaGreat.En
namespace Go.Proofs.YtkcgfceffffmoaaGreat.En
open Go
open Classical in
noncomputable def XB (d:Option Tmp) (g:FuncId) (args:List AV) (res:AV×List T):wj:=fun d' g' a' gs'=>if d'=d∧g'=g∧a'=args∧gs'= [] then some res else none
theorem L3 {P:Program} {d:Option Tmp} {g:FuncId} {args:List AV} {res:AV} {out:List T} (h:w6 P g args [] res out):sn P (XB d g args (res,out)):=by
 intro d' g' a' gs' r' o' h'
 unfold XB at h'
 split at h'
 ·rename_i hc
  obtain⟨rfl,rfl,rfl,rfl⟩:=hc
  simp only [Option.some.injEq,Prod.mk.injEq] at h'
  obtain⟨rfl,rfl⟩:=h'
  exact h
 ·cases h'
theorem WN (d:Option Tmp) (g:FuncId) (args:List AV) (res:AV×List T):XB d g args res d g args [] =some res:=by
 unfold XB
 rw [if_pos ⟨rfl,rfl,rfl,rfl⟩]
def Sk:wj:=fun _ _ _ _=>none
theorem kU {P:Program}:sn P Sk:=fun _ _ _ _ _ _ h=>by cases h
theorem XC (n:Nat) (c:Cl): (QL n c).av=tA n c.av:=by
 cases c with
 | c x=>cases x <;> rfl
 | _=>rfl
theorem L4 (n:Nat) (v:V1): (Cb n v).av=qs n v.av:=by
 cases v with
 | cl c=>cases c with
   | c x=>cases x <;> rfl
   | _=>rfl
 | agg cs=>
   simp only [Cb,V1.av,qs,List.map_map]
   congr 1
   exact List.map_congr_left fun c _=>XC n c
 | fn f cs=>rfl
theorem Hj (n:Nat) (v:V): (yG n v).av=rQ n v.av:=by
 cases v with
 | v x=>
   have :rQ n x.av=qs n x.av:=by
    cases x with
    | cl c=>cases c with
      | c x=>cases x <;> rfl
      | _=>rfl
    | _=>rfl
   show (Cb n x).av=rQ n x.av
   rw [this,L4]
 | tup l=>
   simp only [yG,V.av,rQ,List.map_map]
   congr 1
   exact List.map_congr_left fun c _=>L4 n c
theorem PQ {G:List (Option cc)} {out:List cc} {c:Cl} (h:c.ok (out.map some)): (QL G.length c).ok (G++out.map some):=by
 cases c with
 | own p sz lo len w=>
   obtain⟨h1,h2⟩:=h
   refine⟨by simp at h1 ⊢; omega,fun hw=> ?_⟩
   obtain⟨a,b,c⟩:=h2 hw
   refine⟨a,b,fun tr htr=>c tr ?_⟩
   rw [Hh,if_pos (by simp)] at htr
   simp only [Nat.add_sub_cancel] at htr
   unfold dG
   rw [ej,List.getElem?_map,htr]
   rfl
 | c x=>cases x <;> trivial
 | _=>trivial
theorem L5 {G:List (Option cc)} {out:List cc} {v:V1} (h:v.ok (out.map some)): (Cb G.length v).ok (G++out.map some):=by
 cases v with
 | cl c=>exact PQ h
 | agg cs=>
   intro c hc
   obtain⟨x,hx,rfl⟩:=List.mem_map.1 hc
   exact PQ (h x hx)
 | fn f cs=>trivial
theorem Hk {G:List (Option cc)} {out:List cc} {v:V} (h:v.ok (out.map some)): (yG G.length v).ok (G++out.map some):=by
 cases v with
 | v x=>exact L5 h
 | tup l=>
   intro c hc
   obtain⟨x,hx,rfl⟩:=List.mem_map.1 hc
   exact L5 (h x hx)
theorem DN (S:TS) (v:AV) (out:List cc): ({ S with gh:=S.gh++out.map some }:TS).st=(sj S.st (v,out.map cc.tree)).2:=by
 unfold TS.st sj
 simp only [List.length_append,List.length_map]
 congr 1
 funext r
 rw [Hh]
 by_cases h:S.gh.length≤r
 ·rw [if_pos h]
  by_cases h2:r < S.gh.length+out.length
  ·rw [if_pos ⟨h,h2⟩,List.getElem?_map]
  ·rw [if_neg (fun hh=>h2 hh.2),List.getElem?_eq_none (by omega),Cf h]
 ·rw [if_neg h,if_neg (fun hh=>h hh.1)]
section
variable {ρ:Type} {P:Program} {Θ:to} {S:TS} {Y:Fe}
theorem Fi (hS:S.ok): ∀ (caps:List Cl) (κ':List Cl→Option ρ) (r:ρ),(∀ c∈caps,c.ok S.gh)→LS (Xy S none) caps κ'=some r→ ∃ cs,(caps.map Cl.av).map (ey S.st 0)=cs.map Cl.av∧κ' cs=some r:=by
 intro caps
 induction caps with
 | nil=>intro κ' r _ h; exact⟨[],rfl,h⟩
 | cons c caps ih=>
   intro κ' r hc h
   unfold LS at h
   obtain⟨c',g1,h⟩:=L0 hS (hc c List.mem_cons_self) h
   obtain⟨cs,g2,h⟩:=ih _ r (fun x hx=>hc x (List.mem_cons_of_mem _ hx)) h
   exact⟨c'::cs,by rw [List.map_cons,List.map_cons,g2,g1 0 (fun t ht=>by cases ht),List.map_cons],h⟩
theorem Zg (hΘ:fk P Θ) (hY:au P Y) (hS:S.ok) {f:Operand} {ts:Array TypeId} {as:Array Operand} {κ:V→TS→Option ρ} {r:ρ} (h:WE Θ Y S f ts.toList as.toList κ=some r) {dst:Option Tmp} {ty:TypeId} {pos:String} {aft:Array Edge} {gd:Option (Nat×Bool)}:
  ∃ D v S',sn P D∧j5 D P S.st ⟨dst, .call { callee:= .value f,args:=as,argTypes:=ts },ty,pos,aft,gd⟩=some (V.av v,TS.st S')∧S'.ok∧v.ok S'.gh∧κ v S'=some r:=by
 have fin: ∀ (g:FuncId) (caps:List AV) (vs:List V1),g < kQ→callee S.st f=some (g,caps)→args P S.st ts as caps=vs.map V1.av→Y g vs ρ (fun res out=>κ (yG S.gh.length res) { S with gh:=S.gh++out.map some })=some r→
   ∃ D v S',sn P D∧j5 D P S.st ⟨dst, .call { callee:= .value f,args:=as,argTypes:=ts },ty,pos,aft,gd⟩=some (V.av v,TS.st S')∧S'.ok∧v.ok S'.gh∧κ v S'=some r:=by
  intro g caps vs hg h1 h2 h3
  obtain⟨res,out,h4,h5,h6⟩:=hY _ _ _ _ _ h3
  have h4:=h4.fn hg
  refine⟨XB dst g (vs.map V1.av) (res.av,out.map cc.tree),_,_,L3 h4,?_,TS.ok_gh hS (jL.apps _ _),Hk h5,h6⟩
  simp only [j5,h1,Option.bind_some,h2]
  rw [WN]
  simp only [Option.map_some]
  rw [DN S res.av out,Hj]
  rfl
 unfold WE at h
 split at h
 ·rename_i g x y hf
  obtain⟨hg,h⟩:=aB h
  have hg:g < kQ:=Nat.le_of_ble_eq_true hg
  obtain⟨vs,h1,h⟩:=xH hΘ hS _ _ _ _ h
  refine fin g [] vs hg ?_ ?_ h
  ·unfold callee
   rw [bk,hf]
   rfl
  ·unfold args
   simp only [List.map_nil,List.append_nil]
   exact h1
 ·rename_i g caps hf
  obtain⟨hg,h⟩:=aB h
  have hg:g < kQ:=Nat.le_of_ble_eq_true hg
  obtain⟨vs,h1,h⟩:=xH hΘ hS _ _ _ _ h
  have hcaps: ∀ c∈caps,c.ok S.gh:=by
   have:=oU hS f
   rw [hf] at this
   exact this
  obtain⟨cs,h2,h⟩:=Fi hS _ _ _ hcaps h
  refine fin g (caps.map Cl.av) (vs++cs.map .cl) hg ?_ ?_ h
  ·unfold callee
   rw [bk,hf]
   rfl
  ·unfold args
   rw [h1,h2,List.map_append,List.map_map]
   rfl
 ·cases h
theorem hZ {t t':Ty} {l:List t.D} {l':List t'.D} (h:AO t t' l=some l'): ∃ e:t=t',e ▸ l=l':=by
 unfold AO at h
 split at h
 ·rename_i e
  exact⟨e,Option.some.inj h⟩
 ·cases h
theorem XD {t:Ty} (h:t.flatB=true) (x:t.D): (t.row x).all T.flat=true:=by
 cases t with
 | st n=>cases n <;> first | rfl | cases h
 | ls t=>cases h
 | _=>rfl
theorem Hl (t:Ty): (t.shs.all (· ==0))=t.flatB:=by
 cases t with
 | st n=>cases n <;> rfl
 | ls t=>
   show ((t.width==0)&&true)=false
   have:=t.width_pos
   cases hw:t.width with
   | zero=>omega
   | succ n=>rfl
 | _=>rfl
theorem Cg {t:Ty} (h:t.flatB=true) (l:List t.D): (l.map t.row).all (fun r=>r.all T.flat)=true:=by
 rw [List.all_eq_true]
 intro x hx
 obtain⟨y,_,rfl⟩:=List.mem_map.1 hx
 exact XD h y
theorem aaR (hS:S.ok) {el:Ty} {v:Cl} (hv:v.ok S.gh) {κ:List el.D→TS→Option ρ} {r:ρ} (h:YZ S el v κ=some r):
  ∃ more S',qt S.st el.width el.flatB v.av=some (more.map el.row,S'.st)∧S'.ok∧jL S.gh S'.gh∧S'.gh.length=S.gh.length∧S'.fz=S.fz∧κ more S'=some r:=by
 unfold YZ at h
 split at h
 ·exact⟨[],S,rfl,hS,jL.refl _,rfl,rfl,h⟩
 ·rename_i t l
  obtain⟨h1,h⟩:=aB h
  split at h
  ·rename_i l' hl
   obtain⟨e,hl⟩:=hZ hl
   subst e
   simp only at hl
   subst hl
   refine⟨l,S,?_,hS,jL.refl _,rfl,rfl,h⟩
   simp only [Cl.av,C.av,qt]
   rw [if_pos ⟨trivial,Cg h1 l⟩]
  ·cases h
 ·rename_i p sz lo len w
  obtain⟨h0,h⟩:=aB h
  have h0:el.width=sz:=Nat.eq_of_beq_eq_true h0
  cases hfl:el.flatB with
  | true=>
    rw [hfl] at h
    simp only [cond_true] at h
    obtain⟨t,l,h1,h2,h⟩:=gm h
    split at h
    ·rename_i l' hl
     obtain⟨e,hl⟩:=hZ hl
     subst e
     simp only at hl
     subst hl
     have src: ∀ (lo len:Nat),lo+len≤l.length→qt S.st t.width true (.own p sz lo len)=some (((l.drop lo).take len).map t.row,S.st):=by
      intro lo len hle
      simp only [qt]
      rw [if_pos h0.symm,oz h1]
      simp only [Option.bind_some,Bool.true_eq_false,false_and,if_false,List.length_map]
      rw [if_pos ⟨hle,by rw [←List.map_drop,←List.map_take]; exact Cg hfl _⟩]
      simp [List.map_take,List.map_drop]
     cases w with
     | true=>
       obtain⟨e1,e2,e3⟩:=AQ hv h2
       refine⟨l,S,?_,hS,jL.refl _,rfl,rfl,h⟩
       have:=src lo len (by omega)
       rw [e2,e3,List.drop_zero,List.take_length] at this
       simp only [Cl.av]
       rw [e2,e3]
       exact this
     | false=>
       simp only [cond_false] at h
       obtain⟨h3,h⟩:=dT h
       exact⟨_,S,src lo len h3,hS,jL.refl _,rfl,rfl,h⟩
    ·cases h
  | false=>
    rw [hfl] at h
    simp only [cond_false] at h
    split at h
    ·rename_i hp
     obtain⟨h3,h6⟩:=aB h
     clear h
     simp only [Bool.and_eq_true] at h3
     obtain⟨hw,h4⟩:=h3
     have h4:S.fz≤p.r:=Nat.le_of_ble_eq_true h4
     subst hw
     obtain⟨t,l,h1,h2,h⟩:=gm h6
     split at h
     ·rename_i l' hl
      obtain⟨e,hl⟩:=hZ hl
      subst e
      simp only at hl
      subst hl
      obtain⟨e1,e2,e3⟩:=AQ hv h2
      refine⟨l,_,?_,TS.ok_gh hS (jL.gone _ _),jL.gone _ _,by simp [hO],rfl,h⟩
      simp only [Cl.av,qt]
      rw [if_pos h0.symm,oz h1]
      simp only [Option.bind_some,List.length_map]
      rw [if_pos ⟨trivial,hp,e2,e3,h4⟩,Fh]
     ·cases h
    ·cases h
 ·cases h
end
end Go.Proofs.YtkcgfceffffmoaaGreat.En
namespace Go.Proofs.YtkcgfceffffmoaaGreat.En
open Go
theorem VA (t:Ty):t.zvs.length=t.width:=by
 cases t with
 | st n=>cases n <;> rfl
 | _=>rfl
theorem DP (t:Ty):t.shs.length=t.width:=by
 cases t with
 | st n=>cases n <;> rfl
 | _=>rfl
theorem K8 {P:Program} {el:TypeId} {e:Ty} (h1:P.cellsOf el=e.width) (h2:th P 9 el=e.shs) (h3:G0 P el=some e.zvs):JA P el=some (List.zipWith zc e.shs e.zvs):=by
 unfold JA
 rw [h3]
 simp only [Option.bind_some]
 rw [if_pos ⟨by rw [h1,VA],by rw [h2,h1,DP]⟩,h2]
section
variable {ρ:Type} {P:Program} {Θ:to} {S:TS}
theorem Zh (hS:S.ok) {el:Ty} {v:Cl} (hv:v.ok S.gh) {more:List el.D} {κ:List el.D→TS→Option ρ} {r:ρ} (h:S8 S el v more κ=some r):
  ∃ l S',oK S.st v.av el.width (more.map el.row)=some (.own ⟨S.gh.length,[]⟩ el.width 0 l.length,{ S'.st with gh:=cm S'.st.gh S.gh.length (some (.sl el.width (l.map el.row))),ng:=S.gh.length+1 })∧
    S'.ok∧jL S.gh S'.gh∧S'.gh.length=S.gh.length∧κ l S'=some r:=by
 unfold S8 at h
 split at h
 ·refine⟨more,S,?_,hS,jL.refl _,rfl,h⟩
  simp only [Cl.av,oK,List.length_map]
  rfl
 ·rename_i p sz lo len w
  obtain⟨h0,h'⟩:=aB h
  clear h
  simp only [Bool.and_eq_true] at h0
  have hfz:S.fz≤p.r:=Nat.le_of_ble_eq_true h0.1
  have hsz:el.width=sz:=Nat.eq_of_beq_eq_true h0.2
  split at h'
  ·rename_i hp
   obtain⟨t,l,h1,h2,h⟩:=gm h'
   split at h
   ·rename_i l' hl
    obtain⟨e,hl⟩:=hZ hl
    subst e
    simp only at hl
    subst hl
    have fin: ∀ (len:Nat),¬ l.length < len→oK S.st (.own p sz 0 len) t.width (more.map t.row)=some (.own ⟨S.gh.length,[]⟩ t.width 0 (l.take len++more).length,{ ({ S with gh:=dS S.gh p.r none }:TS).st with gh:=cm ({ S with gh:=dS S.gh p.r none }:TS).st.gh S.gh.length (some (.sl t.width ((l.take len++more).map t.row))),ng:=S.gh.length+1 }):=by
     intro len hlen
     simp only [oK]
     rw [if_pos ⟨hsz.symm,trivial,hfz⟩,oz h1]
     simp only [Option.bind_some,List.length_map]
     rw [if_neg hlen,if_pos hp,Fh]
     have e1: (l.take len++more).length=len+more.length:=by simp; omega
     rw [e1,List.map_append,List.map_take]
     rfl
    cases w with
    | true=>
      obtain⟨e1,e2,e3⟩:=AQ hv h2
      refine⟨_,_,?_,TS.ok_gh hS (jL.gone _ _),jL.gone _ _,by simp [hO],h⟩
      have:=fin l.length (by omega)
      rw [List.take_length] at this
      simp only [Cl.av]
      rw [e2,e3]
      exact this
    | false=>
      simp only [cond_false] at h
      obtain⟨h3,h⟩:=dT h
      obtain⟨h4,h⟩:=Hf h
      refine⟨_,_,?_,TS.ok_gh hS (jL.gone _ _),jL.gone _ _,by simp [hO],h⟩
      simp only [Cl.av]
      rw [h3]
      exact fin len h4
   ·cases h
  ·rename_i i j hp
   split at h'
   ·rename_i tr htr
    split at h'
    ·rename_i hh
     obtain⟨t,l,h1,h2,h⟩:=gm h'
     split at h
     ·rename_i l' hl
      obtain⟨e,hl⟩:=hZ hl
      subst e
      simp only at hl
      subst hl
      obtain⟨h3,h⟩:=dT h
      obtain⟨h4,h⟩:=Hf h
      have hg:=cc.look htr
      have hput:jL S.gh (dS S.gh p.r (some (cc.mk tr.t tr.l (some (i,j))))):=jL.put hg rfl
      refine⟨_,{ S with gh:=dS S.gh p.r (some (cc.mk tr.t tr.l (some (i,j)))) },?_,TS.ok_gh hS hput,hput,by simp [hO],h⟩
      simp only [Cl.av,oK]
      rw [if_pos ⟨hsz.symm,h3,hfz⟩,oz h1]
      simp only [Option.bind_some,List.length_map]
      rw [if_neg h4,if_neg (by rw [hp]; simp),Hi _ _ (yH hg)]
      have e1: (l.take len++more).length=len+more.length:=by simp; omega
      rw [e1,List.map_append,List.map_take]
      have e2:S.st.setAt p .dd= { S.st with gh:=cm S.st.gh p.r (some (cc.tree ⟨tr.t,tr.l,some (i,j)⟩)) } :=by
       unfold St.setAt
       congr 2
       show ((dG S.gh p.r).map cc.tree).map _=_
       rw [hg,hp]
       obtain⟨t0,l0,hole⟩:=tr
       simp only at hh
       subst hh
       rfl
      rw [e2]
      rfl
     ·cases h
    ·cases h'
   ·cases h'
  ·cases h'
 ·cases h
theorem aaS (hΘ:fk P Θ) (hS:S.ok) {t:TypeId} {s x:Operand} {κ:V→TS→Option ρ} {r:ρ} (h:aaI Θ S t (S.opd s) (S.opd x) κ=some r) {dst:Option Tmp} {ty:TypeId} {pos:String} {aft:Array Edge} {gd:Option (Nat×Bool)} {D:wj}:
  ∃ v S',j5 D P S.st ⟨dst, .call { callee:= .builtin .append,args:= #[s,x],argTypes:= #[t,t] },ty,pos,aft,gd⟩=some (V.av v,TS.st S')∧S'.ok∧v.ok S'.gh∧κ v S'=some r:=by
 unfold aaI at h
 split at h
 ·rename_i ti hti
  split at h
  ·rename_i el sv xv he hs hx
   obtain⟨elT',g1,g2,g3,g4,g5,g6⟩:=(hΘ _ _ hti).el el he
   have hsv:=oU hS s
   rw [hs] at hsv
   have hxv:=oU hS x
   rw [hx] at hxv
   obtain⟨more,S1,h1,k1,k2,k3,k4,h⟩:=aaR hS (show xv.ok S.gh from hxv) h
   obtain⟨l,S2,h2,m1,m2,m3,h⟩:=Zh k1 (Cl.ok_mono k2 (show sv.ok S.gh from hsv)) h
   obtain⟨hb,h⟩:=dT h
   have hgl:jL S1.gh (S2.gh++ [some ⟨el,l,none⟩]):=m2.trans (jL.app _ _)
   refine⟨_,_,?_,TS.ok_gh m1 (jL.app _ _),?_,h⟩
   ·simp only [j5]
    rw [if_pos trivial,g1]
    simp only [Option.bind_some,g2,g5,Hl,bk,hs,hx]
    show (qt S.st el.width el.flatB xv.av).bind _=_
    rw [h1]
    simp only [Option.bind_some]
    show (oK S1.st sv.av el.width _).bind _=_
    rw [h2]
    simp only [Option.bind_some]
    have hlen:l.length≤2 ^ 40:=Nat.le_trans (Nat.le_mul_of_pos_right _ g4) hb
    rw [if_pos ⟨by rw [g3]; exact hb,hlen,el.width_pos,by rw [K8 g2 g5 g6]; rfl⟩]
    rw [LZ,m3]
    rfl
   ·refine⟨by simp,fun _=>⟨rfl,rfl,fun tr htr=> ?_⟩⟩
    rw [oV,if_pos rfl] at htr
    cases htr
    rfl
  ·cases h
 ·cases h
end
end Go.Proofs.YtkcgfceffffmoaaGreat.En
