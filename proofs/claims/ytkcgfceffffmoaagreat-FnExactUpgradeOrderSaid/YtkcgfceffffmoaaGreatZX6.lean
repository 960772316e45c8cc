import Derived.Test.YtkcgfceffffmoaaGreatZX5
namespace Go.Proofs.YtkcgfceffffmoaaGreat.En
open Go
inductive Cl where
 | c (x:C)
 | em
 | own (p:bT) (sz lo len:Nat) (w:Bool)
 | pro (cs:List C)
 | ptrB (n j:Nat)
 | ptrT (p:bT) (sz i j:Nat)
 | dead
 deriving Inhabited
inductive V1 where
 | cl (x:Cl)
 | agg (cs:List Cl)
 | fn (f:FuncId) (cs:List Cl)
 deriving Inhabited
inductive V where
 | v (x:V1)
 | tup (l:List V1)
 deriving Inhabited
structure bO where
 t:Ty
 l:List t.D
 hole:Option (Nat×Nat)
structure TS where
 env:List (Nat×V)
 bx:List (List Cl)
 gh:List (Option bO)
 fz:Nat
 nt:Nat
structure TI where
 ty:Ty
 el:Nat
 fds:List (Nat×Nat×Bool)
 bytes:Nat
abbrev pI:=List (Nat×TI)
@[reducible] def V.c (x:C):V:= .v (.cl (.c x))
@[reducible] def V.sc (x:Value):V:= .v (.cl (.c (.sc x)))
@[reducible] def V.dead:V:= .v (.cl .dead)
def iI:List (Nat×V)→Nat→V
 | [],_=>V.dead
 | (t,v)::l,u=>bif Nat.beq t u then v else iI l u
def ns:pI→Nat→Option TI
 | [],_=>none
 | (t,v)::l,u=>bif Nat.beq t u then some v else ns l u
def pJ {α:Type}:List α→Nat→Option α
 | [],_=>none
 | a::l,n=>bif Nat.beq n 0 then some a else pJ l (n - 1)
def cC (v:Value):Cl:=bif qM v then .c (.sc v) else match v with | .slice none 0 0=> .em | _=> .dead
def cV:Value→V
 | .agg cs=>bif cs.toList.all Value.oneCell' then .v (.agg (cs.toList.map cC)) else V.dead
 | v=> .v (.cl (cC v))
def TS.opd (S:TS):Operand→V
 | .tmp t=>iI S.env t
 | .const v=>cV v
 | .func f=>V.sc (.func (.func f) #[] #[])
 | .global _=>V.dead
def V1.cells:V1→List Cl
 | .cl x=> [x]
 | .agg cs=>cs
 | .fn _ _=> [.dead]
def C.flatB:C→Bool | .sc _=>true | _=>false
def Ty.flatB (t:Ty):Bool:=t.csh.all (·.isNone)
section
variable {ρ:Type}
def br {α:Type} (b:Bool) (x y:α):α:=cond b x y
def an {α:Type} (c:Prop) [Decidable c] (x y:α):α:=if c then x else y
def KS (S:TS) (x:Operand) (κ:Bool→TS→Option ρ):Option ρ:=match x with
 | .tmp t=>match iI S.env t with
   | .v (.cl (.c (.sc (.bool b))))=>br b (κ true { S with env:=(t,V.sc (.bool true))::S.env }) (κ false { S with env:=(t,V.sc (.bool false))::S.env })
   | _=>none
 | .const (.bool b)=>κ b S
 | _=>none
def MY (v:V) (κ:Int→Option ρ):Option ρ:=match v with | .v (.cl (.c (.sc (.int _ n))))=>κ n | _=>none
def sb (S:TS) (p:bT) (κ: (t:Ty)→List t.D→Option ρ):Option ρ:=match pJ S.gh p.r with
 | some (some tr)=>match tr.hole with
   | none=>match p.l with
     | [] =>κ tr.t tr.l
     | [(i,j)] =>(tr.l[i]?).bind fun x=>match pJ (tr.t.flat x) j with
       | some (.ls t l)=>κ t l
       | _=>none
     | _=>none
   | some _=>none
 | _=>none
def C.ro:C→Cl:=Cl.c
def MZ (p:bT) (i j:Nat):C→Cl
 | .sc v=> .c (.sc v)
 | .ls t l=> .own ⟨p.r,p.l++ [(i,j)]⟩ t.width 0 l.length false
def Bi {α β:Type} (f:Nat→α→β):Nat→List α→List β
 | _,[] => []
 | n,a::l=>f n a::Bi f (n+1) l
def M0 (S:TS) (n:Nat) (v:Cl) (κ:List Cl→Option ρ):Option ρ:=match v with
 | .ptrB b j=>match pJ S.bx b with
   | some cs=>bif Nat.ble (j+n) cs.length then κ ((cs.drop j).take n) else none
   | none=>none
 | .pro cells=>bif Nat.ble n cells.length then κ ((cells.take n).map Cl.c) else none
 | .ptrT p sz i j=>sb S p fun t l=>bif Nat.beq t.width sz&&Nat.ble (j+n) sz then (l[i]?).bind fun x=>κ (Bi (MZ p i) j (((t.flat x).drop j).take n)) else none
 | _=>none
def Vl (ag:Bool) (cs:List Cl) (κ:V→Option ρ):Option ρ:=bif ag then κ (.v (.agg cs)) else match cs with | [c] =>κ (.v (.cl c)) | _=>none
def Ty.ag:Ty→Bool | .st _=>true | _=>false
def KT (Θ:pI) (S:TS) (t:TypeId) (v:V) (κ:V→Option ρ):Option ρ:=match ns Θ t with
 | some ti=>match v with | .v (.cl a)=>M0 S ti.ty.width a fun cs=>Vl ti.ty.ag cs κ | _=>none
 | none=>none
def TL (n:Nat) (i:Int) (S:TS) (v:Cl) (κ:Cl→Option ρ):Option ρ:=match v with
 | .c (.ls t l)=>bif Nat.beq t.width n then an (0≤i) ((l[i.toNat]?).bind fun x=>κ (.pro (t.flat x))) none else none
 | .own p sz _ _ true=>bif Nat.beq sz n then sb S p fun _ l=>an (0≤i∧i < l.length) (κ (.ptrT p sz i.toNat 0)) none else none
 | .own p sz lo len false=>bif Nat.beq sz n then an (0≤i∧i < len) (κ (.ptrT p sz (lo+i.toNat) 0)) none else none
 | _=>none
def R6 (S:TS) (v:Cl) (κ:Int→Option ρ):Option ρ:=match v with
 | .c (.ls _ l)=>κ l.length
 | .own p _ _ _ true=>sb S p fun _ l=>κ l.length
 | .own _ _ _ len false=>κ len
 | .em=>κ 0
 | _=>none
def TM (n:Nat) (lo hi:Int) (v:Cl) (κ:Cl→Option ρ):Option ρ:=match v with
 | .em=>an (lo=0∧hi=0) (κ .em) none
 | .c (.ls t l)=>bif Nat.beq t.width n then an (0≤lo∧lo≤hi∧hi≤l.length) (κ (.c (.ls t ((l.drop lo.toNat).take (hi.toNat - lo.toNat))))) none else none
 | .own p sz l len _=>bif Nat.beq sz n then an (0≤lo∧lo≤hi∧hi≤len) (κ (.own p sz (l+lo.toNat) (hi.toNat - lo.toNat) false)) none else none
 | _=>none
def IX (S:TS) (d:Int) (x:Option Operand) (κ:Int→Option ρ):Option ρ:=match x with
 | none=>κ d
 | some x=>MY (S.opd x) κ
def O2:List (Nat×Nat×Bool)→List Cl→List (Nat×V)→Option (List Cl)
 | _,cs,[] =>some cs
 | pl,cs,(k,v)::r=>match pJ pl k with
   | some (off,n,_)=>match v with
     | .v x=>match x with
       | .cl .dead=>none
       | .fn _ _=>none
       | x=>bif Nat.beq x.cells.length n&&Nat.ble (off+n) cs.length then O2 pl (cs.take off++x.cells++cs.drop (off+n)) r else none
     | _=>none
   | none=>none
def KU:Value→Value→Option Bool
 | .int _ a, .int _ b=>some (a==b)
 | .bool a, .bool b=>some (a==b)
 | _,_=>none
def wR:List Cl→List Cl→Option Bool
 | [],[] =>some true
 | .c (.sc a)::l, .c (.sc b)::m=>match KU a b,wR l m with
   | some x,some y=>some (x&&y)
   | _,_=>none
 | _,_=>none
def lN:List Value→List Cl→Bool
 | [],[] =>true
 | .int k _::zs, .c (.sc (.int k' _))::cs=>bif decide (k=k') then lN zs cs else false
 | .bool _::zs, .c (.sc (.bool _))::cs=>lN zs cs
 | _,_=>false
def V.ints (f:IntKind→Int→Int→Option ρ):V→V→Option ρ
 | .v (.cl (.c (.sc (.int k a)))), .v (.cl (.c (.sc (.int k' b))))=>if k=k' then f k a b else none
 | _,_=>none
def UA (Θ:pI) (t:TypeId) (x y:V) (κ:Bool→Option ρ):Option ρ:=match x,y with
 | .v (.cl (.c (.sc (.int k a)))), .v (.cl (.c (.sc (.int k' b))))=>if k=k' then κ (a==b) else none
 | .v (.cl (.c (.sc (.bool a)))), .v (.cl (.c (.sc (.bool b))))=>match ns Θ t with
   | some ti=>match ti.ty with | .b=>κ (a==b) | _=>none
   | none=>none
 | .v (.agg a), .v (.agg b)=>match ns Θ t with
   | some ti=>bif ti.ty.ag&&ti.ty.flatB&&lN ti.ty.zvs a&&lN ti.ty.zvs b then (match wR a b with | some r=>κ r | none=>none) else none
   | none=>none
 | _,_=>none
def TN (Θ:pI) (op:BinOp) (t:TypeId) (x y:V) (κ:V→Option ρ):Option ρ:=match op with
 | .lss=>V.ints (fun _ a b=>κ (V.sc (.bool (decide (a < b))))) x y
 | .leq=>V.ints (fun _ a b=>κ (V.sc (.bool (decide (a≤b))))) x y
 | .gtr=>V.ints (fun _ a b=>κ (V.sc (.bool (decide (a > b))))) x y
 | .geq=>V.ints (fun _ a b=>κ (V.sc (.bool (decide (a≥b))))) x y
 | .add=>V.ints (fun k a b=>κ (V.sc (.int k (k.wrap (a+b))))) x y
 | .sub=>V.ints (fun k a b=>κ (V.sc (.int k (k.wrap (a - b))))) x y
 | .mul=>V.ints (fun k a b=>κ (V.sc (.int k (k.wrap (a*b))))) x y
 | .quo=>V.ints (fun k a b=>if b=0 then none else κ (V.sc (.int k (k.wrap (a.tdiv b))))) x y
 | .rem=>V.ints (fun k a b=>if b=0 then none else κ (V.sc (.int k (a.tmod b)))) x y
 | .eql=>UA Θ t x y fun r=>κ (V.sc (.bool r))
 | .neq=>UA Θ t x y fun r=>κ (V.sc (.bool (!r)))
 | _=>none
def KV:List V→Option (List Cl)
 | [] =>some []
 | .v (.cl c)::l=>match KV l with | some r=>some (c::r) | none=>none
 | _=>none
def E2 (Θ:pI) (S:TS) (o:Oper) (κ:V→TS→Option ρ):Option ρ:=
 let e:=S.opd
 match o.op with
 | .move x | .assign x=>κ (e x) S
 | .pick c a b=>KS S c fun t S=>bif t then κ (S.opd a) S else κ (S.opd b) S
 | .load t a=>KT Θ S t (e a) (fun v=>κ v S)
 | .nilCheck x=>match e x with
   | .v (.cl (.ptrB n j))=>κ (.v (.cl (.ptrB n j))) S
   | .v (.cl (.ptrT p sz i j))=>κ (.v (.cl (.ptrT p sz i j))) S
   | .v (.cl (.pro cs))=>κ (.v (.cl (.pro cs))) S
   | .v (.fn f cs)=>κ (.v (.fn f cs)) S
   | .v (.cl (.c (.sc (.func (.func f) a b))))=>κ (.v (.cl (.c (.sc (.func (.func f) a b))))) S
   | _=>none
 | .fieldAddr t x k=>match ns Θ t with
   | some ti=>match pJ ti.fds k with
     | some (off,n,_)=>bif Nat.beq n 0 then none else match e x with
       | .v (.cl (.ptrB b j))=>κ (.v (.cl (.ptrB b (j+off)))) S
       | .v (.cl (.ptrT p sz i j))=>κ (.v (.cl (.ptrT p sz i (j+off)))) S
       | .v (.cl (.pro cs))=>κ (.v (.cl (.pro (cs.drop off)))) S
       | _=>none
     | none=>none
   | none=>none
 | .field t x k=>match ns Θ t with
   | some ti=>match pJ ti.fds k with
     | some (off,n,ag)=>match e x with
       | .v (.agg cs)=>bif Nat.ble (off+n) cs.length&&Nat.blt 0 n then Vl ag ((cs.drop off).take n) (fun v=>κ v S) else none
       | _=>none
     | none=>none
   | none=>none
 | .indexAddr t x ix=>match ns Θ t with
   | some ti=>match ti.ty with
     | .ls el=>MY (e ix) fun i=>match e x with | .v (.cl a)=>TL el.width i S a (fun c=>κ (.v (.cl c)) S) | _=>none
     | _=>none
   | none=>none
 | .build t parts=>match ns Θ t with
   | some ti=>bif ti.ty.ag then (match O2 ti.fds (ti.ty.zvs.map cC) (parts.toList.map fun x=>(x.1,e x.2)) with | some cs=>κ (.v (.agg cs)) S | none=>none) else none
   | none=>none
 | .slice t x lo hi none=>match ns Θ t with
   | some ti=>match ti.ty with
     | .ls el=>match e x with
       | .v (.cl a)=>R6 S a fun n=>IX S 0 lo fun l=>IX S n hi fun h=>TM el.width l h a (fun c=>κ (.v (.cl c)) S)
       | _=>none
     | _=>none
   | none=>none
 | .convert s d x=>match ns Θ s,ns Θ d with
   | some _,some di=>match di.ty with
     | .i k'=>(match e x with | .v (.cl (.c (.sc (.int _ n))))=>κ (V.sc (.int k' (k'.wrap n))) S | _=>none)
     | _=>none
   | _,_=>none
 | .index t x ix=>match ns Θ t with
   | some ti=>match ti.ty with
     | .s=>(match e x,e ix with | .v (.cl (.c (.sc (.string s)))), .v (.cl (.c (.sc (.int _ i))))=>an (0≤i) ((s[i.toNat]?).bind fun b=>κ (V.sc (.int .u8 b.toNat)) S) none | _,_=>none)
     | _=>none
   | none=>none
 | .extract x k=>match e x with | .tup vs=>(match pJ vs k with | some v=>κ (.v v) S | none=>none) | _=>none
 | .makeFunc (.func f) first caps=>bif first.isEmpty then (match KV (caps.toList.map e) with | some cs=>κ (.v (.fn f cs)) S | none=>none) else none
 | .call { callee:= .builtin .len,args:=as,argTypes:=ts } =>match as.toList,ts.toList with
   | [x],[t] =>match ns Θ t with
     | some ti=>match ti.ty with
       | .ls _=>(match e x with | .v (.cl a)=>R6 S a fun n=>κ (V.sc (.int .i64 n)) S | _=>none)
       | _=>none
     | none=>none
   | _,_=>none
 | .call { callee:= .builtin .cap,args:=as,argTypes:=ts } =>match as.toList,ts.toList with
   | [x],[t] =>match ns Θ t with
     | some ti=>match ti.ty with
       | .ls _=>(match e x with | .v (.cl .em)=>κ (V.sc (.int .i64 0)) S | _=>none)
       | _=>none
     | none=>none
   | _,_=>none
 | .call { callee:= .builtin .max,args:=as,argTypes:=_ } =>match as.toList with
   | [x,y] =>V.ints (fun k a b=>κ (V.sc (.int k (if b > a then b else a))) S) (e x) (e y)
   | _=>none
 | .call { callee:= .builtin .min,args:=as,argTypes:=_ } =>match as.toList with
   | [x,y] =>V.ints (fun k a b=>κ (V.sc (.int k (if b < a then b else a))) S) (e x) (e y)
   | _=>none
 | .binOp op t x y _=>TN Θ op t (e x) (e y) (fun v=>κ v S)
 | .unOp .not _ x=>match e x with | .v (.cl (.c (.sc (.bool b))))=>κ (V.sc (.bool (!b))) S | _=>none
 | _=>none
end
end Go.Proofs.YtkcgfceffffmoaaGreat.En
namespace Go.Proofs.YtkcgfceffffmoaaGreat.En
open Go
def C.av:C→AV
 | .sc v=> .sc v
 | .ls t l=> .ro t.width (l.map t.row)
def Cl.av:Cl→AV
 | .c x=>x.av
 | .em=> .em
 | .own p sz lo len _=> .own p sz lo len
 | .pro cs=> .pro (cs.map C.tree)
 | .ptrB n j=> .ptrB n j
 | .ptrT p sz i j=> .ptrT p sz i j
 | .dead=> .dead
def V1.av:V1→AV
 | .cl x=>x.av
 | .agg cs=> .agg (cs.map Cl.av)
 | .fn f cs=> .fn f (cs.map Cl.av)
def V.av:V→AV
 | .v x=>x.av
 | .tup l=> .tup (l.map V1.av)
def bO.tree (x:bO):T:=match x.hole with
 | none=> .sl x.t.width (x.l.map x.t.row)
 | some (i,j)=> .sl x.t.width ((x.l.map x.t.row).set i (((x.l.map x.t.row).getD i []).set j .dd))
def c8 (G:List (Option bO)) (r:Nat):Option bO:=(pJ G r).getD none
def TS.st (S:TS):St where
 env:=fun t=>(iI S.env t).av
 bx:=fun n=>(pJ S.bx n).map fun cs=>cs.map Cl.av
 gh:=fun r=>(c8 S.gh r).map bO.tree
 nb:=S.bx.length
 ng:=S.gh.length
 fz:=S.fz
 orc:=none
 nt:=S.nt
structure zO where
 f:FuncId→List V1→(ρ:Type)→(V→List bO→Option ρ)→Option ρ
 kd:FuncId→Nat
instance:CoeFun zO fun _=>FuncId→List V1→(ρ:Type)→(V→List bO→Option ρ)→Option ρ:=⟨zO.f⟩
def ja:Nat:=1048576
def HW:Nat:=ja+ja
def mX (g:Nat):Nat:=g+ja
def Bk (g:Nat):Nat:=g+HW
def IY (n:Nat):Cl→Cl
 | .own p sz lo len w=> .own ⟨p.r+n,p.l⟩ sz lo len w
 | .c (.sc v)=> .c (.sc v)
 | _=> .dead
def wT (n:Nat):V1→V1
 | .agg cs=> .agg (cs.map (IY n))
 | .cl c=> .cl (IY n c)
 | .fn _ _=> .cl .dead
def uk (n:Nat):V→V
 | .tup vs=> .tup (vs.map (wT n))
 | .v x=> .v (wT n x)
def dl {α:Type}:List α→Nat→α→List α
 | [],_,_=> []
 | a::l,n,x=>bif Nat.beq n 0 then x::l else a::dl l (n - 1) x
def vE (t t':Ty) (l:List t.D):Option (List t'.D):=if h:t=t' then some (h ▸ l) else none
def qB (r j:Nat):Cl→Cl
 | .own p sz lo len w=>match p.l with | (_,j')::_=>bif Nat.beq p.r r&&Nat.beq j j' then .dead else .own p sz lo len w | [] => .own p sz lo len w
 | .ptrT p sz a b=>match p.l with | (_,j')::_=>bif Nat.beq p.r r&&Nat.beq j j' then .dead else .ptrT p sz a b | [] => .ptrT p sz a b
 | c=>c
def sS (r j:Nat):V1→V1
 | .cl c=> .cl (qB r j c)
 | .agg cs=> .agg (cs.map (qB r j))
 | .fn f cs=> .fn f (cs.map (qB r j))
def HX (r j:Nat):V→V
 | .v x=> .v (sS r j x)
 | .tup vs=> .tup (vs.map (sS r j))
def TS.kill (S:TS) (r j:Nat):TS:= { S with env:=S.env.map fun x=>(x.1,HX r j x.2),bx:=S.bx.map fun cs=>cs.map (qB r j) }
def jb (S:TS) (no j:Nat) (et:Option Ty) (c:Cl):Option (C×TS):=match c,et with
 | .c (.sc v),none=>some (.sc v,S)
 | .em,some t=>some (.ls t [],S.kill no j)
 | .own p sz _ _ true,some t=>match p.l with
   | [] =>bif Nat.beq t.width sz&&Nat.ble S.fz p.r&& !(Nat.beq p.r no) then match pJ S.gh p.r with
     | some (some tr)=>match tr.hole with
       | none=>bif Nat.beq tr.t.width sz then some (.ls tr.t tr.l,{ S with gh:=dl S.gh p.r none }.kill no j) else none
       | some _=>none
     | _=>none else none
   | _=>none
 | _,_=>none
def qC (no:Nat):Nat→TS→List (Option Ty)→List Cl→Option (List C×TS)
 | j,S,et::ets,c::cs=>match jb S no j et c with
   | some (x,S1)=>match qC no (j+1) S1 ets cs with
     | some (xs,S2)=>some (x::xs,S2)
     | none=>none
   | none=>none
 | _,S,[],[] =>some ([],S)
 | _,_,_,_=>none
def VS (et:Option Ty) (v:Value):C:=match et with | some t=> .ls t [] | none=> .sc v
def Ty.zcs (t:Ty):List C:=List.zipWith VS t.csh t.zvs
def TO:List Cl→Option (List C)
 | [] =>some []
 | .c (.sc v)::l=>match TO l with | some r=>some (.sc v::r) | none=>none
 | _=>none
section
variable {ρ:Type}
def E3 {α β:Type} (f:α→(β→Option ρ)→Option ρ):List α→(List β→Option ρ)→Option ρ
 | [],κ=>κ []
 | a::l,κ=>f a fun b=>E3 f l fun bs=>κ (b::bs)
def M1 (Θ:pI) (S:TS) (t:TypeId) (a v:V) (κ:TS→Option ρ):Option ρ:=match ns Θ t with
 | none=>none
 | some ti=>match v with
   | .tup _=>none
   | .v (.cl .dead)=>none
   | .v (.fn _ _)=>none
   | .v x=>bif Nat.beq x.cells.length ti.ty.width then match a with
     | .v (.cl (.ptrB b j))=>match pJ S.bx b with
       | some cs=>bif Nat.ble (j+x.cells.length) cs.length then κ { S with bx:=dl S.bx b (cs.take j++x.cells++cs.drop (j+x.cells.length)) } else none
       | none=>none
     | .v (.cl (.ptrT p sz i j))=>match p.l with
       | [] =>match pJ S.gh p.r with
         | some (some tr)=>bif Nat.beq tr.t.width sz&&Nat.ble (j+ti.ty.width) sz&&Nat.beq x.cells.length ti.ty.width then
           bif ti.ty.flatB then
            match tr.hole,TO x.cells with
            | none,some vs=>(tr.l[i]?).bind fun y=>match tr.t.unflat ((tr.t.flat y).take j++vs++(tr.t.flat y).drop (j+ti.ty.width)) with
              | some z=>κ { S with gh:=dl S.gh p.r (some ⟨tr.t,tr.l.set i z,none⟩) }
              | none=>none
            | _,_=>none
           else bif Nat.ble S.fz p.r then match qC p.r j S ti.ty.csh x.cells with
            | some (vs,S1)=>(tr.l[i]?).bind fun y=>match tr.t.unflat ((tr.t.flat y).take j++vs++(tr.t.flat y).drop (j+ti.ty.width)) with
              | some z=>match tr.hole with
                | none=>κ { S1 with gh:=dl S1.gh p.r (some ⟨tr.t,tr.l.set i z,none⟩) }
                | some (i0,j0)=>bif Nat.beq j j0&&Nat.beq ti.ty.width 1 then an (i=i0) (κ { S1 with gh:=dl S1.gh p.r (some ⟨tr.t,tr.l.set i z,none⟩) }) none else none
              | none=>none
            | none=>none else none
           else none
         | _=>none
       | _=>none
     | _=>none
     else none
def O3 (S:TS) (et:Option Ty) (c:Cl) (κ:Cl→Option ρ):Option ρ:=match c with
 | .c x=>κ (.c x)
 | .em=>match et with | some t=>κ (.c (.ls t [])) | none=>none
 | .own p sz _ _ true=>sb S p fun t l=>bif Nat.beq t.width sz then κ (.c (.ls t l)) else none
 | .own p sz lo len false=>sb S p fun t l=>bif Nat.beq t.width sz then an (lo+len≤l.length) (κ (.c (.ls t ((l.drop lo).take len)))) none else none
 | .pro cs=>κ (.pro cs)
 | .ptrT p sz i j=>sb S p fun t l=>bif Nat.beq t.width sz then (l[i]?).bind fun x=>κ (.pro ((t.flat x).drop j)) else none
 | .ptrB b j=>match pJ S.bx b with
   | some cs=>E3 (fun c κ=>match c with
     | .c x=>κ x
     | .own p sz _ _ true=>sb S p fun t l=>bif Nat.beq t.width sz then κ (.ls t l) else none
     | _=>none) (cs.drop j) fun cs=>κ (.pro cs)
   | none=>none
 | .dead=>κ .dead
def R7 (S:TS):List (Option Ty)→List Cl→(List Cl→Option ρ)→Option ρ
 | et::ets,c::cs,κ=>O3 S et c fun c'=>R7 S ets cs fun cs'=>κ (c'::cs')
 | [],[],κ=>κ []
 | _,_,_=>none
def Vx (Θ:pI) (S:TS) (t:TypeId) (v:V) (κ:V1→Option ρ):Option ρ:=match v with
 | .tup _=>none
 | .v (.fn f cs)=>E3 (O3 S none) cs fun cs'=>κ (.fn f cs')
 | .v (.agg cs)=>match ns Θ t with | some ti=>R7 S ti.ty.csh cs fun cs'=>κ (.agg cs') | none=>none
 | .v (.cl .em)=>κ (.cl .em)
 | .v (.cl c)=>match ns Θ t with | some ti=>O3 S (ti.ty.csh.headD none) c fun c'=>κ (.cl c') | none=>O3 S none c fun c'=>κ (.cl c')
def th (Θ:pI) (S:TS):List TypeId→List Operand→(List V1→Option ρ)→Option ρ
 | t::ts,a::as,κ=>Vx Θ S t (S.opd a) fun v=>th Θ S ts as fun vs=>κ (v::vs)
 | [],[],κ=>κ []
 | _,_,_=>none
def N1 (Θ:pI) (Y:zO) (S:TS) (f:Operand) (ts:List TypeId) (as:List Operand) (κ:V→TS→Option ρ):Option ρ:=match S.opd f with
 | .v (.cl (.c (.sc (.func (.func g) _ _))))=>bif Nat.blt g ja then th Θ S ts as fun vs=>Y g vs ρ fun res out=>κ (uk S.gh.length res) { S with gh:=S.gh++out.map some } else none
 | .v (.fn g caps)=>bif Nat.blt g ja then th Θ S ts as fun vs=>E3 (O3 S none) caps fun cs=>Y g (vs++cs.map .cl) ρ fun res out=>κ (uk S.gh.length res) { S with gh:=S.gh++out.map some } else none
 | _=>none
def Qm (S:TS) (el:Ty) (v:Cl) (κ:List el.D→TS→Option ρ):Option ρ:=match v with
 | .em=>κ [] S
 | .c (.ls t l)=>bif el.flatB then match vE t el l with | some l=>κ l S | none=>none else none
 | .own p sz lo len w=>bif Nat.beq el.width sz then (bif el.flatB then sb S p fun t l=>match vE t el l with
   | some l=>bif w then κ l S else an (lo+len≤l.length) (κ ((l.drop lo).take len) S) none
   | none=>none
   else match p.l with
   | [] =>bif w&&Nat.ble S.fz p.r then sb S p fun t l=>match vE t el l with | some l=>κ l { S with gh:=dl S.gh p.r none } | none=>none else none
   | _=>none) else none
 | _=>none
def KW (S:TS) (el:Ty) (v:Cl) (more:List el.D) (κ:List el.D→TS→Option ρ):Option ρ:=match v with
 | .em=>κ more S
 | .own p sz lo len w=>bif Nat.ble S.fz p.r&&Nat.beq el.width sz then match p.l with
   | [] =>sb S p fun t l=>match vE t el l with
     | some l=>bif w then κ (l++more) { S with gh:=dl S.gh p.r none }
       else an (lo=0) (an (l.length < len) none (κ (l.take len++more) { S with gh:=dl S.gh p.r none })) none
     | none=>none
   | [(i,j)] =>match pJ S.gh p.r with
     | some (some tr)=>match tr.hole with
       | none=>sb S p fun t l=>match vE t el l with
         | some l=>an (lo=0) (an (l.length < len) none (κ (l.take len++more) { S with gh:=dl S.gh p.r (some ⟨tr.t,tr.l,some (i,j)⟩) })) none
         | none=>none
       | some _=>none
     | _=>none
   | _=>none else none
 | _=>none
def R8 (Θ:pI) (S:TS) (t:TypeId) (s x:V) (κ:V→TS→Option ρ):Option ρ:=match ns Θ t with
 | some ti=>match ti.ty,s,x with
   | .ls el, .v (.cl s), .v (.cl x)=>Qm S el x fun more S1=>KW S1 el s more fun l S2=>
     an (l.length*ti.el≤2 ^ 40) (κ (.v (.cl (.own ⟨S2.gh.length,[]⟩ el.width 0 l.length true))) { S2 with gh:=S2.gh++ [some ⟨el,l,none⟩] }) none
   | _,_,_=>none
 | none=>none
def UJ:List Nat→List Nat→Bool
 | [],[] =>true
 | a::l,b::m=>bif Nat.beq a b then UJ l m else false
 | _,_=>false
def sT (el:Ty):TS→List V→Option (List el.D×TS)
 | S,[] =>some ([],S)
 | S, .v x::r=>match qC S.gh.length 0 S el.csh x.cells with
   | some (vs,S1)=>match el.unflat vs,sT el S1 r with
     | some y,some (ys,S2)=>some (y::ys,S2)
     | _,_=>none
   | none=>none
 | _,_=>none
def M2:Cl→Bool | .c (.ls _ _)=>true | _=>false
def E4:V→Bool | .v x=>x.cells.any M2 | _=>false
def nB:List (Option Ty)→List Cl→Option (List C)
 | _::ets, .c x::cs=>(match nB ets cs with | some r=>some (x::r) | none=>none)
 | some t::ets, .em::cs=>(match nB ets cs with | some r=>some (.ls t []::r) | none=>none)
 | [],[] =>some []
 | _,_=>none
def tj (el:Ty):List V→Option (List el.D)
 | [] =>some []
 | .v x::r=>(match nB el.csh x.cells with
   | some xs=>(match el.unflat xs,tj el r with | some y,some ys=>some (y::ys) | _,_=>none)
   | none=>none)
 | _=>none
def Tm (Θ:pI) (S:TS) (t:TypeId) (s x:V) (κ:V→TS→Option ρ):Option ρ:=match ns Θ t with
 | some ti=>match ti.ty,s with
   | .ls el, .v (.cl .em)=>MY x fun n=>match el.unflat el.zcs with
     | some z=>an (0 < n∧n*ti.el≤2 ^ 40) (κ (.v (.cl (.own ⟨S.gh.length,[]⟩ el.width 0 n.toNat true))) { S with gh:=S.gh++ [some ⟨el,List.replicate n.toNat z,none⟩] }) none
     | none=>none
   | _,_=>none
 | none=>none
def zP (Θ:pI) (Y:zO) (S:TS) (o:Oper) (κ:V→TS→Option ρ):Option ρ:=
 let e:=S.opd
 match o.op with
 | .alloc t=>match ns Θ t with | some ti=>κ (.v (.cl (.ptrB S.bx.length 0))) { S with bx:=S.bx++ [ti.ty.zvs.map cC] } | none=>none
 | .box _ x=>match e x with
   | .v (.cl .dead)=>none
   | .v (.cl c)=>κ (.v (.cl (.ptrB S.bx.length 0))) { S with bx:=S.bx++ [[c]] }
   | .v (.agg cs)=>κ (.v (.cl (.ptrB S.bx.length 0))) { S with bx:=S.bx++ [cs] }
   | _=>none
 | .store t a x=>M1 Θ S t (e a) (e x) fun S'=>κ V.dead S'
 | .makeSlice t l c=>match ns Θ t with
   | some ti=>match ti.ty with
     | .ls el=>MY (e l) fun n=>MY (e c) fun m=>match el.unflat el.zcs with
       | some z=>an (0≤n∧n=m∧n*ti.el≤2 ^ 40) (κ (.v (.cl (.own ⟨S.gh.length,[]⟩ el.width 0 n.toNat true))) { S with gh:=S.gh++ [some ⟨el,List.replicate n.toNat z,none⟩] }) none
       | none=>none
     | _=>none
   | none=>none
 | .buildSlice t len parts=>match ns Θ t with
   | some ti=>match ti.ty with
     | .ls el=>bif Nat.ble (len*el.width) 1048576&&UJ (parts.toList.map (·.1)) (List.range len) then (bif (parts.toList.map fun x=>e x.2).any E4 then (match tj el (parts.toList.map fun x=>e x.2) with | some l=>κ (.v (.cl (.c (.ls el l)))) S | none=>none) else match sT el S (parts.toList.map fun x=>e x.2) with
       | some (l,S1)=>κ (.v (.cl (.own ⟨S1.gh.length,[]⟩ el.width 0 l.length true))) { S1 with gh:=S1.gh++ [some ⟨el,l,none⟩] }
       | none=>none) else none
     | _=>none
   | none=>none
 | .call { callee:= .builtin .append,args:=as,argTypes:=ts } =>match as.toList,ts.toList with
   | [s,x],[t,t'] =>bif Nat.beq t t' then R8 Θ S t (e s) (e x) κ else Tm Θ S t (e s) (e x) κ
   | _,_=>none
 | .call { callee:= .value f,args:=as,argTypes:=ts } =>N1 Θ Y S f ts.toList as.toList κ
 | _=>E2 Θ S o κ
def tm (S:TS) (d:Option Tmp) (v:V) (κ:TS→Option ρ):Option ρ:=match d with
 | some t=>bif Nat.blt t S.nt then κ { S with env:=(t,v)::S.env } else none
 | none=>κ S
def N2 (S:TS) (all:List Oper) (o:Oper) (κ:Bool→TS→Option ρ):Option ρ:=match o.guard with
 | none=>κ true S
 | some (j,want)=>match pJ all j with
   | some oj=>match oj.dst with
     | some d=>match iI S.env d with
       | .tup [] =>κ false S
       | _=>KS S (.tmp d) fun b S1=>κ (b==want) S1
     | none=>none
   | none=>none
noncomputable def R9 {α:Type} (x y:α) (z:α):α:=open Classical in if x=y then x else z
def TP {α β:Type} (l:List α) (x y:β):β:=match l with | [] =>x | _::_=>y
def El (o:Oper):Option (TypeId×Operand):=match o.op with
 | .binOp .eql t x (.const (.slice none 0 0)) _=>(match o.guard with | none=>some (t,x) | some _=>none)
 | _=>none
def UK (Θ:pI) (t:TypeId):Bool:=match ns Θ t with | some ti=>(match ti.ty with | .ls _=>true | _=>false) | none=>false
def KX (Y:zO) (S:TS) (o:Oper):Option (Nat×FuncId×List Cl×Nat×Nat×List TypeId×List Operand):=match o.op with
 | .call { callee:= .value f,args:=as,argTypes:=ts } =>(match o.guard with
   | some _=>none
   | none=>match as.toList,ts.toList with
     | x::xs,_::us=>(match S.opd x with
       | .v (.cl (.own ⟨r,[]⟩ sz _ _ true))=>(match S.opd f with
         | .v (.cl (.c (.sc (.func (.func g) _ _))))=>bif Nat.blt g ja&& !Nat.beq (Y.kd g) 0 then some (Y.kd g,g,[],r,sz,us,xs) else none
         | .v (.fn g caps)=>bif Nat.blt g ja&& !Nat.beq (Y.kd g) 0 then some (Y.kd g,g,caps,r,sz,us,xs) else none
         | _=>none)
       | _=>none)
     | _,_=>none)
 | _=>none
def M3:V→Bool
 | .v (.cl (.c (.sc _)))=>true
 | .tup [] =>true
 | _=>false
def Qn (Θ:pI) (Y:zO) (S:TS) (k:Nat) (g:FuncId) (caps:List Cl) (r sz:Nat) (us:List TypeId) (xs:List Operand) (dst:Option Tmp) (κ:TS→Option ρ):Option ρ:=match c8 S.gh r with
 | some ⟨el,l,none⟩=>bif Nat.beq sz el.width then th Θ { S with gh:=dl S.gh r none } us xs fun vs=>E3 (O3 { S with gh:=dl S.gh r none } none) caps fun cs=>
   bif Nat.beq k 1 then Y (mX g) (.cl (.c (.ls el l)):: (vs++cs.map .cl)) ρ fun res out=>(match out with
    | [⟨t,l',none⟩] =>bif decide (t=el)&&M3 res then an (l'.length=l.length) (tm { S with gh:=dl S.gh r (some ⟨t,l',none⟩) } dst res κ) none else none
    | _=>none)
   else bif Nat.ble S.fz r then Y (Bk g) (.cl (.c (.ls el l)):: (vs++cs.map .cl)) ρ fun res out=>tm { S with gh:=dl S.gh r none++out.map some } dst (uk S.gh.length res) κ
   else none else none
 | _=>none
inductive M4 where
 | nest (r i j sz lo len:Nat)
 | agg (cs:List Cl)
def IZ:V→Option M4
 | .v (.cl (.own ⟨r,[(i,j)]⟩ sz lo len _))=>some (.nest r i j sz lo len)
 | .v (.agg cs)=>some (.agg cs)
 | _=>none
def E5 (Y:zO) (S:TS) (o:Oper):Option (FuncId×List Cl×M4×List TypeId×List Operand):=match o.op with
 | .call { callee:= .value f,args:=as,argTypes:=ts } =>(match o.guard with
   | some _=>none
   | none=>match as.toList,ts.toList with
     | x::xs,_::us=>(match IZ (S.opd x) with
       | some a=>(match S.opd f with
         | .v (.cl (.c (.sc (.func (.func g) _ _))))=>bif Nat.blt g ja&&Nat.beq (Y.kd g) 1 then some (g,[],a,us,xs) else none
         | .v (.fn g caps)=>bif Nat.blt g ja&&Nat.beq (Y.kd g) 1 then some (g,caps,a,us,xs) else none
         | _=>none)
       | none=>none)
     | _,_=>none)
 | _=>none
def wU (S:TS):List Cl→Option (List C×List Nat)
 | [] =>some ([],[])
 | .c (.sc v)::cs=>(match wU S cs with | some (xs,L)=>some (.sc v::xs,L) | none=>none)
 | .own ⟨r,[]⟩ sz _ _ true::cs=>(match c8 S.gh r with
   | some ⟨el,l,none⟩=>bif Nat.beq sz el.width then (match wU S cs with | some (xs,L)=>some (.ls el l::xs,r::L) | none=>none) else none
   | _=>none)
 | _=>none
def Qo (G:List (Option bO)) (L:List Nat):List (Option bO):=L.foldl (fun G r=>dl G r none) G
def E6 (S:TS):List Nat→List bO→(TS→Option ρ)→Option ρ
 | [],[],κ=>κ S
 | r::L,⟨t,l',none⟩::out,κ=>(match c8 S.gh r with
   | some ⟨el,l,none⟩=>bif decide (t=el) then an (l'.length=l.length) (E6 { S with gh:=dl S.gh r (some ⟨t,l',none⟩) } L out κ) none else none
   | _=>none)
 | _,_,_=>none
def I0 (Θ:pI) (Y:zO) (S:TS) (g:FuncId) (caps:List Cl) (a:M4) (us:List TypeId) (xs:List Operand) (dst:Option Tmp) (κ:TS→Option ρ):Option ρ:=match a with
 | .agg cs=>(match wU S cs with
   | some (ys,L)=>bif TA L then th Θ { S with gh:=Qo S.gh L } us xs fun vs=>E3 (O3 { S with gh:=Qo S.gh L } none) caps fun ks=>
     Y (mX g) (.agg (ys.map .c):: (vs++ks.map .cl)) ρ fun res out=>bif M3 res then E6 S L out fun S3=>tm S3 dst res κ else none else none
   | none=>none)
 | .nest r i j sz lo len=>(match c8 S.gh r with
   | some ⟨t,l,none⟩=>(l[i]?).bind fun y=>(match pJ (t.flat y) j with
     | some (.ls el v)=>bif Nat.beq sz el.width then an (lo=0∧len=v.length) (th Θ { S with gh:=dl S.gh r (some ⟨t,l,some (i,j)⟩) } us xs fun vs=>E3 (O3 { S with gh:=dl S.gh r (some ⟨t,l,some (i,j)⟩) } none) caps fun ks=>
       Y (mX g) (.cl (.c (.ls el v)):: (vs++ks.map .cl)) ρ fun res out=>(match out with
         | [⟨t',v',none⟩] =>bif decide (t'=el)&&M3 res then an (v'.length=v.length) (match t.unflat (dl (t.flat y) j (.ls t' v')) with
           | some z=>tm { S with gh:=dl S.gh r (some ⟨t,l.set i z,none⟩) } dst res κ
           | none=>none) none else none
         | _=>none)) none else none
     | _=>none)
   | _=>none)
def I1 (S:TS) (o:Oper):Option (TypeId×Nat×Nat×Nat×Nat):=match o.op with
 | .call { callee:= .builtin .clear,args:=as,argTypes:=ts } =>(match o.guard with
   | some _=>none
   | none=>match as.toList,ts.toList with
     | [x],[t] =>(match S.opd x with
       | .v (.cl (.own ⟨r,[]⟩ sz lo len _))=>some (t,r,sz,lo,len)
       | _=>none)
     | _,_=>none)
 | _=>none
def M5 (Θ:pI) (S:TS) (t:TypeId) (r sz lo len:Nat) (dst:Option Tmp) (κ:TS→Option ρ):Option ρ:=match ns Θ t with
 | some ti=>match c8 S.gh r with
   | some ⟨el,l,none⟩=>bif decide (ti.ty= .ls el)&&Nat.beq el.width 1&&Nat.beq sz 1&&el.flatB then (match el.unflat el.zcs with
     | some z=>an (lo+len≤l.length) (tm { S with gh:=dl S.gh r (some ⟨el,l.take lo++List.replicate len z++l.drop (lo+len),none⟩) } dst (.tup []) κ) none
     | none=>none) else none
   | _=>none
 | none=>none
def KY (b:Bool):V:= .v (.cl (.c (.sc (.bool b))))
noncomputable def Di (Θ:pI) (Y:zO) (all:List Oper):List Oper→TS→(TS→Option ρ)→Option ρ
 | [],S,κ=>κ S
 | o::os,S,κ=>match El o with
   | some (t,x)=>bif UK Θ t then (match S.opd x with
     | .v (.cl (.c (.ls _ l)))=>TP l (R9 (tm S o.dst (KY true) fun S3=>Di Θ Y all os S3 κ) (tm S o.dst (KY false) fun S3=>Di Θ Y all os S3 κ) none) (tm S o.dst (KY false) fun S3=>Di Θ Y all os S3 κ)
     | _=>none) else none
   | none=>match I1 S o with
   | some (t,r,sz,lo,len)=>M5 Θ S t r sz lo len o.dst fun S3=>Di Θ Y all os S3 κ
   | none=>match KX Y S o with
   | some (k,g,caps,r,sz,us,xs)=>Qn Θ Y S k g caps r sz us xs o.dst fun S3=>Di Θ Y all os S3 κ
   | none=>match E5 Y S o with
   | some (g,caps,a,us,xs)=>I0 Θ Y S g caps a us xs o.dst fun S3=>Di Θ Y all os S3 κ
   | none=>N2 S all o fun b S1=>bif b then zP Θ Y S1 o fun v S2=>tm S2 o.dst v fun S3=>Di Θ Y all os S3 κ else tm S1 o.dst (V.tup []) fun S3=>Di Θ Y all os S3 κ
def gone:Nat→List (Option bO)→List (Option bO)→List Nat
 | n,some _::l,none::m=>n::gone (n+1) l m
 | n,_::l,_::m=>gone (n+1) l m
 | _,_,_=> []
def Qp (l:List (Option bO)):List T:=l.map fun x=>match x with | some tr=>tr.tree | none=> .dd
def Bl (S S':TS):iH:=⟨S.gh.length,Qp (S'.gh.drop S.gh.length),gone 0 S.gh S'.gh⟩
def Tn (d:Nat) (o:Oper):Bool:=match o.dst with | some d'=> !(Nat.beq d d') | none=>true
def UL (o:Oper) (os:List Oper):Bool:=match o.dst with | some d=>os.all (Tn d) | none=>false
def Vm (Θ:pI) (t:TypeId):Bool:=match ns Θ t with
 | some ti=>(match ti.ty with | .ls _=>true | _=>false)
 | none=>false
def UM (Θ:pI) (o:Oper):Bool:=match o.op with
 | .buildSlice t _ _=>Vm Θ t
 | .call { callee:= .builtin .append,args:=_,argTypes:=ts } =>(match ts.toList with | t::_=>Vm Θ t | [] =>false)
 | _=>true
def N3:V→Bool
 | .v (.cl (.own p _ _ _ _))=>(match p.l with | [] =>true | _=>false)
 | _=>true
def To (S:TS) (o:Oper):Bool:=match o.op with
 | .buildSlice _ _ parts=> !(parts.toList.map fun x=>S.opd x.2).any E4
 | .call { callee:= .builtin .append,args:=as,argTypes:=ts } =>(match ts.toList with | [t,t'] =>Nat.beq t t' | _=>true)&&(match as.toList with | s::_=>N3 (S.opd s) | [] =>true)
 | _=>true
def Qq (Θ:pI):List Oper→TS→(TS→Option ρ)→Option ρ
 | [],S,κ=>κ S
 | o::os,S,κ=>match o.op with
   | .alloc t=>match ns Θ t with | some ti=>Qq Θ os { S with bx:=S.bx++ [ti.ty.zvs.map cC] } κ | none=>none
   | _=>Qq Θ os S κ
def KZ (Θ:pI) (Y:zO) (all:List Oper):List Oper→TS→List iH→(TS→List iH→Option ρ)→Option ρ
 | [],S,ms,κ=>κ S ms
 | o::os,S,ms,κ=>bif ao o then KZ Θ Y all os S (ms++ [⟨S.gh.length,[],[]⟩]) κ else bif dK o then (bif o.guard.isNone then tm S o.dst (V.v (.cl (.ptrB (S.bx.length - 1 - dt os) 0))) fun S3=>KZ Θ Y all os S3 (ms++ [⟨S.gh.length,[],[]⟩]) κ else none) else
    N2 S all o fun b S1=>bif b then
     (bif jV o then (bif UL o os&&UM Θ o&&To S1 o then zP Θ Y S1 o fun v S2=>tm S2 o.dst v fun S3=>KZ Θ Y all os S3 (ms++ [Bl S1 S2]) κ else none)
     else E2 Θ S1 o fun v S2=>tm S2 o.dst v fun S3=>KZ Θ Y all os S3 (ms++ [⟨S1.gh.length,[],[]⟩]) κ)
     else tm S1 o.dst (V.tup []) fun S3=>KZ Θ Y all os S3 (ms++ [⟨S1.gh.length,[],[]⟩]) κ
def Qr (Θ:pI) (Y:zO):List Oper→TS→(TS→Option ρ)→Option ρ
 | [],S,κ=>κ S
 | o::os,S,κ=>bif ao o then (bif o.guard.isNone&&o.dst.isNone then zP Θ Y S o fun _ S1=>Qr Θ Y os S1 κ else none) else Qr Θ Y os S κ
def Qs (Θ:pI) (t:TypeId):Bool:=match ns Θ t with | some ti=>ti.ty.flatB | none=>false
def TQ (Θ:pI) (Y:zO) (ops:List Oper) (S:TS) (κ:TS→Option ρ):Option ρ:=
 Qq Θ ops S fun S0=>KZ Θ Y ops ops S0 [] fun SV ms=>bif MB (Qs Θ) ops (gG ops) S0.st ms SV.st then Qr Θ Y ops SV κ else none
def b7:Code→Nat
 | .region id _ _=>id
 | .seq a _=>b7 a
 | .block _ c=>b7 c
 | .loop c=>b7 c
 | _=>0
abbrev pK:=Nat→TS→(ρ:Type)→(X→TS→Option ρ)→Option ρ
noncomputable def eL (Θ:pI) (Y:zO) (Λ:pK):Code→TS→(X→TS→Option ρ)→Option ρ
 | .skip,S,κ=>κ .nor S
 | .region _ ops false,S,κ=>Di Θ Y ops.toList ops.toList S (κ .nor)
 | .region _ ops true,S,κ=>TQ Θ Y ops.toList S (κ .nor)
 | .seq a b,S,κ=>eL Θ Y Λ a S fun x S1=>match x with | .nor=>eL Θ Y Λ b S1 κ | x=>κ x S1
 | .cond c a b,S,κ=>KS S c fun t S1=>bif t then eL Θ Y Λ a S1 κ else eL Θ Y Λ b S1 κ
 | .block id c,S,κ=>eL Θ Y Λ c S fun x S1=>match x with | .ext i=>bif Nat.beq i id then κ .nor S1 else κ (.ext i) S1 | x=>κ x S1
 | .loop c,S,κ=>Λ (b7 c) S ρ κ
 | .exit id,S,κ=>κ (.ext id) S
 | .ret,S,κ=>κ .ret S
 | _,_,_=>none
def Sa (S:TS) (gs:List bO) (et:Option Ty) (c:Cl) (κ:Cl→List bO→TS→Option ρ):Option ρ:=match c,et with
 | .c (.sc v),_=>κ (.c (.sc v)) gs S
 | .em,some t=>κ (.own ⟨gs.length,[]⟩ t.width 0 0 true) (gs++ [⟨t,[],none⟩]) S
 | .own p sz lo len w,some t'=>match p.l with
   | [] =>bif Nat.ble S.fz p.r&&Nat.beq t'.width sz then sb S p fun t l=>bif Nat.beq t.width sz then
     (bif w then κ (.own ⟨gs.length,[]⟩ sz 0 l.length true) (gs++ [⟨t,l,none⟩]) { S with gh:=dl S.gh p.r none }
     else an (lo=0∧len≤l.length) (κ (.own ⟨gs.length,[]⟩ sz 0 (l.take len).length true) (gs++ [⟨t,l.take len,none⟩]) { S with gh:=dl S.gh p.r none }) none) else none
     else none
   | _=>none
 | _,_=>none
def N4:TS→List bO→List (Option Ty)→List Cl→(List Cl→List bO→TS→Option ρ)→Option ρ
 | S,gs,et::ets,c::cs,κ=>Sa S gs et c fun c' gs' S'=>N4 S' gs' ets cs fun cs' gs'' S''=>κ (c'::cs') gs'' S''
 | S,gs,[],[],κ=>κ [] gs S
 | _,_,_,_,_=>none
def TR (Θ:pI) (S:TS) (gs:List bO) (t:TypeId) (v:V) (κ:V1→List bO→TS→Option ρ):Option ρ:=match ns Θ t with
 | none=>none
 | some ti=>match v with
   | .v (.agg cs)=>N4 S gs ti.ty.csh cs fun cs' gs' S'=>κ (.agg cs') gs' S'
   | .v (.cl c)=>Sa S gs (ti.ty.csh.headD none) c fun c' gs' S'=>κ (.cl c') gs' S'
   | _=>none
def to (Θ:pI):TS→List bO→List (TypeId×V)→(List V1→List bO→Option ρ)→Option ρ
 | _,gs,[],κ=>κ [] gs
 | S,gs,(t,v)::r,κ=>TR Θ S gs t v fun v' gs' S'=>to Θ S' gs' r fun vs gs''=>κ (v'::vs) gs''
def Dj (Θ:pI) (S:TS):List ResultVar→List TypeId→(List (TypeId×V)→Option ρ)→Option ρ
 | .tmp a::rs,t::ts,κ=>Dj Θ S rs ts fun l=>κ ((t,iI S.env a)::l)
 | .cell a t'::rs,t::ts,κ=>KT Θ S t' (iI S.env a) fun v=>Dj Θ S rs ts fun l=>κ ((t,v)::l)
 | [],[],κ=>κ []
 | _,_,_=>none
def xg:List V1→V
 | [v] => .v v
 | vs=> .tup vs
def lY:Nat→List V1→List (Nat×V)
 | _,[] => []
 | n,v::l=>(n, .v v)::lY (n+1) l
noncomputable def Vy (Θ:pI) (Y:zO) (Λ:pK) (fn:Func) (args:List V1) (κ:V→List bO→Option ρ):Option ρ:=match fn.body with
 | none=>none
 | some c=>eL Θ Y Λ c { env:=lY 0 args,bx:= [],gh:= [],fz:=0,nt:=args.length+(fn.ntmps - args.length) } fun x S=>match x with
   | .ext _=>none
   | _=>Dj Θ S fn.results.toList fn.resultTypes.toList fun rs=>to Θ S [] rs fun vs gs=>κ (xg vs) gs
def I2:List Cl→Option (List C)
 | [] =>some []
 | .c x::l=>match I2 l with | some r=>some (x::r) | none=>none
 | _=>none
def un (t:Ty) (a:V1) (κ:t.D→Option ρ):Option ρ:=match a with
 | .agg cs=>bif t.ag then (match I2 cs with
   | some xs=>(match t.unflat xs with | some x=>κ x | none=>none)
   | none=>none) else none
 | .cl (.c y)=>bif t.ag then none else (match t.unflat [y] with | some x=>κ x | none=>none)
 | _=>none
def va:List C→Nat→List Cl
 | [],_=> []
 | .sc v::r,n=> .c (.sc v)::va r n
 | .ls t l::r,n=> .own ⟨n,[]⟩ t.width 0 l.length true::va r (n+1)
def nu:List C→List bO
 | [] => []
 | .sc _::r=>nu r
 | .ls t l::r=>⟨t,l,none⟩::nu r
def E7 (t:Ty) (x:t.D) (n:Nat):V1:=bif t.ag then .agg (va (t.flat x) n) else match va (t.flat x) n with | [c] => .cl c | _=> .cl .dead
def xE:Nat→List ((t:Ty)×t.D)→List V1
 | _,[] => []
 | n,⟨t,x⟩::r=>E7 t x n::xE (n+(nu (t.flat x)).length) r
def xF:List ((t:Ty)×t.D)→List bO
 | [] => []
 | ⟨t,x⟩::r=>nu (t.flat x)++xF r
def ret (l:List ((t:Ty)×t.D)) (κ:V→List bO→Option ρ):Option ρ:=κ (xg (xE 0 l)) (xF l)
end
abbrev bF:=List V1→(ρ:Type)→(V→List bO→Option ρ)→Option ρ
def TT:List (Nat×bF)→FuncId→List V1→(ρ:Type)→(V→List bO→Option ρ)→Option ρ
 | [],_,_,_,_=>none
 | (g,e)::l,f,as,ρ,κ=>bif Nat.beq g f then e as ρ κ else TT l f as ρ κ
def TU:List (Nat×bF)→Nat→Bool
 | [],_=>false
 | (g,_)::l,f=>bif Nat.beq g f then true else TU l f
def aR (l:List (Nat×bF)):zO:=⟨TT l,fun g=>bif TU l (mX g) then 1 else bif TU l (Bk g) then 2 else 0⟩
noncomputable def Sb {ρ:Type} (Θ:pI) (Y:zO) (Λ:pK) (fn:Func) (m:Nat) (el:Ty) (l:List el.D) (args:List V1) (κ:V→List bO→Option ρ):Option ρ:=match fn.body with
 | none=>none
 | some c=>eL Θ Y Λ c { env:=lY 0 (.cl (.own ⟨0,[]⟩ el.width 0 l.length true)::args),bx:= [],gh:= [some ⟨el,l,none⟩],fz:=m,nt:=(args.length+1)+(fn.ntmps - (args.length+1)) } fun x S=>match x with
   | .ext _=>none
   | _=>Dj Θ S fn.results.toList fn.resultTypes.toList fun rs=>bif Nat.beq m 0 then to Θ S [] rs fun vs gs=>κ (xg vs) gs else match c8 S.gh 0 with
     | some ⟨t,l',none⟩=>to Θ S [⟨t,l',none⟩] rs fun vs gs=>κ (xg vs) gs
     | _=>none
def wV (S:TS):Nat→Nat→Option (List bO)
 | _,0=>some []
 | r,n+1=>(match c8 S.gh r with
   | some ⟨t,l,none⟩=>(match wV S (r+1) n with | some ts=>some (⟨t,l,none⟩::ts) | none=>none)
   | _=>none)
noncomputable def TV {ρ:Type} (Θ:pI) (Y:zO) (Λ:pK) (fn:Func) (t:Ty) (x:t.D) (args:List V1) (κ:V→List bO→Option ρ):Option ρ:=match fn.body with
 | none=>none
 | some c=>eL Θ Y Λ c { env:=lY 0 (E7 t x 0::args),bx:= [],gh:=(nu (t.flat x)).map some,fz:=(nu (t.flat x)).length,nt:=(args.length+1)+(fn.ntmps - (args.length+1)) } fun y S=>match y with
   | .ext _=>none
   | _=>Dj Θ S fn.results.toList fn.resultTypes.toList fun rs=>match wV S 0 (nu (t.flat x)).length with
     | some gs=>to Θ S gs rs fun vs gs'=>κ (xg vs) gs'
     | none=>none
def K0 (t:Ty) (x:t.D):V1:=bif t.ag then .agg ((t.flat x).map .c) else match (t.flat x).map Cl.c with | [c] => .cl c | _=> .cl .dead
end Go.Proofs.YtkcgfceffffmoaaGreat.En
namespace Go.Proofs.YtkcgfceffffmoaaGreat.En
open Go
theorem dL {α:Type}: ∀ (l:List α) (n:Nat),pJ l n=l[n]?
 | [],n=>by simp [pJ]
 | a::l,0=>by simp [pJ]
 | a::l,n+1=>by show pJ l n=_; rw [dL l]; simp
theorem fH {α:Type}: ∀ (l:List α) (n:Nat) (x:α),dl l n x=l.set n x
 | [],n,x=>by simp [dl]
 | a::l,0,x=>by simp [dl]
 | a::l,n+1,x=>by show a::dl l n x=_; rw [fH l]; simp
theorem K1: ∀ {l:List (Nat×V)} {t:Nat},iI l t=V.dead∨(t,iI l t)∈l
 | [],t=> .inl rfl
 | (u,v)::l,t=>by
   simp only [iI]
   cases h:Nat.beq u t with
   | true=>
     have :u=t:=Nat.eq_of_beq_eq_true h
     subst this
     exact .inr (List.mem_cons_self)
   | false=>
     rcases K1 (l:=l) (t:=t) with h' | h'
     ·exact .inl h'
     ·exact .inr (List.mem_cons_of_mem _ h')
def Cl.ok (G:List (Option bO)):Cl→Prop
 | .own p _ lo len w=>p.r < G.length∧(w=true→p.l= [] ∧lo=0∧ ∀ tr,c8 G p.r=some tr→len=tr.l.length)
 | .ptrT p _ _ _=>p.r < G.length
 | _=>True
def V1.ok (G:List (Option bO)):V1→Prop
 | .cl c=>c.ok G
 | .agg cs=> ∀ c∈cs,c.ok G
 | .fn _ cs=> ∀ c∈cs,c.ok G
def V.ok (G:List (Option bO)):V→Prop
 | .v x=>x.ok G
 | .tup l=> ∀ x∈l,x.ok G
structure TS.ok (S:TS):Prop where
 env: ∀ x∈S.env,x.2.ok S.gh
 bx: ∀ cs∈S.bx,∀ c∈cs,c.ok S.gh
def ib (G G':List (Option bO)):Prop:=G.length≤G'.length∧ ∀ r tr',r < G.length→c8 G' r=some tr'→ ∃ tr,c8 G r=some tr∧tr.l.length=tr'.l.length
theorem ib.refl (G:List (Option bO)):ib G G:=⟨Nat.le_refl _,fun _ tr _ h=>⟨tr,h,rfl⟩⟩
theorem ib.trans {G H K:List (Option bO)} (h:ib G H) (k:ib H K):ib G K:=⟨Nat.le_trans h.1 k.1,fun r tr hr hK=>by
 obtain⟨t1,h1,h2⟩:=k.2 r tr (Nat.lt_of_lt_of_le hr h.1) hK
 obtain⟨t2,h3,h4⟩:=h.2 r t1 hr h1
 exact⟨t2,h3,h4.trans h2⟩⟩
theorem Cl.ok_mono {G G':List (Option bO)} (h:ib G G') {c:Cl} (hc:c.ok G):c.ok G':=by
 cases c with
 | own p sz lo len w=>
   obtain⟨h1,h2⟩:=hc
   refine⟨Nat.lt_of_lt_of_le h1 h.1,fun hw=> ?_⟩
   obtain⟨a,b,c⟩:=h2 hw
   refine⟨a,b,fun tr htr=> ?_⟩
   obtain⟨tr0,k1,k2⟩:=h.2 _ tr h1 htr
   rw [c tr0 k1,k2]
 | ptrT p sz i j=>exact Nat.lt_of_lt_of_le hc h.1
 | _=>trivial
theorem V1.ok_mono {G G':List (Option bO)} (h:ib G G') {v:V1} (hv:v.ok G):v.ok G':=by
 cases v with
 | cl c=>exact Cl.ok_mono h hv
 | agg cs=>exact fun c hc=>Cl.ok_mono h (hv c hc)
 | fn f cs=>exact fun c hc=>Cl.ok_mono h (hv c hc)
theorem V.ok_mono {G G':List (Option bO)} (h:ib G G') {v:V} (hv:v.ok G):v.ok G':=by
 cases v with
 | v x=>exact V1.ok_mono h hv
 | tup l=>exact fun x hx=>V1.ok_mono h (hv x hx)
theorem V.ok_dead (G:List (Option bO)):V.dead.ok G:=trivial
theorem V.ok_sc (G:List (Option bO)) (v:Value): (V.sc v).ok G:=trivial
theorem Em {S:TS} (hS:S.ok) (t:Nat): (iI S.env t).ok S.gh:=by
 rcases K1 (l:=S.env) (t:=t) with h | h
 ·rw [h]; trivial
 ·exact hS.env _ h
theorem qD (v:Value): (cC v).av=Eg v:=by
 unfold cC Eg
 cases h:qM v with
 | true=>rfl
 | false=>
   simp only [cond_false,Bool.false_eq_true,if_false]
   split
   ·rfl
   ·split
    ·exact absurd rfl ‹_›
    ·rfl
theorem UN (v:Value): (cV v).av=GI v:=by
 cases v with
 | agg cs=>
   simp only [cV,GI]
   cases h:cs.toList.all Value.oneCell' with
   | true=>
     simp only [cond_true,if_true]
     simp only [V.av,V1.av,List.map_map]
     congr 1
     exact List.map_congr_left fun x _=>qD x
   | false=>rfl
 | bool b=>exact qD (.bool b)
 | int k n=>exact qD (.int k n)
 | float k n=>exact qD (.float k n)
 | complex k n m=>exact qD (.complex k n m)
 | string x=>exact qD (.string x)
 | pointer x=>exact qD (.pointer x)
 | slice x y z=>exact qD (.slice x y z)
 | map x=>exact qD (.map x)
 | chan x=>exact qD (.chan x)
 | func x y z=>exact qD (.func x y z)
 | nilFunc=>exact qD .nilFunc
 | iface x y=>exact qD (.iface x y)
 | nilIface=>exact qD .nilIface
 | tuple x=>exact qD (.tuple x)
theorem N5 (G:List (Option bO)) (v:Value): (cC v).ok G:=by
 unfold cC
 cases qM v with
 | true=>trivial
 | false=>simp only [cond_false]; split <;> trivial
theorem UO (G:List (Option bO)) (v:Value): (cV v).ok G:=by
 unfold cV
 split
 ·rename_i cs
  cases cs.toList.all Value.oneCell' with
  | true=>intro c hc; simp only [List.mem_map] at hc; obtain⟨x,_,rfl⟩:=hc; exact N5 _ _
  | false=>trivial
 ·exact N5 _ _
theorem aZ {S:TS} (x:Operand):opd S.st x=(S.opd x).av:=by
 cases x with
 | tmp t=>rfl
 | const v=>exact (UN v).symm
 | func f=>rfl
 | global g=>rfl
theorem lZ {S:TS} (hS:S.ok) (x:Operand): (S.opd x).ok S.gh:=by
 cases x with
 | tmp t=>exact Em hS t
 | const v=>exact UO _ _
 | func f=>trivial
 | global g=>trivial
section
variable {ρ:Type}
theorem Sc {α:Type} {b:Bool} {x y:Option α} {r:α} (h:br b x y=some r): (b=true∧x=some r)∨(b=false∧y=some r):=by
 cases b with
 | true=>exact .inl ⟨rfl,h⟩
 | false=>exact .inr ⟨rfl,h⟩
theorem dq {α:Type} {c:Prop} [Decidable c] {x:Option α} {r:α} (h:an c x none=some r):c∧x=some r:=by
 unfold an at h
 split at h
 ·exact⟨‹_›,h⟩
 ·cases h
theorem Bm {α:Type} {c:Prop} [Decidable c] {x:Option α} {r:α} (h:an c none x=some r): ¬ c∧x=some r:=by
 unfold an at h
 split at h
 ·cases h
 ·exact⟨‹_›,h⟩
theorem ap {α:Type} {c:Bool} {x:Option α} {r:α} (h: (bif c then x else none)=some r):c=true∧x=some r:=by
 cases c with
 | true=>exact⟨rfl,h⟩
 | false=>cases h
theorem K2 {S:TS} {t:Nat} {b:Bool} (h:iI S.env t=V.sc (.bool b)): ({ S with env:=(t,V.sc (.bool b))::S.env }:TS).st=S.st:=by
 unfold TS.st
 simp only
 congr 1
 funext u
 simp only [iI]
 cases hb:Nat.beq t u with
 | true=>
   have :t=u:=Nat.eq_of_beq_eq_true hb
   subst this
   rw [h]
   rfl
 | false=>rfl
theorem K3 {S:TS} (hS:S.ok) (t:Nat) (b:Bool): ({ S with env:=(t,V.sc (.bool b))::S.env }:TS).ok:=
 ⟨fun x hx=>by
  simp only [List.mem_cons] at hx
  rcases hx with rfl | hx
  ·trivial
  ·exact hS.env x hx,hS.bx⟩
theorem E8 {S:TS} (hS:S.ok) {x:Operand} {κ:Bool→TS→Option ρ} {r:ρ} (h:KS S x κ=some r):
  ∃ b S',opd S.st x= .sc (.bool b)∧S'.st=S.st∧S'.ok∧S'.gh=S.gh∧κ b S'=some r:=by
 unfold KS at h
 split at h
 ·rename_i t
  split at h
  ·rename_i b hb
   rcases Sc h with ⟨rfl,h⟩ | ⟨rfl,h⟩
   ·exact⟨true,_,by show (iI S.env t).av=_; rw [hb]; rfl,K2 hb,K3 hS _ _,rfl,h⟩
   ·exact⟨false,_,by show (iI S.env t).av=_; rw [hb]; rfl,K2 hb,K3 hS _ _,rfl,h⟩
  ·cases h
 ·rename_i b
  exact⟨b,S,rfl,rfl,hS,rfl,h⟩
 ·cases h
theorem zQ {v:V} {κ:Int→Option ρ} {r:ρ} (h:MY v κ=some r): ∃ n,Eu v.av=some n∧κ n=some r:=by
 unfold MY at h
 split at h
 ·exact⟨_,rfl,h⟩
 ·cases h
theorem bO.look {G:List (Option bO)} {r:Nat} {tr:bO} (h:pJ G r=some (some tr)):c8 G r=some tr:=by
 unfold c8
 rw [h]
 rfl
theorem fa {S:TS} {p:bT} {κ: (t:Ty)→List t.D→Option ρ} {r:ρ} (h:sb S p κ=some r):
  ∃ (t:Ty) (l:List t.D),S.st.look p= .sl t.width (l.map t.row)∧(p.l= [] →c8 S.gh p.r=some ⟨t,l,none⟩)∧κ t l=some r:=by
 unfold sb at h
 split at h
 ·rename_i tr htr
  have hg:=bO.look htr
  split at h
  ·rename_i hh
   obtain⟨t,l,hole⟩:=tr
   simp only at hh
   subst hh
   split at h
   ·rename_i hp
    refine⟨t,l,?_,fun _=>hg,h⟩
    unfold St.look
    have :S.st.gh p.r=some (.sl t.width (l.map t.row)):=by show (c8 S.gh p.r).map bO.tree=_; rw [hg]; rfl
    rw [this,hp]
    rfl
   ·rename_i i j hp
    simp only [Option.bind_eq_some_iff] at h
    obtain⟨x,hx,h⟩:=h
    split at h
    ·rename_i t' l' hj
     refine⟨t',l',?_,(fun h0=>by rw [hp] at h0; cases h0),h⟩
     unfold St.look
     have :S.st.gh p.r=some (.sl t.width (l.map t.row)):=by show (c8 S.gh p.r).map bO.tree=_; rw [hg]; rfl
     rw [this,hp]
     simp only [T.go,T.cell]
     have e1: (l.map t.row).getD i [] =t.row x:=by simp [List.getD_eq_getElem?_getD,hx]
     rw [e1,t.row_flat]
     rw [dL] at hj
     simp [List.getD_eq_getElem?_getD,hj,C.tree]
    ·cases h
   ·cases h
  ·cases h
 ·cases h
end
end Go.Proofs.YtkcgfceffffmoaaGreat.En
namespace Go.Proofs.YtkcgfceffffmoaaGreat.En
open Go
def Ty.shs (t:Ty):List Nat:=t.csh.map fun | some e=>e.width | none=>0
structure TI.ok (P:Program) (t:TypeId) (ti:TI):Prop where
 ag:GH P t=some ti.ty.ag
 cells:P.cellsOf t=ti.ty.width
 sh:pF P 9 t=ti.ty.shs
 ze:A5 P t=some ti.ty.zvs
 fd: ∀ k,PS P t k=pJ ti.fds k
 pl:ti.ty.ag=true→UC P t=some (ti.fds.map fun x=>(x.1,x.2.1))
 el: ∀ e,ti.ty= .ls e→ ∃ el,xf P t=some el∧P.cellsOf el=e.width∧P.bytesOf el=ti.el∧0 < ti.el∧pF P 9 el=e.shs∧A5 P el=some e.zvs
 bool:ti.ty= .b→P.underlying t=some .bool
 gu:ti.ty.ag=true→ti.ty.flatB=true→P.eqGuardType P.depth t=false
 eq:ti.ty.ag=true→ ∀ (a b:List Cl) (r:Bool) (xs ys:List Value),lN ti.ty.zvs a=true→lN ti.ty.zvs b=true→wR a b=some r→a=xs.map (fun x=> .c (.sc x))→b=ys.map (fun x=> .c (.sc x))→bG P (Op.equal t (.agg xs.toArray) (.agg ys.toArray))=some r
 str:Iw P t=(match ti.ty with | .s=>true | _=>false)
 int: ∀ k,ti.ty= .i k→P.underlying t=some (.int k)
def eo (P:Program) (Θ:pI):Prop:= ∀ t ti,ns Θ t=some ti→ti.ok P t
theorem Ty.width_pos (t:Ty):0 < t.width:=by
 cases t with
 | st n=>cases n <;> decide
 | _=>exact Nat.one_pos
theorem C.ro_tree (c:C):T.ro c.tree=c.av:=by cases c <;> rfl
theorem C.own_tree (p:bT) (i m:Nat) (c:C):PU p i m c.tree=(MZ p i m c).av:=by
 cases c with
 | sc v=>rfl
 | ls t l=>simp [PU,C.tree,MZ,Cl.av]
theorem Bn {α β:Type} (f:Nat→α→β): ∀ (j:Nat) (l:List α) (k:Nat),(Bi f j l)[k]? =(l[k]?).map (f (j+k))
 | j,[],k=>by simp [Bi]
 | j,a::l,0=>by simp [Bi]
 | j,a::l,k+1=>by simp only [Bi,List.getElem?_cons_succ]; rw [Bn f (j+1) l k]; congr 2; omega
section
variable {ρ:Type} {P:Program} {Θ:pI} {S:TS}
theorem lH {p:bT} {sz:Nat} {rows:List (List T)} (h:S.st.look p= .sl sz rows):S.st.rows p sz=some rows:=by
 unfold St.rows
 rw [h]
 simp
theorem O4 (hS:S.ok) {n:Nat} {v:Cl} (hv:v.ok S.gh) {κ:List Cl→Option ρ} {r:ρ} (h:M0 S n v κ=some r):
  ∃ cs:List Cl,cW S.st n v.av=some (cs.map Cl.av)∧(∀ c∈cs,c.ok S.gh)∧κ cs=some r:=by
 unfold M0 at h
 split at h
 ·rename_i b j
  split at h
  ·rename_i cs hcs
   obtain⟨h1,h⟩:=ap h
   have h1:j+n≤cs.length:=Nat.le_of_ble_eq_true h1
   refine⟨_,?_,fun c hc=> ?_,h⟩
   ·simp only [Cl.av,cW,TS.st,hcs,Option.map_some,Option.bind_some,List.length_map]
    rw [if_pos h1]
    simp [List.map_take,List.map_drop]
   ·rw [dL] at hcs
    exact hS.bx cs (List.mem_of_getElem? hcs) c (List.mem_of_mem_drop (List.mem_of_mem_take hc))
  ·cases h
 ·rename_i cells
  obtain⟨h1,h⟩:=ap h
  have h1:n≤cells.length:=Nat.le_of_ble_eq_true h1
  refine⟨_,?_,fun c hc=> ?_,h⟩
  ·simp only [Cl.av,cW,List.length_map]
   rw [if_pos h1]
   congr 1
   rw [←List.map_take,List.map_map,List.map_map]
   exact List.map_congr_left fun c _=>C.ro_tree c
  ·obtain⟨x,_,rfl⟩:=List.mem_map.1 hc
   trivial
 ·rename_i p sz i j
  obtain⟨t,l,h1,_,h5⟩:=fa h
  obtain⟨h2,h6⟩:=ap h5
  clear h h5
  simp only [Bool.and_eq_true] at h2
  have h3:t.width=sz:=Nat.eq_of_beq_eq_true h2.1
  have h4:j+n≤sz:=Nat.le_of_ble_eq_true h2.2
  subst h3
  obtain⟨x,hx,h⟩:=Option.bind_eq_some_iff.1 h6
  have hil:i < l.length:=(List.getElem?_eq_some_iff.1 hx).1
  have hfl: (t.flat x).length=t.width:=t.flat_length x
  refine⟨_,?_,fun c hc=> ?_,h⟩
  ·have e1: (l.map t.row).getD i [] =t.row x:=by simp [List.getD_eq_getElem?_getD,hx]
   simp only [Cl.av,cW,lH h1]
   rw [e1,if_pos ⟨by simpa using hil,by rw [t.row_length]; exact h4⟩]
   congr 1
   apply List.ext_getElem?
   intro k
   rw [List.getElem?_map,List.getElem?_map,Bn]
   by_cases hk:k < n
   ·have hjk:j+k < (t.flat x).length:=by omega
    rw [List.getElem?_range hk,List.getElem?_take,if_pos hk,List.getElem?_drop,List.getElem?_eq_getElem hjk]
    simp only [Option.map_some]
    rw [t.row_flat,List.getD_eq_getElem?_getD,List.getElem?_map,List.getElem?_eq_getElem hjk]
    simp only [Option.map_some,Option.getD_some]
    rw [C.own_tree]
   ·rw [List.getElem?_take,if_neg hk,List.getElem?_eq_none (by simp; omega)]
    rfl
  ·obtain⟨k,hk⟩:=List.getElem?_of_mem hc
   rw [Bn] at hk
   simp only [Option.map_eq_some_iff] at hk
   obtain⟨y,_,rfl⟩:=hk
   cases y with
   | sc v=>trivial
   | ls t' l'=>exact⟨hv,fun h=>by cases h⟩
 ·cases h
theorem Qt {G:List (Option bO)} {ag:Bool} {cs:List Cl} (hcs: ∀ c∈cs,c.ok G) {κ:V→Option ρ} {r:ρ} (h:Vl ag cs κ=some r): ∃ v,Tf ag (cs.map Cl.av)=some v.av∧v.ok G∧κ v=some r:=by
 unfold Vl at h
 cases ag with
 | true=>refine⟨_,rfl,?_,h⟩; exact hcs
 | false=>
   simp only [cond_false] at h
   split at h
   ·rename_i c
    refine⟨_,rfl,?_,h⟩; exact hcs c (by simp)
   ·cases h
theorem K4 (hΘ:eo P Θ) (hS:S.ok) {t:TypeId} {v:V} (hv:v.ok S.gh) {κ:V→Option ρ} {r:ρ} (h:KT Θ S t v κ=some r):
  ∃ u,load P S.st t v.av=some u.av∧u.ok S.gh∧κ u=some r:=by
 unfold KT at h
 split at h
 ·rename_i ti hti
  have hok:=hΘ _ _ hti
  split at h
  ·rename_i a
   obtain⟨cs,h1,h2,h⟩:=O4 hS hv h
   obtain⟨u,h3,h4,h⟩:=Qt h2 h
   refine⟨u,?_,h4,h⟩
   unfold load
   rw [hok.ag,hok.cells]
   simp only [Option.bind_some,V.av,V1.av,h1]
   exact h3
  ·cases h
 ·cases h
theorem Sd {n:Nat} {i:Int} {v:Cl} (hv:v.ok S.gh) {κ:Cl→Option ρ} {r:ρ} (h:TL n i S v κ=some r): ∃ c,zy n i v.av=some c.av∧c.ok S.gh∧κ c=some r:=by
 unfold TL at h
 split at h
 ·rename_i t l
  obtain⟨h1,h⟩:=ap h
  have h1:t.width=n:=Nat.eq_of_beq_eq_true h1
  obtain⟨h2,h⟩:=dq h
  obtain⟨x,hx,h⟩:=Option.bind_eq_some_iff.1 h
  have hil:=(List.getElem?_eq_some_iff.1 hx).1
  refine⟨_,?_,?_,h⟩
  rotate_left
  ·trivial
  simp only [Cl.av,C.av,zy,List.length_map]
  rw [if_pos ⟨h2,by omega,h1⟩]
  congr 1
  simp [List.getD_eq_getElem?_getD,hx,t.row_flat]
 ·rename_i p sz lo len
  obtain⟨h1,h⟩:=ap h
  have h1:sz=n:=Nat.eq_of_beq_eq_true h1
  obtain⟨t,l,h2,h3,h⟩:=fa h
  obtain⟨h4,h⟩:=dq h
  obtain⟨h5,h6⟩:=hv
  obtain⟨h7,h8,h9⟩:=h6 rfl
  have h10:=h9 _ (h3 h7)
  simp only at h10
  refine⟨_,?_,?_,h⟩
  rotate_left
  ·exact h5
  simp only [Cl.av,zy]
  rw [if_pos ⟨h4.1,by omega,h1⟩,h8,Nat.zero_add]
 ·rename_i p sz lo len
  obtain⟨h1,h⟩:=ap h
  have h1:sz=n:=Nat.eq_of_beq_eq_true h1
  obtain⟨h4,h⟩:=dq h
  refine⟨_,?_,?_,h⟩
  rotate_left
  ·exact hv.1
  simp only [Cl.av,zy]
  rw [if_pos ⟨h4.1,h4.2,h1⟩]
 ·cases h
theorem N6 {v:Cl} (hv:v.ok S.gh) {κ:Int→Option ρ} {r:ρ} (h:R6 S v κ=some r): ∃ n,uG v.av=some n∧κ n=some r:=by
 unfold R6 at h
 split at h
 ·exact⟨_,by simp [Cl.av,C.av,uG],h⟩
 ·obtain⟨t,l,h2,h3,h⟩:=fa h
  obtain⟨h5,h6⟩:=hv
  obtain⟨h7,h8,h9⟩:=h6 rfl
  have h10:=h9 _ (h3 h7)
  simp only at h10
  exact⟨_,by simp [Cl.av,uG,h10],h⟩
 ·exact⟨_,rfl,h⟩
 ·exact⟨_,rfl,h⟩
 ·cases h
theorem Se {n:Nat} {lo hi:Int} {v:Cl} (hv:v.ok S.gh) {κ:Cl→Option ρ} {r:ρ} (h:TM n lo hi v κ=some r): ∃ c,Tg n lo hi v.av=some c.av∧c.ok S.gh∧κ c=some r:=by
 unfold TM at h
 split at h
 ·obtain⟨h1,h⟩:=dq h
  exact⟨.em,by simp [Cl.av,Tg,h1],trivial,h⟩
 ·rename_i t l
  obtain⟨h1,h⟩:=ap h
  have h1:t.width=n:=Nat.eq_of_beq_eq_true h1
  obtain⟨h2,h⟩:=dq h
  refine⟨_,?_,?_,h⟩
  rotate_left
  ·trivial
  simp only [Cl.av,C.av,Tg,List.length_map]
  rw [if_pos ⟨h1,h2⟩]
  simp [List.map_take,List.map_drop]
 ·rename_i p sz l len w
  obtain⟨h1,h⟩:=ap h
  have h1:sz=n:=Nat.eq_of_beq_eq_true h1
  obtain⟨h2,h⟩:=dq h
  refine⟨_,?_,?_,h⟩
  rotate_left
  ·exact⟨hv.1,fun h=>by cases h⟩
  simp only [Cl.av,Tg]
  rw [if_pos ⟨h1,h2⟩]
 ·cases h
theorem HY {d:Int} {x:Option Operand} {κ:Int→Option ρ} {r:ρ} (h:IX S d x κ=some r): ∃ n,lG S.st d x=some n∧κ n=some r:=by
 unfold IX at h
 split at h
 ·exact⟨_,rfl,h⟩
 ·obtain⟨n,h1,h⟩:=zQ h
  exact⟨n,by simp only [lG,aZ]; exact h1,h⟩
theorem Sf {G:List (Option bO)}: ∀ (parts:List (Nat×V)) (pl:List (Nat×Nat×Bool)) (cs cs':List Cl),(∀ c∈cs,c.ok G)→(∀ x∈parts,x.2.ok G)→O2 pl cs parts=some cs'→
  RM (pl.map fun x=>(x.1,x.2.1)) (cs.map Cl.av) (parts.map fun x=>(x.1,x.2.av))=some (cs'.map Cl.av)∧ ∀ c∈cs',c.ok G:=by
 intro parts
 induction parts with
 | nil=>
   intro pl cs cs' hcs _ h
   simp only [O2,Option.some.injEq] at h
   subst h
   exact⟨rfl,hcs⟩
 | cons x parts ih=>
   intro pl cs cs' hcs hp h
   obtain⟨k,v⟩:=x
   simp only [O2] at h
   split at h
   ·rename_i off n ag hk
    split at h
    ·rename_i x
     have hx:x.ok G:=hp (k, .v x) (by simp)
     have b7: ∀ (hd: (V.v x).av.isDead=false) (hcell: (V.v x).av.cells=x.cells.map Cl.av) (hcok: ∀ c∈x.cells,c.ok G)
       (h: (bif Nat.beq x.cells.length n&&Nat.ble (off+n) cs.length then O2 pl (cs.take off++x.cells++cs.drop (off+n)) parts else none)=some cs'),
       RM (pl.map fun x=>(x.1,x.2.1)) (cs.map Cl.av) (((k,V.v x)::parts).map fun x=>(x.1,x.2.av))=some (cs'.map Cl.av)∧ ∀ c∈cs',c.ok G:=by
      intro hd hcell hcok h
      obtain⟨h1,h⟩:=ap h
      simp only [Bool.and_eq_true] at h1
      have h2:x.cells.length=n:=Nat.eq_of_beq_eq_true h1.1
      have h3:off+n≤cs.length:=Nat.le_of_ble_eq_true h1.2
      obtain⟨g1,g2⟩:=ih pl _ cs' (fun c hc=>by
       simp only [List.mem_append] at hc
       rcases hc with (hc | hc) | hc
       ·exact hcs c (List.mem_of_mem_take hc)
       ·exact hcok c hc
       ·exact hcs c (List.mem_of_mem_drop hc)) (fun y hy=>hp y (List.mem_cons_of_mem _ hy)) h
      refine⟨?_,g2⟩
      rw [dL] at hk
      simp only [List.map_cons,RM,List.getElem?_map,hk,Option.map_some]
      rw [if_pos ⟨hd,by rw [hcell]; simpa using h2,by simpa using h3⟩,←g1,hcell]
      simp [List.map_take,List.map_drop]
     cases x with
     | cl c=>cases c with
       | dead=>cases h
       | c y=>cases y <;> exact b7 rfl rfl (fun c hc=>by simp only [V1.cells,List.mem_singleton] at hc; subst hc; exact hx) h
       | em=>exact b7 rfl rfl (fun c hc=>by simp only [V1.cells,List.mem_singleton] at hc; subst hc; exact hx) h
       | own p sz lo len w=>exact b7 rfl rfl (fun c hc=>by simp only [V1.cells,List.mem_singleton] at hc; subst hc; exact hx) h
       | pro cs=>exact b7 rfl rfl (fun c hc=>by simp only [V1.cells,List.mem_singleton] at hc; subst hc; exact hx) h
       | ptrB n j=>exact b7 rfl rfl (fun c hc=>by simp only [V1.cells,List.mem_singleton] at hc; subst hc; exact hx) h
       | ptrT p sz i j=>exact b7 rfl rfl (fun c hc=>by simp only [V1.cells,List.mem_singleton] at hc; subst hc; exact hx) h
     | agg cs2=>exact b7 rfl rfl hx h
     | fn f cs2=>cases h
    ·cases h
   ·cases h
end
end Go.Proofs.YtkcgfceffffmoaaGreat.En
namespace Go.Proofs.YtkcgfceffffmoaaGreat.En
open Go
theorem bm {α β:Type} {P:Program} (s:Sem α) (f:α→Sem β):bG P (s >>=f)=(bG P s).bind fun a=>bG P (f a):=by
 show bG P (s.bind f)=_
 induction s with
 | pure a=>rfl
 | program k ih=>exact ih P
 | _=>rfl
theorem b8 {α:Type} {P:Program} (a:α):bG P (pure a)=some a:=rfl
theorem wW: ∀ {zs:List Value} {a:List Cl},lN zs a=true→ ∃ xs:List Value,a=xs.map (fun x=>Cl.c (.sc x))
 | [],[],_=>⟨[],rfl⟩
 | .int k n::zs,a,h=>by
   unfold lN at h
   split at h
   ·rename_i heq
    cases heq
   ·rename_i k1 n1 zs1 k2 n2 cs h1
    have hd:=h
    cases hk:decide (k1=k2) with
    | false=>rw [hk] at h; cases h
    | true=>
      rw [hk] at h
      obtain⟨xs,hx⟩:=wW (zs:=zs1) (a:=cs) h
      exact⟨.int k2 n2::xs,by rw [hx]; rfl⟩
   ·rename_i b1 zs1 b2 cs h1
    cases h1
   ·cases h
 | .bool b::zs,a,h=>by
   unfold lN at h
   split at h
   ·rename_i heq
    cases heq
   ·rename_i h1
    cases h1
   ·rename_i b1 zs1 b2 cs h1
    obtain⟨xs,hx⟩:=wW (zs:=zs1) (a:=cs) h
    exact⟨.bool b2::xs,by rw [hx]; rfl⟩
   ·cases h
 | .float _ _::_,_,h=>by simp [lN] at h
 | .complex _ _ _::_,_,h=>by simp [lN] at h
 | .string _::_,_,h=>by simp [lN] at h
 | .pointer _::_,_,h=>by simp [lN] at h
 | .slice _ _ _::_,_,h=>by simp [lN] at h
 | .map _::_,_,h=>by simp [lN] at h
 | .chan _::_,_,h=>by simp [lN] at h
 | .func _ _ _::_,_,h=>by simp [lN] at h
 | .nilFunc::_,_,h=>by simp [lN] at h
 | .iface _ _::_,_,h=>by simp [lN] at h
 | .nilIface::_,_,h=>by simp [lN] at h
 | .agg _::_,_,h=>by simp [lN] at h
 | .tuple _::_,_,h=>by simp [lN] at h
 | [],_::_,h=>by simp [lN] at h
theorem N7 (f:AV→Option Value) (hf: ∀ v,f (.sc v)=some v): ∀ xs:List Value,((xs.map fun x=>Cl.c (.sc x)).map Cl.av).mapM f=some xs
 | [] =>rfl
 | x::xs=>by
   simp only [List.map_cons,List.mapM_cons,N7 f hf xs]
   show (f (.sc x)).bind _=_
   rw [hf]
   rfl
theorem N8 (xs:List Value):ua (V.v (.agg (xs.map fun x=>Cl.c (.sc x)))).av=some (.agg xs.toArray):=by
 simp only [V.av,V1.av,ua]
 rw [N7 _ (fun _=>rfl)]
 rfl
theorem du {P:Program} {t:TypeId} {d:TypeDesc} (h:P.underlying t=some d):bG P (underlying t)=some d:=by
 simp only [underlying,bm,program,bG,Option.bind_some,h]
 rfl
section
variable {ρ:Type} {P:Program} {Θ:pI} {S:TS}
theorem Qu (hΘ:eo P Θ) {t:TypeId} {x y:V} {κ:Bool→Option ρ} {r:ρ} (h:UA Θ t x y κ=some r):
  ∃ b,κ b=some r∧((∃ k a c,x.av= .sc (.int k a)∧y.av= .sc (.int k c)∧b=(a==c))∨
    ((∀ k a k' c,¬ (x.av= .sc (.int k a)∧y.av= .sc (.int k' c)))∧ ∃ xv yv,ua x.av=some xv∧ua y.av=some yv∧(∀ op xo yo,bG P (eqGuard op t xo yo xv yv)=some ())∧bG P (binOp .eql t xv yv)=some (.bool b)∧bG P (binOp .neq t xv yv)=some (.bool (!b)))):=by
 unfold UA at h
 split at h
 ·rename_i k a k' c
  split at h
  ·rename_i hk
   subst hk
   exact⟨_,h, .inl ⟨k,a,c,rfl,rfl,rfl⟩⟩
  ·cases h
 ·rename_i a c
  split at h
  ·rename_i ti hti
   split at h
   ·rename_i hb
    have hu:=(hΘ _ _ hti).bool hb
    have hE:bG P (Op.equal t (.bool a) (.bool c))=some (a==c):=by
     show bG P (Op.equalIn (9999+1) t (.bool a) (.bool c))=_
     rw [Op.equalIn]
     simp only [bm,du hu,Option.bind_some,b8]
    refine⟨_,h, .inr ⟨fun k a k' c hc=>by simp [V.av,V1.av,Cl.av,C.av] at hc, .bool a, .bool c,rfl,rfl,fun op xo yo=> ?_,?_,?_⟩⟩
    ·cases op <;> simp [eqGuard,b8] <;> rfl
    ·simp only [binOp,bm,hE,Option.bind_some,b8]
    ·simp only [binOp,bm,hE,Option.bind_some,b8]
   ·cases h
  ·cases h
 ·rename_i a c
  split at h
  ·rename_i ti hti
   obtain⟨h1,h'⟩:=ap h
   simp only [Bool.and_eq_true] at h1
   obtain⟨⟨⟨h1,hfl⟩,h2⟩,h3⟩:=h1
   split at h'
   ·rename_i b hb
    obtain⟨xs,hx⟩:=wW h2
    obtain⟨ys,hy⟩:=wW h3
    have hok:=hΘ _ _ hti
    have hE:=hok.eq h1 a c b xs ys h2 h3 hb hx hy
    have hg:=hok.gu h1 hfl
    refine⟨_,h', .inr ⟨fun k a k' c hc=>by simp [V.av,V1.av] at hc, .agg xs.toArray, .agg ys.toArray,by rw [hx]; exact N8 xs,by rw [hy]; exact N8 ys,fun op xo yo=> ?_,?_,?_⟩⟩
    ·cases op <;> simp [eqGuard,bm,b8,program,bG,hg]
    ·simp only [binOp,bm,hE,Option.bind_some,b8]
    ·simp only [binOp,bm,hE,Option.bind_some,b8]
   ·cases h'
  ·cases h
 ·cases h
theorem oY {f:IntKind→Int→Int→Option ρ} {x y:V} {r:ρ} (h:V.ints f x y=some r): ∃ k a b,x.av= .sc (.int k a)∧y.av= .sc (.int k b)∧f k a b=some r:=by
 unfold V.ints at h
 split at h
 ·split at h
  ·rename_i k a k' b hk
   subst hk
   exact⟨k,a,b,rfl,rfl,h⟩
  ·cases h
 ·cases h
theorem Sg (hΘ:eo P Θ) {D:rX} {op:BinOp} {t t':TypeId} {x y:Operand} {κ:V→Option ρ} {r:ρ} (h:TN Θ op t (S.opd x) (S.opd y) κ=some r) {dst:Option Tmp} {ty:TypeId} {pos:String} {aft:Array Edge} {gd:Option (Nat×Bool)}:
  ∃ v:V,ar D P S.st ⟨dst, .binOp op t x y t',ty,pos,aft,gd⟩=some v.av∧(∀ G,v.ok G)∧κ v=some r:=by
 have eqs: ∀ (b:Bool) (xv yv:Value),ua (opd S.st x)=some xv→ua (opd S.st y)=some yv→bG P (eqGuard op t x y xv yv)=some ()→bG P (binOp op t xv yv)=some (.bool b)→
   bZ P S.st ⟨dst, .binOp op t x y t',ty,pos,aft,gd⟩=some (.sc (.bool b)):=by
  intro b xv yv h1 h2 h3 h4
  unfold bZ
  rw [if_pos (by simp [Op.operands,h1,h2])]
  simp only [execOp,h1,h2,Option.getD_some,bm,h3,h4,Option.bind_some,b8,Vi,qM,if_true]
 cases op with
 | lss=>obtain⟨k,a,b,h1,h2,h3⟩:=oY h; exact⟨_,by simp only [ar,aZ,h1,h2,if_true]; rfl,fun G=>V.ok_sc G _,h3⟩
 | leq=>obtain⟨k,a,b,h1,h2,h3⟩:=oY h; exact⟨_,by simp only [ar,aZ,h1,h2,if_true]; rfl,fun G=>V.ok_sc G _,h3⟩
 | gtr=>obtain⟨k,a,b,h1,h2,h3⟩:=oY h; exact⟨_,by simp only [ar,aZ,h1,h2,if_true]; rfl,fun G=>V.ok_sc G _,h3⟩
 | geq=>obtain⟨k,a,b,h1,h2,h3⟩:=oY h; exact⟨_,by simp only [ar,aZ,h1,h2,if_true]; rfl,fun G=>V.ok_sc G _,h3⟩
 | add=>obtain⟨k,a,b,h1,h2,h3⟩:=oY h; exact⟨_,by simp only [ar,aZ,h1,h2,if_true]; rfl,fun G=>V.ok_sc G _,h3⟩
 | sub=>obtain⟨k,a,b,h1,h2,h3⟩:=oY h; exact⟨_,by simp only [ar,aZ,h1,h2,if_true]; rfl,fun G=>V.ok_sc G _,h3⟩
 | mul=>obtain⟨k,a,b,h1,h2,h3⟩:=oY h; exact⟨_,by simp only [ar,aZ,h1,h2,if_true]; rfl,fun G=>V.ok_sc G _,h3⟩
 | eql=>
   have h':UA Θ t (S.opd x) (S.opd y) (fun r=>κ (V.sc (.bool r)))=some r:=h
   obtain⟨b,h1,h2⟩:=Qu hΘ h'
   refine⟨_,?_,fun G=>V.ok_sc G _,h1⟩
   rcases h2 with ⟨k,a,c,e1,e2,rfl⟩ | ⟨hn,xv,yv,e1,e2,e3,e4,e5⟩
   ·simp only [ar,aZ,e1,e2,if_true]; rfl
   ·simp only [ar]
    split
    ·rename_i k a k' c g1 g2
     exact absurd ⟨by rw [←aZ]; exact g1,by rw [←aZ]; exact g2⟩ (hn k a k' c)
    ·exact eqs b xv yv (by rw [aZ]; exact e1) (by rw [aZ]; exact e2) (e3 _ _ _) e4
 | neq=>
   have h':UA Θ t (S.opd x) (S.opd y) (fun r=>κ (V.sc (.bool (!r))))=some r:=h
   obtain⟨b,h1,h2⟩:=Qu hΘ h'
   refine⟨_,?_,fun G=>V.ok_sc G _,h1⟩
   rcases h2 with ⟨k,a,c,e1,e2,rfl⟩ | ⟨hn,xv,yv,e1,e2,e3,e4,e5⟩
   ·simp only [ar,aZ,e1,e2,if_true]; rfl
   ·simp only [ar]
    split
    ·rename_i k a k' c g1 g2
     exact absurd ⟨by rw [←aZ]; exact g1,by rw [←aZ]; exact g2⟩ (hn k a k' c)
    ·exact eqs (!b) xv yv (by rw [aZ]; exact e1) (by rw [aZ]; exact e2) (e3 _ _ _) e5
 | quo=>
   have h':V.ints (fun k a b=>if b=0 then none else κ (V.sc (.int k (k.wrap (a.tdiv b))))) (S.opd x) (S.opd y)=some r:=h
   obtain⟨k,a,b,h1,h2,h3⟩:=oY h'
   split at h3
   ·cases h3
   ·rename_i hb
    refine⟨_,?_,fun G=>V.ok_sc G _,h3⟩
    have hx:ua (opd S.st x)=some (.int k a):=by rw [aZ,h1]; rfl
    have hy:ua (opd S.st y)=some (.int k b):=by rw [aZ,h2]; rfl
    simp only [ar]
    unfold bZ
    rw [if_pos (by simp [Op.operands,hx,hy])]
    have e:bG P (binOp .quo t (.int k a) (.int k b))=some (.int k (k.wrap (a.tdiv b))):=by
     simp only [binOp,ne_eq,not_true,if_false,Op.intDiv,if_neg hb,b8]
    have e2:bG P (execOp (fun x=>(ua (opd S.st x)).getD undef) ⟨dst, .binOp .quo t x y t',ty,pos,aft,gd⟩)=some (.value (.int k (k.wrap (a.tdiv b)))):=by
     show bG P (do pure (Next.value (←(do eqGuard .quo t x y ((ua (opd S.st x)).getD undef) ((ua (opd S.st y)).getD undef); binOp .quo t ((ua (opd S.st x)).getD undef) ((ua (opd S.st y)).getD undef)))))=_
     rw [hx,hy]
     have g:bG P (eqGuard .quo t x y (.int k a) (.int k b))=some ():=rfl
     simp only [bm,Option.getD_some,g,e,Option.bind_some,b8]
    rw [e2]
    rfl
 | rem=>
   have h':V.ints (fun k a b=>if b=0 then none else κ (V.sc (.int k (a.tmod b)))) (S.opd x) (S.opd y)=some r:=h
   obtain⟨k,a,b,h1,h2,h3⟩:=oY h'
   split at h3
   ·cases h3
   ·rename_i hb
    refine⟨_,?_,fun G=>V.ok_sc G _,h3⟩
    have hx:ua (opd S.st x)=some (.int k a):=by rw [aZ,h1]; rfl
    have hy:ua (opd S.st y)=some (.int k b):=by rw [aZ,h2]; rfl
    simp only [ar]
    unfold bZ
    rw [if_pos (by simp [Op.operands,hx,hy])]
    have e:bG P (binOp .rem t (.int k a) (.int k b))=some (.int k (a.tmod b)):=by
     simp only [binOp,ne_eq,not_true,if_false,Op.intDiv,if_neg hb,b8]
    have e2:bG P (execOp (fun x=>(ua (opd S.st x)).getD undef) ⟨dst, .binOp .rem t x y t',ty,pos,aft,gd⟩)=some (.value (.int k (a.tmod b))):=by
     show bG P (do pure (Next.value (←(do eqGuard .rem t x y ((ua (opd S.st x)).getD undef) ((ua (opd S.st y)).getD undef); binOp .rem t ((ua (opd S.st x)).getD undef) ((ua (opd S.st y)).getD undef)))))=_
     rw [hx,hy]
     have g:bG P (eqGuard .rem t x y (.int k a) (.int k b))=some ():=rfl
     simp only [bm,Option.getD_some,g,e,Option.bind_some,b8]
    rw [e2]
    rfl
 | _=>simp [TN] at h
end
end Go.Proofs.YtkcgfceffffmoaaGreat.En
namespace Go.Proofs.YtkcgfceffffmoaaGreat.En
open Go
theorem K5 {G:List (Option bO)}: ∀ (l:List V) (cs:List Cl),(∀ v∈l,v.ok G)→KV l=some cs→l.map V.av=cs.map Cl.av∧ ∀ c∈cs,c.ok G
 | [],cs,_,h=>by
   simp only [KV,Option.some.injEq] at h
   subst h
   exact⟨rfl,fun c hc=>by cases hc⟩
 | v::l,cs,hl,h=>by
   unfold KV at h
   split at h
   ·rename_i heq; cases heq
   ·rename_i c l' heq
    cases heq
    split at h
    ·rename_i r hr
     simp only [Option.some.injEq] at h
     subst h
     obtain⟨h1,h2⟩:=K5 l r (fun v hv=>hl v (List.mem_cons_of_mem _ hv)) hr
     refine⟨by simp only [List.map_cons,h1]; rfl,fun x hx=> ?_⟩
     rcases List.mem_cons.1 hx with rfl | hx
     ·exact hl _ List.mem_cons_self
     ·exact h2 x hx
    ·cases h
   ·cases h
section
variable {ρ:Type} {P:Program} {Θ:pI} {S:TS} {D:rX}
theorem HZ (hΘ:eo P Θ) (hS:S.ok) {o:Oper} {κ:V→TS→Option ρ} {r:ρ} (h:E2 Θ S o κ=some r):
  ∃ v S',ar D P S.st o=some v.av∧S'.st=S.st∧S'.ok∧S'.gh=S.gh∧v.ok S.gh∧κ v S'=some r:=by
 have ok: ∀ x,(S.opd x).ok S.gh:=fun x=>lZ hS x
 have done: ∀ {v:V},ar D P S.st o=some v.av→v.ok S.gh→κ v S=some r→ ∃ v S',ar D P S.st o=some v.av∧S'.st=S.st∧S'.ok∧S'.gh=S.gh∧v.ok S.gh∧κ v S'=some r:=fun h1 h2 h3=>⟨_,S,h1,rfl,hS,rfl,h2,h3⟩
 obtain⟨dst,op,ty,pos,aft,gd⟩:=o
 unfold E2 at h
 cases op with
 | move x=>exact done (by simp only [ar,aZ]) (ok x) h
 | assign x=>exact done (by simp only [ar,aZ]) (ok x) h
 | pick c a b=>
   simp only at h
   obtain⟨t,S1,h1,h2,h3,h4,h⟩:=E8 hS h
   cases t with
   | true=>exact⟨_,S1,by simp only [ar,h1,if_true]; rw [←h2,aZ],h2,h3,h4,by rw [←h4]; exact lZ h3 _,h⟩
   | false=>exact⟨_,S1,by simp only [ar,h1,Bool.false_eq_true,if_false]; rw [←h2,aZ],h2,h3,h4,by rw [←h4]; exact lZ h3 _,h⟩
 | load t a=>
   simp only at h
   obtain⟨u,h1,h2,h⟩:=K4 hΘ hS (ok a) h
   exact done (by simp only [ar,aZ]; exact h1) h2 h
 | nilCheck x=>
   simp only at h
   split at h <;> rename_i hx
   ·exact done (by simp only [ar,aZ,hx]; rfl) (by rw [←hx]; exact ok x) h
   ·exact done (by simp only [ar,aZ,hx]; rfl) (by rw [←hx]; exact ok x) h
   ·exact done (by simp only [ar,aZ,hx]; rfl) (by rw [←hx]; exact ok x) h
   ·exact done (by simp only [ar,aZ,hx]; rfl) (by rw [←hx]; exact ok x) h
   ·exact done (by simp only [ar,aZ,hx]; rfl) (by rw [←hx]; exact ok x) h
   ·cases h
 | fieldAddr t x k=>
   simp only at h
   split at h
   ·rename_i ti hti
    split at h
    ·rename_i off n ag hk
     have hfd:=(hΘ _ _ hti).fd k
     rw [hk] at hfd
     cases hn:Nat.beq n 0 with
     | true=>rw [hn] at h; cases h
     | false=>
       rw [hn] at h
       have hn': ¬ n=0:=by intro h0; subst h0; cases hn
       simp only [cond_false] at h
       split at h <;> rename_i hx
       ·refine done ?_ ?_ h
        ·simp only [ar,hfd,Option.bind_some,aZ,hx]
         rw [if_neg hn']
         rfl
        ·trivial
       ·refine done ?_ ?_ h
        ·simp only [ar,hfd,Option.bind_some,aZ,hx]
         rw [if_neg hn']
         rfl
        ·have:=ok x
         rw [hx] at this
         exact this
       ·refine done ?_ ?_ h
        ·simp only [ar,hfd,Option.bind_some,aZ,hx]
         rw [if_neg hn']
         simp [V.av,V1.av,Cl.av,List.map_drop]
        ·trivial
       ·cases h
    ·cases h
   ·cases h
 | field t x k=>
   simp only at h
   split at h
   ·rename_i ti hti
    split at h
    ·rename_i off n ag hk
     have hfd:=(hΘ _ _ hti).fd k
     rw [hk] at hfd
     split at h
     ·rename_i cs hx
      obtain⟨h1,h⟩:=ap h
      simp only [Bool.and_eq_true] at h1
      have h2:off+n≤cs.length:=Nat.le_of_ble_eq_true h1.1
      have h3:0 < n:=Nat.le_of_ble_eq_true h1.2
      have hcs:=ok x
      rw [hx] at hcs
      obtain⟨v,h4,h5,h⟩:=Qt (G:=S.gh) (fun c hc=>hcs c (List.mem_of_mem_drop (List.mem_of_mem_take hc))) h
      refine done ?_ h5 h
      simp only [ar,hfd,Option.bind_some,aZ,hx,V.av,V1.av,List.length_map]
      rw [if_pos ⟨h2,h3⟩,←List.map_drop,←List.map_take]
      exact h4
     ·cases h
    ·cases h
   ·cases h
 | indexAddr t x ix=>
   simp only at h
   split at h
   ·rename_i ti hti
    split at h
    ·rename_i e he
     obtain⟨el,g1,g2,_⟩:=(hΘ _ _ hti).el e he
     obtain⟨i,h1,h⟩:=zQ h
     split at h
     ·rename_i a hx
      have ha:=ok x
      rw [hx] at ha
      obtain⟨c,h2,h3,h⟩:=Sd ha h
      refine done ?_ ?_ h
      ·simp only [ar,g1,Option.bind_some,aZ,h1,hx,g2]
       exact h2
      ·exact h3
     ·cases h
    ·cases h
   ·cases h
 | build t parts=>
   simp only at h
   split at h
   ·rename_i ti hti
    obtain⟨h1,h⟩:=ap h
    split at h
    ·rename_i cs hcs
     have hok:=hΘ _ _ hti
     obtain⟨g1,g2⟩:=Sf (G:=S.gh) _ _ _ _ (fun c hc=>by
      obtain⟨v,_,rfl⟩:=List.mem_map.1 hc
      exact N5 _ _) (fun y hy=>by
      obtain⟨z,_,rfl⟩:=List.mem_map.1 hy
      exact ok z.2) hcs
     refine done ?_ ?_ h
     ·simp only [ar,hok.pl h1,hok.ze,Option.bind_some]
      have e1:ti.ty.zvs.map Eg=(ti.ty.zvs.map cC).map Cl.av:=by
       rw [List.map_map]
       exact List.map_congr_left fun v _=>(qD v).symm
      have e2:parts.toList.map (fun x=>(x.1,opd S.st x.2))=(parts.toList.map fun x=>(x.1,S.opd x.2)).map fun x=>(x.1,x.2.av):=by
       rw [List.map_map]
       exact List.map_congr_left fun x _=>by simp [aZ]
      rw [e1,e2,g1]
      rfl
     ·exact g2
    ·cases h
   ·cases h
 | slice t x lo hi mx=>
   cases mx with
   | some m=>simp at h
   | none=>
     simp only at h
     split at h
     ·rename_i ti hti
      split at h
      ·rename_i e he
       obtain⟨el,g1,g2,_⟩:=(hΘ _ _ hti).el e he
       split at h
       ·rename_i a hx
        have ha:=ok x
        rw [hx] at ha
        obtain⟨n,h1,h⟩:=N6 ha h
        obtain⟨l,h2,h⟩:=HY h
        obtain⟨m,h3,h⟩:=HY h
        obtain⟨c,h4,h5,h⟩:=Se ha h
        refine done ?_ ?_ h
        ·simp only [ar,aZ,hx]
         split
         ·rename_i s hs
          have hs':a.av= .sc (.string s):=hs
          rw [hs'] at h1
          cases h1
         ·show (xf P t).bind _=_
          rw [g1]
          simp only [Option.bind_some]
          show (uG a.av).bind _=_
          rw [h1]
          simp only [Option.bind_some,h2,h3,g2]
          exact h4
        ·exact h5
       ·cases h
      ·cases h
     ·cases h
 | extract x k=>
   simp only at h
   split at h
   ·rename_i vs hx
    split at h
    ·rename_i v hv
     have hvs:=ok x
     rw [hx] at hvs
     rw [dL] at hv
     refine done ?_ ?_ h
     ·simp only [ar,aZ,hx,V.av,List.getElem?_map,hv,Option.map_some]
     ·exact hvs v (List.mem_of_getElem? hv)
    ·cases h
   ·cases h
 | makeFunc fn first caps=>
   cases fn with
   | func f=>
     simp only at h
     obtain⟨h1,h⟩:=ap h
     split at h
     ·rename_i cs hcs
      obtain⟨g1,g2⟩:=K5 (G:=S.gh) _ _ (fun v hv=>by
       obtain⟨y,_,rfl⟩:=List.mem_map.1 hv
       exact ok y) hcs
      refine done ?_ ?_ h
      ·simp only [ar,h1,if_true]
       have e:caps.toList.map (opd S.st)=(caps.toList.map S.opd).map V.av:=by
        rw [List.map_map]
        exact List.map_congr_left fun x _=>aZ x
       rw [e,g1]
       rfl
      ·exact g2
     ·cases h
   | _=>simp at h
 | unOp op t x=>
   cases op with
   | not=>
     simp only at h
     split at h
     ·rename_i b hx
      refine done ?_ ?_ h
      ·simp only [ar,aZ,hx]; rfl
      ·trivial
     ·cases h
   | _=>simp at h
 | binOp op t x y t'=>
   simp only at h
   obtain⟨v,h1,h2,h⟩:=Sg (D:=D) (t':=t') (dst:=dst) (ty:=ty) (pos:=pos) (aft:=aft) (gd:=gd) hΘ h
   exact done h1 (h2 _) h
 | call c=>
   obtain⟨cl,as,ts⟩:=c
   cases cl with
   | value f=>simp at h
   | invoke a b=>simp at h
   | builtin b=>
     cases b with
     | cap=>
       simp only at h
       split at h
       ·rename_i x t e1 e2
        split at h
        ·rename_i ti hti
         split at h
         ·rename_i e he
          obtain⟨el,g1,g2,_⟩:=(hΘ _ _ hti).el e he
          split at h
          ·rename_i hx
           refine done ?_ ?_ h
           ·simp only [ar,e1,e2,g1,Option.isSome_some,if_true,aZ,hx]
            rfl
           ·trivial
          ·cases h
         ·cases h
        ·cases h
       ·cases h
     | len=>
       simp only at h
       split at h
       ·rename_i x t e1 e2
        split at h
        ·rename_i ti hti
         split at h
         ·rename_i e he
          obtain⟨el,g1,g2,_⟩:=(hΘ _ _ hti).el e he
          split at h
          ·rename_i a hx
           have ha:=ok x
           rw [hx] at ha
           obtain⟨n,h1,h⟩:=N6 ha h
           refine done ?_ ?_ h
           ·simp only [ar,e1,e2,g1,Option.isSome_some,if_true,aZ,hx]
            show (uG a.av).map _=_
            rw [h1]
            rfl
           ·trivial
          ·cases h
         ·cases h
        ·cases h
       ·cases h
     | max=>
       simp only at h
       split at h
       ·rename_i x y e1
        obtain⟨k,a,b,h1,h2,h⟩:=oY h
        refine done ?_ (V.ok_sc _ _) h
        simp only [ar,e1,List.map_cons,List.map_nil,aZ,h1,h2]
        rfl
       ·cases h
     | min=>
       simp only at h
       split at h
       ·rename_i x y e1
        obtain⟨k,a,b,h1,h2,h⟩:=oY h
        refine done ?_ (V.ok_sc _ _) h
        simp only [ar,e1,List.map_cons,List.map_nil,aZ,h1,h2]
        rfl
       ·cases h
     | _=>simp at h
 | convert s d x=>
   simp only at h
   split at h
   ·rename_i si di hs hd
    split at h
    ·rename_i k' hk
     split at h
     ·rename_i k n hx
      refine done ?_ (V.ok_sc _ _) h
      have hud:=(hΘ _ _ hd).int _ hk
      obtain⟨ds,hus⟩: ∃ ds,P.underlying s=some ds:=by
       have:=(hΘ _ _ hs).ag
       unfold GH at this
       cases hu:P.underlying s with
       | none=>rw [hu] at this; cases this
       | some ds=>exact⟨ds,rfl⟩
      have hxv:ua (opd S.st x)=some (.int k n):=by rw [aZ,hx]; rfl
      simp only [ar]
      unfold bZ
      rw [if_pos (by simp [Op.operands,hxv])]
      have e:bG P (Go.convert s d (.int k n))=some (.int k' (k'.wrap n)):=by
       unfold Go.convert
       simp only [bm,du hus,du hud,Option.bind_some]
       cases ds <;> rfl
      have e2:bG P (execOp (fun x=>(ua (opd S.st x)).getD undef) ⟨dst, .convert s d x,ty,pos,aft,gd⟩)=some (.value (.int k' (k'.wrap n))):=by
       show bG P (do pure (Next.value (←Go.convert s d ((ua (opd S.st x)).getD undef))))=_
       rw [hxv]
       simp only [bm,Option.getD_some,e,Option.bind_some,b8]
      rw [e2]
      rfl
     ·cases h
    ·cases h
   ·cases h
 | index t x ix=>
   simp only at h
   split at h
   ·rename_i ti hti
    split at h
    ·rename_i hs
     split at h
     ·rename_i s k i hx hi
      unfold an at h
      split at h
      ·rename_i h0
       obtain⟨b,hb,h⟩:=Option.bind_eq_some_iff.1 h
       refine done ?_ (V.ok_sc _ _) h
       have hus:P.underlying t=some .string:=by
        have:=(hΘ _ _ hti).str
        rw [hs] at this
        unfold Iw at this
        split at this
        ·assumption
        ·cases this
       have hxv:ua (opd S.st x)=some (.string s):=by rw [aZ,hx]; rfl
       have hiv:ua (opd S.st ix)=some (.int k i):=by rw [aZ,hi]; rfl
       have hxa:opd S.st x= .sc (.string s):=by rw [aZ,hx]; rfl
       simp only [ar,hxa]
       unfold bZ
       rw [if_pos (by simp [Op.operands,hxv,hiv])]
       have e:bG P (Instr.index t (.string s) (.int k i))=some (.int .u8 b.toNat):=by
        unfold Instr.index
        simp only [bm,asIntOf,b8,Option.bind_some,du hus]
        rw [if_pos h0,hb]
        rfl
       have e2:bG P (execOp (fun x=>(ua (opd S.st x)).getD undef) ⟨dst, .index t x ix,ty,pos,aft,gd⟩)=some (.value (.int .u8 b.toNat)):=by
        show bG P (do pure (Next.value (←Instr.index t ((ua (opd S.st x)).getD undef) ((ua (opd S.st ix)).getD undef))))=_
        rw [hxv,hiv]
        simp only [bm,Option.getD_some,e,Option.bind_some,b8]
       rw [e2]
       rfl
      ·cases h
     ·cases h
    ·cases h
   ·cases h
 | _=>simp at h
end
end Go.Proofs.YtkcgfceffffmoaaGreat.En
namespace Go.Proofs.YtkcgfceffffmoaaGreat.En
open Go
theorem l4 {G:List (Option bO)} {x:Option bO} (r:Nat):c8 (G++ [x]) r=if r=G.length then x else c8 G r:=by
 unfold c8
 rw [dL,dL]
 by_cases h:r=G.length
 ·subst h; simp
 ·rw [if_neg h]
  rcases Nat.lt_or_ge r G.length with h' | h'
  ·rw [List.getElem?_append_left h']
  ·rw [List.getElem?_eq_none (by simp; omega),List.getElem?_eq_none h']
theorem Bo {G:List (Option bO)} (l:List bO) (r:Nat):c8 (G++l.map some) r=if G.length≤r then l[r - G.length]? else c8 G r:=by
 unfold c8
 rw [dL,dL]
 by_cases h:G.length≤r
 ·rw [if_pos h,List.getElem?_append_right h,List.getElem?_map]
  cases l[r - G.length]? <;> rfl
 ·rw [if_neg h,List.getElem?_append_left (by omega)]
theorem wX {G:List (Option bO)} {r:Nat} (h:G.length≤r):c8 G r=none:=by
 unfold c8
 rw [dL,List.getElem?_eq_none h]
 rfl
theorem ul {G:List (Option bO)} {r:Nat} {tr:bO} (h:c8 G r=some tr):r < G.length:=by
 rcases Nat.lt_or_ge r G.length with h' | h'
 ·exact h'
 ·rw [wX h'] at h; cases h
theorem qf {G:List (Option bO)} {x:Option bO} (q r:Nat) (hq:q < G.length∨x=none):c8 (dl G q x) r=if r=q then x else c8 G r:=by
 unfold c8
 rw [dL,dL,fH,List.getElem?_set]
 by_cases h:q=r
 ·subst h
  simp only [if_true]
  rcases hq with hq | rfl
  ·rw [if_pos hq]; rfl
  ·split <;> rfl
 ·rw [if_neg h,if_neg (fun e=>h e.symm)]
theorem ib.app (G:List (Option bO)) (x:Option bO):ib G (G++ [x]):=⟨by simp,fun r tr hr h=>by
 rw [l4,if_neg (by omega)] at h
 exact⟨tr,h,rfl⟩⟩
theorem ib.apps (G:List (Option bO)) (l:List bO):ib G (G++l.map some):=⟨by simp,fun r tr hr h=>by
 rw [Bo,if_neg (by omega)] at h
 exact⟨tr,h,rfl⟩⟩
theorem ib.gone (G:List (Option bO)) (q:Nat):ib G (dl G q none):=⟨by rw [fH]; simp,fun r tr hr h=>by
 rw [qf q r (.inr rfl)] at h
 split at h
 ·cases h
 ·exact⟨tr,h,rfl⟩⟩
theorem ib.put {G:List (Option bO)} {q:Nat} {tr tr':bO} (h:c8 G q=some tr) (hl:tr'.l.length=tr.l.length):ib G (dl G q (some tr')):=⟨by rw [fH]; simp,fun r t hr h'=>by
 rw [qf q r (.inl (ul h))] at h'
 split at h'
 ·rename_i hq
  subst hq
  cases h'
  exact⟨tr,h,hl.symm⟩
 ·exact⟨t,h',rfl⟩⟩
theorem TS.ok_gh {S:TS} (hS:S.ok) {G:List (Option bO)} (hG:ib S.gh G): ({ S with gh:=G }:TS).ok:=
 ⟨fun x hx=>V.ok_mono hG (hS.env x hx),fun cs hcs c hc=>Cl.ok_mono hG (hS.bx cs hcs c hc)⟩
theorem E9 (S:TS) (x:bO): ({ S with gh:=S.gh++ [some x] }:TS).st= { S.st with gh:=bW S.st.gh S.gh.length (some x.tree),ng:=S.gh.length+1 } :=by
 unfold TS.st
 simp only [List.length_append,List.length_singleton]
 congr 1
 funext r
 rw [l4]
 unfold bW
 split <;> rfl
theorem zR (S:TS) (q:Nat): ({ S with gh:=dl S.gh q none }:TS).st= { S.st with gh:=bW S.st.gh q none } :=by
 unfold TS.st
 simp only
 have : (dl S.gh q none).length=S.gh.length:=by rw [fH]; simp
 rw [this]
 congr 1
 funext r
 rw [qf q r (.inr rfl)]
 unfold bW
 split <;> rfl
theorem Bp (S:TS) {q:Nat} (x:bO) (hq:q < S.gh.length): ({ S with gh:=dl S.gh q (some x) }:TS).st= { S.st with gh:=bW S.st.gh q (some x.tree) } :=by
 unfold TS.st
 simp only
 have : (dl S.gh q (some x)).length=S.gh.length:=by rw [fH]; simp
 rw [this]
 congr 1
 funext r
 rw [qf q r (.inl hq)]
 unfold bW
 split <;> rfl
theorem M6 (S:TS) (cs:List Cl): ({ S with bx:=S.bx++ [cs] }:TS).st= { S.st with bx:=bW S.st.bx S.bx.length (some (cs.map Cl.av)),nb:=S.bx.length+1 } :=by
 unfold TS.st
 simp only [List.length_append,List.length_singleton]
 congr 1
 funext n
 unfold bW
 simp only [dL]
 by_cases h:n=S.bx.length
 ·subst h; simp
 ·rw [if_neg h]
  rcases Nat.lt_or_ge n S.bx.length with h' | h'
  ·rw [List.getElem?_append_left h']
  ·rw [List.getElem?_eq_none (by simp; omega),List.getElem?_eq_none h']
theorem O5 (S:TS) {b:Nat} (cs:List Cl) (hb:b < S.bx.length): ({ S with bx:=dl S.bx b cs }:TS).st= { S.st with bx:=bW S.st.bx b (some (cs.map Cl.av)) } :=by
 unfold TS.st
 have : (dl S.bx b cs).length=S.bx.length:=by rw [fH]; simp
 simp only
 rw [this]
 congr 1
 funext n
 unfold bW
 simp only [dL]
 rw [fH,List.getElem?_set]
 by_cases h:b=n
 ·subst h; simp [hb]
 ·rw [if_neg h,if_neg (fun e=>h e.symm)]
theorem Qv (t:Ty): (t.zvs.map cC).map Cl.av=t.zvs.map GI:=by
 cases t with
 | st n=>cases n <;> rfl
 | _=>rfl
theorem Qw (G:List (Option bO)) (t:Ty): ∀ c∈t.zvs.map cC,c.ok G:=fun c hc=>by
 obtain⟨v,_,rfl⟩:=List.mem_map.1 hc
 exact N5 _ _
def vF (P:Program) (g:FuncId) (args:List V1) (b:Bool) (res:V) (out:List bO):Prop:=
 ∃ (t:Ty) (x:t.D) (as:List V1),args=K0 t x::as∧nr P g ((E7 t x 0).av::as.map V1.av) ((nu (t.flat x)).map bO.tree) (bif b then (nu (t.flat x)).length else 0) res.av (out.map bO.tree)
structure CE (P:Program) (f:Nat) (args:List V1) (res:V) (out:List bO):Prop where
 fn:f < ja→sO P f (args.map V1.av) [] res.av (out.map bO.tree)
 io: ∀ g,f=mX g→g < ja→vF P g args true res out
 mv: ∀ g,f=Bk g→vF P g args false res out
theorem Qx (g:Nat): ¬ mX g < ja:=Nat.not_lt.2 (Nat.le_add_left ja g)
theorem N9 (g:Nat): ¬ Bk g < ja:=Nat.not_lt.2 (Nat.le_trans (Nat.le_add_left ja ja) (Nat.le_add_left HW g))
theorem Qy {g g':Nat} (hg:g < ja):mX g≠Bk g':=fun h=>by
 have h1:mX g < HW:=Nat.add_lt_add_right hg ja
 rw [h] at h1
 exact Nat.not_lt.2 (Nat.le_add_left HW g') h1
theorem CE.of_fn {P:Program} {f:Nat} {args:List V1} {res:V} {out:List bO} (h:sO P f (args.map V1.av) [] res.av (out.map bO.tree)) (hf:f < ja):CE P f args res out:=
 ⟨fun _=>h,fun g e _=>absurd (e ▸ hf) (Qx g),fun g e=>absurd (e ▸ hf) (N9 g)⟩
theorem CE.of_io {P:Program} {g:Nat} {args:List V1} {res:V} {out:List bO} (h:vF P g args true res out) (hg:g < ja):CE P (mX g) args res out:=
 ⟨fun h'=>absurd h' (Qx g),fun g' e _=>by rw [←Nat.add_right_cancel (e:g+ja=g'+ja)]; exact h,fun g' e=>absurd e (Qy hg)⟩
theorem CE.of_mv {P:Program} {g:Nat} {args:List V1} {res:V} {out:List bO} (h:vF P g args false res out):CE P (Bk g) args res out:=
 ⟨fun h'=>absurd h' (N9 g),fun g' e hg=>absurd e.symm (Qy hg),fun g' e=>by rw [←Nat.add_right_cancel (e:g+HW=g'+HW)]; exact h⟩
theorem vF.get {P:Program} {g:FuncId} {el:Ty} {l:List el.D} {as:List V1} {b:Bool} {res:V} {out:List bO} (h:vF P g (.cl (.c (.ls el l))::as) b res out):nr P g (.own ⟨0,[]⟩ el.width 0 l.length::as.map V1.av) [.sl el.width (l.map el.row)] (bif b then 1 else 0) res.av (out.map bO.tree):=by
 obtain⟨t,x,as',he,h⟩:=h
 simp only [List.cons.injEq] at he
 obtain⟨he,rfl⟩:=he
 cases t with
 | ls el'=>
   have he':V1.cl (.c (.ls el l))= .cl (.c (.ls el' x)):=he
   cases he'
   exact h
 | st n=>cases n <;> cases he
 | _=>cases he
theorem vF.getA {P:Program} {g:FuncId} {ys:List C} {as:List V1} {res:V} {out:List bO} (h:vF P g (.agg (ys.map .c)::as) true res out):nr P g (.agg ((va ys 0).map Cl.av)::as.map V1.av) ((nu ys).map bO.tree) (nu ys).length res.av (out.map bO.tree):=by
 obtain⟨t,x,as',he,h⟩:=h
 simp only [List.cons.injEq] at he
 obtain⟨he,rfl⟩:=he
 cases t with
 | st n=>
   have he':V1.agg (ys.map Cl.c)= .agg ((n.flat x).map Cl.c):=he
   simp only [V1.agg.injEq] at he'
   have :ys=n.flat x:=by
    have hi: ∀ (l m:List C),l.map Cl.c=m.map Cl.c→l=m:=by
     intro l
     induction l with
     | nil=>intro m hm; cases m with | nil=>rfl | cons a m=>cases hm
     | cons a l ih=>
       intro m hm
       cases m with
       | nil=>cases hm
       | cons b m=>
         simp only [List.map_cons,List.cons.injEq,Cl.c.injEq] at hm
         rw [hm.1,ih m hm.2]
    exact hi _ _ he'
   subst this
   exact h
 | _=>cases he
def ax (P:Program) (Y:zO):Prop:= ∀ f args ρ κ r,Y f args ρ κ=some r→ ∃ res out,CE P f args res out∧res.ok (out.map some)∧κ res out=some r
section
variable {ρ:Type} {P:Program} {Θ:pI} {S:TS}
theorem I3 {α β:Type} {f:α→(β→Option ρ)→Option ρ} {R:α→β→Prop} (hf: ∀ a κ r,f a κ=some r→ ∃ b,R a b∧κ b=some r):
  ∀ (l:List α) (κ:List β→Option ρ) (r:ρ),E3 f l κ=some r→ ∃ bs,l.length=bs.length∧(∀ (k:Nat) (a:α) (b:β),l[k]? =some a→bs[k]? =some b→R a b)∧κ bs=some r:=by
 intro l
 induction l with
 | nil=>intro κ r h; exact⟨[],rfl,fun k a b ha=>by simp at ha,h⟩
 | cons a l ih=>
   intro κ r h
   obtain⟨b,h1,h⟩:=hf a _ r h
   obtain⟨bs,h2,h3,h⟩:=ih _ r h
   refine⟨b::bs,by simp [h2],fun k x y hx hy=> ?_,h⟩
   cases k with
   | zero=>simp at hx hy; subst hx hy; exact h1
   | succ k=>exact h3 k x y (by simpa using hx) (by simpa using hy)
theorem Qz {α β γ:Type} {f:α→γ} {g:β→γ} {l:List α} {bs:List β} (h1:l.length=bs.length) (h2: ∀ (k:Nat) (a:α) (b:β),l[k]? =some a→bs[k]? =some b→f a=g b):l.map f=bs.map g:=by
 apply List.ext_getElem?
 intro k
 rw [List.getElem?_map,List.getElem?_map]
 cases ha:l[k]? with
 | none=>
   rw [List.getElem?_eq_none_iff] at ha
   rw [List.getElem?_eq_none (by omega)]
   rfl
 | some a=>
   have:=(List.getElem?_eq_some_iff.1 ha).1
   rw [List.getElem?_eq_getElem (by omega:k < bs.length)]
   simp only [Option.map_some]
   rw [h2 k a _ ha (List.getElem?_eq_getElem (by omega))]
theorem vG {p:bT} {sz lo len:Nat} {t:Ty} {l:List t.D} (hc: (Cl.own p sz lo len true).ok S.gh) (h:p.l= [] →c8 S.gh p.r=some ⟨t,l,none⟩):p.l= [] ∧lo=0∧len=l.length:=by
 obtain⟨_,h2⟩:=hc
 obtain⟨a,b,c⟩:=h2 rfl
 exact⟨a,b,c _ (h a)⟩
theorem Fa (hS:S.ok) {et:Option Ty} {c:Cl} (hc:c.ok S.gh) {κ:Cl→Option ρ} {r:ρ} (h:O3 S et c κ=some r): ∃ c',(∀ sz,(∀ t,et=some t→sz=t.width)→dR S.st sz c.av=c'.av)∧κ c'=some r:=by
 unfold O3 at h
 split at h
 ·rename_i x
  exact⟨_,fun sz _=>by cases x <;> rfl,h⟩
 ·split at h
  ·rename_i t
   exact⟨_,fun sz hsz=>by rw [hsz t rfl]; rfl,h⟩
  ·cases h
 ·rename_i p sz lo len
  obtain⟨t,l,h1,h2,h⟩:=fa h
  obtain⟨h3,h⟩:=ap h
  have h3:t.width=sz:=Nat.eq_of_beq_eq_true h3
  obtain⟨h4,h5,h6⟩:=vG hc h2
  refine⟨_,fun sz' _=> ?_,h⟩
  simp only [Cl.av,dR,←h3,lH h1,h5,h6,Nat.zero_add,List.length_map,Nat.le_refl,if_true,List.drop_zero,C.av]
  rw [List.take_of_length_le (by simp)]
 ·rename_i p sz lo len
  obtain⟨t,l,h1,h2,h⟩:=fa h
  obtain⟨h3,h⟩:=ap h
  have h3:t.width=sz:=Nat.eq_of_beq_eq_true h3
  obtain⟨h4,h⟩:=dq h
  refine⟨_,fun sz' _=> ?_,h⟩
  simp only [Cl.av,dR,←h3,lH h1,List.length_map,h4,if_true,C.av]
  simp [List.map_take,List.map_drop]
 ·exact⟨_,fun _ _=>rfl,h⟩
 ·rename_i p sz i j
  obtain⟨t,l,h1,h2,h⟩:=fa h
  obtain⟨h3,h⟩:=ap h
  have h3:t.width=sz:=Nat.eq_of_beq_eq_true h3
  obtain⟨x,hx,h⟩:=Option.bind_eq_some_iff.1 h
  refine⟨_,fun sz' _=> ?_,h⟩
  simp only [Cl.av,dR,←h3,lH h1]
  have e1: (l.map t.row).getD i [] =t.row x:=by simp [List.getD_eq_getElem?_getD,hx]
  rw [e1,t.row_flat,List.map_drop]
 ·rename_i b j
  split at h
  ·rename_i cs hcs
   obtain⟨bs,h1,h2,h⟩:=I3 (R:=fun (c:Cl) (x:C)=>c.ok S.gh→T.ofAV S.st 0 c.av=x.tree) (fun c κ r h=>by
    split at h
    ·rename_i x
     exact⟨x,fun _=>by cases x <;> rfl,h⟩
    ·rename_i p sz lo len
     obtain⟨t,l,h1,h2,h⟩:=fa h
     obtain⟨h3,h⟩:=ap h
     have h3:t.width=sz:=Nat.eq_of_beq_eq_true h3
     refine⟨_,fun hc=> ?_,h⟩
     obtain⟨h4,h5,h6⟩:=vG hc h2
     simp only [Cl.av,T.ofAV,←h3,lH h1,h5,h6,Nat.zero_add,List.length_map,Nat.le_refl,if_true,List.drop_zero,C.tree]
     rw [List.take_of_length_le (by simp)]
    ·cases h) _ _ _ h
   refine⟨_,fun sz _=> ?_,h⟩
   simp only [Cl.av,dR,TS.st,hcs,Option.map_some]
   rw [←List.map_drop,List.map_map]
   congr 1
   refine Qz h1 (fun k a b ha hb=>h2 k a b ha hb ?_)
   rw [dL] at hcs
   exact hS.bx cs (List.mem_of_getElem? hcs) a (List.mem_of_mem_drop (List.mem_of_getElem? ha))
  ·cases h
 ·exact⟨_,fun _ _=>rfl,h⟩
theorem Si (hS:S.ok): ∀ (ets:List (Option Ty)) (cs:List Cl) (κ:List Cl→Option ρ) (r:ρ),(∀ c∈cs,c.ok S.gh)→R7 S ets cs κ=some r→
  ∃ cs',ets.length=cs.length∧List.zipWith (dR S.st) (ets.map fun | some e=>e.width | none=>0) (cs.map Cl.av)=cs'.map Cl.av∧κ cs'=some r:=by
 intro ets
 induction ets with
 | nil=>
   intro cs κ r hcs h
   cases cs with
   | nil=>exact⟨[],rfl,rfl,h⟩
   | cons c cs=>cases h
 | cons et ets ih=>
   intro cs κ r hcs h
   cases cs with
   | nil=>cases h
   | cons c cs=>
     unfold R7 at h
     obtain⟨c',h1,h⟩:=Fa hS (hcs c List.mem_cons_self) h
     obtain⟨cs',h2,h3,h⟩:=ih cs _ r (fun x hx=>hcs x (List.mem_cons_of_mem _ hx)) h
     refine⟨c'::cs',by simp [h2],?_,h⟩
     simp only [List.map_cons,List.zipWith_cons_cons,h3]
     rw [h1]
     intro t ht
     subst ht
     rfl
theorem QA (hΘ:eo P Θ) (hS:S.ok) {t:TypeId} {v:V} (hv:v.ok S.gh) {κ:V1→Option ρ} {r:ρ} (h:Vx Θ S t v κ=some r): ∃ v1:V1,j4 S.st (pF P 9 t) v.av=v1.av∧κ v1=some r:=by
 unfold Vx at h
 split at h
 ·cases h
 ·rename_i f cs
  obtain⟨bs,h1,h2,h⟩:=I3 (R:=fun (c c':Cl)=>c.ok S.gh→dR S.st 0 c.av=c'.av) (fun c κ r h=>by
   by_cases hc:c.ok S.gh
   ·obtain⟨c',h1,h⟩:=Fa hS hc h
    exact⟨c',fun _=>h1 0 (fun t ht=>by cases ht),h⟩
   ·have : ∃ c',κ c'=some r:=by
     unfold O3 at h
     split at h
     ·exact⟨_,h⟩
     ·cases h
     ·obtain⟨t,l,_,_,h⟩:=fa h; exact⟨_,(ap h).2⟩
     ·obtain⟨t,l,_,_,h⟩:=fa h; exact⟨_,(dq (ap h).2).2⟩
     ·exact⟨_,h⟩
     ·obtain⟨t,l,_,_,h⟩:=fa h; obtain⟨x,_,h⟩:=Option.bind_eq_some_iff.1 (ap h).2; exact⟨_,h⟩
     ·split at h
      ·obtain⟨bs,_,_,h⟩:=I3 (R:=fun _ _=>True) (fun c κ r h=>by
        split at h
        ·exact⟨_,trivial,h⟩
        ·obtain⟨t,l,_,_,h⟩:=fa h; exact⟨_,trivial,(ap h).2⟩
        ·cases h) _ _ _ h
       exact⟨_,h⟩
      ·cases h
     ·exact⟨_,h⟩
    obtain⟨c',h⟩:=this
    exact⟨c',fun hc'=>absurd hc' hc,h⟩) _ _ _ h
  refine⟨_,?_,h⟩
  simp only [V.av,V1.av,j4,List.map_map]
  congr 1
  exact Qz h1 (fun k a b ha hb=>h2 k a b ha hb (hv a (List.mem_of_getElem? ha)))
 ·rename_i cs
  split at h
  ·rename_i ti hti
   obtain⟨cs',h1,h2,h⟩:=Si hS _ _ _ _ hv h
   refine⟨_,?_,h⟩
   have e: (ti.ty.csh.map fun | some e=>e.width | none=>0)=ti.ty.shs:=rfl
   simp only [V.av,V1.av,j4,(hΘ _ _ hti).sh]
   rw [if_pos (by rw [←e]; simpa using h1),←e,h2]
  ·cases h
 ·exact⟨_,rfl,h⟩
 ·rename_i c hne
  have b7: ∀ (szs:List Nat),j4 S.st szs (V.v (.cl c)).av=dR S.st (szs.headD 0) c.av:=by
   intro szs
   cases c with
   | c x=>cases x <;> rfl
   | em=>exact absurd rfl hne
   | _=>rfl
  split at h
  ·rename_i ti hti
   obtain⟨c',h1,h⟩:=Fa hS hv h
   refine⟨_,?_,h⟩
   rw [b7]
   refine h1 _ (fun t ht=> ?_)
   rw [(hΘ _ _ hti).sh]
   unfold Ty.shs
   cases hc:ti.ty.csh with
   | nil=>rw [hc] at ht; cases ht
   | cons a l=>
     rw [hc] at ht
     simp only [List.headD_cons] at ht
     subst ht
     rfl
  ·obtain⟨c',h1,h⟩:=Fa hS hv h
   exact⟨_,by rw [b7]; exact h1 _ (fun t ht=>by cases ht),h⟩
theorem tp (hΘ:eo P Θ) (hS:S.ok): ∀ (ts:List TypeId) (as:List Operand) (κ:List V1→Option ρ) (r:ρ),th Θ S ts as κ=some r→
  ∃ vs:List V1,List.zipWith (fun t a=>j4 S.st (pF P 9 t) (opd S.st a)) ts as=vs.map V1.av∧κ vs=some r:=by
 intro ts
 induction ts with
 | nil=>
   intro as κ r h
   cases as with
   | nil=>exact⟨[],rfl,h⟩
   | cons a as=>cases h
 | cons t ts ih=>
   intro as κ r h
   cases as with
   | nil=>cases h
   | cons a as=>
     unfold th at h
     obtain⟨v,h1,h⟩:=QA hΘ hS (lZ hS a) h
     obtain⟨vs,h2,h⟩:=ih as _ r h
     exact⟨v::vs,by rw [List.zipWith_cons_cons,h2,aZ,h1,List.map_cons],h⟩
end
end Go.Proofs.YtkcgfceffffmoaaGreat.En
namespace Go.Proofs.YtkcgfceffffmoaaGreat.En
open Go
open Classical in
noncomputable def O6 (d:Option Tmp) (g:FuncId) (args:List AV) (res:AV×List T):rX:=fun d' g' a' gs'=>if d'=d∧g'=g∧a'=args∧gs'= [] then some res else none
theorem Fb {P:Program} {d:Option Tmp} {g:FuncId} {args:List AV} {res:AV} {out:List T} (h:sO P g args [] res out):oW P (O6 d g args (res,out)):=by
 intro d' g' a' gs' r' o' h'
 unfold O6 at h'
 split at h'
 ·rename_i hc
  obtain⟨rfl,rfl,rfl,rfl⟩:=hc
  simp only [Option.some.injEq,Prod.mk.injEq] at h'
  obtain⟨rfl,rfl⟩:=h'
  exact h
 ·cases h'
theorem Oa (d:Option Tmp) (g:FuncId) (args:List AV) (res:AV×List T):O6 d g args res d g args [] =some res:=by
 unfold O6
 rw [if_pos ⟨rfl,rfl,rfl,rfl⟩]
def Ki:rX:=fun _ _ _ _=>none
theorem jf {P:Program}:oW P Ki:=fun _ _ _ _ _ _ h=>by cases h
theorem O7 (n:Nat) (c:Cl): (IY n c).av=pL n c.av:=by
 cases c with
 | c x=>cases x <;> rfl
 | _=>rfl
theorem Fc (n:Nat) (v:V1): (wT n v).av=nn n v.av:=by
 cases v with
 | cl c=>cases c with
   | c x=>cases x <;> rfl
   | _=>rfl
 | agg cs=>
   simp only [wT,V1.av,nn,List.map_map]
   congr 1
   exact List.map_congr_left fun c _=>O7 n c
 | fn f cs=>rfl
theorem Bq (n:Nat) (v:V): (uk n v).av=oD n v.av:=by
 cases v with
 | v x=>
   have :oD n x.av=nn n x.av:=by
    cases x with
    | cl c=>cases c with
      | c x=>cases x <;> rfl
      | _=>rfl
    | _=>rfl
   show (wT n x).av=oD n x.av
   rw [this,Fc]
 | tup l=>
   simp only [uk,V.av,oD,List.map_map]
   congr 1
   exact List.map_congr_left fun c _=>Fc n c
theorem H0 {G:List (Option bO)} {out:List bO} {c:Cl} (h:c.ok (out.map some)): (IY G.length c).ok (G++out.map some):=by
 cases c with
 | own p sz lo len w=>
   obtain⟨h1,h2⟩:=h
   refine⟨by simp at h1 ⊢; omega,fun hw=> ?_⟩
   obtain⟨a,b,c⟩:=h2 hw
   refine⟨a,b,fun tr htr=>c tr ?_⟩
   rw [Bo,if_pos (by simp)] at htr
   simp only [Nat.add_sub_cancel] at htr
   unfold c8
   rw [dL,List.getElem?_map,htr]
   rfl
 | c x=>cases x <;> trivial
 | _=>trivial
theorem Fd {G:List (Option bO)} {out:List bO} {v:V1} (h:v.ok (out.map some)): (wT G.length v).ok (G++out.map some):=by
 cases v with
 | cl c=>exact H0 h
 | agg cs=>
   intro c hc
   obtain⟨x,hx,rfl⟩:=List.mem_map.1 hc
   exact H0 (h x hx)
 | fn f cs=>trivial
theorem Br {G:List (Option bO)} {out:List bO} {v:V} (h:v.ok (out.map some)): (uk G.length v).ok (G++out.map some):=by
 cases v with
 | v x=>exact Fd h
 | tup l=>
   intro c hc
   obtain⟨x,hx,rfl⟩:=List.mem_map.1 hc
   exact Fd (h x hx)
theorem yy (S:TS) (v:AV) (out:List bO): ({ S with gh:=S.gh++out.map some }:TS).st=(oU S.st (v,out.map bO.tree)).2:=by
 unfold TS.st oU
 simp only [List.length_append,List.length_map]
 congr 1
 funext r
 rw [Bo]
 by_cases h:S.gh.length≤r
 ·rw [if_pos h]
  by_cases h2:r < S.gh.length+out.length
  ·rw [if_pos ⟨h,h2⟩,List.getElem?_map]
  ·rw [if_neg (fun hh=>h2 hh.2),List.getElem?_eq_none (by omega),wX h]
 ·rw [if_neg h,if_neg (fun hh=>h hh.1)]
section
variable {ρ:Type} {P:Program} {Θ:pI} {S:TS} {Y:zO}
theorem zS (hS:S.ok): ∀ (caps:List Cl) (κ':List Cl→Option ρ) (r:ρ),(∀ c∈caps,c.ok S.gh)→E3 (O3 S none) caps κ'=some r→ ∃ cs,(caps.map Cl.av).map (dR S.st 0)=cs.map Cl.av∧κ' cs=some r:=by
 intro caps
 induction caps with
 | nil=>intro κ' r _ h; exact⟨[],rfl,h⟩
 | cons c caps ih=>
   intro κ' r hc h
   unfold E3 at h
   obtain⟨c',g1,h⟩:=Fa hS (hc c List.mem_cons_self) h
   obtain⟨cs,g2,h⟩:=ih _ r (fun x hx=>hc x (List.mem_cons_of_mem _ hx)) h
   exact⟨c'::cs,by rw [List.map_cons,List.map_cons,g2,g1 0 (fun t ht=>by cases ht),List.map_cons],h⟩
theorem QB (hΘ:eo P Θ) (hY:ax P Y) (hS:S.ok) {f:Operand} {ts:Array TypeId} {as:Array Operand} {κ:V→TS→Option ρ} {r:ρ} (h:N1 Θ Y S f ts.toList as.toList κ=some r) {dst:Option Tmp} {ty:TypeId} {pos:String} {aft:Array Edge} {gd:Option (Nat×Bool)}:
  ∃ D v S',oW P D∧iw D P S.st ⟨dst, .call { callee:= .value f,args:=as,argTypes:=ts },ty,pos,aft,gd⟩=some (V.av v,TS.st S')∧S'.ok∧v.ok S'.gh∧κ v S'=some r:=by
 have fin: ∀ (g:FuncId) (caps:List AV) (vs:List V1),g < ja→callee S.st f=some (g,caps)→args P S.st ts as caps=vs.map V1.av→Y g vs ρ (fun res out=>κ (uk S.gh.length res) { S with gh:=S.gh++out.map some })=some r→
   ∃ D v S',oW P D∧iw D P S.st ⟨dst, .call { callee:= .value f,args:=as,argTypes:=ts },ty,pos,aft,gd⟩=some (V.av v,TS.st S')∧S'.ok∧v.ok S'.gh∧κ v S'=some r:=by
  intro g caps vs hg h1 h2 h3
  obtain⟨res,out,h4,h5,h6⟩:=hY _ _ _ _ _ h3
  have h4:=h4.fn hg
  refine⟨O6 dst g (vs.map V1.av) (res.av,out.map bO.tree),_,_,Fb h4,?_,TS.ok_gh hS (ib.apps _ _),Br h5,h6⟩
  simp only [iw,h1,Option.bind_some,h2]
  rw [Oa]
  simp only [Option.map_some]
  rw [yy S res.av out,Bq]
  rfl
 unfold N1 at h
 split at h
 ·rename_i g x y hf
  obtain⟨hg,h⟩:=ap h
  have hg:g < ja:=Nat.le_of_ble_eq_true hg
  obtain⟨vs,h1,h⟩:=tp hΘ hS _ _ _ _ h
  refine fin g [] vs hg ?_ ?_ h
  ·unfold callee
   rw [aZ,hf]
   rfl
  ·unfold args
   simp only [List.map_nil,List.append_nil]
   exact h1
 ·rename_i g caps hf
  obtain⟨hg,h⟩:=ap h
  have hg:g < ja:=Nat.le_of_ble_eq_true hg
  obtain⟨vs,h1,h⟩:=tp hΘ hS _ _ _ _ h
  have hcaps: ∀ c∈caps,c.ok S.gh:=by
   have:=lZ hS f
   rw [hf] at this
   exact this
  obtain⟨cs,h2,h⟩:=zS hS _ _ _ hcaps h
  refine fin g (caps.map Cl.av) (vs++cs.map .cl) hg ?_ ?_ h
  ·unfold callee
   rw [aZ,hf]
   rfl
  ·unfold args
   rw [h1,h2,List.map_append,List.map_map]
   rfl
 ·cases h
theorem fJ {t t':Ty} {l:List t.D} {l':List t'.D} (h:vE t t' l=some l'): ∃ e:t=t',e ▸ l=l':=by
 unfold vE at h
 split at h
 ·rename_i e
  exact⟨e,Option.some.inj h⟩
 ·cases h
theorem O8 {t:Ty} (h:t.flatB=true) (x:t.D): (t.row x).all T.flat=true:=by
 cases t with
 | st n=>cases n <;> first | rfl | cases h
 | ls t=>cases h
 | _=>rfl
theorem Bs (t:Ty): (t.shs.all (· ==0))=t.flatB:=by
 cases t with
 | st n=>cases n <;> rfl
 | ls t=>
   show ((t.width==0)&&true)=false
   have:=t.width_pos
   cases hw:t.width with
   | zero=>omega
   | succ n=>rfl
 | _=>rfl
theorem wY {t:Ty} (h:t.flatB=true) (l:List t.D): (l.map t.row).all (fun r=>r.all T.flat)=true:=by
 rw [List.all_eq_true]
 intro x hx
 obtain⟨y,_,rfl⟩:=List.mem_map.1 hx
 exact O8 h y
theorem Sj (hS:S.ok) {el:Ty} {v:Cl} (hv:v.ok S.gh) {κ:List el.D→TS→Option ρ} {r:ρ} (h:Qm S el v κ=some r):
  ∃ more S',np S.st el.width el.flatB v.av=some (more.map el.row,S'.st)∧S'.ok∧ib S.gh S'.gh∧S'.gh.length=S.gh.length∧S'.fz=S.fz∧κ more S'=some r:=by
 unfold Qm at h
 split at h
 ·exact⟨[],S,rfl,hS,ib.refl _,rfl,rfl,h⟩
 ·rename_i t l
  obtain⟨h1,h⟩:=ap h
  split at h
  ·rename_i l' hl
   obtain⟨e,hl⟩:=fJ hl
   subst e
   simp only at hl
   subst hl
   refine⟨l,S,?_,hS,ib.refl _,rfl,rfl,h⟩
   simp only [Cl.av,C.av,np]
   rw [if_pos ⟨trivial,wY h1 l⟩]
  ·cases h
 ·rename_i p sz lo len w
  obtain⟨h0,h⟩:=ap h
  have h0:el.width=sz:=Nat.eq_of_beq_eq_true h0
  cases hfl:el.flatB with
  | true=>
    rw [hfl] at h
    simp only [cond_true] at h
    obtain⟨t,l,h1,h2,h⟩:=fa h
    split at h
    ·rename_i l' hl
     obtain⟨e,hl⟩:=fJ hl
     subst e
     simp only at hl
     subst hl
     have src: ∀ (lo len:Nat),lo+len≤l.length→np S.st t.width true (.own p sz lo len)=some (((l.drop lo).take len).map t.row,S.st):=by
      intro lo len hle
      simp only [np]
      rw [if_pos h0.symm,lH h1]
      simp only [Option.bind_some,Bool.true_eq_false,false_and,if_false,List.length_map]
      rw [if_pos ⟨hle,by rw [←List.map_drop,←List.map_take]; exact wY hfl _⟩]
      simp [List.map_take,List.map_drop]
     cases w with
     | true=>
       obtain⟨e1,e2,e3⟩:=vG hv h2
       refine⟨l,S,?_,hS,ib.refl _,rfl,rfl,h⟩
       have:=src lo len (by omega)
       rw [e2,e3,List.drop_zero,List.take_length] at this
       simp only [Cl.av]
       rw [e2,e3]
       exact this
     | false=>
       simp only [cond_false] at h
       obtain⟨h3,h⟩:=dq h
       exact⟨_,S,src lo len h3,hS,ib.refl _,rfl,rfl,h⟩
    ·cases h
  | false=>
    rw [hfl] at h
    simp only [cond_false] at h
    split at h
    ·rename_i hp
     obtain⟨h3,h6⟩:=ap h
     clear h
     simp only [Bool.and_eq_true] at h3
     obtain⟨hw,h4⟩:=h3
     have h4:S.fz≤p.r:=Nat.le_of_ble_eq_true h4
     subst hw
     obtain⟨t,l,h1,h2,h⟩:=fa h6
     split at h
     ·rename_i l' hl
      obtain⟨e,hl⟩:=fJ hl
      subst e
      simp only at hl
      subst hl
      obtain⟨e1,e2,e3⟩:=vG hv h2
      refine⟨l,_,?_,TS.ok_gh hS (ib.gone _ _),ib.gone _ _,by simp [fH],rfl,h⟩
      simp only [Cl.av,np]
      rw [if_pos h0.symm,lH h1]
      simp only [Option.bind_some,List.length_map]
      rw [if_pos ⟨trivial,hp,e2,e3,h4⟩,zR]
     ·cases h
    ·cases h
 ·cases h
end
end Go.Proofs.YtkcgfceffffmoaaGreat.En
namespace Go.Proofs.YtkcgfceffffmoaaGreat.En
open Go
theorem M7 (t:Ty):t.zvs.length=t.width:=by
 cases t with
 | st n=>cases n <;> rfl
 | _=>rfl
theorem yz (t:Ty):t.shs.length=t.width:=by
 cases t with
 | st n=>cases n <;> rfl
 | _=>rfl
theorem Eo {P:Program} {el:TypeId} {e:Ty} (h1:P.cellsOf el=e.width) (h2:pF P 9 el=e.shs) (h3:A5 P el=some e.zvs):Df P el=some (List.zipWith zc e.shs e.zvs):=by
 unfold Df
 rw [h3]
 simp only [Option.bind_some]
 rw [if_pos ⟨by rw [h1,M7],by rw [h2,h1,yz]⟩,h2]
section
variable {ρ:Type} {P:Program} {Θ:pI} {S:TS}
theorem QC (hS:S.ok) {el:Ty} {v:Cl} (hv:v.ok S.gh) {more:List el.D} {κ:List el.D→TS→Option ρ} {r:ρ} (h:KW S el v more κ=some r):
  ∃ l S',lR S.st v.av el.width (more.map el.row)=some (.own ⟨S.gh.length,[]⟩ el.width 0 l.length,{ S'.st with gh:=bW S'.st.gh S.gh.length (some (.sl el.width (l.map el.row))),ng:=S.gh.length+1 })∧
    S'.ok∧ib S.gh S'.gh∧S'.gh.length=S.gh.length∧κ l S'=some r:=by
 unfold KW at h
 split at h
 ·refine⟨more,S,?_,hS,ib.refl _,rfl,h⟩
  simp only [Cl.av,lR,List.length_map]
  rfl
 ·rename_i p sz lo len w
  obtain⟨h0,h'⟩:=ap h
  clear h
  simp only [Bool.and_eq_true] at h0
  have hfz:S.fz≤p.r:=Nat.le_of_ble_eq_true h0.1
  have hsz:el.width=sz:=Nat.eq_of_beq_eq_true h0.2
  split at h'
  ·rename_i hp
   obtain⟨t,l,h1,h2,h⟩:=fa h'
   split at h
   ·rename_i l' hl
    obtain⟨e,hl⟩:=fJ hl
    subst e
    simp only at hl
    subst hl
    have fin: ∀ (len:Nat),¬ l.length < len→lR S.st (.own p sz 0 len) t.width (more.map t.row)=some (.own ⟨S.gh.length,[]⟩ t.width 0 (l.take len++more).length,{ ({ S with gh:=dl S.gh p.r none }:TS).st with gh:=bW ({ S with gh:=dl S.gh p.r none }:TS).st.gh S.gh.length (some (.sl t.width ((l.take len++more).map t.row))),ng:=S.gh.length+1 }):=by
     intro len hlen
     simp only [lR]
     rw [if_pos ⟨hsz.symm,trivial,hfz⟩,lH h1]
     simp only [Option.bind_some,List.length_map]
     rw [if_neg hlen,if_pos hp,zR]
     have e1: (l.take len++more).length=len+more.length:=by simp; omega
     rw [e1,List.map_append,List.map_take]
     rfl
    cases w with
    | true=>
      obtain⟨e1,e2,e3⟩:=vG hv h2
      refine⟨_,_,?_,TS.ok_gh hS (ib.gone _ _),ib.gone _ _,by simp [fH],h⟩
      have:=fin l.length (by omega)
      rw [List.take_length] at this
      simp only [Cl.av]
      rw [e2,e3]
      exact this
    | false=>
      simp only [cond_false] at h
      obtain⟨h3,h⟩:=dq h
      obtain⟨h4,h⟩:=Bm h
      refine⟨_,_,?_,TS.ok_gh hS (ib.gone _ _),ib.gone _ _,by simp [fH],h⟩
      simp only [Cl.av]
      rw [h3]
      exact fin len h4
   ·cases h
  ·rename_i i j hp
   split at h'
   ·rename_i tr htr
    split at h'
    ·rename_i hh
     obtain⟨t,l,h1,h2,h⟩:=fa h'
     split at h
     ·rename_i l' hl
      obtain⟨e,hl⟩:=fJ hl
      subst e
      simp only at hl
      subst hl
      obtain⟨h3,h⟩:=dq h
      obtain⟨h4,h⟩:=Bm h
      have hg:=bO.look htr
      have hput:ib S.gh (dl S.gh p.r (some (bO.mk tr.t tr.l (some (i,j))))):=ib.put hg rfl
      refine⟨_,{ S with gh:=dl S.gh p.r (some (bO.mk tr.t tr.l (some (i,j)))) },?_,TS.ok_gh hS hput,hput,by simp [fH],h⟩
      simp only [Cl.av,lR]
      rw [if_pos ⟨hsz.symm,h3,hfz⟩,lH h1]
      simp only [Option.bind_some,List.length_map]
      rw [if_neg h4,if_neg (by rw [hp]; simp),Bp _ _ (ul hg)]
      have e1: (l.take len++more).length=len+more.length:=by simp; omega
      rw [e1,List.map_append,List.map_take]
      have e2:S.st.setAt p .dd= { S.st with gh:=bW S.st.gh p.r (some (bO.tree ⟨tr.t,tr.l,some (i,j)⟩)) } :=by
       unfold St.setAt
       congr 2
       show ((c8 S.gh p.r).map bO.tree).map _=_
       rw [hg,hp]
       obtain⟨t0,l0,hole⟩:=tr
       simp only at hh
       subst hh
       rfl
      rw [e2]
      rfl
     ·cases h
    ·cases h'
   ·cases h'
  ·cases h'
 ·cases h
theorem Sk (hΘ:eo P Θ) (hS:S.ok) {t:TypeId} {s x:Operand} {κ:V→TS→Option ρ} {r:ρ} (h:R8 Θ S t (S.opd s) (S.opd x) κ=some r) {dst:Option Tmp} {ty:TypeId} {pos:String} {aft:Array Edge} {gd:Option (Nat×Bool)} {D:rX}:
  ∃ v S',iw D P S.st ⟨dst, .call { callee:= .builtin .append,args:= #[s,x],argTypes:= #[t,t] },ty,pos,aft,gd⟩=some (V.av v,TS.st S')∧S'.ok∧v.ok S'.gh∧κ v S'=some r:=by
 unfold R8 at h
 split at h
 ·rename_i ti hti
  split at h
  ·rename_i el sv xv he hs hx
   obtain⟨elT',g1,g2,g3,g4,g5,g6⟩:=(hΘ _ _ hti).el el he
   have hsv:=lZ hS s
   rw [hs] at hsv
   have hxv:=lZ hS x
   rw [hx] at hxv
   obtain⟨more,S1,h1,k1,k2,k3,k4,h⟩:=Sj hS (show xv.ok S.gh from hxv) h
   obtain⟨l,S2,h2,m1,m2,m3,h⟩:=QC k1 (Cl.ok_mono k2 (show sv.ok S.gh from hsv)) h
   obtain⟨hb,h⟩:=dq h
   have hgl:ib S1.gh (S2.gh++ [some ⟨el,l,none⟩]):=m2.trans (ib.app _ _)
   refine⟨_,_,?_,TS.ok_gh m1 (ib.app _ _),?_,h⟩
   ·simp only [iw]
    rw [if_pos trivial,g1]
    simp only [Option.bind_some,g2,g5,Bs,aZ,hs,hx]
    show (np S.st el.width el.flatB xv.av).bind _=_
    rw [h1]
    simp only [Option.bind_some]
    show (lR S1.st sv.av el.width _).bind _=_
    rw [h2]
    simp only [Option.bind_some]
    have hlen:l.length≤2 ^ 40:=Nat.le_trans (Nat.le_mul_of_pos_right _ g4) hb
    rw [if_pos ⟨by rw [g3]; exact hb,hlen,el.width_pos,by rw [Eo g2 g5 g6]; rfl⟩]
    rw [E9,m3]
    rfl
   ·refine⟨by simp,fun _=>⟨rfl,rfl,fun tr htr=> ?_⟩⟩
    rw [l4,if_pos rfl] at htr
    cases htr
    rfl
  ·cases h
 ·cases h
end
end Go.Proofs.YtkcgfceffffmoaaGreat.En
