import Derived.Test.YtkcgfceffffmoaaGreatZX5
namespace Go.Proofs.YtkcgfceffffmoaaGreat.En
open Go
inductive Cl where
 | c (x:C)
 | em
 | own (p:bJ) (sz lo len:Nat) (w:Bool)
 | pro (cs:List C)
 | ptrB (n j:Nat)
 | ptrT (p:bJ) (sz i j:Nat)
 | dead
 deriving Inhabited
inductive V1 where
 | cl (x:Cl)
 | agg (cs:List Cl)
 | fn (f:FuncId) (cs:List Cl)
 deriving Inhabited
inductive V where
 | v (x:V1)
 | tup (l:List V1)
 deriving Inhabited
structure bG where
 t:Ty
 l:List t.D
 hole:Option (Nat×Nat)
structure TS where
 env:List (Nat×V)
 bx:List (List Cl)
 gh:List (Option bG)
 fz:Nat
 nt:Nat
structure TI where
 ty:Ty
 el:Nat
 fds:List (Nat×Nat×Bool)
 bytes:Nat
abbrev ot:=List (Nat×TI)
@[reducible] def V.c (x:C):V:= .v (.cl (.c x))
@[reducible] def V.sc (x:Value):V:= .v (.cl (.c (.sc x)))
@[reducible] def V.dead:V:= .v (.cl .dead)
def gC:List (Nat×V)→Nat→V
 | [],_=>V.dead
 | (t,v)::l,u=>bif Nat.beq t u then v else gC l u
def mB:ot→Nat→Option TI
 | [],_=>none
 | (t,v)::l,u=>bif Nat.beq t u then some v else mB l u
def ol {α:Type}:List α→Nat→Option α
 | [],_=>none
 | a::l,n=>bif Nat.beq n 0 then some a else ol l (n - 1)
def cC (v:Value):Cl:=bif pq v then .c (.sc v) else match v with | .slice none 0 0=> .em | _=> .dead
def cV:Value→V
 | .agg cs=>bif cs.toList.all Value.oneCell' then .v (.agg (cs.toList.map cC)) else V.dead
 | v=> .v (.cl (cC v))
def TS.opd (S:TS):Operand→V
 | .tmp t=>gC S.env t
 | .const v=>cV v
 | .func f=>V.sc (.func (.func f) #[] #[])
 | .global _=>V.dead
def V1.cells:V1→List Cl
 | .cl x=> [x]
 | .agg cs=>cs
 | .fn _ _=> [.dead]
def C.flatB:C→Bool | .sc _=>true | _=>false
def Ty.flatB (t:Ty):Bool:=t.csh.all (·.isNone)
section
variable {ρ:Type}
def br {α:Type} (b:Bool) (x y:α):α:=cond b x y
def aq {α:Type} (c:Prop) [Decidable c] (x y:α):α:=if c then x else y
def I4 (S:TS) (x:Operand) (κ:Bool→TS→Option ρ):Option ρ:=match x with
 | .tmp t=>match gC S.env t with
   | .v (.cl (.c (.sc (.bool b))))=>br b (κ true { S with env:=(t,V.sc (.bool true))::S.env }) (κ false { S with env:=(t,V.sc (.bool false))::S.env })
   | _=>none
 | .const (.bool b)=>κ b S
 | _=>none
def Na (v:V) (κ:Int→Option ρ):Option ρ:=match v with | .v (.cl (.c (.sc (.int _ n))))=>κ n | _=>none
def qC (S:TS) (p:bJ) (κ: (t:Ty)→List t.D→Option ρ):Option ρ:=match ol S.gh p.r with
 | some (some tr)=>match tr.hole with
   | none=>match p.l with
     | [] =>κ tr.t tr.l
     | [(i,j)] =>(tr.l[i]?).bind fun x=>match ol (tr.t.flat x) j with
       | some (.ls t l)=>κ t l
       | _=>none
     | _=>none
   | some _=>none
 | _=>none
def C.ro:C→Cl:=Cl.c
def K5 (p:bJ) (i j:Nat):C→Cl
 | .sc v=> .c (.sc v)
 | .ls t l=> .own ⟨p.r,p.l++ [(i,j)]⟩ t.width 0 l.length false
def zu {α β:Type} (f:Nat→α→β):Nat→List α→List β
 | _,[] => []
 | n,a::l=>f n a::zu f (n+1) l
def K6 (S:TS) (n:Nat) (v:Cl) (κ:List Cl→Option ρ):Option ρ:=match v with
 | .ptrB b j=>match ol S.bx b with
   | some cs=>bif Nat.ble (j+n) cs.length then κ ((cs.drop j).take n) else none
   | none=>none
 | .pro cells=>bif Nat.ble n cells.length then κ ((cells.take n).map Cl.c) else none
 | .ptrT p sz i j=>qC S p fun t l=>bif Nat.beq t.width sz&&Nat.ble (j+n) sz then (l[i]?).bind fun x=>κ (zu (K5 p i) j (((t.flat x).drop j).take n)) else none
 | _=>none
def Tu (ag:Bool) (cs:List Cl) (κ:V→Option ρ):Option ρ:=bif ag then κ (.v (.agg cs)) else match cs with | [c] =>κ (.v (.cl c)) | _=>none
def Ty.ag:Ty→Bool | .st _=>true | _=>false
def I5 (Θ:ot) (S:TS) (t:TypeId) (v:V) (κ:V→Option ρ):Option ρ:=match mB Θ t with
 | some ti=>match v with | .v (.cl a)=>K6 S ti.ty.width a fun cs=>Tu ti.ty.ag cs κ | _=>none
 | none=>none
def RL (n:Nat) (i:Int) (S:TS) (v:Cl) (κ:Cl→Option ρ):Option ρ:=match v with
 | .c (.ls t l)=>bif Nat.beq t.width n then aq (0≤i) ((l[i.toNat]?).bind fun x=>κ (.pro (t.flat x))) none else none
 | .own p sz _ _ true=>bif Nat.beq sz n then qC S p fun _ l=>aq (0≤i∧i < l.length) (κ (.ptrT p sz i.toNat 0)) none else none
 | .own p sz lo len false=>bif Nat.beq sz n then aq (0≤i∧i < len) (κ (.ptrT p sz (lo+i.toNat) 0)) none else none
 | _=>none
def Qn (S:TS) (v:Cl) (κ:Int→Option ρ):Option ρ:=match v with
 | .c (.ls _ l)=>κ l.length
 | .own p _ _ _ true=>qC S p fun _ l=>κ l.length
 | .own _ _ _ len false=>κ len
 | .em=>κ 0
 | _=>none
def RM (n:Nat) (lo hi:Int) (v:Cl) (κ:Cl→Option ρ):Option ρ:=match v with
 | .em=>aq (lo=0∧hi=0) (κ .em) none
 | .c (.ls t l)=>bif Nat.beq t.width n then aq (0≤lo∧lo≤hi∧hi≤l.length) (κ (.c (.ls t ((l.drop lo.toNat).take (hi.toNat - lo.toNat))))) none else none
 | .own p sz l len _=>bif Nat.beq sz n then aq (0≤lo∧lo≤hi∧hi≤len) (κ (.own p sz (l+lo.toNat) (hi.toNat - lo.toNat) false)) none else none
 | _=>none
def G2 (S:TS) (d:Int) (x:Option Operand) (κ:Int→Option ρ):Option ρ:=match x with
 | none=>κ d
 | some x=>Na (S.opd x) κ
def Nb:List (Nat×Nat×Bool)→List Cl→List (Nat×V)→Option (List Cl)
 | _,cs,[] =>some cs
 | pl,cs,(k,v)::r=>match ol pl k with
   | some (off,n,_)=>match v with
     | .v x=>match x with
       | .cl .dead=>none
       | .fn _ _=>none
       | x=>bif Nat.beq x.cells.length n&&Nat.ble (off+n) cs.length then Nb pl (cs.take off++x.cells++cs.drop (off+n)) r else none
     | _=>none
   | none=>none
def I6:Value→Value→Option Bool
 | .int _ a, .int _ b=>some (a==b)
 | .bool a, .bool b=>some (a==b)
 | _,_=>none
def u5:List Cl→List Cl→Option Bool
 | [],[] =>some true
 | .c (.sc a)::l, .c (.sc b)::m=>match I6 a b,u5 l m with
   | some x,some y=>some (x&&y)
   | _,_=>none
 | _,_=>none
def ky:List Value→List Cl→Bool
 | [],[] =>true
 | .int k _::zs, .c (.sc (.int k' _))::cs=>bif decide (k=k') then ky zs cs else false
 | .bool _::zs, .c (.sc (.bool _))::cs=>ky zs cs
 | _,_=>false
def V.ints (f:IntKind→Int→Int→Option ρ):V→V→Option ρ
 | .v (.cl (.c (.sc (.int k a)))), .v (.cl (.c (.sc (.int k' b))))=>if k=k' then f k a b else none
 | _,_=>none
def SD (Θ:ot) (t:TypeId) (x y:V) (κ:Bool→Option ρ):Option ρ:=match x,y with
 | .v (.cl (.c (.sc (.int k a)))), .v (.cl (.c (.sc (.int k' b))))=>if k=k' then κ (a==b) else none
 | .v (.cl (.c (.sc (.bool a)))), .v (.cl (.c (.sc (.bool b))))=>match mB Θ t with
   | some ti=>match ti.ty with | .b=>κ (a==b) | _=>none
   | none=>none
 | .v (.agg a), .v (.agg b)=>match mB Θ t with
   | some ti=>bif ti.ty.ag&&ti.ty.flatB&&ky ti.ty.zvs a&&ky ti.ty.zvs b then (match u5 a b with | some r=>κ r | none=>none) else none
   | none=>none
 | _,_=>none
def RN (Θ:ot) (op:BinOp) (t:TypeId) (x y:V) (κ:V→Option ρ):Option ρ:=match op with
 | .lss=>V.ints (fun _ a b=>κ (V.sc (.bool (decide (a < b))))) x y
 | .leq=>V.ints (fun _ a b=>κ (V.sc (.bool (decide (a≤b))))) x y
 | .gtr=>V.ints (fun _ a b=>κ (V.sc (.bool (decide (a > b))))) x y
 | .geq=>V.ints (fun _ a b=>κ (V.sc (.bool (decide (a≥b))))) x y
 | .add=>V.ints (fun k a b=>κ (V.sc (.int k (k.wrap (a+b))))) x y
 | .sub=>V.ints (fun k a b=>κ (V.sc (.int k (k.wrap (a - b))))) x y
 | .mul=>V.ints (fun k a b=>κ (V.sc (.int k (k.wrap (a*b))))) x y
 | .quo=>V.ints (fun k a b=>if b=0 then none else κ (V.sc (.int k (k.wrap (a.tdiv b))))) x y
 | .rem=>V.ints (fun k a b=>if b=0 then none else κ (V.sc (.int k (a.tmod b)))) x y
 | .eql=>SD Θ t x y fun r=>κ (V.sc (.bool r))
 | .neq=>SD Θ t x y fun r=>κ (V.sc (.bool (!r)))
 | _=>none
def I7:List V→Option (List Cl)
 | [] =>some []
 | .v (.cl c)::l=>match I7 l with | some r=>some (c::r) | none=>none
 | _=>none
def Dc (Θ:ot) (S:TS) (o:Oper) (κ:V→TS→Option ρ):Option ρ:=
 let e:=S.opd
 match o.op with
 | .move x | .assign x=>κ (e x) S
 | .pick c a b=>I4 S c fun t S=>bif t then κ (S.opd a) S else κ (S.opd b) S
 | .load t a=>I5 Θ S t (e a) (fun v=>κ v S)
 | .nilCheck x=>match e x with
   | .v (.cl (.ptrB n j))=>κ (.v (.cl (.ptrB n j))) S
   | .v (.cl (.ptrT p sz i j))=>κ (.v (.cl (.ptrT p sz i j))) S
   | .v (.cl (.pro cs))=>κ (.v (.cl (.pro cs))) S
   | .v (.fn f cs)=>κ (.v (.fn f cs)) S
   | .v (.cl (.c (.sc (.func (.func f) a b))))=>κ (.v (.cl (.c (.sc (.func (.func f) a b))))) S
   | _=>none
 | .fieldAddr t x k=>match mB Θ t with
   | some ti=>match ol ti.fds k with
     | some (off,n,_)=>bif Nat.beq n 0 then none else match e x with
       | .v (.cl (.ptrB b j))=>κ (.v (.cl (.ptrB b (j+off)))) S
       | .v (.cl (.ptrT p sz i j))=>κ (.v (.cl (.ptrT p sz i (j+off)))) S
       | .v (.cl (.pro cs))=>κ (.v (.cl (.pro (cs.drop off)))) S
       | _=>none
     | none=>none
   | none=>none
 | .field t x k=>match mB Θ t with
   | some ti=>match ol ti.fds k with
     | some (off,n,ag)=>match e x with
       | .v (.agg cs)=>bif Nat.ble (off+n) cs.length&&Nat.blt 0 n then Tu ag ((cs.drop off).take n) (fun v=>κ v S) else none
       | _=>none
     | none=>none
   | none=>none
 | .indexAddr t x ix=>match mB Θ t with
   | some ti=>match ti.ty with
     | .ls el=>Na (e ix) fun i=>match e x with | .v (.cl a)=>RL el.width i S a (fun c=>κ (.v (.cl c)) S) | _=>none
     | _=>none
   | none=>none
 | .build t parts=>match mB Θ t with
   | some ti=>bif ti.ty.ag then (match Nb ti.fds (ti.ty.zvs.map cC) (parts.toList.map fun x=>(x.1,e x.2)) with | some cs=>κ (.v (.agg cs)) S | none=>none) else none
   | none=>none
 | .slice t x lo hi none=>match mB Θ t with
   | some ti=>match ti.ty with
     | .ls el=>match e x with
       | .v (.cl a)=>Qn S a fun n=>G2 S 0 lo fun l=>G2 S n hi fun h=>RM el.width l h a (fun c=>κ (.v (.cl c)) S)
       | _=>none
     | _=>none
   | none=>none
 | .convert s d x=>match mB Θ s,mB Θ d with
   | some _,some di=>match di.ty with
     | .i k'=>(match e x with | .v (.cl (.c (.sc (.int _ n))))=>κ (V.sc (.int k' (k'.wrap n))) S | _=>none)
     | _=>none
   | _,_=>none
 | .index t x ix=>match mB Θ t with
   | some ti=>match ti.ty with
     | .s=>(match e x,e ix with | .v (.cl (.c (.sc (.string s)))), .v (.cl (.c (.sc (.int _ i))))=>aq (0≤i) ((s[i.toNat]?).bind fun b=>κ (V.sc (.int .u8 b.toNat)) S) none | _,_=>none)
     | _=>none
   | none=>none
 | .extract x k=>match e x with | .tup vs=>(match ol vs k with | some v=>κ (.v v) S | none=>none) | _=>none
 | .makeFunc (.func f) first caps=>bif first.isEmpty then (match I7 (caps.toList.map e) with | some cs=>κ (.v (.fn f cs)) S | none=>none) else none
 | .call { callee:= .builtin .len,args:=as,argTypes:=ts } =>match as.toList,ts.toList with
   | [x],[t] =>match mB Θ t with
     | some ti=>match ti.ty with
       | .ls _=>(match e x with | .v (.cl a)=>Qn S a fun n=>κ (V.sc (.int .i64 n)) S | _=>none)
       | _=>none
     | none=>none
   | _,_=>none
 | .call { callee:= .builtin .max,args:=as,argTypes:=_ } =>match as.toList with
   | [x,y] =>V.ints (fun k a b=>κ (V.sc (.int k (if b > a then b else a))) S) (e x) (e y)
   | _=>none
 | .call { callee:= .builtin .min,args:=as,argTypes:=_ } =>match as.toList with
   | [x,y] =>V.ints (fun k a b=>κ (V.sc (.int k (if b < a then b else a))) S) (e x) (e y)
   | _=>none
 | .binOp op t x y _=>RN Θ op t (e x) (e y) (fun v=>κ v S)
 | .unOp .not _ x=>match e x with | .v (.cl (.c (.sc (.bool b))))=>κ (V.sc (.bool (!b))) S | _=>none
 | _=>none
end
end Go.Proofs.YtkcgfceffffmoaaGreat.En
namespace Go.Proofs.YtkcgfceffffmoaaGreat.En
open Go
def C.av:C→AV
 | .sc v=> .sc v
 | .ls t l=> .ro t.width (l.map t.row)
def Cl.av:Cl→AV
 | .c x=>x.av
 | .em=> .em
 | .own p sz lo len _=> .own p sz lo len
 | .pro cs=> .pro (cs.map C.tree)
 | .ptrB n j=> .ptrB n j
 | .ptrT p sz i j=> .ptrT p sz i j
 | .dead=> .dead
def V1.av:V1→AV
 | .cl x=>x.av
 | .agg cs=> .agg (cs.map Cl.av)
 | .fn f cs=> .fn f (cs.map Cl.av)
def V.av:V→AV
 | .v x=>x.av
 | .tup l=> .tup (l.map V1.av)
def bG.tree (x:bG):T:=match x.hole with
 | none=> .sl x.t.width (x.l.map x.t.row)
 | some (i,j)=> .sl x.t.width ((x.l.map x.t.row).set i (((x.l.map x.t.row).getD i []).set j .dd))
def cK (G:List (Option bG)) (r:Nat):Option bG:=(ol G r).getD none
def TS.st (S:TS):St where
 env:=fun t=>(gC S.env t).av
 bx:=fun n=>(ol S.bx n).map fun cs=>cs.map Cl.av
 gh:=fun r=>(cK S.gh r).map bG.tree
 nb:=S.bx.length
 ng:=S.gh.length
 fz:=S.fz
 orc:=none
 nt:=S.nt
structure xH where
 f:FuncId→List V1→(ρ:Type)→(V→List bG→Option ρ)→Option ρ
 kd:FuncId→Nat
instance:CoeFun xH fun _=>FuncId→List V1→(ρ:Type)→(V→List bG→Option ρ)→Option ρ:=⟨xH.f⟩
def ia:Nat:=1048576
def F6:Nat:=ia+ia
def lC (g:Nat):Nat:=g+ia
def Dd (g:Nat):Nat:=g+F6
def G3 (n:Nat):Cl→Cl
 | .own p sz lo len w=> .own ⟨p.r+n,p.l⟩ sz lo len w
 | .c (.sc v)=> .c (.sc v)
 | _=> .dead
def u6 (n:Nat):V1→V1
 | .agg cs=> .agg (cs.map (G3 n))
 | .cl c=> .cl (G3 n c)
 | .fn _ _=> .cl .dead
def sG (n:Nat):V→V
 | .tup vs=> .tup (vs.map (u6 n))
 | .v x=> .v (u6 n x)
def cS {α:Type}:List α→Nat→α→List α
 | [],_,_=> []
 | a::l,n,x=>bif Nat.beq n 0 then x::l else a::cS l (n - 1) x
def t4 (t t':Ty) (l:List t.D):Option (List t'.D):=if h:t=t' then some (h ▸ l) else none
def pf (r j:Nat):Cl→Cl
 | .own p sz lo len w=>match p.l with | (_,j')::_=>bif Nat.beq p.r r&&Nat.beq j j' then .dead else .own p sz lo len w | [] => .own p sz lo len w
 | .ptrT p sz a b=>match p.l with | (_,j')::_=>bif Nat.beq p.r r&&Nat.beq j j' then .dead else .ptrT p sz a b | [] => .ptrT p sz a b
 | c=>c
def rd (r j:Nat):V1→V1
 | .cl c=> .cl (pf r j c)
 | .agg cs=> .agg (cs.map (pf r j))
 | .fn f cs=> .fn f (cs.map (pf r j))
def F7 (r j:Nat):V→V
 | .v x=> .v (rd r j x)
 | .tup vs=> .tup (vs.map (rd r j))
def TS.kill (S:TS) (r j:Nat):TS:= { S with env:=S.env.map fun x=>(x.1,F7 r j x.2),bx:=S.bx.map fun cs=>cs.map (pf r j) }
def ib (S:TS) (no j:Nat) (et:Option Ty) (c:Cl):Option (C×TS):=match c,et with
 | .c (.sc v),none=>some (.sc v,S)
 | .em,some t=>some (.ls t [],S.kill no j)
 | .own p sz _ _ true,some t=>match p.l with
   | [] =>bif Nat.beq t.width sz&&Nat.ble S.fz p.r&& !(Nat.beq p.r no) then match ol S.gh p.r with
     | some (some tr)=>match tr.hole with
       | none=>bif Nat.beq tr.t.width sz then some (.ls tr.t tr.l,{ S with gh:=cS S.gh p.r none }.kill no j) else none
       | some _=>none
     | _=>none else none
   | _=>none
 | _,_=>none
def pg (no:Nat):Nat→TS→List (Option Ty)→List Cl→Option (List C×TS)
 | j,S,et::ets,c::cs=>match ib S no j et c with
   | some (x,S1)=>match pg no (j+1) S1 ets cs with
     | some (xs,S2)=>some (x::xs,S2)
     | none=>none
   | none=>none
 | _,S,[],[] =>some ([],S)
 | _,_,_,_=>none
def T2 (et:Option Ty) (v:Value):C:=match et with | some t=> .ls t [] | none=> .sc v
def Ty.zcs (t:Ty):List C:=List.zipWith T2 t.csh t.zvs
def RP:List Cl→Option (List C)
 | [] =>some []
 | .c (.sc v)::l=>match RP l with | some r=>some (.sc v::r) | none=>none
 | _=>none
section
variable {ρ:Type}
def De {α β:Type} (f:α→(β→Option ρ)→Option ρ):List α→(List β→Option ρ)→Option ρ
 | [],κ=>κ []
 | a::l,κ=>f a fun b=>De f l fun bs=>κ (b::bs)
def K7 (Θ:ot) (S:TS) (t:TypeId) (a v:V) (κ:TS→Option ρ):Option ρ:=match mB Θ t with
 | none=>none
 | some ti=>match v with
   | .tup _=>none
   | .v (.cl .dead)=>none
   | .v (.fn _ _)=>none
   | .v x=>bif Nat.beq x.cells.length ti.ty.width then match a with
     | .v (.cl (.ptrB b j))=>match ol S.bx b with
       | some cs=>bif Nat.ble (j+x.cells.length) cs.length then κ { S with bx:=cS S.bx b (cs.take j++x.cells++cs.drop (j+x.cells.length)) } else none
       | none=>none
     | .v (.cl (.ptrT p sz i j))=>match p.l with
       | [] =>match ol S.gh p.r with
         | some (some tr)=>bif Nat.beq tr.t.width sz&&Nat.ble (j+ti.ty.width) sz&&Nat.beq x.cells.length ti.ty.width then
           bif ti.ty.flatB then
            match tr.hole,RP x.cells with
            | none,some vs=>(tr.l[i]?).bind fun y=>match tr.t.unflat ((tr.t.flat y).take j++vs++(tr.t.flat y).drop (j+ti.ty.width)) with
              | some z=>κ { S with gh:=cS S.gh p.r (some ⟨tr.t,tr.l.set i z,none⟩) }
              | none=>none
            | _,_=>none
           else bif Nat.ble S.fz p.r then match pg p.r j S ti.ty.csh x.cells with
            | some (vs,S1)=>(tr.l[i]?).bind fun y=>match tr.t.unflat ((tr.t.flat y).take j++vs++(tr.t.flat y).drop (j+ti.ty.width)) with
              | some z=>match tr.hole with
                | none=>κ { S1 with gh:=cS S1.gh p.r (some ⟨tr.t,tr.l.set i z,none⟩) }
                | some (i0,j0)=>bif Nat.beq j j0&&Nat.beq ti.ty.width 1 then aq (i=i0) (κ { S1 with gh:=cS S1.gh p.r (some ⟨tr.t,tr.l.set i z,none⟩) }) none else none
              | none=>none
            | none=>none else none
           else none
         | _=>none
       | _=>none
     | _=>none
     else none
def Nc (S:TS) (et:Option Ty) (c:Cl) (κ:Cl→Option ρ):Option ρ:=match c with
 | .c x=>κ (.c x)
 | .em=>match et with | some t=>κ (.c (.ls t [])) | none=>none
 | .own p sz _ _ true=>qC S p fun t l=>bif Nat.beq t.width sz then κ (.c (.ls t l)) else none
 | .own p sz lo len false=>qC S p fun t l=>bif Nat.beq t.width sz then aq (lo+len≤l.length) (κ (.c (.ls t ((l.drop lo).take len)))) none else none
 | .pro cs=>κ (.pro cs)
 | .ptrT p sz i j=>qC S p fun t l=>bif Nat.beq t.width sz then (l[i]?).bind fun x=>κ (.pro ((t.flat x).drop j)) else none
 | .ptrB b j=>match ol S.bx b with
   | some cs=>De (fun c κ=>match c with
     | .c x=>κ x
     | .own p sz _ _ true=>qC S p fun t l=>bif Nat.beq t.width sz then κ (.ls t l) else none
     | _=>none) (cs.drop j) fun cs=>κ (.pro cs)
   | none=>none
 | .dead=>κ .dead
def Qo (S:TS):List (Option Ty)→List Cl→(List Cl→Option ρ)→Option ρ
 | et::ets,c::cs,κ=>Nc S et c fun c'=>Qo S ets cs fun cs'=>κ (c'::cs')
 | [],[],κ=>κ []
 | _,_,_=>none
def TJ (Θ:ot) (S:TS) (t:TypeId) (v:V) (κ:V1→Option ρ):Option ρ:=match v with
 | .tup _=>none
 | .v (.fn f cs)=>De (Nc S none) cs fun cs'=>κ (.fn f cs')
 | .v (.agg cs)=>match mB Θ t with | some ti=>Qo S ti.ty.csh cs fun cs'=>κ (.agg cs') | none=>none
 | .v (.cl c)=>match mB Θ t with | some ti=>Nc S (ti.ty.csh.headD none) c fun c'=>κ (.cl c') | none=>Nc S none c fun c'=>κ (.cl c')
def rD (Θ:ot) (S:TS):List TypeId→List Operand→(List V1→Option ρ)→Option ρ
 | t::ts,a::as,κ=>TJ Θ S t (S.opd a) fun v=>rD Θ S ts as fun vs=>κ (v::vs)
 | [],[],κ=>κ []
 | _,_,_=>none
def Ma (Θ:ot) (Y:xH) (S:TS) (f:Operand) (ts:List TypeId) (as:List Operand) (κ:V→TS→Option ρ):Option ρ:=match S.opd f with
 | .v (.cl (.c (.sc (.func (.func g) _ _))))=>bif Nat.blt g ia then rD Θ S ts as fun vs=>Y g vs ρ fun res out=>κ (sG S.gh.length res) { S with gh:=S.gh++out.map some } else none
 | .v (.fn g caps)=>bif Nat.blt g ia then rD Θ S ts as fun vs=>De (Nc S none) caps fun cs=>Y g (vs++cs.map .cl) ρ fun res out=>κ (sG S.gh.length res) { S with gh:=S.gh++out.map some } else none
 | _=>none
def OB (S:TS) (el:Ty) (v:Cl) (κ:List el.D→TS→Option ρ):Option ρ:=match v with
 | .em=>κ [] S
 | .c (.ls t l)=>bif el.flatB then match t4 t el l with | some l=>κ l S | none=>none else none
 | .own p sz lo len w=>bif Nat.beq el.width sz then (bif el.flatB then qC S p fun t l=>match t4 t el l with
   | some l=>bif w then κ l S else aq (lo+len≤l.length) (κ ((l.drop lo).take len) S) none
   | none=>none
   else match p.l with
   | [] =>bif w&&Nat.ble S.fz p.r then qC S p fun t l=>match t4 t el l with | some l=>κ l { S with gh:=cS S.gh p.r none } | none=>none else none
   | _=>none) else none
 | _=>none
def I8 (S:TS) (el:Ty) (v:Cl) (more:List el.D) (κ:List el.D→TS→Option ρ):Option ρ:=match v with
 | .em=>κ more S
 | .own p sz lo len w=>bif Nat.ble S.fz p.r&&Nat.beq el.width sz then match p.l with
   | [] =>qC S p fun t l=>match t4 t el l with
     | some l=>bif w then κ (l++more) { S with gh:=cS S.gh p.r none }
       else aq (lo=0) (aq (l.length < len) none (κ (l.take len++more) { S with gh:=cS S.gh p.r none })) none
     | none=>none
   | [(i,j)] =>match ol S.gh p.r with
     | some (some tr)=>match tr.hole with
       | none=>qC S p fun t l=>match t4 t el l with
         | some l=>aq (lo=0) (aq (l.length < len) none (κ (l.take len++more) { S with gh:=cS S.gh p.r (some ⟨tr.t,tr.l,some (i,j)⟩) })) none
         | none=>none
       | some _=>none
     | _=>none
   | _=>none else none
 | _=>none
def Qp (Θ:ot) (S:TS) (t:TypeId) (s x:V) (κ:V→TS→Option ρ):Option ρ:=match mB Θ t with
 | some ti=>match ti.ty,s,x with
   | .ls el, .v (.cl s), .v (.cl x)=>OB S el x fun more S1=>I8 S1 el s more fun l S2=>
     aq (l.length*ti.el≤2 ^ 40) (κ (.v (.cl (.own ⟨S2.gh.length,[]⟩ el.width 0 l.length true))) { S2 with gh:=S2.gh++ [some ⟨el,l,none⟩] }) none
   | _,_,_=>none
 | none=>none
def SM:List Nat→List Nat→Bool
 | [],[] =>true
 | a::l,b::m=>bif Nat.beq a b then SM l m else false
 | _,_=>false
def rf (el:Ty):TS→List V→Option (List el.D×TS)
 | S,[] =>some ([],S)
 | S, .v x::r=>match pg S.gh.length 0 S el.csh x.cells with
   | some (vs,S1)=>match el.unflat vs,rf el S1 r with
     | some y,some (ys,S2)=>some (y::ys,S2)
     | _,_=>none
   | none=>none
 | _,_=>none
def xI (Θ:ot) (Y:xH) (S:TS) (o:Oper) (κ:V→TS→Option ρ):Option ρ:=
 let e:=S.opd
 match o.op with
 | .alloc t=>match mB Θ t with | some ti=>κ (.v (.cl (.ptrB S.bx.length 0))) { S with bx:=S.bx++ [ti.ty.zvs.map cC] } | none=>none
 | .box _ x=>match e x with
   | .v (.cl .dead)=>none
   | .v (.cl c)=>κ (.v (.cl (.ptrB S.bx.length 0))) { S with bx:=S.bx++ [[c]] }
   | .v (.agg cs)=>κ (.v (.cl (.ptrB S.bx.length 0))) { S with bx:=S.bx++ [cs] }
   | _=>none
 | .store t a x=>K7 Θ S t (e a) (e x) fun S'=>κ V.dead S'
 | .makeSlice t l c=>match mB Θ t with
   | some ti=>match ti.ty with
     | .ls el=>Na (e l) fun n=>Na (e c) fun m=>match el.unflat el.zcs with
       | some z=>aq (0≤n∧n=m∧n*ti.el≤2 ^ 40) (κ (.v (.cl (.own ⟨S.gh.length,[]⟩ el.width 0 n.toNat true))) { S with gh:=S.gh++ [some ⟨el,List.replicate n.toNat z,none⟩] }) none
       | none=>none
     | _=>none
   | none=>none
 | .buildSlice t len parts=>match mB Θ t with
   | some ti=>match ti.ty with
     | .ls el=>bif Nat.ble (len*el.width) 1048576&&SM (parts.toList.map (·.1)) (List.range len) then (match rf el S (parts.toList.map fun x=>e x.2) with
       | some (l,S1)=>κ (.v (.cl (.own ⟨S1.gh.length,[]⟩ el.width 0 l.length true))) { S1 with gh:=S1.gh++ [some ⟨el,l,none⟩] }
       | none=>none) else none
     | _=>none
   | none=>none
 | .call { callee:= .builtin .append,args:=as,argTypes:=ts } =>match as.toList,ts.toList with
   | [s,x],[t,t'] =>bif Nat.beq t t' then Qp Θ S t (e s) (e x) κ else none
   | _,_=>none
 | .call { callee:= .value f,args:=as,argTypes:=ts } =>Ma Θ Y S f ts.toList as.toList κ
 | _=>Dc Θ S o κ
def rE (S:TS) (d:Option Tmp) (v:V) (κ:TS→Option ρ):Option ρ:=match d with
 | some t=>bif Nat.blt t S.nt then κ { S with env:=(t,v)::S.env } else none
 | none=>κ S
def Mb (S:TS) (all:List Oper) (o:Oper) (κ:Bool→TS→Option ρ):Option ρ:=match o.guard with
 | none=>κ true S
 | some (j,want)=>match ol all j with
   | some oj=>match oj.dst with
     | some d=>match gC S.env d with
       | .tup [] =>κ false S
       | _=>I4 S (.tmp d) fun b S1=>κ (b==want) S1
     | none=>none
   | none=>none
noncomputable def P4 {α:Type} (x y:α) (z:α):α:=open Classical in if x=y then x else z
def Qq {α β:Type} (l:List α) (x y:β):β:=match l with | [] =>x | _::_=>y
def Cz (o:Oper):Option (TypeId×Operand):=match o.op with
 | .binOp .eql t x (.const (.slice none 0 0)) _=>(match o.guard with | none=>some (t,x) | some _=>none)
 | _=>none
def SN (Θ:ot) (t:TypeId):Bool:=match mB Θ t with | some ti=>(match ti.ty with | .ls _=>true | _=>false) | none=>false
def I9 (Y:xH) (S:TS) (o:Oper):Option (Nat×FuncId×List Cl×Nat×Nat×List TypeId×List Operand):=match o.op with
 | .call { callee:= .value f,args:=as,argTypes:=ts } =>(match o.guard with
   | some _=>none
   | none=>match as.toList,ts.toList with
     | x::xs,_::us=>(match S.opd x with
       | .v (.cl (.own ⟨r,[]⟩ sz _ _ true))=>(match S.opd f with
         | .v (.cl (.c (.sc (.func (.func g) _ _))))=>bif Nat.blt g ia&& !Nat.beq (Y.kd g) 0 then some (Y.kd g,g,[],r,sz,us,xs) else none
         | .v (.fn g caps)=>bif Nat.blt g ia&& !Nat.beq (Y.kd g) 0 then some (Y.kd g,g,caps,r,sz,us,xs) else none
         | _=>none)
       | _=>none)
     | _,_=>none)
 | _=>none
def K8:V→Bool
 | .v (.cl (.c (.sc _)))=>true
 | .tup [] =>true
 | _=>false
def OC (Θ:ot) (Y:xH) (S:TS) (k:Nat) (g:FuncId) (caps:List Cl) (r sz:Nat) (us:List TypeId) (xs:List Operand) (dst:Option Tmp) (κ:TS→Option ρ):Option ρ:=match cK S.gh r with
 | some ⟨el,l,none⟩=>bif Nat.beq sz el.width then rD Θ { S with gh:=cS S.gh r none } us xs fun vs=>De (Nc { S with gh:=cS S.gh r none } none) caps fun cs=>
   bif Nat.beq k 1 then Y (lC g) (.cl (.c (.ls el l)):: (vs++cs.map .cl)) ρ fun res out=>(match out with
    | [⟨t,l',none⟩] =>bif decide (t=el)&&K8 res then aq (l'.length=l.length) (rE { S with gh:=cS S.gh r (some ⟨t,l',none⟩) } dst res κ) none else none
    | _=>none)
   else bif Nat.ble S.fz r then Y (Dd g) (.cl (.c (.ls el l)):: (vs++cs.map .cl)) ρ fun res out=>rE { S with gh:=cS S.gh r none++out.map some } dst (sG S.gh.length res) κ
   else none else none
 | _=>none
inductive K9 where
 | nest (r i j sz lo len:Nat)
 | agg (cs:List Cl)
def G4:V→Option K9
 | .v (.cl (.own ⟨r,[(i,j)]⟩ sz lo len _))=>some (.nest r i j sz lo len)
 | .v (.agg cs)=>some (.agg cs)
 | _=>none
def Df (Y:xH) (S:TS) (o:Oper):Option (FuncId×List Cl×K9×List TypeId×List Operand):=match o.op with
 | .call { callee:= .value f,args:=as,argTypes:=ts } =>(match o.guard with
   | some _=>none
   | none=>match as.toList,ts.toList with
     | x::xs,_::us=>(match G4 (S.opd x) with
       | some a=>(match S.opd f with
         | .v (.cl (.c (.sc (.func (.func g) _ _))))=>bif Nat.blt g ia&&Nat.beq (Y.kd g) 1 then some (g,[],a,us,xs) else none
         | .v (.fn g caps)=>bif Nat.blt g ia&&Nat.beq (Y.kd g) 1 then some (g,caps,a,us,xs) else none
         | _=>none)
       | none=>none)
     | _,_=>none)
 | _=>none
def u7 (S:TS):List Cl→Option (List C×List Nat)
 | [] =>some ([],[])
 | .c (.sc v)::cs=>(match u7 S cs with | some (xs,L)=>some (.sc v::xs,L) | none=>none)
 | .own ⟨r,[]⟩ sz _ _ true::cs=>(match cK S.gh r with
   | some ⟨el,l,none⟩=>bif Nat.beq sz el.width then (match u7 S cs with | some (xs,L)=>some (.ls el l::xs,r::L) | none=>none) else none
   | _=>none)
 | _=>none
def OD (G:List (Option bG)) (L:List Nat):List (Option bG):=L.foldl (fun G r=>cS G r none) G
def Dg (S:TS):List Nat→List bG→(TS→Option ρ)→Option ρ
 | [],[],κ=>κ S
 | r::L,⟨t,l',none⟩::out,κ=>(match cK S.gh r with
   | some ⟨el,l,none⟩=>bif decide (t=el) then aq (l'.length=l.length) (Dg { S with gh:=cS S.gh r (some ⟨t,l',none⟩) } L out κ) none else none
   | _=>none)
 | _,_,_=>none
def G5 (Θ:ot) (Y:xH) (S:TS) (g:FuncId) (caps:List Cl) (a:K9) (us:List TypeId) (xs:List Operand) (dst:Option Tmp) (κ:TS→Option ρ):Option ρ:=match a with
 | .agg cs=>(match u7 S cs with
   | some (ys,L)=>bif RB L then rD Θ { S with gh:=OD S.gh L } us xs fun vs=>De (Nc { S with gh:=OD S.gh L } none) caps fun ks=>
     Y (lC g) (.agg (ys.map .c):: (vs++ks.map .cl)) ρ fun res out=>bif K8 res then Dg S L out fun S3=>rE S3 dst res κ else none else none
   | none=>none)
 | .nest r i j sz lo len=>(match cK S.gh r with
   | some ⟨t,l,none⟩=>(l[i]?).bind fun y=>(match ol (t.flat y) j with
     | some (.ls el v)=>bif Nat.beq sz el.width then aq (lo=0∧len=v.length) (rD Θ { S with gh:=cS S.gh r (some ⟨t,l,some (i,j)⟩) } us xs fun vs=>De (Nc { S with gh:=cS S.gh r (some ⟨t,l,some (i,j)⟩) } none) caps fun ks=>
       Y (lC g) (.cl (.c (.ls el v)):: (vs++ks.map .cl)) ρ fun res out=>(match out with
         | [⟨t',v',none⟩] =>bif decide (t'=el)&&K8 res then aq (v'.length=v.length) (match t.unflat (cS (t.flat y) j (.ls t' v')) with
           | some z=>rE { S with gh:=cS S.gh r (some ⟨t,l.set i z,none⟩) } dst res κ
           | none=>none) none else none
         | _=>none)) none else none
     | _=>none)
   | _=>none)
def G6 (S:TS) (o:Oper):Option (TypeId×Nat×Nat×Nat×Nat):=match o.op with
 | .call { callee:= .builtin .clear,args:=as,argTypes:=ts } =>(match o.guard with
   | some _=>none
   | none=>match as.toList,ts.toList with
     | [x],[t] =>(match S.opd x with
       | .v (.cl (.own ⟨r,[]⟩ sz lo len _))=>some (t,r,sz,lo,len)
       | _=>none)
     | _,_=>none)
 | _=>none
def La (Θ:ot) (S:TS) (t:TypeId) (r sz lo len:Nat) (dst:Option Tmp) (κ:TS→Option ρ):Option ρ:=match mB Θ t with
 | some ti=>match cK S.gh r with
   | some ⟨el,l,none⟩=>bif decide (ti.ty= .ls el)&&Nat.beq el.width 1&&Nat.beq sz 1&&el.flatB then (match el.unflat el.zcs with
     | some z=>aq (lo+len≤l.length) (rE { S with gh:=cS S.gh r (some ⟨el,l.take lo++List.replicate len z++l.drop (lo+len),none⟩) } dst (.tup []) κ) none
     | none=>none) else none
   | _=>none
 | none=>none
def Ja (b:Bool):V:= .v (.cl (.c (.sc (.bool b))))
noncomputable def Bu (Θ:ot) (Y:xH) (all:List Oper):List Oper→TS→(TS→Option ρ)→Option ρ
 | [],S,κ=>κ S
 | o::os,S,κ=>match Cz o with
   | some (t,x)=>bif SN Θ t then (match S.opd x with
     | .v (.cl (.c (.ls _ l)))=>Qq l (P4 (rE S o.dst (Ja true) fun S3=>Bu Θ Y all os S3 κ) (rE S o.dst (Ja false) fun S3=>Bu Θ Y all os S3 κ) none) (rE S o.dst (Ja false) fun S3=>Bu Θ Y all os S3 κ)
     | _=>none) else none
   | none=>match G6 S o with
   | some (t,r,sz,lo,len)=>La Θ S t r sz lo len o.dst fun S3=>Bu Θ Y all os S3 κ
   | none=>match I9 Y S o with
   | some (k,g,caps,r,sz,us,xs)=>OC Θ Y S k g caps r sz us xs o.dst fun S3=>Bu Θ Y all os S3 κ
   | none=>match Df Y S o with
   | some (g,caps,a,us,xs)=>G5 Θ Y S g caps a us xs o.dst fun S3=>Bu Θ Y all os S3 κ
   | none=>Mb S all o fun b S1=>bif b then xI Θ Y S1 o fun v S2=>rE S2 o.dst v fun S3=>Bu Θ Y all os S3 κ else rE S1 o.dst (V.tup []) fun S3=>Bu Θ Y all os S3 κ
def gone:Nat→List (Option bG)→List (Option bG)→List Nat
 | n,some _::l,none::m=>n::gone (n+1) l m
 | n,_::l,_::m=>gone (n+1) l m
 | _,_,_=> []
def OE (l:List (Option bG)):List T:=l.map fun x=>match x with | some tr=>tr.tree | none=> .dd
def zw (S S':TS):gA:=⟨S.gh.length,OE (S'.gh.drop S.gh.length),gone 0 S.gh S'.gh⟩
def Rp (d:Nat) (o:Oper):Bool:=match o.dst with | some d'=> !(Nat.beq d d') | none=>true
def SO (o:Oper) (os:List Oper):Bool:=match o.dst with | some d=>os.all (Rp d) | none=>false
def Tv (Θ:ot) (t:TypeId):Bool:=match mB Θ t with
 | some ti=>(match ti.ty with | .ls _=>true | _=>false)
 | none=>false
def SP (Θ:ot) (o:Oper):Bool:=match o.op with
 | .buildSlice t _ _=>Tv Θ t
 | .call { callee:= .builtin .append,args:=_,argTypes:=ts } =>(match ts.toList with | t::_=>Tv Θ t | [] =>false)
 | _=>true
def OF:V→Bool
 | .v (.cl (.own p _ _ _ _))=>(match p.l with | [] =>true | _=>false)
 | _=>true
def Rq (S:TS) (o:Oper):Bool:=match o.op with
 | .call { callee:= .builtin .append,args:=as,argTypes:=_ } =>(match as.toList with | s::_=>OF (S.opd s) | [] =>true)
 | _=>true
def OG (Θ:ot):List Oper→TS→(TS→Option ρ)→Option ρ
 | [],S,κ=>κ S
 | o::os,S,κ=>match o.op with
   | .alloc t=>match mB Θ t with | some ti=>OG Θ os { S with bx:=S.bx++ [ti.ty.zvs.map cC] } κ | none=>none
   | _=>OG Θ os S κ
def Jb (Θ:ot) (Y:xH) (all:List Oper):List Oper→TS→List gA→(TS→List gA→Option ρ)→Option ρ
 | [],S,ms,κ=>κ S ms
 | o::os,S,ms,κ=>bif an o then Jb Θ Y all os S (ms++ [⟨S.gh.length,[],[]⟩]) κ else bif dc o then (bif o.guard.isNone then rE S o.dst (V.v (.cl (.ptrB (S.bx.length - 1 - cT os) 0))) fun S3=>Jb Θ Y all os S3 (ms++ [⟨S.gh.length,[],[]⟩]) κ else none) else
    Mb S all o fun b S1=>bif b then
     (bif i7 o then (bif SO o os&&SP Θ o&&Rq S1 o then xI Θ Y S1 o fun v S2=>rE S2 o.dst v fun S3=>Jb Θ Y all os S3 (ms++ [zw S1 S2]) κ else none)
     else Dc Θ S1 o fun v S2=>rE S2 o.dst v fun S3=>Jb Θ Y all os S3 (ms++ [⟨S1.gh.length,[],[]⟩]) κ)
     else rE S1 o.dst (V.tup []) fun S3=>Jb Θ Y all os S3 (ms++ [⟨S1.gh.length,[],[]⟩]) κ
def OH (Θ:ot) (Y:xH):List Oper→TS→(TS→Option ρ)→Option ρ
 | [],S,κ=>κ S
 | o::os,S,κ=>bif an o then (bif o.guard.isNone&&o.dst.isNone then xI Θ Y S o fun _ S1=>OH Θ Y os S1 κ else none) else OH Θ Y os S κ
def OI (Θ:ot) (t:TypeId):Bool:=match mB Θ t with | some ti=>ti.ty.flatB | none=>false
def RQ (Θ:ot) (Y:xH) (ops:List Oper) (S:TS) (κ:TS→Option ρ):Option ρ:=
 OG Θ ops S fun S0=>Jb Θ Y ops ops S0 [] fun SV ms=>bif KK (OI Θ) ops (fJ ops) S0.st ms SV.st then OH Θ Y ops SV κ else none
def b8:Code→Nat
 | .region id _ _=>id
 | .seq a _=>b8 a
 | .block _ c=>b8 c
 | .loop c=>b8 c
 | _=>0
abbrev om:=Nat→TS→(ρ:Type)→(X→TS→Option ρ)→Option ρ
noncomputable def eP (Θ:ot) (Y:xH) (Λ:om):Code→TS→(X→TS→Option ρ)→Option ρ
 | .skip,S,κ=>κ .nor S
 | .region _ ops false,S,κ=>Bu Θ Y ops.toList ops.toList S (κ .nor)
 | .region _ ops true,S,κ=>RQ Θ Y ops.toList S (κ .nor)
 | .seq a b,S,κ=>eP Θ Y Λ a S fun x S1=>match x with | .nor=>eP Θ Y Λ b S1 κ | x=>κ x S1
 | .cond c a b,S,κ=>I4 S c fun t S1=>bif t then eP Θ Y Λ a S1 κ else eP Θ Y Λ b S1 κ
 | .block id c,S,κ=>eP Θ Y Λ c S fun x S1=>match x with | .ext i=>bif Nat.beq i id then κ .nor S1 else κ (.ext i) S1 | x=>κ x S1
 | .loop c,S,κ=>Λ (b8 c) S ρ κ
 | .exit id,S,κ=>κ (.ext id) S
 | .ret,S,κ=>κ .ret S
 | _,_,_=>none
def Qr (S:TS) (gs:List bG) (et:Option Ty) (c:Cl) (κ:Cl→List bG→TS→Option ρ):Option ρ:=match c,et with
 | .c (.sc v),_=>κ (.c (.sc v)) gs S
 | .em,some t=>κ (.own ⟨gs.length,[]⟩ t.width 0 0 true) (gs++ [⟨t,[],none⟩]) S
 | .own p sz lo len w,some t'=>match p.l with
   | [] =>bif Nat.ble S.fz p.r&&Nat.beq t'.width sz then qC S p fun t l=>bif Nat.beq t.width sz then
     (bif w then κ (.own ⟨gs.length,[]⟩ sz 0 l.length true) (gs++ [⟨t,l,none⟩]) { S with gh:=cS S.gh p.r none }
     else aq (lo=0∧len≤l.length) (κ (.own ⟨gs.length,[]⟩ sz 0 (l.take len).length true) (gs++ [⟨t,l.take len,none⟩]) { S with gh:=cS S.gh p.r none }) none) else none
     else none
   | _=>none
 | _,_=>none
def Mc:TS→List bG→List (Option Ty)→List Cl→(List Cl→List bG→TS→Option ρ)→Option ρ
 | S,gs,et::ets,c::cs,κ=>Qr S gs et c fun c' gs' S'=>Mc S' gs' ets cs fun cs' gs'' S''=>κ (c'::cs') gs'' S''
 | S,gs,[],[],κ=>κ [] gs S
 | _,_,_,_,_=>none
def RR (Θ:ot) (S:TS) (gs:List bG) (t:TypeId) (v:V) (κ:V1→List bG→TS→Option ρ):Option ρ:=match mB Θ t with
 | none=>none
 | some ti=>match v with
   | .v (.agg cs)=>Mc S gs ti.ty.csh cs fun cs' gs' S'=>κ (.agg cs') gs' S'
   | .v (.cl c)=>Qr S gs (ti.ty.csh.headD none) c fun c' gs' S'=>κ (.cl c') gs' S'
   | _=>none
def rF (Θ:ot):TS→List bG→List (TypeId×V)→(List V1→List bG→Option ρ)→Option ρ
 | _,gs,[],κ=>κ [] gs
 | S,gs,(t,v)::r,κ=>RR Θ S gs t v fun v' gs' S'=>rF Θ S' gs' r fun vs gs''=>κ (v'::vs) gs''
def Bv (Θ:ot) (S:TS):List ResultVar→List TypeId→(List (TypeId×V)→Option ρ)→Option ρ
 | .tmp a::rs,t::ts,κ=>Bv Θ S rs ts fun l=>κ ((t,gC S.env a)::l)
 | .cell a t'::rs,t::ts,κ=>I5 Θ S t' (gC S.env a) fun v=>Bv Θ S rs ts fun l=>κ ((t,v)::l)
 | [],[],κ=>κ []
 | _,_,_=>none
def vo:List V1→V
 | [v] => .v v
 | vs=> .tup vs
def kJ:Nat→List V1→List (Nat×V)
 | _,[] => []
 | n,v::l=>(n, .v v)::kJ (n+1) l
noncomputable def TK (Θ:ot) (Y:xH) (Λ:om) (fn:Func) (args:List V1) (κ:V→List bG→Option ρ):Option ρ:=match fn.body with
 | none=>none
 | some c=>eP Θ Y Λ c { env:=kJ 0 args,bx:= [],gh:= [],fz:=0,nt:=args.length+(fn.ntmps - args.length) } fun x S=>match x with
   | .ext _=>none
   | _=>Bv Θ S fn.results.toList fn.resultTypes.toList fun rs=>rF Θ S [] rs fun vs gs=>κ (vo vs) gs
def G7:List Cl→Option (List C)
 | [] =>some []
 | .c x::l=>match G7 l with | some r=>some (x::r) | none=>none
 | _=>none
def un (t:Ty) (a:V1) (κ:t.D→Option ρ):Option ρ:=match a with
 | .agg cs=>bif t.ag then (match G7 cs with
   | some xs=>(match t.unflat xs with | some x=>κ x | none=>none)
   | none=>none) else none
 | .cl (.c y)=>bif t.ag then none else (match t.unflat [y] with | some x=>κ x | none=>none)
 | _=>none
def tF:List C→Nat→List Cl
 | [],_=> []
 | .sc v::r,n=> .c (.sc v)::tF r n
 | .ls t l::r,n=> .own ⟨n,[]⟩ t.width 0 l.length true::tF r (n+1)
def lR:List C→List bG
 | [] => []
 | .sc _::r=>lR r
 | .ls t l::r=>⟨t,l,none⟩::lR r
def Dh (t:Ty) (x:t.D) (n:Nat):V1:=bif t.ag then .agg (tF (t.flat x) n) else match tF (t.flat x) n with | [c] => .cl c | _=> .cl .dead
def vD:Nat→List ((t:Ty)×t.D)→List V1
 | _,[] => []
 | n,⟨t,x⟩::r=>Dh t x n::vD (n+(lR (t.flat x)).length) r
def vE:List ((t:Ty)×t.D)→List bG
 | [] => []
 | ⟨t,x⟩::r=>lR (t.flat x)++vE r
def ret (l:List ((t:Ty)×t.D)) (κ:V→List bG→Option ρ):Option ρ:=κ (vo (vD 0 l)) (vE l)
end
abbrev bA:=List V1→(ρ:Type)→(V→List bG→Option ρ)→Option ρ
def RS:List (Nat×bA)→FuncId→List V1→(ρ:Type)→(V→List bG→Option ρ)→Option ρ
 | [],_,_,_,_=>none
 | (g,e)::l,f,as,ρ,κ=>bif Nat.beq g f then e as ρ κ else RS l f as ρ κ
def RT:List (Nat×bA)→Nat→Bool
 | [],_=>false
 | (g,_)::l,f=>bif Nat.beq g f then true else RT l f
def aP (l:List (Nat×bA)):xH:=⟨RS l,fun g=>bif RT l (lC g) then 1 else bif RT l (Dd g) then 2 else 0⟩
noncomputable def Qs {ρ:Type} (Θ:ot) (Y:xH) (Λ:om) (fn:Func) (m:Nat) (el:Ty) (l:List el.D) (args:List V1) (κ:V→List bG→Option ρ):Option ρ:=match fn.body with
 | none=>none
 | some c=>eP Θ Y Λ c { env:=kJ 0 (.cl (.own ⟨0,[]⟩ el.width 0 l.length true)::args),bx:= [],gh:= [some ⟨el,l,none⟩],fz:=m,nt:=(args.length+1)+(fn.ntmps - (args.length+1)) } fun x S=>match x with
   | .ext _=>none
   | _=>Bv Θ S fn.results.toList fn.resultTypes.toList fun rs=>bif Nat.beq m 0 then rF Θ S [] rs fun vs gs=>κ (vo vs) gs else match cK S.gh 0 with
     | some ⟨t,l',none⟩=>rF Θ S [⟨t,l',none⟩] rs fun vs gs=>κ (vo vs) gs
     | _=>none
def u9 (S:TS):Nat→Nat→Option (List bG)
 | _,0=>some []
 | r,n+1=>(match cK S.gh r with
   | some ⟨t,l,none⟩=>(match u9 S (r+1) n with | some ts=>some (⟨t,l,none⟩::ts) | none=>none)
   | _=>none)
noncomputable def RU {ρ:Type} (Θ:ot) (Y:xH) (Λ:om) (fn:Func) (t:Ty) (x:t.D) (args:List V1) (κ:V→List bG→Option ρ):Option ρ:=match fn.body with
 | none=>none
 | some c=>eP Θ Y Λ c { env:=kJ 0 (Dh t x 0::args),bx:= [],gh:=(lR (t.flat x)).map some,fz:=(lR (t.flat x)).length,nt:=(args.length+1)+(fn.ntmps - (args.length+1)) } fun y S=>match y with
   | .ext _=>none
   | _=>Bv Θ S fn.results.toList fn.resultTypes.toList fun rs=>match u9 S 0 (lR (t.flat x)).length with
     | some gs=>rF Θ S gs rs fun vs gs'=>κ (vo vs) gs'
     | none=>none
def Md (t:Ty) (x:t.D):V1:=bif t.ag then .agg ((t.flat x).map .c) else match (t.flat x).map Cl.c with | [c] => .cl c | _=> .cl .dead
end Go.Proofs.YtkcgfceffffmoaaGreat.En
namespace Go.Proofs.YtkcgfceffffmoaaGreat.En
open Go
theorem df {α:Type}: ∀ (l:List α) (n:Nat),ol l n=l[n]?
 | [],n=>by simp [ol]
 | a::l,0=>by simp [ol]
 | a::l,n+1=>by show ol l n=_; rw [df l]; simp
theorem eV {α:Type}: ∀ (l:List α) (n:Nat) (x:α),cS l n x=l.set n x
 | [],n,x=>by simp [cS]
 | a::l,0,x=>by simp [cS]
 | a::l,n+1,x=>by show a::cS l n x=_; rw [eV l]; simp
theorem Jc: ∀ {l:List (Nat×V)} {t:Nat},gC l t=V.dead∨(t,gC l t)∈l
 | [],t=> .inl rfl
 | (u,v)::l,t=>by
   simp only [gC]
   cases h:Nat.beq u t with
   | true=>
     have :u=t:=Nat.eq_of_beq_eq_true h
     subst this
     exact .inr (List.mem_cons_self)
   | false=>
     rcases Jc (l:=l) (t:=t) with h' | h'
     ·exact .inl h'
     ·exact .inr (List.mem_cons_of_mem _ h')
def Cl.ok (G:List (Option bG)):Cl→Prop
 | .own p _ lo len w=>p.r < G.length∧(w=true→p.l= [] ∧lo=0∧ ∀ tr,cK G p.r=some tr→len=tr.l.length)
 | .ptrT p _ _ _=>p.r < G.length
 | _=>True
def V1.ok (G:List (Option bG)):V1→Prop
 | .cl c=>c.ok G
 | .agg cs=> ∀ c∈cs,c.ok G
 | .fn _ cs=> ∀ c∈cs,c.ok G
def V.ok (G:List (Option bG)):V→Prop
 | .v x=>x.ok G
 | .tup l=> ∀ x∈l,x.ok G
structure TS.ok (S:TS):Prop where
 env: ∀ x∈S.env,x.2.ok S.gh
 bx: ∀ cs∈S.bx,∀ c∈cs,c.ok S.gh
def gr (G G':List (Option bG)):Prop:=G.length≤G'.length∧ ∀ r tr',r < G.length→cK G' r=some tr'→ ∃ tr,cK G r=some tr∧tr.l.length=tr'.l.length
theorem gr.refl (G:List (Option bG)):gr G G:=⟨Nat.le_refl _,fun _ tr _ h=>⟨tr,h,rfl⟩⟩
theorem gr.trans {G H K:List (Option bG)} (h:gr G H) (k:gr H K):gr G K:=⟨Nat.le_trans h.1 k.1,fun r tr hr hK=>by
 obtain⟨t1,h1,h2⟩:=k.2 r tr (Nat.lt_of_lt_of_le hr h.1) hK
 obtain⟨t2,h3,h4⟩:=h.2 r t1 hr h1
 exact⟨t2,h3,h4.trans h2⟩⟩
theorem Cl.ok_mono {G G':List (Option bG)} (h:gr G G') {c:Cl} (hc:c.ok G):c.ok G':=by
 cases c with
 | own p sz lo len w=>
   obtain⟨h1,h2⟩:=hc
   refine⟨Nat.lt_of_lt_of_le h1 h.1,fun hw=> ?_⟩
   obtain⟨a,b,c⟩:=h2 hw
   refine⟨a,b,fun tr htr=> ?_⟩
   obtain⟨tr0,k1,k2⟩:=h.2 _ tr h1 htr
   rw [c tr0 k1,k2]
 | ptrT p sz i j=>exact Nat.lt_of_lt_of_le hc h.1
 | _=>trivial
theorem V1.ok_mono {G G':List (Option bG)} (h:gr G G') {v:V1} (hv:v.ok G):v.ok G':=by
 cases v with
 | cl c=>exact Cl.ok_mono h hv
 | agg cs=>exact fun c hc=>Cl.ok_mono h (hv c hc)
 | fn f cs=>exact fun c hc=>Cl.ok_mono h (hv c hc)
theorem V.ok_mono {G G':List (Option bG)} (h:gr G G') {v:V} (hv:v.ok G):v.ok G':=by
 cases v with
 | v x=>exact V1.ok_mono h hv
 | tup l=>exact fun x hx=>V1.ok_mono h (hv x hx)
theorem V.ok_dead (G:List (Option bG)):V.dead.ok G:=trivial
theorem V.ok_sc (G:List (Option bG)) (v:Value): (V.sc v).ok G:=trivial
theorem CA {S:TS} (hS:S.ok) (t:Nat): (gC S.env t).ok S.gh:=by
 rcases Jc (l:=S.env) (t:=t) with h | h
 ·rw [h]; trivial
 ·exact hS.env _ h
theorem ph (v:Value): (cC v).av=Cu v:=by
 unfold cC Cu
 cases h:pq v with
 | true=>rfl
 | false=>
   simp only [cond_false,Bool.false_eq_true,if_false]
   split
   ·rfl
   ·split
    ·exact absurd rfl ‹_›
    ·rfl
theorem SQ (v:Value): (cV v).av=EW v:=by
 cases v with
 | agg cs=>
   simp only [cV,EW]
   cases h:cs.toList.all Value.oneCell' with
   | true=>
     simp only [cond_true,if_true]
     simp only [V.av,V1.av,List.map_map]
     congr 1
     exact List.map_congr_left fun x _=>ph x
   | false=>rfl
 | bool b=>exact ph (.bool b)
 | int k n=>exact ph (.int k n)
 | float k n=>exact ph (.float k n)
 | complex k n m=>exact ph (.complex k n m)
 | string x=>exact ph (.string x)
 | pointer x=>exact ph (.pointer x)
 | slice x y z=>exact ph (.slice x y z)
 | map x=>exact ph (.map x)
 | chan x=>exact ph (.chan x)
 | func x y z=>exact ph (.func x y z)
 | nilFunc=>exact ph .nilFunc
 | iface x y=>exact ph (.iface x y)
 | nilIface=>exact ph .nilIface
 | tuple x=>exact ph (.tuple x)
theorem Me (G:List (Option bG)) (v:Value): (cC v).ok G:=by
 unfold cC
 cases pq v with
 | true=>trivial
 | false=>simp only [cond_false]; split <;> trivial
theorem SR (G:List (Option bG)) (v:Value): (cV v).ok G:=by
 unfold cV
 split
 ·rename_i cs
  cases cs.toList.all Value.oneCell' with
  | true=>intro c hc; simp only [List.mem_map] at hc; obtain⟨x,_,rfl⟩:=hc; exact Me _ _
  | false=>trivial
 ·exact Me _ _
theorem aZ {S:TS} (x:Operand):opd S.st x=(S.opd x).av:=by
 cases x with
 | tmp t=>rfl
 | const v=>exact (SQ v).symm
 | func f=>rfl
 | global g=>rfl
theorem kK {S:TS} (hS:S.ok) (x:Operand): (S.opd x).ok S.gh:=by
 cases x with
 | tmp t=>exact CA hS t
 | const v=>exact SR _ _
 | func f=>trivial
 | global g=>trivial
section
variable {ρ:Type}
theorem Qt {α:Type} {b:Bool} {x y:Option α} {r:α} (h:br b x y=some r): (b=true∧x=some r)∨(b=false∧y=some r):=by
 cases b with
 | true=>exact .inl ⟨rfl,h⟩
 | false=>exact .inr ⟨rfl,h⟩
theorem c8 {α:Type} {c:Prop} [Decidable c] {x:Option α} {r:α} (h:aq c x none=some r):c∧x=some r:=by
 unfold aq at h
 split at h
 ·exact⟨‹_›,h⟩
 ·cases h
theorem zx {α:Type} {c:Prop} [Decidable c] {x:Option α} {r:α} (h:aq c none x=some r): ¬ c∧x=some r:=by
 unfold aq at h
 split at h
 ·cases h
 ·exact⟨‹_›,h⟩
theorem am {α:Type} {c:Bool} {x:Option α} {r:α} (h: (bif c then x else none)=some r):c=true∧x=some r:=by
 cases c with
 | true=>exact⟨rfl,h⟩
 | false=>cases h
theorem Jd {S:TS} {t:Nat} {b:Bool} (h:gC S.env t=V.sc (.bool b)): ({ S with env:=(t,V.sc (.bool b))::S.env }:TS).st=S.st:=by
 unfold TS.st
 simp only
 congr 1
 funext u
 simp only [gC]
 cases hb:Nat.beq t u with
 | true=>
   have :t=u:=Nat.eq_of_beq_eq_true hb
   subst this
   rw [h]
   rfl
 | false=>rfl
theorem Je {S:TS} (hS:S.ok) (t:Nat) (b:Bool): ({ S with env:=(t,V.sc (.bool b))::S.env }:TS).ok:=
 ⟨fun x hx=>by
  simp only [List.mem_cons] at hx
  rcases hx with rfl | hx
  ·trivial
  ·exact hS.env x hx,hS.bx⟩
theorem Di {S:TS} (hS:S.ok) {x:Operand} {κ:Bool→TS→Option ρ} {r:ρ} (h:I4 S x κ=some r):
  ∃ b S',opd S.st x= .sc (.bool b)∧S'.st=S.st∧S'.ok∧S'.gh=S.gh∧κ b S'=some r:=by
 unfold I4 at h
 split at h
 ·rename_i t
  split at h
  ·rename_i b hb
   rcases Qt h with ⟨rfl,h⟩ | ⟨rfl,h⟩
   ·exact⟨true,_,by show (gC S.env t).av=_; rw [hb]; rfl,Jd hb,Je hS _ _,rfl,h⟩
   ·exact⟨false,_,by show (gC S.env t).av=_; rw [hb]; rfl,Jd hb,Je hS _ _,rfl,h⟩
  ·cases h
 ·rename_i b
  exact⟨b,S,rfl,rfl,hS,rfl,h⟩
 ·cases h
theorem CB {v:V} {κ:Int→Option ρ} {r:ρ} (h:Na v κ=some r): ∃ n,GF v.av=some n∧κ n=some r:=by
 unfold Na at h
 split at h
 ·exact⟨_,rfl,h⟩
 ·cases h
theorem bG.look {G:List (Option bG)} {r:Nat} {tr:bG} (h:ol G r=some (some tr)):cK G r=some tr:=by
 unfold cK
 rw [h]
 rfl
theorem eu {S:TS} {p:bJ} {κ: (t:Ty)→List t.D→Option ρ} {r:ρ} (h:qC S p κ=some r):
  ∃ (t:Ty) (l:List t.D),S.st.look p= .sl t.width (l.map t.row)∧(p.l= [] →cK S.gh p.r=some ⟨t,l,none⟩)∧κ t l=some r:=by
 unfold qC at h
 split at h
 ·rename_i tr htr
  have hg:=bG.look htr
  split at h
  ·rename_i hh
   obtain⟨t,l,hole⟩:=tr
   simp only at hh
   subst hh
   split at h
   ·rename_i hp
    refine⟨t,l,?_,fun _=>hg,h⟩
    unfold St.look
    have :S.st.gh p.r=some (.sl t.width (l.map t.row)):=by show (cK S.gh p.r).map bG.tree=_; rw [hg]; rfl
    rw [this,hp]
    rfl
   ·rename_i i j hp
    simp only [Option.bind_eq_some_iff] at h
    obtain⟨x,hx,h⟩:=h
    split at h
    ·rename_i t' l' hj
     refine⟨t',l',?_,(fun h0=>by rw [hp] at h0; cases h0),h⟩
     unfold St.look
     have :S.st.gh p.r=some (.sl t.width (l.map t.row)):=by show (cK S.gh p.r).map bG.tree=_; rw [hg]; rfl
     rw [this,hp]
     simp only [T.go,T.cell]
     have e1: (l.map t.row).getD i [] =t.row x:=by simp [List.getD_eq_getElem?_getD,hx]
     rw [e1,t.row_flat]
     rw [df] at hj
     simp [List.getD_eq_getElem?_getD,hj,C.tree]
    ·cases h
   ·cases h
  ·cases h
 ·cases h
end
end Go.Proofs.YtkcgfceffffmoaaGreat.En
namespace Go.Proofs.YtkcgfceffffmoaaGreat.En
open Go
def Ty.shs (t:Ty):List Nat:=t.csh.map fun | some e=>e.width | none=>0
structure TI.ok (P:Program) (t:TypeId) (ti:TI):Prop where
 ag:EV P t=some ti.ty.ag
 cells:P.cellsOf t=ti.ty.width
 sh:oh P 9 t=ti.ty.shs
 ze:zd P t=some ti.ty.zvs
 fd: ∀ k,N3 P t k=ol ti.fds k
 pl:ti.ty.ag=true→SF P t=some (ti.fds.map fun x=>(x.1,x.2.1))
 el: ∀ e,ti.ty= .ls e→ ∃ el,xn P t=some el∧P.cellsOf el=e.width∧P.bytesOf el=ti.el∧0 < ti.el∧oh P 9 el=e.shs∧zd P el=some e.zvs
 bool:ti.ty= .b→P.underlying t=some .bool
 gu:ti.ty.ag=true→ti.ty.flatB=true→P.eqGuardType P.depth t=false
 eq:ti.ty.ag=true→ ∀ (a b:List Cl) (r:Bool) (xs ys:List Value),ky ti.ty.zvs a=true→ky ti.ty.zvs b=true→u5 a b=some r→a=xs.map (fun x=> .c (.sc x))→b=ys.map (fun x=> .c (.sc x))→bu P (Op.equal t (.agg xs.toArray) (.agg ys.toArray))=some r
 str:GD P t=(match ti.ty with | .s=>true | _=>false)
 int: ∀ k,ti.ty= .i k→P.underlying t=some (.int k)
def dG (P:Program) (Θ:ot):Prop:= ∀ t ti,mB Θ t=some ti→ti.ok P t
theorem Ty.width_pos (t:Ty):0 < t.width:=by
 cases t with
 | st n=>cases n <;> decide
 | _=>exact Nat.one_pos
theorem C.ro_tree (c:C):T.ro c.tree=c.av:=by cases c <;> rfl
theorem C.own_tree (p:bJ) (i m:Nat) (c:C):N5 p i m c.tree=(K5 p i m c).av:=by
 cases c with
 | sc v=>rfl
 | ls t l=>simp [N5,C.tree,K5,Cl.av]
theorem zy {α β:Type} (f:Nat→α→β): ∀ (j:Nat) (l:List α) (k:Nat),(zu f j l)[k]? =(l[k]?).map (f (j+k))
 | j,[],k=>by simp [zu]
 | j,a::l,0=>by simp [zu]
 | j,a::l,k+1=>by simp only [zu,List.getElem?_cons_succ]; rw [zy f (j+1) l k]; congr 2; omega
section
variable {ρ:Type} {P:Program} {Θ:ot} {S:TS}
theorem kr {p:bJ} {sz:Nat} {rows:List (List T)} (h:S.st.look p= .sl sz rows):S.st.rows p sz=some rows:=by
 unfold St.rows
 rw [h]
 simp
theorem Nd (hS:S.ok) {n:Nat} {v:Cl} (hv:v.ok S.gh) {κ:List Cl→Option ρ} {r:ρ} (h:K6 S n v κ=some r):
  ∃ cs:List Cl,cF S.st n v.av=some (cs.map Cl.av)∧(∀ c∈cs,c.ok S.gh)∧κ cs=some r:=by
 unfold K6 at h
 split at h
 ·rename_i b j
  split at h
  ·rename_i cs hcs
   obtain⟨h1,h⟩:=am h
   have h1:j+n≤cs.length:=Nat.le_of_ble_eq_true h1
   refine⟨_,?_,fun c hc=> ?_,h⟩
   ·simp only [Cl.av,cF,TS.st,hcs,Option.map_some,Option.bind_some,List.length_map]
    rw [if_pos h1]
    simp [List.map_take,List.map_drop]
   ·rw [df] at hcs
    exact hS.bx cs (List.mem_of_getElem? hcs) c (List.mem_of_mem_drop (List.mem_of_mem_take hc))
  ·cases h
 ·rename_i cells
  obtain⟨h1,h⟩:=am h
  have h1:n≤cells.length:=Nat.le_of_ble_eq_true h1
  refine⟨_,?_,fun c hc=> ?_,h⟩
  ·simp only [Cl.av,cF,List.length_map]
   rw [if_pos h1]
   congr 1
   rw [←List.map_take,List.map_map,List.map_map]
   exact List.map_congr_left fun c _=>C.ro_tree c
  ·obtain⟨x,_,rfl⟩:=List.mem_map.1 hc
   trivial
 ·rename_i p sz i j
  obtain⟨t,l,h1,_,h5⟩:=eu h
  obtain⟨h2,h6⟩:=am h5
  clear h h5
  simp only [Bool.and_eq_true] at h2
  have h3:t.width=sz:=Nat.eq_of_beq_eq_true h2.1
  have h4:j+n≤sz:=Nat.le_of_ble_eq_true h2.2
  subst h3
  obtain⟨x,hx,h⟩:=Option.bind_eq_some_iff.1 h6
  have hil:i < l.length:=(List.getElem?_eq_some_iff.1 hx).1
  have hfl: (t.flat x).length=t.width:=t.flat_length x
  refine⟨_,?_,fun c hc=> ?_,h⟩
  ·have e1: (l.map t.row).getD i [] =t.row x:=by simp [List.getD_eq_getElem?_getD,hx]
   simp only [Cl.av,cF,kr h1]
   rw [e1,if_pos ⟨by simpa using hil,by rw [t.row_length]; exact h4⟩]
   congr 1
   apply List.ext_getElem?
   intro k
   rw [List.getElem?_map,List.getElem?_map,zy]
   by_cases hk:k < n
   ·have hjk:j+k < (t.flat x).length:=by omega
    rw [List.getElem?_range hk,List.getElem?_take,if_pos hk,List.getElem?_drop,List.getElem?_eq_getElem hjk]
    simp only [Option.map_some]
    rw [t.row_flat,List.getD_eq_getElem?_getD,List.getElem?_map,List.getElem?_eq_getElem hjk]
    simp only [Option.map_some,Option.getD_some]
    rw [C.own_tree]
   ·rw [List.getElem?_take,if_neg hk,List.getElem?_eq_none (by simp; omega)]
    rfl
  ·obtain⟨k,hk⟩:=List.getElem?_of_mem hc
   rw [zy] at hk
   simp only [Option.map_eq_some_iff] at hk
   obtain⟨y,_,rfl⟩:=hk
   cases y with
   | sc v=>trivial
   | ls t' l'=>exact⟨hv,fun h=>by cases h⟩
 ·cases h
theorem OJ {G:List (Option bG)} {ag:Bool} {cs:List Cl} (hcs: ∀ c∈cs,c.ok G) {κ:V→Option ρ} {r:ρ} (h:Tu ag cs κ=some r): ∃ v,Rj ag (cs.map Cl.av)=some v.av∧v.ok G∧κ v=some r:=by
 unfold Tu at h
 cases ag with
 | true=>refine⟨_,rfl,?_,h⟩; exact hcs
 | false=>
   simp only [cond_false] at h
   split at h
   ·rename_i c
    refine⟨_,rfl,?_,h⟩; exact hcs c (by simp)
   ·cases h
theorem Jf (hΘ:dG P Θ) (hS:S.ok) {t:TypeId} {v:V} (hv:v.ok S.gh) {κ:V→Option ρ} {r:ρ} (h:I5 Θ S t v κ=some r):
  ∃ u,load P S.st t v.av=some u.av∧u.ok S.gh∧κ u=some r:=by
 unfold I5 at h
 split at h
 ·rename_i ti hti
  have hok:=hΘ _ _ hti
  split at h
  ·rename_i a
   obtain⟨cs,h1,h2,h⟩:=Nd hS hv h
   obtain⟨u,h3,h4,h⟩:=OJ h2 h
   refine⟨u,?_,h4,h⟩
   unfold load
   rw [hok.ag,hok.cells]
   simp only [Option.bind_some,V.av,V1.av,h1]
   exact h3
  ·cases h
 ·cases h
theorem Qu {n:Nat} {i:Int} {v:Cl} (hv:v.ok S.gh) {κ:Cl→Option ρ} {r:ρ} (h:RL n i S v κ=some r): ∃ c,xp n i v.av=some c.av∧c.ok S.gh∧κ c=some r:=by
 unfold RL at h
 split at h
 ·rename_i t l
  obtain⟨h1,h⟩:=am h
  have h1:t.width=n:=Nat.eq_of_beq_eq_true h1
  obtain⟨h2,h⟩:=c8 h
  obtain⟨x,hx,h⟩:=Option.bind_eq_some_iff.1 h
  have hil:=(List.getElem?_eq_some_iff.1 hx).1
  refine⟨_,?_,?_,h⟩
  rotate_left
  ·trivial
  simp only [Cl.av,C.av,xp,List.length_map]
  rw [if_pos ⟨h2,by omega,h1⟩]
  congr 1
  simp [List.getD_eq_getElem?_getD,hx,t.row_flat]
 ·rename_i p sz lo len
  obtain⟨h1,h⟩:=am h
  have h1:sz=n:=Nat.eq_of_beq_eq_true h1
  obtain⟨t,l,h2,h3,h⟩:=eu h
  obtain⟨h4,h⟩:=c8 h
  obtain⟨h5,h6⟩:=hv
  obtain⟨h7,h8,h9⟩:=h6 rfl
  have h10:=h9 _ (h3 h7)
  simp only at h10
  refine⟨_,?_,?_,h⟩
  rotate_left
  ·exact h5
  simp only [Cl.av,xp]
  rw [if_pos ⟨h4.1,by omega,h1⟩,h8,Nat.zero_add]
 ·rename_i p sz lo len
  obtain⟨h1,h⟩:=am h
  have h1:sz=n:=Nat.eq_of_beq_eq_true h1
  obtain⟨h4,h⟩:=c8 h
  refine⟨_,?_,?_,h⟩
  rotate_left
  ·exact hv.1
  simp only [Cl.av,xp]
  rw [if_pos ⟨h4.1,h4.2,h1⟩]
 ·cases h
theorem Mf {v:Cl} (hv:v.ok S.gh) {κ:Int→Option ρ} {r:ρ} (h:Qn S v κ=some r): ∃ n,sX v.av=some n∧κ n=some r:=by
 unfold Qn at h
 split at h
 ·exact⟨_,by simp [Cl.av,C.av,sX],h⟩
 ·obtain⟨t,l,h2,h3,h⟩:=eu h
  obtain⟨h5,h6⟩:=hv
  obtain⟨h7,h8,h9⟩:=h6 rfl
  have h10:=h9 _ (h3 h7)
  simp only at h10
  exact⟨_,by simp [Cl.av,sX,h10],h⟩
 ·exact⟨_,rfl,h⟩
 ·exact⟨_,rfl,h⟩
 ·cases h
theorem Qv {n:Nat} {lo hi:Int} {v:Cl} (hv:v.ok S.gh) {κ:Cl→Option ρ} {r:ρ} (h:RM n lo hi v κ=some r): ∃ c,Rk n lo hi v.av=some c.av∧c.ok S.gh∧κ c=some r:=by
 unfold RM at h
 split at h
 ·obtain⟨h1,h⟩:=c8 h
  exact⟨.em,by simp [Cl.av,Rk,h1],trivial,h⟩
 ·rename_i t l
  obtain⟨h1,h⟩:=am h
  have h1:t.width=n:=Nat.eq_of_beq_eq_true h1
  obtain⟨h2,h⟩:=c8 h
  refine⟨_,?_,?_,h⟩
  rotate_left
  ·trivial
  simp only [Cl.av,C.av,Rk,List.length_map]
  rw [if_pos ⟨h1,h2⟩]
  simp [List.map_take,List.map_drop]
 ·rename_i p sz l len w
  obtain⟨h1,h⟩:=am h
  have h1:sz=n:=Nat.eq_of_beq_eq_true h1
  obtain⟨h2,h⟩:=c8 h
  refine⟨_,?_,?_,h⟩
  rotate_left
  ·exact⟨hv.1,fun h=>by cases h⟩
  simp only [Cl.av,Rk]
  rw [if_pos ⟨h1,h2⟩]
 ·cases h
theorem F8 {d:Int} {x:Option Operand} {κ:Int→Option ρ} {r:ρ} (h:G2 S d x κ=some r): ∃ n,kq S.st d x=some n∧κ n=some r:=by
 unfold G2 at h
 split at h
 ·exact⟨_,rfl,h⟩
 ·obtain⟨n,h1,h⟩:=CB h
  exact⟨n,by simp only [kq,aZ]; exact h1,h⟩
theorem Qw {G:List (Option bG)}: ∀ (parts:List (Nat×V)) (pl:List (Nat×Nat×Bool)) (cs cs':List Cl),(∀ c∈cs,c.ok G)→(∀ x∈parts,x.2.ok G)→Nb pl cs parts=some cs'→
  P5 (pl.map fun x=>(x.1,x.2.1)) (cs.map Cl.av) (parts.map fun x=>(x.1,x.2.av))=some (cs'.map Cl.av)∧ ∀ c∈cs',c.ok G:=by
 intro parts
 induction parts with
 | nil=>
   intro pl cs cs' hcs _ h
   simp only [Nb,Option.some.injEq] at h
   subst h
   exact⟨rfl,hcs⟩
 | cons x parts ih=>
   intro pl cs cs' hcs hp h
   obtain⟨k,v⟩:=x
   simp only [Nb] at h
   split at h
   ·rename_i off n ag hk
    split at h
    ·rename_i x
     have hx:x.ok G:=hp (k, .v x) (by simp)
     have b8: ∀ (hd: (V.v x).av.isDead=false) (hcell: (V.v x).av.cells=x.cells.map Cl.av) (hcok: ∀ c∈x.cells,c.ok G)
       (h: (bif Nat.beq x.cells.length n&&Nat.ble (off+n) cs.length then Nb pl (cs.take off++x.cells++cs.drop (off+n)) parts else none)=some cs'),
       P5 (pl.map fun x=>(x.1,x.2.1)) (cs.map Cl.av) (((k,V.v x)::parts).map fun x=>(x.1,x.2.av))=some (cs'.map Cl.av)∧ ∀ c∈cs',c.ok G:=by
      intro hd hcell hcok h
      obtain⟨h1,h⟩:=am h
      simp only [Bool.and_eq_true] at h1
      have h2:x.cells.length=n:=Nat.eq_of_beq_eq_true h1.1
      have h3:off+n≤cs.length:=Nat.le_of_ble_eq_true h1.2
      obtain⟨g1,g2⟩:=ih pl _ cs' (fun c hc=>by
       simp only [List.mem_append] at hc
       rcases hc with (hc | hc) | hc
       ·exact hcs c (List.mem_of_mem_take hc)
       ·exact hcok c hc
       ·exact hcs c (List.mem_of_mem_drop hc)) (fun y hy=>hp y (List.mem_cons_of_mem _ hy)) h
      refine⟨?_,g2⟩
      rw [df] at hk
      simp only [List.map_cons,P5,List.getElem?_map,hk,Option.map_some]
      rw [if_pos ⟨hd,by rw [hcell]; simpa using h2,by simpa using h3⟩,←g1,hcell]
      simp [List.map_take,List.map_drop]
     cases x with
     | cl c=>cases c with
       | dead=>cases h
       | c y=>cases y <;> exact b8 rfl rfl (fun c hc=>by simp only [V1.cells,List.mem_singleton] at hc; subst hc; exact hx) h
       | em=>exact b8 rfl rfl (fun c hc=>by simp only [V1.cells,List.mem_singleton] at hc; subst hc; exact hx) h
       | own p sz lo len w=>exact b8 rfl rfl (fun c hc=>by simp only [V1.cells,List.mem_singleton] at hc; subst hc; exact hx) h
       | pro cs=>exact b8 rfl rfl (fun c hc=>by simp only [V1.cells,List.mem_singleton] at hc; subst hc; exact hx) h
       | ptrB n j=>exact b8 rfl rfl (fun c hc=>by simp only [V1.cells,List.mem_singleton] at hc; subst hc; exact hx) h
       | ptrT p sz i j=>exact b8 rfl rfl (fun c hc=>by simp only [V1.cells,List.mem_singleton] at hc; subst hc; exact hx) h
     | agg cs2=>exact b8 rfl rfl hx h
     | fn f cs2=>cases h
    ·cases h
   ·cases h
end
end Go.Proofs.YtkcgfceffffmoaaGreat.En
namespace Go.Proofs.YtkcgfceffffmoaaGreat.En
open Go
theorem be {α β:Type} {P:Program} (s:Sem α) (f:α→Sem β):bu P (s >>=f)=(bu P s).bind fun a=>bu P (f a):=by
 show bu P (s.bind f)=_
 induction s with
 | pure a=>rfl
 | program k ih=>exact ih P
 | _=>rfl
theorem bR {α:Type} {P:Program} (a:α):bu P (pure a)=some a:=rfl
theorem va: ∀ {zs:List Value} {a:List Cl},ky zs a=true→ ∃ xs:List Value,a=xs.map (fun x=>Cl.c (.sc x))
 | [],[],_=>⟨[],rfl⟩
 | .int k n::zs,a,h=>by
   unfold ky at h
   split at h
   ·rename_i heq
    cases heq
   ·rename_i k1 n1 zs1 k2 n2 cs h1
    have hd:=h
    cases hk:decide (k1=k2) with
    | false=>rw [hk] at h; cases h
    | true=>
      rw [hk] at h
      obtain⟨xs,hx⟩:=va (zs:=zs1) (a:=cs) h
      exact⟨.int k2 n2::xs,by rw [hx]; rfl⟩
   ·rename_i b1 zs1 b2 cs h1
    cases h1
   ·cases h
 | .bool b::zs,a,h=>by
   unfold ky at h
   split at h
   ·rename_i heq
    cases heq
   ·rename_i h1
    cases h1
   ·rename_i b1 zs1 b2 cs h1
    obtain⟨xs,hx⟩:=va (zs:=zs1) (a:=cs) h
    exact⟨.bool b2::xs,by rw [hx]; rfl⟩
   ·cases h
 | .float _ _::_,_,h=>by simp [ky] at h
 | .complex _ _ _::_,_,h=>by simp [ky] at h
 | .string _::_,_,h=>by simp [ky] at h
 | .pointer _::_,_,h=>by simp [ky] at h
 | .slice _ _ _::_,_,h=>by simp [ky] at h
 | .map _::_,_,h=>by simp [ky] at h
 | .chan _::_,_,h=>by simp [ky] at h
 | .func _ _ _::_,_,h=>by simp [ky] at h
 | .nilFunc::_,_,h=>by simp [ky] at h
 | .iface _ _::_,_,h=>by simp [ky] at h
 | .nilIface::_,_,h=>by simp [ky] at h
 | .agg _::_,_,h=>by simp [ky] at h
 | .tuple _::_,_,h=>by simp [ky] at h
 | [],_::_,h=>by simp [ky] at h
theorem Mg (f:AV→Option Value) (hf: ∀ v,f (.sc v)=some v): ∀ xs:List Value,((xs.map fun x=>Cl.c (.sc x)).map Cl.av).mapM f=some xs
 | [] =>rfl
 | x::xs=>by
   simp only [List.map_cons,List.mapM_cons,Mg f hf xs]
   show (f (.sc x)).bind _=_
   rw [hf]
   rfl
theorem Mh (xs:List Value):su (V.v (.agg (xs.map fun x=>Cl.c (.sc x)))).av=some (.agg xs.toArray):=by
 simp only [V.av,V1.av,su]
 rw [Mg _ (fun _=>rfl)]
 rfl
theorem cU {P:Program} {t:TypeId} {d:TypeDesc} (h:P.underlying t=some d):bu P (underlying t)=some d:=by
 simp only [underlying,be,program,bu,Option.bind_some,h]
 rfl
section
variable {ρ:Type} {P:Program} {Θ:ot} {S:TS}
theorem OK (hΘ:dG P Θ) {t:TypeId} {x y:V} {κ:Bool→Option ρ} {r:ρ} (h:SD Θ t x y κ=some r):
  ∃ b,κ b=some r∧((∃ k a c,x.av= .sc (.int k a)∧y.av= .sc (.int k c)∧b=(a==c))∨
    ((∀ k a k' c,¬ (x.av= .sc (.int k a)∧y.av= .sc (.int k' c)))∧ ∃ xv yv,su x.av=some xv∧su y.av=some yv∧(∀ op xo yo,bu P (eqGuard op t xo yo xv yv)=some ())∧bu P (binOp .eql t xv yv)=some (.bool b)∧bu P (binOp .neq t xv yv)=some (.bool (!b)))):=by
 unfold SD at h
 split at h
 ·rename_i k a k' c
  split at h
  ·rename_i hk
   subst hk
   exact⟨_,h, .inl ⟨k,a,c,rfl,rfl,rfl⟩⟩
  ·cases h
 ·rename_i a c
  split at h
  ·rename_i ti hti
   split at h
   ·rename_i hb
    have hu:=(hΘ _ _ hti).bool hb
    have hE:bu P (Op.equal t (.bool a) (.bool c))=some (a==c):=by
     show bu P (Op.equalIn (9999+1) t (.bool a) (.bool c))=_
     rw [Op.equalIn]
     simp only [be,cU hu,Option.bind_some,bR]
    refine⟨_,h, .inr ⟨fun k a k' c hc=>by simp [V.av,V1.av,Cl.av,C.av] at hc, .bool a, .bool c,rfl,rfl,fun op xo yo=> ?_,?_,?_⟩⟩
    ·cases op <;> simp [eqGuard,bR] <;> rfl
    ·simp only [binOp,be,hE,Option.bind_some,bR]
    ·simp only [binOp,be,hE,Option.bind_some,bR]
   ·cases h
  ·cases h
 ·rename_i a c
  split at h
  ·rename_i ti hti
   obtain⟨h1,h'⟩:=am h
   simp only [Bool.and_eq_true] at h1
   obtain⟨⟨⟨h1,hfl⟩,h2⟩,h3⟩:=h1
   split at h'
   ·rename_i b hb
    obtain⟨xs,hx⟩:=va h2
    obtain⟨ys,hy⟩:=va h3
    have hok:=hΘ _ _ hti
    have hE:=hok.eq h1 a c b xs ys h2 h3 hb hx hy
    have hg:=hok.gu h1 hfl
    refine⟨_,h', .inr ⟨fun k a k' c hc=>by simp [V.av,V1.av] at hc, .agg xs.toArray, .agg ys.toArray,by rw [hx]; exact Mh xs,by rw [hy]; exact Mh ys,fun op xo yo=> ?_,?_,?_⟩⟩
    ·cases op <;> simp [eqGuard,be,bR,program,bu,hg]
    ·simp only [binOp,be,hE,Option.bind_some,bR]
    ·simp only [binOp,be,hE,Option.bind_some,bR]
   ·cases h'
  ·cases h
 ·cases h
theorem nu {f:IntKind→Int→Int→Option ρ} {x y:V} {r:ρ} (h:V.ints f x y=some r): ∃ k a b,x.av= .sc (.int k a)∧y.av= .sc (.int k b)∧f k a b=some r:=by
 unfold V.ints at h
 split at h
 ·split at h
  ·rename_i k a k' b hk
   subst hk
   exact⟨k,a,b,rfl,rfl,h⟩
  ·cases h
 ·cases h
theorem Qx (hΘ:dG P Θ) {D:qy} {op:BinOp} {t t':TypeId} {x y:Operand} {κ:V→Option ρ} {r:ρ} (h:RN Θ op t (S.opd x) (S.opd y) κ=some r) {dst:Option Tmp} {ty:TypeId} {pos:String} {aft:Array Edge} {gd:Option (Nat×Bool)}:
  ∃ v:V,ar D P S.st ⟨dst, .binOp op t x y t',ty,pos,aft,gd⟩=some v.av∧(∀ G,v.ok G)∧κ v=some r:=by
 have eqs: ∀ (b:Bool) (xv yv:Value),su (opd S.st x)=some xv→su (opd S.st y)=some yv→bu P (eqGuard op t x y xv yv)=some ()→bu P (binOp op t xv yv)=some (.bool b)→
   bQ P S.st ⟨dst, .binOp op t x y t',ty,pos,aft,gd⟩=some (.sc (.bool b)):=by
  intro b xv yv h1 h2 h3 h4
  unfold bQ
  rw [if_pos (by simp [Op.operands,h1,h2])]
  simp only [execOp,h1,h2,Option.getD_some,be,h3,h4,Option.bind_some,bR,Tq,pq,if_true]
 cases op with
 | lss=>obtain⟨k,a,b,h1,h2,h3⟩:=nu h; exact⟨_,by simp only [ar,aZ,h1,h2,if_true]; rfl,fun G=>V.ok_sc G _,h3⟩
 | leq=>obtain⟨k,a,b,h1,h2,h3⟩:=nu h; exact⟨_,by simp only [ar,aZ,h1,h2,if_true]; rfl,fun G=>V.ok_sc G _,h3⟩
 | gtr=>obtain⟨k,a,b,h1,h2,h3⟩:=nu h; exact⟨_,by simp only [ar,aZ,h1,h2,if_true]; rfl,fun G=>V.ok_sc G _,h3⟩
 | geq=>obtain⟨k,a,b,h1,h2,h3⟩:=nu h; exact⟨_,by simp only [ar,aZ,h1,h2,if_true]; rfl,fun G=>V.ok_sc G _,h3⟩
 | add=>obtain⟨k,a,b,h1,h2,h3⟩:=nu h; exact⟨_,by simp only [ar,aZ,h1,h2,if_true]; rfl,fun G=>V.ok_sc G _,h3⟩
 | sub=>obtain⟨k,a,b,h1,h2,h3⟩:=nu h; exact⟨_,by simp only [ar,aZ,h1,h2,if_true]; rfl,fun G=>V.ok_sc G _,h3⟩
 | mul=>obtain⟨k,a,b,h1,h2,h3⟩:=nu h; exact⟨_,by simp only [ar,aZ,h1,h2,if_true]; rfl,fun G=>V.ok_sc G _,h3⟩
 | eql=>
   have h':SD Θ t (S.opd x) (S.opd y) (fun r=>κ (V.sc (.bool r)))=some r:=h
   obtain⟨b,h1,h2⟩:=OK hΘ h'
   refine⟨_,?_,fun G=>V.ok_sc G _,h1⟩
   rcases h2 with ⟨k,a,c,e1,e2,rfl⟩ | ⟨hn,xv,yv,e1,e2,e3,e4,e5⟩
   ·simp only [ar,aZ,e1,e2,if_true]; rfl
   ·simp only [ar]
    split
    ·rename_i k a k' c g1 g2
     exact absurd ⟨by rw [←aZ]; exact g1,by rw [←aZ]; exact g2⟩ (hn k a k' c)
    ·exact eqs b xv yv (by rw [aZ]; exact e1) (by rw [aZ]; exact e2) (e3 _ _ _) e4
 | neq=>
   have h':SD Θ t (S.opd x) (S.opd y) (fun r=>κ (V.sc (.bool (!r))))=some r:=h
   obtain⟨b,h1,h2⟩:=OK hΘ h'
   refine⟨_,?_,fun G=>V.ok_sc G _,h1⟩
   rcases h2 with ⟨k,a,c,e1,e2,rfl⟩ | ⟨hn,xv,yv,e1,e2,e3,e4,e5⟩
   ·simp only [ar,aZ,e1,e2,if_true]; rfl
   ·simp only [ar]
    split
    ·rename_i k a k' c g1 g2
     exact absurd ⟨by rw [←aZ]; exact g1,by rw [←aZ]; exact g2⟩ (hn k a k' c)
    ·exact eqs (!b) xv yv (by rw [aZ]; exact e1) (by rw [aZ]; exact e2) (e3 _ _ _) e5
 | quo=>
   have h':V.ints (fun k a b=>if b=0 then none else κ (V.sc (.int k (k.wrap (a.tdiv b))))) (S.opd x) (S.opd y)=some r:=h
   obtain⟨k,a,b,h1,h2,h3⟩:=nu h'
   split at h3
   ·cases h3
   ·rename_i hb
    refine⟨_,?_,fun G=>V.ok_sc G _,h3⟩
    have hx:su (opd S.st x)=some (.int k a):=by rw [aZ,h1]; rfl
    have hy:su (opd S.st y)=some (.int k b):=by rw [aZ,h2]; rfl
    simp only [ar]
    unfold bQ
    rw [if_pos (by simp [Op.operands,hx,hy])]
    have e:bu P (binOp .quo t (.int k a) (.int k b))=some (.int k (k.wrap (a.tdiv b))):=by
     simp only [binOp,ne_eq,not_true,if_false,Op.intDiv,if_neg hb,bR]
    have e2:bu P (execOp (fun x=>(su (opd S.st x)).getD undef) ⟨dst, .binOp .quo t x y t',ty,pos,aft,gd⟩)=some (.value (.int k (k.wrap (a.tdiv b)))):=by
     show bu P (do pure (Next.value (←(do eqGuard .quo t x y ((su (opd S.st x)).getD undef) ((su (opd S.st y)).getD undef); binOp .quo t ((su (opd S.st x)).getD undef) ((su (opd S.st y)).getD undef)))))=_
     rw [hx,hy]
     have g:bu P (eqGuard .quo t x y (.int k a) (.int k b))=some ():=rfl
     simp only [be,Option.getD_some,g,e,Option.bind_some,bR]
    rw [e2]
    rfl
 | rem=>
   have h':V.ints (fun k a b=>if b=0 then none else κ (V.sc (.int k (a.tmod b)))) (S.opd x) (S.opd y)=some r:=h
   obtain⟨k,a,b,h1,h2,h3⟩:=nu h'
   split at h3
   ·cases h3
   ·rename_i hb
    refine⟨_,?_,fun G=>V.ok_sc G _,h3⟩
    have hx:su (opd S.st x)=some (.int k a):=by rw [aZ,h1]; rfl
    have hy:su (opd S.st y)=some (.int k b):=by rw [aZ,h2]; rfl
    simp only [ar]
    unfold bQ
    rw [if_pos (by simp [Op.operands,hx,hy])]
    have e:bu P (binOp .rem t (.int k a) (.int k b))=some (.int k (a.tmod b)):=by
     simp only [binOp,ne_eq,not_true,if_false,Op.intDiv,if_neg hb,bR]
    have e2:bu P (execOp (fun x=>(su (opd S.st x)).getD undef) ⟨dst, .binOp .rem t x y t',ty,pos,aft,gd⟩)=some (.value (.int k (a.tmod b))):=by
     show bu P (do pure (Next.value (←(do eqGuard .rem t x y ((su (opd S.st x)).getD undef) ((su (opd S.st y)).getD undef); binOp .rem t ((su (opd S.st x)).getD undef) ((su (opd S.st y)).getD undef)))))=_
     rw [hx,hy]
     have g:bu P (eqGuard .rem t x y (.int k a) (.int k b))=some ():=rfl
     simp only [be,Option.getD_some,g,e,Option.bind_some,bR]
    rw [e2]
    rfl
 | _=>simp [RN] at h
end
end Go.Proofs.YtkcgfceffffmoaaGreat.En
namespace Go.Proofs.YtkcgfceffffmoaaGreat.En
open Go
theorem Jg {G:List (Option bG)}: ∀ (l:List V) (cs:List Cl),(∀ v∈l,v.ok G)→I7 l=some cs→l.map V.av=cs.map Cl.av∧ ∀ c∈cs,c.ok G
 | [],cs,_,h=>by
   simp only [I7,Option.some.injEq] at h
   subst h
   exact⟨rfl,fun c hc=>by cases hc⟩
 | v::l,cs,hl,h=>by
   unfold I7 at h
   split at h
   ·rename_i heq; cases heq
   ·rename_i c l' heq
    cases heq
    split at h
    ·rename_i r hr
     simp only [Option.some.injEq] at h
     subst h
     obtain⟨h1,h2⟩:=Jg l r (fun v hv=>hl v (List.mem_cons_of_mem _ hv)) hr
     refine⟨by simp only [List.map_cons,h1]; rfl,fun x hx=> ?_⟩
     rcases List.mem_cons.1 hx with rfl | hx
     ·exact hl _ List.mem_cons_self
     ·exact h2 x hx
    ·cases h
   ·cases h
section
variable {ρ:Type} {P:Program} {Θ:ot} {S:TS} {D:qy}
theorem F9 (hΘ:dG P Θ) (hS:S.ok) {o:Oper} {κ:V→TS→Option ρ} {r:ρ} (h:Dc Θ S o κ=some r):
  ∃ v S',ar D P S.st o=some v.av∧S'.st=S.st∧S'.ok∧S'.gh=S.gh∧v.ok S.gh∧κ v S'=some r:=by
 have ok: ∀ x,(S.opd x).ok S.gh:=fun x=>kK hS x
 have done: ∀ {v:V},ar D P S.st o=some v.av→v.ok S.gh→κ v S=some r→ ∃ v S',ar D P S.st o=some v.av∧S'.st=S.st∧S'.ok∧S'.gh=S.gh∧v.ok S.gh∧κ v S'=some r:=fun h1 h2 h3=>⟨_,S,h1,rfl,hS,rfl,h2,h3⟩
 obtain⟨dst,op,ty,pos,aft,gd⟩:=o
 unfold Dc at h
 cases op with
 | move x=>exact done (by simp only [ar,aZ]) (ok x) h
 | assign x=>exact done (by simp only [ar,aZ]) (ok x) h
 | pick c a b=>
   simp only at h
   obtain⟨t,S1,h1,h2,h3,h4,h⟩:=Di hS h
   cases t with
   | true=>exact⟨_,S1,by simp only [ar,h1,if_true]; rw [←h2,aZ],h2,h3,h4,by rw [←h4]; exact kK h3 _,h⟩
   | false=>exact⟨_,S1,by simp only [ar,h1,Bool.false_eq_true,if_false]; rw [←h2,aZ],h2,h3,h4,by rw [←h4]; exact kK h3 _,h⟩
 | load t a=>
   simp only at h
   obtain⟨u,h1,h2,h⟩:=Jf hΘ hS (ok a) h
   exact done (by simp only [ar,aZ]; exact h1) h2 h
 | nilCheck x=>
   simp only at h
   split at h <;> rename_i hx
   ·exact done (by simp only [ar,aZ,hx]; rfl) (by rw [←hx]; exact ok x) h
   ·exact done (by simp only [ar,aZ,hx]; rfl) (by rw [←hx]; exact ok x) h
   ·exact done (by simp only [ar,aZ,hx]; rfl) (by rw [←hx]; exact ok x) h
   ·exact done (by simp only [ar,aZ,hx]; rfl) (by rw [←hx]; exact ok x) h
   ·exact done (by simp only [ar,aZ,hx]; rfl) (by rw [←hx]; exact ok x) h
   ·cases h
 | fieldAddr t x k=>
   simp only at h
   split at h
   ·rename_i ti hti
    split at h
    ·rename_i off n ag hk
     have hfd:=(hΘ _ _ hti).fd k
     rw [hk] at hfd
     cases hn:Nat.beq n 0 with
     | true=>rw [hn] at h; cases h
     | false=>
       rw [hn] at h
       have hn': ¬ n=0:=by intro h0; subst h0; cases hn
       simp only [cond_false] at h
       split at h <;> rename_i hx
       ·refine done ?_ ?_ h
        ·simp only [ar,hfd,Option.bind_some,aZ,hx]
         rw [if_neg hn']
         rfl
        ·trivial
       ·refine done ?_ ?_ h
        ·simp only [ar,hfd,Option.bind_some,aZ,hx]
         rw [if_neg hn']
         rfl
        ·have:=ok x
         rw [hx] at this
         exact this
       ·refine done ?_ ?_ h
        ·simp only [ar,hfd,Option.bind_some,aZ,hx]
         rw [if_neg hn']
         simp [V.av,V1.av,Cl.av,List.map_drop]
        ·trivial
       ·cases h
    ·cases h
   ·cases h
 | field t x k=>
   simp only at h
   split at h
   ·rename_i ti hti
    split at h
    ·rename_i off n ag hk
     have hfd:=(hΘ _ _ hti).fd k
     rw [hk] at hfd
     split at h
     ·rename_i cs hx
      obtain⟨h1,h⟩:=am h
      simp only [Bool.and_eq_true] at h1
      have h2:off+n≤cs.length:=Nat.le_of_ble_eq_true h1.1
      have h3:0 < n:=Nat.le_of_ble_eq_true h1.2
      have hcs:=ok x
      rw [hx] at hcs
      obtain⟨v,h4,h5,h⟩:=OJ (G:=S.gh) (fun c hc=>hcs c (List.mem_of_mem_drop (List.mem_of_mem_take hc))) h
      refine done ?_ h5 h
      simp only [ar,hfd,Option.bind_some,aZ,hx,V.av,V1.av,List.length_map]
      rw [if_pos ⟨h2,h3⟩,←List.map_drop,←List.map_take]
      exact h4
     ·cases h
    ·cases h
   ·cases h
 | indexAddr t x ix=>
   simp only at h
   split at h
   ·rename_i ti hti
    split at h
    ·rename_i e he
     obtain⟨el,g1,g2,_⟩:=(hΘ _ _ hti).el e he
     obtain⟨i,h1,h⟩:=CB h
     split at h
     ·rename_i a hx
      have ha:=ok x
      rw [hx] at ha
      obtain⟨c,h2,h3,h⟩:=Qu ha h
      refine done ?_ ?_ h
      ·simp only [ar,g1,Option.bind_some,aZ,h1,hx,g2]
       exact h2
      ·exact h3
     ·cases h
    ·cases h
   ·cases h
 | build t parts=>
   simp only at h
   split at h
   ·rename_i ti hti
    obtain⟨h1,h⟩:=am h
    split at h
    ·rename_i cs hcs
     have hok:=hΘ _ _ hti
     obtain⟨g1,g2⟩:=Qw (G:=S.gh) _ _ _ _ (fun c hc=>by
      obtain⟨v,_,rfl⟩:=List.mem_map.1 hc
      exact Me _ _) (fun y hy=>by
      obtain⟨z,_,rfl⟩:=List.mem_map.1 hy
      exact ok z.2) hcs
     refine done ?_ ?_ h
     ·simp only [ar,hok.pl h1,hok.ze,Option.bind_some]
      have e1:ti.ty.zvs.map Cu=(ti.ty.zvs.map cC).map Cl.av:=by
       rw [List.map_map]
       exact List.map_congr_left fun v _=>(ph v).symm
      have e2:parts.toList.map (fun x=>(x.1,opd S.st x.2))=(parts.toList.map fun x=>(x.1,S.opd x.2)).map fun x=>(x.1,x.2.av):=by
       rw [List.map_map]
       exact List.map_congr_left fun x _=>by simp [aZ]
      rw [e1,e2,g1]
      rfl
     ·exact g2
    ·cases h
   ·cases h
 | slice t x lo hi mx=>
   cases mx with
   | some m=>simp at h
   | none=>
     simp only at h
     split at h
     ·rename_i ti hti
      split at h
      ·rename_i e he
       obtain⟨el,g1,g2,_⟩:=(hΘ _ _ hti).el e he
       split at h
       ·rename_i a hx
        have ha:=ok x
        rw [hx] at ha
        obtain⟨n,h1,h⟩:=Mf ha h
        obtain⟨l,h2,h⟩:=F8 h
        obtain⟨m,h3,h⟩:=F8 h
        obtain⟨c,h4,h5,h⟩:=Qv ha h
        refine done ?_ ?_ h
        ·simp only [ar,aZ,hx]
         split
         ·rename_i s hs
          have hs':a.av= .sc (.string s):=hs
          rw [hs'] at h1
          cases h1
         ·show (xn P t).bind _=_
          rw [g1]
          simp only [Option.bind_some]
          show (sX a.av).bind _=_
          rw [h1]
          simp only [Option.bind_some,h2,h3,g2]
          exact h4
        ·exact h5
       ·cases h
      ·cases h
     ·cases h
 | extract x k=>
   simp only at h
   split at h
   ·rename_i vs hx
    split at h
    ·rename_i v hv
     have hvs:=ok x
     rw [hx] at hvs
     rw [df] at hv
     refine done ?_ ?_ h
     ·simp only [ar,aZ,hx,V.av,List.getElem?_map,hv,Option.map_some]
     ·exact hvs v (List.mem_of_getElem? hv)
    ·cases h
   ·cases h
 | makeFunc fn first caps=>
   cases fn with
   | func f=>
     simp only at h
     obtain⟨h1,h⟩:=am h
     split at h
     ·rename_i cs hcs
      obtain⟨g1,g2⟩:=Jg (G:=S.gh) _ _ (fun v hv=>by
       obtain⟨y,_,rfl⟩:=List.mem_map.1 hv
       exact ok y) hcs
      refine done ?_ ?_ h
      ·simp only [ar,h1,if_true]
       have e:caps.toList.map (opd S.st)=(caps.toList.map S.opd).map V.av:=by
        rw [List.map_map]
        exact List.map_congr_left fun x _=>aZ x
       rw [e,g1]
       rfl
      ·exact g2
     ·cases h
   | _=>simp at h
 | unOp op t x=>
   cases op with
   | not=>
     simp only at h
     split at h
     ·rename_i b hx
      refine done ?_ ?_ h
      ·simp only [ar,aZ,hx]; rfl
      ·trivial
     ·cases h
   | _=>simp at h
 | binOp op t x y t'=>
   simp only at h
   obtain⟨v,h1,h2,h⟩:=Qx (D:=D) (t':=t') (dst:=dst) (ty:=ty) (pos:=pos) (aft:=aft) (gd:=gd) hΘ h
   exact done h1 (h2 _) h
 | call c=>
   obtain⟨cl,as,ts⟩:=c
   cases cl with
   | value f=>simp at h
   | invoke a b=>simp at h
   | builtin b=>
     cases b with
     | len=>
       simp only at h
       split at h
       ·rename_i x t e1 e2
        split at h
        ·rename_i ti hti
         split at h
         ·rename_i e he
          obtain⟨el,g1,g2,_⟩:=(hΘ _ _ hti).el e he
          split at h
          ·rename_i a hx
           have ha:=ok x
           rw [hx] at ha
           obtain⟨n,h1,h⟩:=Mf ha h
           refine done ?_ ?_ h
           ·simp only [ar,e1,e2,g1,Option.isSome_some,if_true,aZ,hx]
            show (sX a.av).map _=_
            rw [h1]
            rfl
           ·trivial
          ·cases h
         ·cases h
        ·cases h
       ·cases h
     | max=>
       simp only at h
       split at h
       ·rename_i x y e1
        obtain⟨k,a,b,h1,h2,h⟩:=nu h
        refine done ?_ (V.ok_sc _ _) h
        simp only [ar,e1,List.map_cons,List.map_nil,aZ,h1,h2]
        rfl
       ·cases h
     | min=>
       simp only at h
       split at h
       ·rename_i x y e1
        obtain⟨k,a,b,h1,h2,h⟩:=nu h
        refine done ?_ (V.ok_sc _ _) h
        simp only [ar,e1,List.map_cons,List.map_nil,aZ,h1,h2]
        rfl
       ·cases h
     | _=>simp at h
 | convert s d x=>
   simp only at h
   split at h
   ·rename_i si di hs hd
    split at h
    ·rename_i k' hk
     split at h
     ·rename_i k n hx
      refine done ?_ (V.ok_sc _ _) h
      have hud:=(hΘ _ _ hd).int _ hk
      obtain⟨ds,hus⟩: ∃ ds,P.underlying s=some ds:=by
       have:=(hΘ _ _ hs).ag
       unfold EV at this
       cases hu:P.underlying s with
       | none=>rw [hu] at this; cases this
       | some ds=>exact⟨ds,rfl⟩
      have hxv:su (opd S.st x)=some (.int k n):=by rw [aZ,hx]; rfl
      simp only [ar]
      unfold bQ
      rw [if_pos (by simp [Op.operands,hxv])]
      have e:bu P (Go.convert s d (.int k n))=some (.int k' (k'.wrap n)):=by
       unfold Go.convert
       simp only [be,cU hus,cU hud,Option.bind_some]
       cases ds <;> rfl
      have e2:bu P (execOp (fun x=>(su (opd S.st x)).getD undef) ⟨dst, .convert s d x,ty,pos,aft,gd⟩)=some (.value (.int k' (k'.wrap n))):=by
       show bu P (do pure (Next.value (←Go.convert s d ((su (opd S.st x)).getD undef))))=_
       rw [hxv]
       simp only [be,Option.getD_some,e,Option.bind_some,bR]
      rw [e2]
      rfl
     ·cases h
    ·cases h
   ·cases h
 | index t x ix=>
   simp only at h
   split at h
   ·rename_i ti hti
    split at h
    ·rename_i hs
     split at h
     ·rename_i s k i hx hi
      unfold aq at h
      split at h
      ·rename_i h0
       obtain⟨b,hb,h⟩:=Option.bind_eq_some_iff.1 h
       refine done ?_ (V.ok_sc _ _) h
       have hus:P.underlying t=some .string:=by
        have:=(hΘ _ _ hti).str
        rw [hs] at this
        unfold GD at this
        split at this
        ·assumption
        ·cases this
       have hxv:su (opd S.st x)=some (.string s):=by rw [aZ,hx]; rfl
       have hiv:su (opd S.st ix)=some (.int k i):=by rw [aZ,hi]; rfl
       have hxa:opd S.st x= .sc (.string s):=by rw [aZ,hx]; rfl
       simp only [ar,hxa]
       unfold bQ
       rw [if_pos (by simp [Op.operands,hxv,hiv])]
       have e:bu P (Instr.index t (.string s) (.int k i))=some (.int .u8 b.toNat):=by
        unfold Instr.index
        simp only [be,asIntOf,bR,Option.bind_some,cU hus]
        rw [if_pos h0,hb]
        rfl
       have e2:bu P (execOp (fun x=>(su (opd S.st x)).getD undef) ⟨dst, .index t x ix,ty,pos,aft,gd⟩)=some (.value (.int .u8 b.toNat)):=by
        show bu P (do pure (Next.value (←Instr.index t ((su (opd S.st x)).getD undef) ((su (opd S.st ix)).getD undef))))=_
        rw [hxv,hiv]
        simp only [be,Option.getD_some,e,Option.bind_some,bR]
       rw [e2]
       rfl
      ·cases h
     ·cases h
    ·cases h
   ·cases h
 | _=>simp at h
end
end Go.Proofs.YtkcgfceffffmoaaGreat.En
namespace Go.Proofs.YtkcgfceffffmoaaGreat.En
open Go
theorem lW {G:List (Option bG)} {x:Option bG} (r:Nat):cK (G++ [x]) r=if r=G.length then x else cK G r:=by
 unfold cK
 rw [df,df]
 by_cases h:r=G.length
 ·subst h; simp
 ·rw [if_neg h]
  rcases Nat.lt_or_ge r G.length with h' | h'
  ·rw [List.getElem?_append_left h']
  ·rw [List.getElem?_eq_none (by simp; omega),List.getElem?_eq_none h']
theorem zz {G:List (Option bG)} (l:List bG) (r:Nat):cK (G++l.map some) r=if G.length≤r then l[r - G.length]? else cK G r:=by
 unfold cK
 rw [df,df]
 by_cases h:G.length≤r
 ·rw [if_pos h,List.getElem?_append_right h,List.getElem?_map]
  cases l[r - G.length]? <;> rfl
 ·rw [if_neg h,List.getElem?_append_left (by omega)]
theorem vb {G:List (Option bG)} {r:Nat} (h:G.length≤r):cK G r=none:=by
 unfold cK
 rw [df,List.getElem?_eq_none h]
 rfl
theorem sH {G:List (Option bG)} {r:Nat} {tr:bG} (h:cK G r=some tr):r < G.length:=by
 rcases Nat.lt_or_ge r G.length with h' | h'
 ·exact h'
 ·rw [vb h'] at h; cases h
theorem oQ {G:List (Option bG)} {x:Option bG} (q r:Nat) (hq:q < G.length∨x=none):cK (cS G q x) r=if r=q then x else cK G r:=by
 unfold cK
 rw [df,df,eV,List.getElem?_set]
 by_cases h:q=r
 ·subst h
  simp only [if_true]
  rcases hq with hq | rfl
  ·rw [if_pos hq]; rfl
  ·split <;> rfl
 ·rw [if_neg h,if_neg (fun e=>h e.symm)]
theorem gr.app (G:List (Option bG)) (x:Option bG):gr G (G++ [x]):=⟨by simp,fun r tr hr h=>by
 rw [lW,if_neg (by omega)] at h
 exact⟨tr,h,rfl⟩⟩
theorem gr.apps (G:List (Option bG)) (l:List bG):gr G (G++l.map some):=⟨by simp,fun r tr hr h=>by
 rw [zz,if_neg (by omega)] at h
 exact⟨tr,h,rfl⟩⟩
theorem gr.gone (G:List (Option bG)) (q:Nat):gr G (cS G q none):=⟨by rw [eV]; simp,fun r tr hr h=>by
 rw [oQ q r (.inr rfl)] at h
 split at h
 ·cases h
 ·exact⟨tr,h,rfl⟩⟩
theorem gr.put {G:List (Option bG)} {q:Nat} {tr tr':bG} (h:cK G q=some tr) (hl:tr'.l.length=tr.l.length):gr G (cS G q (some tr')):=⟨by rw [eV]; simp,fun r t hr h'=>by
 rw [oQ q r (.inl (sH h))] at h'
 split at h'
 ·rename_i hq
  subst hq
  cases h'
  exact⟨tr,h,hl.symm⟩
 ·exact⟨t,h',rfl⟩⟩
theorem TS.ok_gh {S:TS} (hS:S.ok) {G:List (Option bG)} (hG:gr S.gh G): ({ S with gh:=G }:TS).ok:=
 ⟨fun x hx=>V.ok_mono hG (hS.env x hx),fun cs hcs c hc=>Cl.ok_mono hG (hS.bx cs hcs c hc)⟩
theorem G8 (S:TS) (x:bG): ({ S with gh:=S.gh++ [some x] }:TS).st= { S.st with gh:=bL S.st.gh S.gh.length (some x.tree),ng:=S.gh.length+1 } :=by
 unfold TS.st
 simp only [List.length_append,List.length_singleton]
 congr 1
 funext r
 rw [lW]
 unfold bL
 split <;> rfl
theorem xJ (S:TS) (q:Nat): ({ S with gh:=cS S.gh q none }:TS).st= { S.st with gh:=bL S.st.gh q none } :=by
 unfold TS.st
 simp only
 have : (cS S.gh q none).length=S.gh.length:=by rw [eV]; simp
 rw [this]
 congr 1
 funext r
 rw [oQ q r (.inr rfl)]
 unfold bL
 split <;> rfl
theorem zA (S:TS) {q:Nat} (x:bG) (hq:q < S.gh.length): ({ S with gh:=cS S.gh q (some x) }:TS).st= { S.st with gh:=bL S.st.gh q (some x.tree) } :=by
 unfold TS.st
 simp only
 have : (cS S.gh q (some x)).length=S.gh.length:=by rw [eV]; simp
 rw [this]
 congr 1
 funext r
 rw [oQ q r (.inl hq)]
 unfold bL
 split <;> rfl
theorem Lb (S:TS) (cs:List Cl): ({ S with bx:=S.bx++ [cs] }:TS).st= { S.st with bx:=bL S.st.bx S.bx.length (some (cs.map Cl.av)),nb:=S.bx.length+1 } :=by
 unfold TS.st
 simp only [List.length_append,List.length_singleton]
 congr 1
 funext n
 unfold bL
 simp only [df]
 by_cases h:n=S.bx.length
 ·subst h; simp
 ·rw [if_neg h]
  rcases Nat.lt_or_ge n S.bx.length with h' | h'
  ·rw [List.getElem?_append_left h']
  ·rw [List.getElem?_eq_none (by simp; omega),List.getElem?_eq_none h']
theorem Nf (S:TS) {b:Nat} (cs:List Cl) (hb:b < S.bx.length): ({ S with bx:=cS S.bx b cs }:TS).st= { S.st with bx:=bL S.st.bx b (some (cs.map Cl.av)) } :=by
 unfold TS.st
 have : (cS S.bx b cs).length=S.bx.length:=by rw [eV]; simp
 simp only
 rw [this]
 congr 1
 funext n
 unfold bL
 simp only [df]
 rw [eV,List.getElem?_set]
 by_cases h:b=n
 ·subst h; simp [hb]
 ·rw [if_neg h,if_neg (fun e=>h e.symm)]
theorem OL (t:Ty): (t.zvs.map cC).map Cl.av=t.zvs.map EW:=by
 cases t with
 | st n=>cases n <;> rfl
 | _=>rfl
theorem OM (G:List (Option bG)) (t:Ty): ∀ c∈t.zvs.map cC,c.ok G:=fun c hc=>by
 obtain⟨v,_,rfl⟩:=List.mem_map.1 hc
 exact Me _ _
def t5 (P:Program) (g:FuncId) (args:List V1) (b:Bool) (res:V) (out:List bG):Prop:=
 ∃ (t:Ty) (x:t.D) (as:List V1),args=Md t x::as∧q9 P g ((Dh t x 0).av::as.map V1.av) ((lR (t.flat x)).map bG.tree) (bif b then (lR (t.flat x)).length else 0) res.av (out.map bG.tree)
structure AO (P:Program) (f:Nat) (args:List V1) (res:V) (out:List bG):Prop where
 fn:f < ia→zj P f (args.map V1.av) [] res.av (out.map bG.tree)
 io: ∀ g,f=lC g→g < ia→t5 P g args true res out
 mv: ∀ g,f=Dd g→t5 P g args false res out
theorem OO (g:Nat): ¬ lC g < ia:=Nat.not_lt.2 (Nat.le_add_left ia g)
theorem Mi (g:Nat): ¬ Dd g < ia:=Nat.not_lt.2 (Nat.le_trans (Nat.le_add_left ia ia) (Nat.le_add_left F6 g))
theorem OP {g g':Nat} (hg:g < ia):lC g≠Dd g':=fun h=>by
 have h1:lC g < F6:=Nat.add_lt_add_right hg ia
 rw [h] at h1
 exact Nat.not_lt.2 (Nat.le_add_left F6 g') h1
theorem AO.of_fn {P:Program} {f:Nat} {args:List V1} {res:V} {out:List bG} (h:zj P f (args.map V1.av) [] res.av (out.map bG.tree)) (hf:f < ia):AO P f args res out:=
 ⟨fun _=>h,fun g e _=>absurd (e ▸ hf) (OO g),fun g e=>absurd (e ▸ hf) (Mi g)⟩
theorem AO.of_io {P:Program} {g:Nat} {args:List V1} {res:V} {out:List bG} (h:t5 P g args true res out) (hg:g < ia):AO P (lC g) args res out:=
 ⟨fun h'=>absurd h' (OO g),fun g' e _=>by rw [←Nat.add_right_cancel (e:g+ia=g'+ia)]; exact h,fun g' e=>absurd e (OP hg)⟩
theorem AO.of_mv {P:Program} {g:Nat} {args:List V1} {res:V} {out:List bG} (h:t5 P g args false res out):AO P (Dd g) args res out:=
 ⟨fun h'=>absurd h' (Mi g),fun g' e hg=>absurd e.symm (OP hg),fun g' e=>by rw [←Nat.add_right_cancel (e:g+F6=g'+F6)]; exact h⟩
theorem t5.get {P:Program} {g:FuncId} {el:Ty} {l:List el.D} {as:List V1} {b:Bool} {res:V} {out:List bG} (h:t5 P g (.cl (.c (.ls el l))::as) b res out):q9 P g (.own ⟨0,[]⟩ el.width 0 l.length::as.map V1.av) [.sl el.width (l.map el.row)] (bif b then 1 else 0) res.av (out.map bG.tree):=by
 obtain⟨t,x,as',he,h⟩:=h
 simp only [List.cons.injEq] at he
 obtain⟨he,rfl⟩:=he
 cases t with
 | ls el'=>
   have he':V1.cl (.c (.ls el l))= .cl (.c (.ls el' x)):=he
   cases he'
   exact h
 | st n=>cases n <;> cases he
 | _=>cases he
theorem t5.getA {P:Program} {g:FuncId} {ys:List C} {as:List V1} {res:V} {out:List bG} (h:t5 P g (.agg (ys.map .c)::as) true res out):q9 P g (.agg ((tF ys 0).map Cl.av)::as.map V1.av) ((lR ys).map bG.tree) (lR ys).length res.av (out.map bG.tree):=by
 obtain⟨t,x,as',he,h⟩:=h
 simp only [List.cons.injEq] at he
 obtain⟨he,rfl⟩:=he
 cases t with
 | st n=>
   have he':V1.agg (ys.map Cl.c)= .agg ((n.flat x).map Cl.c):=he
   simp only [V1.agg.injEq] at he'
   have :ys=n.flat x:=by
    have hi: ∀ (l m:List C),l.map Cl.c=m.map Cl.c→l=m:=by
     intro l
     induction l with
     | nil=>intro m hm; cases m with | nil=>rfl | cons a m=>cases hm
     | cons a l ih=>
       intro m hm
       cases m with
       | nil=>cases hm
       | cons b m=>
         simp only [List.map_cons,List.cons.injEq,Cl.c.injEq] at hm
         rw [hm.1,ih m hm.2]
    exact hi _ _ he'
   subst this
   exact h
 | _=>cases he
def az (P:Program) (Y:xH):Prop:= ∀ f args ρ κ r,Y f args ρ κ=some r→ ∃ res out,AO P f args res out∧res.ok (out.map some)∧κ res out=some r
section
variable {ρ:Type} {P:Program} {Θ:ot} {S:TS}
theorem G9 {α β:Type} {f:α→(β→Option ρ)→Option ρ} {R:α→β→Prop} (hf: ∀ a κ r,f a κ=some r→ ∃ b,R a b∧κ b=some r):
  ∀ (l:List α) (κ:List β→Option ρ) (r:ρ),De f l κ=some r→ ∃ bs,l.length=bs.length∧(∀ (k:Nat) (a:α) (b:β),l[k]? =some a→bs[k]? =some b→R a b)∧κ bs=some r:=by
 intro l
 induction l with
 | nil=>intro κ r h; exact⟨[],rfl,fun k a b ha=>by simp at ha,h⟩
 | cons a l ih=>
   intro κ r h
   obtain⟨b,h1,h⟩:=hf a _ r h
   obtain⟨bs,h2,h3,h⟩:=ih _ r h
   refine⟨b::bs,by simp [h2],fun k x y hx hy=> ?_,h⟩
   cases k with
   | zero=>simp at hx hy; subst hx hy; exact h1
   | succ k=>exact h3 k x y (by simpa using hx) (by simpa using hy)
theorem OQ {α β γ:Type} {f:α→γ} {g:β→γ} {l:List α} {bs:List β} (h1:l.length=bs.length) (h2: ∀ (k:Nat) (a:α) (b:β),l[k]? =some a→bs[k]? =some b→f a=g b):l.map f=bs.map g:=by
 apply List.ext_getElem?
 intro k
 rw [List.getElem?_map,List.getElem?_map]
 cases ha:l[k]? with
 | none=>
   rw [List.getElem?_eq_none_iff] at ha
   rw [List.getElem?_eq_none (by omega)]
   rfl
 | some a=>
   have:=(List.getElem?_eq_some_iff.1 ha).1
   rw [List.getElem?_eq_getElem (by omega:k < bs.length)]
   simp only [Option.map_some]
   rw [h2 k a _ ha (List.getElem?_eq_getElem (by omega))]
theorem t6 {p:bJ} {sz lo len:Nat} {t:Ty} {l:List t.D} (hc: (Cl.own p sz lo len true).ok S.gh) (h:p.l= [] →cK S.gh p.r=some ⟨t,l,none⟩):p.l= [] ∧lo=0∧len=l.length:=by
 obtain⟨_,h2⟩:=hc
 obtain⟨a,b,c⟩:=h2 rfl
 exact⟨a,b,c _ (h a)⟩
theorem Dj (hS:S.ok) {et:Option Ty} {c:Cl} (hc:c.ok S.gh) {κ:Cl→Option ρ} {r:ρ} (h:Nc S et c κ=some r): ∃ c',(∀ sz,(∀ t,et=some t→sz=t.width)→dn S.st sz c.av=c'.av)∧κ c'=some r:=by
 unfold Nc at h
 split at h
 ·rename_i x
  exact⟨_,fun sz _=>by cases x <;> rfl,h⟩
 ·split at h
  ·rename_i t
   exact⟨_,fun sz hsz=>by rw [hsz t rfl]; rfl,h⟩
  ·cases h
 ·rename_i p sz lo len
  obtain⟨t,l,h1,h2,h⟩:=eu h
  obtain⟨h3,h⟩:=am h
  have h3:t.width=sz:=Nat.eq_of_beq_eq_true h3
  obtain⟨h4,h5,h6⟩:=t6 hc h2
  refine⟨_,fun sz' _=> ?_,h⟩
  simp only [Cl.av,dn,←h3,kr h1,h5,h6,Nat.zero_add,List.length_map,Nat.le_refl,if_true,List.drop_zero,C.av]
  rw [List.take_of_length_le (by simp)]
 ·rename_i p sz lo len
  obtain⟨t,l,h1,h2,h⟩:=eu h
  obtain⟨h3,h⟩:=am h
  have h3:t.width=sz:=Nat.eq_of_beq_eq_true h3
  obtain⟨h4,h⟩:=c8 h
  refine⟨_,fun sz' _=> ?_,h⟩
  simp only [Cl.av,dn,←h3,kr h1,List.length_map,h4,if_true,C.av]
  simp [List.map_take,List.map_drop]
 ·exact⟨_,fun _ _=>rfl,h⟩
 ·rename_i p sz i j
  obtain⟨t,l,h1,h2,h⟩:=eu h
  obtain⟨h3,h⟩:=am h
  have h3:t.width=sz:=Nat.eq_of_beq_eq_true h3
  obtain⟨x,hx,h⟩:=Option.bind_eq_some_iff.1 h
  refine⟨_,fun sz' _=> ?_,h⟩
  simp only [Cl.av,dn,←h3,kr h1]
  have e1: (l.map t.row).getD i [] =t.row x:=by simp [List.getD_eq_getElem?_getD,hx]
  rw [e1,t.row_flat,List.map_drop]
 ·rename_i b j
  split at h
  ·rename_i cs hcs
   obtain⟨bs,h1,h2,h⟩:=G9 (R:=fun (c:Cl) (x:C)=>c.ok S.gh→T.ofAV S.st 0 c.av=x.tree) (fun c κ r h=>by
    split at h
    ·rename_i x
     exact⟨x,fun _=>by cases x <;> rfl,h⟩
    ·rename_i p sz lo len
     obtain⟨t,l,h1,h2,h⟩:=eu h
     obtain⟨h3,h⟩:=am h
     have h3:t.width=sz:=Nat.eq_of_beq_eq_true h3
     refine⟨_,fun hc=> ?_,h⟩
     obtain⟨h4,h5,h6⟩:=t6 hc h2
     simp only [Cl.av,T.ofAV,←h3,kr h1,h5,h6,Nat.zero_add,List.length_map,Nat.le_refl,if_true,List.drop_zero,C.tree]
     rw [List.take_of_length_le (by simp)]
    ·cases h) _ _ _ h
   refine⟨_,fun sz _=> ?_,h⟩
   simp only [Cl.av,dn,TS.st,hcs,Option.map_some]
   rw [←List.map_drop,List.map_map]
   congr 1
   refine OQ h1 (fun k a b ha hb=>h2 k a b ha hb ?_)
   rw [df] at hcs
   exact hS.bx cs (List.mem_of_getElem? hcs) a (List.mem_of_mem_drop (List.mem_of_getElem? ha))
  ·cases h
 ·exact⟨_,fun _ _=>rfl,h⟩
theorem Qy (hS:S.ok): ∀ (ets:List (Option Ty)) (cs:List Cl) (κ:List Cl→Option ρ) (r:ρ),(∀ c∈cs,c.ok S.gh)→Qo S ets cs κ=some r→
  ∃ cs',ets.length=cs.length∧List.zipWith (dn S.st) (ets.map fun | some e=>e.width | none=>0) (cs.map Cl.av)=cs'.map Cl.av∧κ cs'=some r:=by
 intro ets
 induction ets with
 | nil=>
   intro cs κ r hcs h
   cases cs with
   | nil=>exact⟨[],rfl,rfl,h⟩
   | cons c cs=>cases h
 | cons et ets ih=>
   intro cs κ r hcs h
   cases cs with
   | nil=>cases h
   | cons c cs=>
     unfold Qo at h
     obtain⟨c',h1,h⟩:=Dj hS (hcs c List.mem_cons_self) h
     obtain⟨cs',h2,h3,h⟩:=ih cs _ r (fun x hx=>hcs x (List.mem_cons_of_mem _ hx)) h
     refine⟨c'::cs',by simp [h2],?_,h⟩
     simp only [List.map_cons,List.zipWith_cons_cons,h3]
     rw [h1]
     intro t ht
     subst ht
     rfl
theorem OS (hΘ:dG P Θ) (hS:S.ok) {t:TypeId} {v:V} (hv:v.ok S.gh) {κ:V1→Option ρ} {r:ρ} (h:TJ Θ S t v κ=some r): ∃ v1:V1,jc S.st (oh P 9 t) v.av=v1.av∧κ v1=some r:=by
 unfold TJ at h
 split at h
 ·cases h
 ·rename_i f cs
  obtain⟨bs,h1,h2,h⟩:=G9 (R:=fun (c c':Cl)=>c.ok S.gh→dn S.st 0 c.av=c'.av) (fun c κ r h=>by
   by_cases hc:c.ok S.gh
   ·obtain⟨c',h1,h⟩:=Dj hS hc h
    exact⟨c',fun _=>h1 0 (fun t ht=>by cases ht),h⟩
   ·have : ∃ c',κ c'=some r:=by
     unfold Nc at h
     split at h
     ·exact⟨_,h⟩
     ·cases h
     ·obtain⟨t,l,_,_,h⟩:=eu h; exact⟨_,(am h).2⟩
     ·obtain⟨t,l,_,_,h⟩:=eu h; exact⟨_,(c8 (am h).2).2⟩
     ·exact⟨_,h⟩
     ·obtain⟨t,l,_,_,h⟩:=eu h; obtain⟨x,_,h⟩:=Option.bind_eq_some_iff.1 (am h).2; exact⟨_,h⟩
     ·split at h
      ·obtain⟨bs,_,_,h⟩:=G9 (R:=fun _ _=>True) (fun c κ r h=>by
        split at h
        ·exact⟨_,trivial,h⟩
        ·obtain⟨t,l,_,_,h⟩:=eu h; exact⟨_,trivial,(am h).2⟩
        ·cases h) _ _ _ h
       exact⟨_,h⟩
      ·cases h
     ·exact⟨_,h⟩
    obtain⟨c',h⟩:=this
    exact⟨c',fun hc'=>absurd hc' hc,h⟩) _ _ _ h
  refine⟨_,?_,h⟩
  simp only [V.av,V1.av,jc,List.map_map]
  congr 1
  exact OQ h1 (fun k a b ha hb=>h2 k a b ha hb (hv a (List.mem_of_getElem? ha)))
 ·rename_i cs
  split at h
  ·rename_i ti hti
   obtain⟨cs',h1,h2,h⟩:=Qy hS _ _ _ _ hv h
   refine⟨_,?_,h⟩
   have e: (ti.ty.csh.map fun | some e=>e.width | none=>0)=ti.ty.shs:=rfl
   simp only [V.av,V1.av,jc,(hΘ _ _ hti).sh]
   rw [if_pos (by rw [←e]; simpa using h1),←e,h2]
  ·cases h
 ·rename_i c
  have b8: ∀ (szs:List Nat),jc S.st szs (V.v (.cl c)).av=dn S.st (szs.headD 0) c.av:=by
   intro szs
   cases c with
   | c x=>cases x <;> rfl
   | _=>rfl
  split at h
  ·rename_i ti hti
   obtain⟨c',h1,h⟩:=Dj hS hv h
   refine⟨_,?_,h⟩
   rw [b8]
   refine h1 _ (fun t ht=> ?_)
   rw [(hΘ _ _ hti).sh]
   unfold Ty.shs
   cases hc:ti.ty.csh with
   | nil=>rw [hc] at ht; cases ht
   | cons a l=>
     rw [hc] at ht
     simp only [List.headD_cons] at ht
     subst ht
     rfl
  ·obtain⟨c',h1,h⟩:=Dj hS hv h
   exact⟨_,by rw [b8]; exact h1 _ (fun t ht=>by cases ht),h⟩
theorem rG (hΘ:dG P Θ) (hS:S.ok): ∀ (ts:List TypeId) (as:List Operand) (κ:List V1→Option ρ) (r:ρ),rD Θ S ts as κ=some r→
  ∃ vs:List V1,List.zipWith (fun t a=>jc S.st (oh P 9 t) (opd S.st a)) ts as=vs.map V1.av∧κ vs=some r:=by
 intro ts
 induction ts with
 | nil=>
   intro as κ r h
   cases as with
   | nil=>exact⟨[],rfl,h⟩
   | cons a as=>cases h
 | cons t ts ih=>
   intro as κ r h
   cases as with
   | nil=>cases h
   | cons a as=>
     unfold rD at h
     obtain⟨v,h1,h⟩:=OS hΘ hS (kK hS a) h
     obtain⟨vs,h2,h⟩:=ih as _ r h
     exact⟨v::vs,by rw [List.zipWith_cons_cons,h2,aZ,h1,List.map_cons],h⟩
end
end Go.Proofs.YtkcgfceffffmoaaGreat.En
namespace Go.Proofs.YtkcgfceffffmoaaGreat.En
open Go
open Classical in
noncomputable def Ng (d:Option Tmp) (g:FuncId) (args:List AV) (res:AV×List T):qy:=fun d' g' a' gs'=>if d'=d∧g'=g∧a'=args∧gs'= [] then some res else none
theorem Dk {P:Program} {d:Option Tmp} {g:FuncId} {args:List AV} {res:AV} {out:List T} (h:zj P g args [] res out):nr P (Ng d g args (res,out)):=by
 intro d' g' a' gs' r' o' h'
 unfold Ng at h'
 split at h'
 ·rename_i hc
  obtain⟨rfl,rfl,rfl,rfl⟩:=hc
  simp only [Option.some.injEq,Prod.mk.injEq] at h'
  obtain⟨rfl,rfl⟩:=h'
  exact h
 ·cases h'
theorem Mj (d:Option Tmp) (g:FuncId) (args:List AV) (res:AV×List T):Ng d g args res d g args [] =some res:=by
 unfold Ng
 rw [if_pos ⟨rfl,rfl,rfl,rfl⟩]
def KH:qy:=fun _ _ _ _=>none
theorem kf {P:Program}:nr P KH:=fun _ _ _ _ _ _ h=>by cases h
theorem Nh (n:Nat) (c:Cl): (G3 n c).av=oo n c.av:=by
 cases c with
 | c x=>cases x <;> rfl
 | _=>rfl
theorem Dl (n:Nat) (v:V1): (u6 n v).av=lO n v.av:=by
 cases v with
 | cl c=>cases c with
   | c x=>cases x <;> rfl
   | _=>rfl
 | agg cs=>
   simp only [u6,V1.av,lO,List.map_map]
   congr 1
   exact List.map_congr_left fun c _=>Nh n c
 | fn f cs=>rfl
theorem zB (n:Nat) (v:V): (sG n v).av=mZ n v.av:=by
 cases v with
 | v x=>
   have :mZ n x.av=lO n x.av:=by
    cases x with
    | cl c=>cases c with
      | c x=>cases x <;> rfl
      | _=>rfl
    | _=>rfl
   show (u6 n x).av=mZ n x.av
   rw [this,Dl]
 | tup l=>
   simp only [sG,V.av,mZ,List.map_map]
   congr 1
   exact List.map_congr_left fun c _=>Dl n c
theorem Ga {G:List (Option bG)} {out:List bG} {c:Cl} (h:c.ok (out.map some)): (G3 G.length c).ok (G++out.map some):=by
 cases c with
 | own p sz lo len w=>
   obtain⟨h1,h2⟩:=h
   refine⟨by simp at h1 ⊢; omega,fun hw=> ?_⟩
   obtain⟨a,b,c⟩:=h2 hw
   refine⟨a,b,fun tr htr=>c tr ?_⟩
   rw [zz,if_pos (by simp)] at htr
   simp only [Nat.add_sub_cancel] at htr
   unfold cK
   rw [df,List.getElem?_map,htr]
   rfl
 | c x=>cases x <;> trivial
 | _=>trivial
theorem Dm {G:List (Option bG)} {out:List bG} {v:V1} (h:v.ok (out.map some)): (u6 G.length v).ok (G++out.map some):=by
 cases v with
 | cl c=>exact Ga h
 | agg cs=>
   intro c hc
   obtain⟨x,hx,rfl⟩:=List.mem_map.1 hc
   exact Ga (h x hx)
 | fn f cs=>trivial
theorem zC {G:List (Option bG)} {out:List bG} {v:V} (h:v.ok (out.map some)): (sG G.length v).ok (G++out.map some):=by
 cases v with
 | v x=>exact Dm h
 | tup l=>
   intro c hc
   obtain⟨x,hx,rfl⟩:=List.mem_map.1 hc
   exact Dm (h x hx)
theorem wy (S:TS) (v:AV) (out:List bG): ({ S with gh:=S.gh++out.map some }:TS).st=(nn S.st (v,out.map bG.tree)).2:=by
 unfold TS.st nn
 simp only [List.length_append,List.length_map]
 congr 1
 funext r
 rw [zz]
 by_cases h:S.gh.length≤r
 ·rw [if_pos h]
  by_cases h2:r < S.gh.length+out.length
  ·rw [if_pos ⟨h,h2⟩,List.getElem?_map]
  ·rw [if_neg (fun hh=>h2 hh.2),List.getElem?_eq_none (by omega),vb h]
 ·rw [if_neg h,if_neg (fun hh=>h hh.1)]
section
variable {ρ:Type} {P:Program} {Θ:ot} {S:TS} {Y:xH}
theorem xK (hS:S.ok): ∀ (caps:List Cl) (κ':List Cl→Option ρ) (r:ρ),(∀ c∈caps,c.ok S.gh)→De (Nc S none) caps κ'=some r→ ∃ cs,(caps.map Cl.av).map (dn S.st 0)=cs.map Cl.av∧κ' cs=some r:=by
 intro caps
 induction caps with
 | nil=>intro κ' r _ h; exact⟨[],rfl,h⟩
 | cons c caps ih=>
   intro κ' r hc h
   unfold De at h
   obtain⟨c',g1,h⟩:=Dj hS (hc c List.mem_cons_self) h
   obtain⟨cs,g2,h⟩:=ih _ r (fun x hx=>hc x (List.mem_cons_of_mem _ hx)) h
   exact⟨c'::cs,by rw [List.map_cons,List.map_cons,g2,g1 0 (fun t ht=>by cases ht),List.map_cons],h⟩
theorem OT (hΘ:dG P Θ) (hY:az P Y) (hS:S.ok) {f:Operand} {ts:Array TypeId} {as:Array Operand} {κ:V→TS→Option ρ} {r:ρ} (h:Ma Θ Y S f ts.toList as.toList κ=some r) {dst:Option Tmp} {ty:TypeId} {pos:String} {aft:Array Edge} {gd:Option (Nat×Bool)}:
  ∃ D v S',nr P D∧ic D P S.st ⟨dst, .call { callee:= .value f,args:=as,argTypes:=ts },ty,pos,aft,gd⟩=some (V.av v,TS.st S')∧S'.ok∧v.ok S'.gh∧κ v S'=some r:=by
 have fin: ∀ (g:FuncId) (caps:List AV) (vs:List V1),g < ia→callee S.st f=some (g,caps)→args P S.st ts as caps=vs.map V1.av→Y g vs ρ (fun res out=>κ (sG S.gh.length res) { S with gh:=S.gh++out.map some })=some r→
   ∃ D v S',nr P D∧ic D P S.st ⟨dst, .call { callee:= .value f,args:=as,argTypes:=ts },ty,pos,aft,gd⟩=some (V.av v,TS.st S')∧S'.ok∧v.ok S'.gh∧κ v S'=some r:=by
  intro g caps vs hg h1 h2 h3
  obtain⟨res,out,h4,h5,h6⟩:=hY _ _ _ _ _ h3
  have h4:=h4.fn hg
  refine⟨Ng dst g (vs.map V1.av) (res.av,out.map bG.tree),_,_,Dk h4,?_,TS.ok_gh hS (gr.apps _ _),zC h5,h6⟩
  simp only [ic,h1,Option.bind_some,h2]
  rw [Mj]
  simp only [Option.map_some]
  rw [wy S res.av out,zB]
  rfl
 unfold Ma at h
 split at h
 ·rename_i g x y hf
  obtain⟨hg,h⟩:=am h
  have hg:g < ia:=Nat.le_of_ble_eq_true hg
  obtain⟨vs,h1,h⟩:=rG hΘ hS _ _ _ _ h
  refine fin g [] vs hg ?_ ?_ h
  ·unfold callee
   rw [aZ,hf]
   rfl
  ·unfold args
   simp only [List.map_nil,List.append_nil]
   exact h1
 ·rename_i g caps hf
  obtain⟨hg,h⟩:=am h
  have hg:g < ia:=Nat.le_of_ble_eq_true hg
  obtain⟨vs,h1,h⟩:=rG hΘ hS _ _ _ _ h
  have hcaps: ∀ c∈caps,c.ok S.gh:=by
   have:=kK hS f
   rw [hf] at this
   exact this
  obtain⟨cs,h2,h⟩:=xK hS _ _ _ hcaps h
  refine fin g (caps.map Cl.av) (vs++cs.map .cl) hg ?_ ?_ h
  ·unfold callee
   rw [aZ,hf]
   rfl
  ·unfold args
   rw [h1,h2,List.map_append,List.map_map]
   rfl
 ·cases h
theorem eW {t t':Ty} {l:List t.D} {l':List t'.D} (h:t4 t t' l=some l'): ∃ e:t=t',e ▸ l=l':=by
 unfold t4 at h
 split at h
 ·rename_i e
  exact⟨e,Option.some.inj h⟩
 ·cases h
theorem Ni {t:Ty} (h:t.flatB=true) (x:t.D): (t.row x).all T.flat=true:=by
 cases t with
 | st n=>cases n <;> first | rfl | cases h
 | ls t=>cases h
 | _=>rfl
theorem zD (t:Ty): (t.shs.all (· ==0))=t.flatB:=by
 cases t with
 | st n=>cases n <;> rfl
 | ls t=>
   show ((t.width==0)&&true)=false
   have:=t.width_pos
   cases hw:t.width with
   | zero=>omega
   | succ n=>rfl
 | _=>rfl
theorem vd {t:Ty} (h:t.flatB=true) (l:List t.D): (l.map t.row).all (fun r=>r.all T.flat)=true:=by
 rw [List.all_eq_true]
 intro x hx
 obtain⟨y,_,rfl⟩:=List.mem_map.1 hx
 exact Ni h y
theorem Qz (hS:S.ok) {el:Ty} {v:Cl} (hv:v.ok S.gh) {κ:List el.D→TS→Option ρ} {r:ρ} (h:OB S el v κ=some r):
  ∃ more S',lP S.st el.width el.flatB v.av=some (more.map el.row,S'.st)∧S'.ok∧gr S.gh S'.gh∧S'.gh.length=S.gh.length∧S'.fz=S.fz∧κ more S'=some r:=by
 unfold OB at h
 split at h
 ·exact⟨[],S,rfl,hS,gr.refl _,rfl,rfl,h⟩
 ·rename_i t l
  obtain⟨h1,h⟩:=am h
  split at h
  ·rename_i l' hl
   obtain⟨e,hl⟩:=eW hl
   subst e
   simp only at hl
   subst hl
   refine⟨l,S,?_,hS,gr.refl _,rfl,rfl,h⟩
   simp only [Cl.av,C.av,lP]
   rw [if_pos ⟨trivial,vd h1 l⟩]
  ·cases h
 ·rename_i p sz lo len w
  obtain⟨h0,h⟩:=am h
  have h0:el.width=sz:=Nat.eq_of_beq_eq_true h0
  cases hfl:el.flatB with
  | true=>
    rw [hfl] at h
    simp only [cond_true] at h
    obtain⟨t,l,h1,h2,h⟩:=eu h
    split at h
    ·rename_i l' hl
     obtain⟨e,hl⟩:=eW hl
     subst e
     simp only at hl
     subst hl
     have src: ∀ (lo len:Nat),lo+len≤l.length→lP S.st t.width true (.own p sz lo len)=some (((l.drop lo).take len).map t.row,S.st):=by
      intro lo len hle
      simp only [lP]
      rw [if_pos h0.symm,kr h1]
      simp only [Option.bind_some,Bool.true_eq_false,false_and,if_false,List.length_map]
      rw [if_pos ⟨hle,by rw [←List.map_drop,←List.map_take]; exact vd hfl _⟩]
      simp [List.map_take,List.map_drop]
     cases w with
     | true=>
       obtain⟨e1,e2,e3⟩:=t6 hv h2
       refine⟨l,S,?_,hS,gr.refl _,rfl,rfl,h⟩
       have:=src lo len (by omega)
       rw [e2,e3,List.drop_zero,List.take_length] at this
       simp only [Cl.av]
       rw [e2,e3]
       exact this
     | false=>
       simp only [cond_false] at h
       obtain⟨h3,h⟩:=c8 h
       exact⟨_,S,src lo len h3,hS,gr.refl _,rfl,rfl,h⟩
    ·cases h
  | false=>
    rw [hfl] at h
    simp only [cond_false] at h
    split at h
    ·rename_i hp
     obtain⟨h3,h6⟩:=am h
     clear h
     simp only [Bool.and_eq_true] at h3
     obtain⟨hw,h4⟩:=h3
     have h4:S.fz≤p.r:=Nat.le_of_ble_eq_true h4
     subst hw
     obtain⟨t,l,h1,h2,h⟩:=eu h6
     split at h
     ·rename_i l' hl
      obtain⟨e,hl⟩:=eW hl
      subst e
      simp only at hl
      subst hl
      obtain⟨e1,e2,e3⟩:=t6 hv h2
      refine⟨l,_,?_,TS.ok_gh hS (gr.gone _ _),gr.gone _ _,by simp [eV],rfl,h⟩
      simp only [Cl.av,lP]
      rw [if_pos h0.symm,kr h1]
      simp only [Option.bind_some,List.length_map]
      rw [if_pos ⟨trivial,hp,e2,e3,h4⟩,xJ]
     ·cases h
    ·cases h
 ·cases h
end
end Go.Proofs.YtkcgfceffffmoaaGreat.En
namespace Go.Proofs.YtkcgfceffffmoaaGreat.En
open Go
theorem Lc (t:Ty):t.zvs.length=t.width:=by
 cases t with
 | st n=>cases n <;> rfl
 | _=>rfl
theorem Dn (t:Ty):t.shs.length=t.width:=by
 cases t with
 | st n=>cases n <;> rfl
 | _=>rfl
theorem Ha {P:Program} {el:TypeId} {e:Ty} (h1:P.cellsOf el=e.width) (h2:oh P 9 el=e.shs) (h3:zd P el=some e.zvs):EX P el=some (List.zipWith zc e.shs e.zvs):=by
 unfold EX
 rw [h3]
 simp only [Option.bind_some]
 rw [if_pos ⟨by rw [h1,Lc],by rw [h2,h1,Dn]⟩,h2]
section
variable {ρ:Type} {P:Program} {Θ:ot} {S:TS}
theorem OU (hS:S.ok) {el:Ty} {v:Cl} (hv:v.ok S.gh) {more:List el.D} {κ:List el.D→TS→Option ρ} {r:ρ} (h:I8 S el v more κ=some r):
  ∃ l S',kB S.st v.av el.width (more.map el.row)=some (.own ⟨S.gh.length,[]⟩ el.width 0 l.length,{ S'.st with gh:=bL S'.st.gh S.gh.length (some (.sl el.width (l.map el.row))),ng:=S.gh.length+1 })∧
    S'.ok∧gr S.gh S'.gh∧S'.gh.length=S.gh.length∧κ l S'=some r:=by
 unfold I8 at h
 split at h
 ·refine⟨more,S,?_,hS,gr.refl _,rfl,h⟩
  simp only [Cl.av,kB,List.length_map]
  rfl
 ·rename_i p sz lo len w
  obtain⟨h0,h'⟩:=am h
  clear h
  simp only [Bool.and_eq_true] at h0
  have hfz:S.fz≤p.r:=Nat.le_of_ble_eq_true h0.1
  have hsz:el.width=sz:=Nat.eq_of_beq_eq_true h0.2
  split at h'
  ·rename_i hp
   obtain⟨t,l,h1,h2,h⟩:=eu h'
   split at h
   ·rename_i l' hl
    obtain⟨e,hl⟩:=eW hl
    subst e
    simp only at hl
    subst hl
    have fin: ∀ (len:Nat),¬ l.length < len→kB S.st (.own p sz 0 len) t.width (more.map t.row)=some (.own ⟨S.gh.length,[]⟩ t.width 0 (l.take len++more).length,{ ({ S with gh:=cS S.gh p.r none }:TS).st with gh:=bL ({ S with gh:=cS S.gh p.r none }:TS).st.gh S.gh.length (some (.sl t.width ((l.take len++more).map t.row))),ng:=S.gh.length+1 }):=by
     intro len hlen
     simp only [kB]
     rw [if_pos ⟨hsz.symm,trivial,hfz⟩,kr h1]
     simp only [Option.bind_some,List.length_map]
     rw [if_neg hlen,if_pos hp,xJ]
     have e1: (l.take len++more).length=len+more.length:=by simp; omega
     rw [e1,List.map_append,List.map_take]
     rfl
    cases w with
    | true=>
      obtain⟨e1,e2,e3⟩:=t6 hv h2
      refine⟨_,_,?_,TS.ok_gh hS (gr.gone _ _),gr.gone _ _,by simp [eV],h⟩
      have:=fin l.length (by omega)
      rw [List.take_length] at this
      simp only [Cl.av]
      rw [e2,e3]
      exact this
    | false=>
      simp only [cond_false] at h
      obtain⟨h3,h⟩:=c8 h
      obtain⟨h4,h⟩:=zx h
      refine⟨_,_,?_,TS.ok_gh hS (gr.gone _ _),gr.gone _ _,by simp [eV],h⟩
      simp only [Cl.av]
      rw [h3]
      exact fin len h4
   ·cases h
  ·rename_i i j hp
   split at h'
   ·rename_i tr htr
    split at h'
    ·rename_i hh
     obtain⟨t,l,h1,h2,h⟩:=eu h'
     split at h
     ·rename_i l' hl
      obtain⟨e,hl⟩:=eW hl
      subst e
      simp only at hl
      subst hl
      obtain⟨h3,h⟩:=c8 h
      obtain⟨h4,h⟩:=zx h
      have hg:=bG.look htr
      have hput:gr S.gh (cS S.gh p.r (some (bG.mk tr.t tr.l (some (i,j))))):=gr.put hg rfl
      refine⟨_,{ S with gh:=cS S.gh p.r (some (bG.mk tr.t tr.l (some (i,j)))) },?_,TS.ok_gh hS hput,hput,by simp [eV],h⟩
      simp only [Cl.av,kB]
      rw [if_pos ⟨hsz.symm,h3,hfz⟩,kr h1]
      simp only [Option.bind_some,List.length_map]
      rw [if_neg h4,if_neg (by rw [hp]; simp),zA _ _ (sH hg)]
      have e1: (l.take len++more).length=len+more.length:=by simp; omega
      rw [e1,List.map_append,List.map_take]
      have e2:S.st.setAt p .dd= { S.st with gh:=bL S.st.gh p.r (some (bG.tree ⟨tr.t,tr.l,some (i,j)⟩)) } :=by
       unfold St.setAt
       congr 2
       show ((cK S.gh p.r).map bG.tree).map _=_
       rw [hg,hp]
       obtain⟨t0,l0,hole⟩:=tr
       simp only at hh
       subst hh
       rfl
      rw [e2]
      rfl
     ·cases h
    ·cases h'
   ·cases h'
  ·cases h'
 ·cases h
theorem QA (hΘ:dG P Θ) (hS:S.ok) {t:TypeId} {s x:Operand} {κ:V→TS→Option ρ} {r:ρ} (h:Qp Θ S t (S.opd s) (S.opd x) κ=some r) {dst:Option Tmp} {ty:TypeId} {pos:String} {aft:Array Edge} {gd:Option (Nat×Bool)} {D:qy}:
  ∃ v S',ic D P S.st ⟨dst, .call { callee:= .builtin .append,args:= #[s,x],argTypes:= #[t,t] },ty,pos,aft,gd⟩=some (V.av v,TS.st S')∧S'.ok∧v.ok S'.gh∧κ v S'=some r:=by
 unfold Qp at h
 split at h
 ·rename_i ti hti
  split at h
  ·rename_i el sv xv he hs hx
   obtain⟨elT',g1,g2,g3,g4,g5,g6⟩:=(hΘ _ _ hti).el el he
   have hsv:=kK hS s
   rw [hs] at hsv
   have hxv:=kK hS x
   rw [hx] at hxv
   obtain⟨more,S1,h1,k1,k2,k3,k4,h⟩:=Qz hS (show xv.ok S.gh from hxv) h
   obtain⟨l,S2,h2,m1,m2,m3,h⟩:=OU k1 (Cl.ok_mono k2 (show sv.ok S.gh from hsv)) h
   obtain⟨hb,h⟩:=c8 h
   have hgl:gr S1.gh (S2.gh++ [some ⟨el,l,none⟩]):=m2.trans (gr.app _ _)
   refine⟨_,_,?_,TS.ok_gh m1 (gr.app _ _),?_,h⟩
   ·simp only [ic]
    rw [if_pos trivial,g1]
    simp only [Option.bind_some,g2,g5,zD,aZ,hs,hx]
    show (lP S.st el.width el.flatB xv.av).bind _=_
    rw [h1]
    simp only [Option.bind_some]
    show (kB S1.st sv.av el.width _).bind _=_
    rw [h2]
    simp only [Option.bind_some]
    have hlen:l.length≤2 ^ 40:=Nat.le_trans (Nat.le_mul_of_pos_right _ g4) hb
    rw [if_pos ⟨by rw [g3]; exact hb,hlen,el.width_pos,by rw [Ha g2 g5 g6]; rfl⟩]
    rw [G8,m3]
    rfl
   ·refine⟨by simp,fun _=>⟨rfl,rfl,fun tr htr=> ?_⟩⟩
    rw [lW,if_pos rfl] at htr
    cases htr
    rfl
  ·cases h
 ·cases h
end
end Go.Proofs.YtkcgfceffffmoaaGreat.En
