import Derived.Test.YtkcgfceffffmoaaGreatZX5
namespace Go.Proofs.YtkcgfceffffmoaaGreat.En
section
open Go
inductive Cl where
 | c (x:C)
 | em
 | own (p:gt) (sz lo len:Nat) (w:Bool)
 | pro (cs:List C)
 | ptrB (n j:Nat)
 | ptrT (p:gt) (sz i j:Nat)
 | dead
 deriving Inhabited
inductive V1 where
 | cl (x:Cl)
 | agg (cs:List Cl)
 | fn (f:FuncId) (cs:List Cl)
 deriving Inhabited
inductive V where
 | v (x:V1)
 | tup (l:List V1)
 deriving Inhabited
structure gK where
 t:Ty
 l:List t.D
 hole:Option (Nat×Nat)
structure TS where
 env:List (Nat×V)
 bx:List (List Cl)
 gh:List (Option gK)
 fz:Nat
 nt:Nat
structure TI where
 ty:Ty
 el:Nat
 fds:List (Nat×Nat×Bool)
 bytes:Nat
abbrev Du:=List (Nat×TI)
@[reducible] def V.c (x:C):V:= .v (.cl (.c x))
@[reducible] def V.sc (x:Value):V:= .v (.cl (.c (.sc x)))
@[reducible] def V.dead:V:= .v (.cl .dead)
def p7:List (Nat×V)->Nat->V
 | [],_=>V.dead
 | (t,v)::l,u=>bif Nat.beq t u then v else p7 l u
def yX:Du->Nat->Option TI
 | [],_=>none
 | (t,v)::l,u=>bif Nat.beq t u then some v else yX l u
def C1 {α:Type}:List α->Nat->Option α
 | [],_=>none
 | a::l,n=>bif Nat.beq n 0 then some a else C1 l (n - 1)
def cC (v:Value):Cl:=bif EY v then .c (.sc v) else match v with | .slice none 0 0=> .em | _=> .dead
def cV:Value->V
 | .agg cs=>bif cs.toList.all Value.oneCell' then .v (.agg (cs.toList.map cC)) else V.dead
 | v=> .v (.cl (cC v))
def TS.opd (S:TS):Operand->V
 | .tmp t=>p7 S.env t
 | .const v=>cV v
 | .func f=>V.sc (.func (.func f) #[] #[])
 | .global _=>V.dead
def V1.cells:V1->List Cl
 | .cl x=> [x]
 | .agg cs=>cs
 | .fn _ _=> [.dead]
def C.flatB:C->Bool | .sc _=>true | _=>false
def Ty.flatB (t:Ty):Bool:=t.csh.all (·.isNone)
section
variable {ρ:Type}
def br {α:Type} (b:Bool) (x y:α):α:=cond b x y
def eg {α:Type} (c:Prop) [Decidable c] (x y:α):α:=if c then x else y
def ag6 (S:TS) (x:Operand) (κ:Bool->TS->Option ρ):Option ρ:=match x with
 | .tmp t=>match p7 S.env t with
   | .v (.cl (.c (.sc (.bool b))))=>br b (κ true { S with env:=(t,V.sc (.bool true))::S.env }) (κ false { S with env:=(t,V.sc (.bool false))::S.env })
   | _=>none
 | .const (.bool b)=>κ b S
 | _=>none
def ajt (v:V) (κ:Int->Option ρ):Option ρ:=match v with | .v (.cl (.c (.sc (.int _ n))))=>κ n | _=>none
def GF (S:TS) (p:gt) (κ: (t:Ty)->List t.D->Option ρ):Option ρ:=match C1 S.gh p.r with
 | some (some tr)=>match tr.hole with
   | none=>match p.l with
     | [] =>κ tr.t tr.l
     | [(i,j)] =>(tr.l[i]?).bind fun x=>match C1 (tr.t.flat x) j with
       | some (.ls t l)=>κ t l
       | _=>none
     | _=>none
   | some _=>none
 | _=>none
def C.ro:C->Cl:=Cl.c
def aju (p:gt) (i j:Nat):C->Cl
 | .sc v=> .c (.sc v)
 | .ls t l=> .own ⟨p.r,p.l++ [(i,j)]⟩ t.width 0 l.length false
def Ti {α β:Type} (f:Nat->α->β):Nat->List α->List β
 | _,[] => []
 | n,a::l=>f n a::Ti f (n+1) l
def ajv (S:TS) (n:Nat) (v:Cl) (κ:List Cl->Option ρ):Option ρ:=match v with
 | .ptrB b j=>match C1 S.bx b with
   | some cs=>bif Nat.ble (j+n) cs.length then κ ((cs.drop j).take n) else none
   | none=>none
 | .pro cells=>bif Nat.ble n cells.length then κ ((cells.take n).map Cl.c) else none
 | .ptrT p sz i j=>GF S p fun t l=>bif Nat.beq t.width sz&&Nat.ble (j+n) sz then (l[i]?).bind fun x=>κ (Ti (aju p i) j (((t.flat x).drop j).take n)) else none
 | _=>none
def mkK (ag:Bool) (cs:List Cl) (κ:V->Option ρ):Option ρ:=bif ag then κ (.v (.agg cs)) else match cs with | [c] =>κ (.v (.cl c)) | _=>none
def Ty.ag:Ty->Bool | .st _=>true | _=>false
def ag7 (Θ:Du) (S:TS) (t:TypeId) (v:V) (κ:V->Option ρ):Option ρ:=match yX Θ t with
 | some ti=>match v with | .v (.cl a)=>ajv S ti.ty.width a fun cs=>mkK ti.ty.ag cs κ | _=>none
 | none=>none
def aq5 (n:Nat) (i:Int) (S:TS) (v:Cl) (κ:Cl->Option ρ):Option ρ:=match v with
 | .c (.ls t l)=>bif Nat.beq t.width n then eg (0<=i) ((l[i.toNat]?).bind fun x=>κ (.pro (t.flat x))) none else none
 | .own p sz _ _ true=>bif Nat.beq sz n then GF S p fun _ l=>eg (0<=i/\i < l.length) (κ (.ptrT p sz i.toNat 0)) none else none
 | .own p sz lo len false=>bif Nat.beq sz n then eg (0<=i/\i < len) (κ (.ptrT p sz (lo+i.toNat) 0)) none else none
 | _=>none
def apz (S:TS) (v:Cl) (κ:Int->Option ρ):Option ρ:=match v with
 | .c (.ls _ l)=>κ l.length
 | .own p _ _ _ true=>GF S p fun _ l=>κ l.length
 | .own _ _ _ len false=>κ len
 | .em=>κ 0
 | _=>none
def aq6 (n:Nat) (lo hi:Int) (v:Cl) (κ:Cl->Option ρ):Option ρ:=match v with
 | .em=>eg (lo=0/\hi=0) (κ .em) none
 | .c (.ls t l)=>bif Nat.beq t.width n then eg (0<=lo/\lo<=hi/\hi<=l.length) (κ (.c (.ls t ((l.drop lo.toNat).take (hi.toNat - lo.toNat))))) none else none
 | .own p sz l len _=>bif Nat.beq sz n then eg (0<=lo/\lo<=hi/\hi<=len) (κ (.own p sz (l+lo.toNat) (hi.toNat - lo.toNat) false)) none else none
 | _=>none
def aem (S:TS) (d:Int) (x:Option Operand) (κ:Int->Option ρ):Option ρ:=match x with
 | none=>κ d
 | some x=>ajt (S.opd x) κ
def alY:List (Nat×Nat×Bool)->List Cl->List (Nat×V)->Option (List Cl)
 | _,cs,[] =>some cs
 | pl,cs,(k,v)::r=>match C1 pl k with
   | some (off,n,_)=>match v with
     | .v x=>match x with
       | .cl .dead=>none
       | .fn _ _=>none
       | x=>bif Nat.beq x.cells.length n&&Nat.ble (off+n) cs.length then alY pl (cs.take off++x.cells++cs.drop (off+n)) r else none
     | _=>none
   | none=>none
def ag8:Value->Value->Option Bool
 | .int _ a, .int _ b=>some (a==b)
 | .bool a, .bool b=>some (a==b)
 | _,_=>none
def MT:List Cl->List Cl->Option Bool
 | [],[] =>some true
 | .c (.sc a)::l, .c (.sc b)::m=>match ag8 a b,MT l m with
   | some x,some y=>some (x&&y)
   | _,_=>none
 | _,_=>none
def wx:List Value->List Cl->Bool
 | [],[] =>true
 | .int k _::zs, .c (.sc (.int k' _))::cs=>bif decide (k=k') then wx zs cs else false
 | .bool _::zs, .c (.sc (.bool _))::cs=>wx zs cs
 | _,_=>false
def V.ints (f:IntKind->Int->Int->Option ρ):V->V->Option ρ
 | .v (.cl (.c (.sc (.int k a)))), .v (.cl (.c (.sc (.int k' b))))=>if k=k' then f k a b else none
 | _,_=>none
def eqK (Θ:Du) (t:TypeId) (x y:V) (κ:Bool->Option ρ):Option ρ:=match x,y with
 | .v (.cl (.c (.sc (.int k a)))), .v (.cl (.c (.sc (.int k' b))))=>if k=k' then κ (a==b) else none
 | .v (.cl (.c (.sc (.bool a)))), .v (.cl (.c (.sc (.bool b))))=>match yX Θ t with
   | some ti=>match ti.ty with | .b=>κ (a==b) | _=>none
   | none=>none
 | .v (.agg a), .v (.agg b)=>match yX Θ t with
   | some ti=>bif ti.ty.ag&&ti.ty.flatB&&wx ti.ty.zvs a&&wx ti.ty.zvs b then (match MT a b with | some r=>κ r | none=>none) else none
   | none=>none
 | _,_=>none
def aq7 (Θ:Du) (op:BinOp) (t:TypeId) (x y:V) (κ:V->Option ρ):Option ρ:=match op with
 | .lss=>V.ints (fun _ a b=>κ (V.sc (.bool (decide (a < b))))) x y
 | .leq=>V.ints (fun _ a b=>κ (V.sc (.bool (decide (a<=b))))) x y
 | .gtr=>V.ints (fun _ a b=>κ (V.sc (.bool (decide (a > b))))) x y
 | .geq=>V.ints (fun _ a b=>κ (V.sc (.bool (decide (a≥b))))) x y
 | .add=>V.ints (fun k a b=>κ (V.sc (.int k (k.wrap (a+b))))) x y
 | .sub=>V.ints (fun k a b=>κ (V.sc (.int k (k.wrap (a - b))))) x y
 | .mul=>V.ints (fun k a b=>κ (V.sc (.int k (k.wrap (a*b))))) x y
 | .quo=>V.ints (fun k a b=>if b=0 then none else κ (V.sc (.int k (k.wrap (a.tdiv b))))) x y
 | .rem=>V.ints (fun k a b=>if b=0 then none else κ (V.sc (.int k (a.tmod b)))) x y
 | .eql=>eqK Θ t x y fun r=>κ (V.sc (.bool r))
 | .neq=>eqK Θ t x y fun r=>κ (V.sc (.bool (!r)))
 | _=>none
def ag9:List V->Option (List Cl)
 | [] =>some []
 | .v (.cl c)::l=>match ag9 l with | some r=>some (c::r) | none=>none
 | _=>none
def YE (Θ:Du) (S:TS) (o:Oper) (κ:V->TS->Option ρ):Option ρ:=
 let e:=S.opd
 match o.op with
 | .move x | .assign x=>κ (e x) S
 | .pick c a b=>ag6 S c fun t S=>bif t then κ (S.opd a) S else κ (S.opd b) S
 | .load t a=>ag7 Θ S t (e a) (fun v=>κ v S)
 | .nilCheck x=>match e x with
   | .v (.cl (.ptrB n j))=>κ (.v (.cl (.ptrB n j))) S
   | .v (.cl (.ptrT p sz i j))=>κ (.v (.cl (.ptrT p sz i j))) S
   | .v (.cl (.pro cs))=>κ (.v (.cl (.pro cs))) S
   | .v (.fn f cs)=>κ (.v (.fn f cs)) S
   | .v (.cl (.c (.sc (.func (.func f) a b))))=>κ (.v (.cl (.c (.sc (.func (.func f) a b))))) S
   | _=>none
 | .fieldAddr t x k=>match yX Θ t with
   | some ti=>match C1 ti.fds k with
     | some (off,n,_)=>bif Nat.beq n 0 then none else match e x with
       | .v (.cl (.ptrB b j))=>κ (.v (.cl (.ptrB b (j+off)))) S
       | .v (.cl (.ptrT p sz i j))=>κ (.v (.cl (.ptrT p sz i (j+off)))) S
       | .v (.cl (.pro cs))=>κ (.v (.cl (.pro (cs.drop off)))) S
       | _=>none
     | none=>none
   | none=>none
 | .field t x k=>match yX Θ t with
   | some ti=>match C1 ti.fds k with
     | some (off,n,ag)=>match e x with
       | .v (.agg cs)=>bif Nat.ble (off+n) cs.length&&Nat.blt 0 n then mkK ag ((cs.drop off).take n) (fun v=>κ v S) else none
       | _=>none
     | none=>none
   | none=>none
 | .indexAddr t x ix=>match yX Θ t with
   | some ti=>match ti.ty with
     | .ls el=>ajt (e ix) fun i=>match e x with | .v (.cl a)=>aq5 el.width i S a (fun c=>κ (.v (.cl c)) S) | _=>none
     | _=>none
   | none=>none
 | .build t parts=>match yX Θ t with
   | some ti=>bif ti.ty.ag then (match alY ti.fds (ti.ty.zvs.map cC) (parts.toList.map fun x=>(x.1,e x.2)) with | some cs=>κ (.v (.agg cs)) S | none=>none) else none
   | none=>none
 | .slice t x lo hi none=>match yX Θ t with
   | some ti=>match ti.ty with
     | .ls el=>match e x with
       | .v (.cl a)=>apz S a fun n=>aem S 0 lo fun l=>aem S n hi fun h=>aq6 el.width l h a (fun c=>κ (.v (.cl c)) S)
       | _=>none
     | _=>none
   | none=>none
 | .convert s d x=>match yX Θ s,yX Θ d with
   | some _,some di=>match di.ty with
     | .i k'=>(match e x with | .v (.cl (.c (.sc (.int _ n))))=>κ (V.sc (.int k' (k'.wrap n))) S | _=>none)
     | _=>none
   | _,_=>none
 | .index t x ix=>match yX Θ t with
   | some ti=>match ti.ty with
     | .s=>(match e x,e ix with | .v (.cl (.c (.sc (.string s)))), .v (.cl (.c (.sc (.int _ i))))=>eg (0<=i) ((s[i.toNat]?).bind fun b=>κ (V.sc (.int .u8 b.toNat)) S) none | _,_=>none)
     | _=>none
   | none=>none
 | .extract x k=>match e x with | .tup vs=>(match C1 vs k with | some v=>κ (.v v) S | none=>none) | _=>none
 | .makeFunc (.func f) first caps=>bif first.isEmpty then (match ag9 (caps.toList.map e) with | some cs=>κ (.v (.fn f cs)) S | none=>none) else none
 | .call { callee:= .builtin .len,args:=as,argTypes:=ts } =>match as.toList,ts.toList with
   | [x],[t] =>match yX Θ t with
     | some ti=>match ti.ty with
       | .ls _=>(match e x with | .v (.cl a)=>apz S a fun n=>κ (V.sc (.int .i64 n)) S | _=>none)
       | _=>none
     | none=>none
   | _,_=>none
 | .call { callee:= .builtin .cap,args:=as,argTypes:=ts } =>match as.toList,ts.toList with
   | [x],[t] =>match yX Θ t with
     | some ti=>match ti.ty with
       | .ls _=>(match e x with | .v (.cl .em)=>κ (V.sc (.int .i64 0)) S | _=>none)
       | _=>none
     | none=>none
   | _,_=>none
 | .call { callee:= .builtin .max,args:=as,argTypes:=_ } =>match as.toList with
   | [x,y] =>V.ints (fun k a b=>κ (V.sc (.int k (if b > a then b else a))) S) (e x) (e y)
   | _=>none
 | .call { callee:= .builtin .min,args:=as,argTypes:=_ } =>match as.toList with
   | [x,y] =>V.ints (fun k a b=>κ (V.sc (.int k (if b < a then b else a))) S) (e x) (e y)
   | _=>none
 | .binOp op t x y _=>aq7 Θ op t (e x) (e y) (fun v=>κ v S)
 | .unOp .not _ x=>match e x with | .v (.cl (.c (.sc (.bool b))))=>κ (V.sc (.bool (!b))) S | _=>none
 | _=>none
end
end
section
open Go
def C.av:C->AV
 | .sc v=> .sc v
 | .ls t l=> .ro t.width (l.map t.row)
def Cl.av:Cl->AV
 | .c x=>x.av
 | .em=> .em
 | .own p sz lo len _=> .own p sz lo len
 | .pro cs=> .pro (cs.map C.tree)
 | .ptrB n j=> .ptrB n j
 | .ptrT p sz i j=> .ptrT p sz i j
 | .dead=> .dead
def V1.av:V1->AV
 | .cl x=>x.av
 | .agg cs=> .agg (cs.map Cl.av)
 | .fn f cs=> .fn f (cs.map Cl.av)
def V.av:V->AV
 | .v x=>x.av
 | .tup l=> .tup (l.map V1.av)
def gK.tree (x:gK):T:=match x.hole with
 | none=> .sl x.t.width (x.l.map x.t.row)
 | some (i,j)=> .sl x.t.width ((x.l.map x.t.row).set i (((x.l.map x.t.row).getD i []).set j .dd))
def jZ (G:List (Option gK)) (r:Nat):Option gK:=(C1 G r).getD none
def TS.st (S:TS):St where
 env:=fun t=>(p7 S.env t).av
 bx:=fun n=>(C1 S.bx n).map fun cs=>cs.map Cl.av
 gh:=fun r=>(jZ S.gh r).map gK.tree
 nb:=S.bx.length
 ng:=S.gh.length
 fz:=S.fz
 orc:=none
 nt:=S.nt
structure Tj where
 f:FuncId->List V1->(ρ:Type)->(V->List gK->Option ρ)->Option ρ
 kd:FuncId->Nat
instance:CoeFun Tj fun _=>FuncId->List V1->(ρ:Type)->(V->List gK->Option ρ)->Option ρ:=⟨Tj.f⟩
def qB:Nat:=1048576
def adn:Nat:=qB+qB
def Nl (g:Nat):Nat:=g+qB
def Tl (g:Nat):Nat:=g+adn
def aen (n:Nat):Cl->Cl
 | .own p sz lo len w=> .own ⟨p.r+n,p.l⟩ sz lo len w
 | .c (.sc v)=> .c (.sc v)
 | _=> .dead
def MU (n:Nat):V1->V1
 | .agg cs=> .agg (cs.map (aen n))
 | .cl c=> .cl (aen n c)
 | .fn _ _=> .cl .dead
def I0 (n:Nat):V->V
 | .tup vs=> .tup (vs.map (MU n))
 | .v x=> .v (MU n x)
def jS {α:Type}:List α->Nat->α->List α
 | [],_,_=> []
 | a::l,n,x=>bif Nat.beq n 0 then x::l else a::jS l (n - 1) x
def K5 (t t':Ty) (l:List t.D):Option (List t'.D):=if h:t=t' then some (h ▸ l) else none
def EL (r j:Nat):Cl->Cl
 | .own p sz lo len w=>match p.l with | (_,j')::_=>bif Nat.beq p.r r&&Nat.beq j j' then .dead else .own p sz lo len w | [] => .own p sz lo len w
 | .ptrT p sz a b=>match p.l with | (_,j')::_=>bif Nat.beq p.r r&&Nat.beq j j' then .dead else .ptrT p sz a b | [] => .ptrT p sz a b
 | c=>c
def Hu (r j:Nat):V1->V1
 | .cl c=> .cl (EL r j c)
 | .agg cs=> .agg (cs.map (EL r j))
 | .fn f cs=> .fn f (cs.map (EL r j))
def ado (r j:Nat):V->V
 | .v x=> .v (Hu r j x)
 | .tup vs=> .tup (vs.map (Hu r j))
def TS.kill (S:TS) (r j:Nat):TS:= { S with env:=S.env.map fun x=>(x.1,ado r j x.2),bx:=S.bx.map fun cs=>cs.map (EL r j) }
def qC (S:TS) (no j:Nat) (et:Option Ty) (c:Cl):Option (C×TS):=match c,et with
 | .c (.sc v),none=>some (.sc v,S)
 | .em,some t=>some (.ls t [],S.kill no j)
 | .own p sz _ _ true,some t=>match p.l with
   | [] =>bif Nat.beq t.width sz&&Nat.ble S.fz p.r&& !(Nat.beq p.r no) then match C1 S.gh p.r with
     | some (some tr)=>match tr.hole with
       | none=>bif Nat.beq tr.t.width sz then some (.ls tr.t tr.l,{ S with gh:=jS S.gh p.r none }.kill no j) else none
       | some _=>none
     | _=>none else none
   | _=>none
 | _,_=>none
def EM (no:Nat):Nat->TS->List (Option Ty)->List Cl->Option (List C×TS)
 | j,S,et::ets,c::cs=>match qC S no j et c with
   | some (x,S1)=>match EM no (j+1) S1 ets cs with
     | some (xs,S2)=>some (x::xs,S2)
     | none=>none
   | none=>none
 | _,S,[],[] =>some ([],S)
 | _,_,_,_=>none
def zc1 (et:Option Ty) (v:Value):C:=match et with | some t=> .ls t [] | none=> .sc v
def Ty.zcs (t:Ty):List C:=List.zipWith zc1 t.csh t.zvs
def scs:List Cl->Option (List C)
 | [] =>some []
 | .c (.sc v)::l=>match scs l with | some r=>some (.sc v::r) | none=>none
 | _=>none
section
variable {ρ:Type}
def YF {α β:Type} (f:α->(β->Option ρ)->Option ρ):List α->(List β->Option ρ)->Option ρ
 | [],κ=>κ []
 | a::l,κ=>f a fun b=>YF f l fun bs=>κ (b::bs)
def ajw (Θ:Du) (S:TS) (t:TypeId) (a v:V) (κ:TS->Option ρ):Option ρ:=match yX Θ t with
 | none=>none
 | some ti=>match v with
   | .tup _=>none
   | .v (.cl .dead)=>none
   | .v (.fn _ _)=>none
   | .v x=>bif Nat.beq x.cells.length ti.ty.width then match a with
     | .v (.cl (.ptrB b j))=>match C1 S.bx b with
       | some cs=>bif Nat.ble (j+x.cells.length) cs.length then κ { S with bx:=jS S.bx b (cs.take j++x.cells++cs.drop (j+x.cells.length)) } else none
       | none=>none
     | .v (.cl (.ptrT p sz i j))=>match p.l with
       | [] =>match C1 S.gh p.r with
         | some (some tr)=>bif Nat.beq tr.t.width sz&&Nat.ble (j+ti.ty.width) sz&&Nat.beq x.cells.length ti.ty.width then
           bif ti.ty.flatB then
            match tr.hole,scs x.cells with
            | none,some vs=>(tr.l[i]?).bind fun y=>match tr.t.unflat ((tr.t.flat y).take j++vs++(tr.t.flat y).drop (j+ti.ty.width)) with
              | some z=>κ { S with gh:=jS S.gh p.r (some ⟨tr.t,tr.l.set i z,none⟩) }
              | none=>none
            | _,_=>none
           else bif Nat.ble S.fz p.r then match EM p.r j S ti.ty.csh x.cells with
            | some (vs,S1)=>(tr.l[i]?).bind fun y=>match tr.t.unflat ((tr.t.flat y).take j++vs++(tr.t.flat y).drop (j+ti.ty.width)) with
              | some z=>match tr.hole with
                | none=>κ { S1 with gh:=jS S1.gh p.r (some ⟨tr.t,tr.l.set i z,none⟩) }
                | some (i0,j0)=>bif Nat.beq j j0&&Nat.beq ti.ty.width 1 then eg (i=i0) (κ { S1 with gh:=jS S1.gh p.r (some ⟨tr.t,tr.l.set i z,none⟩) }) none else none
              | none=>none
            | none=>none else none
           else none
         | _=>none
       | _=>none
     | _=>none
     else none
def reC (S:TS) (et:Option Ty) (c:Cl) (κ:Cl->Option ρ):Option ρ:=match c with
 | .c x=>κ (.c x)
 | .em=>match et with | some t=>κ (.c (.ls t [])) | none=>none
 | .own p sz _ _ true=>GF S p fun t l=>bif Nat.beq t.width sz then κ (.c (.ls t l)) else none
 | .own p sz lo len false=>GF S p fun t l=>bif Nat.beq t.width sz then eg (lo+len<=l.length) (κ (.c (.ls t ((l.drop lo).take len)))) none else none
 | .pro cs=>κ (.pro cs)
 | .ptrT p sz i j=>GF S p fun t l=>bif Nat.beq t.width sz then (l[i]?).bind fun x=>κ (.pro ((t.flat x).drop j)) else none
 | .ptrB b j=>match C1 S.bx b with
   | some cs=>YF (fun c κ=>match c with
     | .c x=>κ x
     | .own p sz _ _ true=>GF S p fun t l=>bif Nat.beq t.width sz then κ (.ls t l) else none
     | _=>none) (cs.drop j) fun cs=>κ (.pro cs)
   | none=>none
 | .dead=>κ .dead
def apA (S:TS):List (Option Ty)->List Cl->(List Cl->Option ρ)->Option ρ
 | et::ets,c::cs,κ=>reC S et c fun c'=>apA S ets cs fun cs'=>κ (c'::cs')
 | [],[],κ=>κ []
 | _,_,_=>none
def reV (Θ:Du) (S:TS) (t:TypeId) (v:V) (κ:V1->Option ρ):Option ρ:=match v with
 | .tup _=>none
 | .v (.fn f cs)=>YF (reC S none) cs fun cs'=>κ (.fn f cs')
 | .v (.agg cs)=>match yX Θ t with | some ti=>apA S ti.ty.csh cs fun cs'=>κ (.agg cs') | none=>none
 | .v (.cl .em)=>κ (.cl .em)
 | .v (.cl c)=>match yX Θ t with | some ti=>reC S (ti.ty.csh.headD none) c fun c'=>κ (.cl c') | none=>reC S none c fun c'=>κ (.cl c')
def HX (Θ:Du) (S:TS):List TypeId->List Operand->(List V1->Option ρ)->Option ρ
 | t::ts,a::as,κ=>reV Θ S t (S.opd a) fun v=>HX Θ S ts as fun vs=>κ (v::vs)
 | [],[],κ=>κ []
 | _,_,_=>none
def ak0 (Θ:Du) (Y:Tj) (S:TS) (f:Operand) (ts:List TypeId) (as:List Operand) (κ:V->TS->Option ρ):Option ρ:=match S.opd f with
 | .v (.cl (.c (.sc (.func (.func g) _ _))))=>bif Nat.blt g qB then HX Θ S ts as fun vs=>Y g vs ρ fun res out=>κ (I0 S.gh.length res) { S with gh:=S.gh++out.map some } else none
 | .v (.fn g caps)=>bif Nat.blt g qB then HX Θ S ts as fun vs=>YF (reC S none) caps fun cs=>Y g (vs++cs.map .cl) ρ fun res out=>κ (I0 S.gh.length res) { S with gh:=S.gh++out.map some } else none
 | _=>none
def anA (S:TS) (el:Ty) (v:Cl) (κ:List el.D->TS->Option ρ):Option ρ:=match v with
 | .em=>κ [] S
 | .c (.ls t l)=>bif el.flatB then match K5 t el l with | some l=>κ l S | none=>none else none
 | .own p sz lo len w=>bif Nat.beq el.width sz then (bif el.flatB then GF S p fun t l=>match K5 t el l with
   | some l=>bif w then κ l S else eg (lo+len<=l.length) (κ ((l.drop lo).take len) S) none
   | none=>none
   else match p.l with
   | [] =>bif w&&Nat.ble S.fz p.r then GF S p fun t l=>match K5 t el l with | some l=>κ l { S with gh:=jS S.gh p.r none } | none=>none else none
   | _=>none) else none
 | _=>none
def aha (S:TS) (el:Ty) (v:Cl) (more:List el.D) (κ:List el.D->TS->Option ρ):Option ρ:=match v with
 | .em=>κ more S
 | .own p sz lo len w=>bif Nat.ble S.fz p.r&&Nat.beq el.width sz then match p.l with
   | [] =>GF S p fun t l=>match K5 t el l with
     | some l=>bif w then κ (l++more) { S with gh:=jS S.gh p.r none }
       else eg (lo=0) (eg (l.length < len) none (κ (l.take len++more) { S with gh:=jS S.gh p.r none })) none
     | none=>none
   | [(i,j)] =>match C1 S.gh p.r with
     | some (some tr)=>match tr.hole with
       | none=>GF S p fun t l=>match K5 t el l with
         | some l=>eg (lo=0) (eg (l.length < len) none (κ (l.take len++more) { S with gh:=jS S.gh p.r (some ⟨tr.t,tr.l,some (i,j)⟩) })) none
         | none=>none
       | some _=>none
     | _=>none
   | _=>none else none
 | _=>none
def apB (Θ:Du) (S:TS) (t:TypeId) (s x:V) (κ:V->TS->Option ρ):Option ρ:=match yX Θ t with
 | some ti=>match ti.ty,s,x with
   | .ls el, .v (.cl s), .v (.cl x)=>anA S el x fun more S1=>aha S1 el s more fun l S2=>
     eg (l.length*ti.el<=2 ^ 40) (κ (.v (.cl (.own ⟨S2.gh.length,[]⟩ el.width 0 l.length true))) { S2 with gh:=S2.gh++ [some ⟨el,l,none⟩] }) none
   | _,_,_=>none
 | none=>none
def eqN:List Nat->List Nat->Bool
 | [],[] =>true
 | a::l,b::m=>bif Nat.beq a b then eqN l m else false
 | _,_=>false
def Hv (el:Ty):TS->List V->Option (List el.D×TS)
 | S,[] =>some ([],S)
 | S, .v x::r=>match EM S.gh.length 0 S el.csh x.cells with
   | some (vs,S1)=>match el.unflat vs,Hv el S1 r with
     | some y,some (ys,S2)=>some (y::ys,S2)
     | _,_=>none
   | none=>none
 | _,_=>none
def ajx:Cl->Bool | .c (.ls _ _)=>true | _=>false
def YG:V->Bool | .v x=>x.cells.any ajx | _=>false
def zg:List (Option Ty)->List Cl->Option (List C)
 | _::ets, .c x::cs=>(match zg ets cs with | some r=>some (x::r) | none=>none)
 | some t::ets, .em::cs=>(match zg ets cs with | some r=>some (.ls t []::r) | none=>none)
 | [],[] =>some []
 | _,_=>none
def HY (el:Ty):List V->Option (List el.D)
 | [] =>some []
 | .v x::r=>(match zg el.csh x.cells with
   | some xs=>(match el.unflat xs,HY el r with | some y,some ys=>some (y::ys) | _,_=>none)
   | none=>none)
 | _=>none
def aqJ (Θ:Du) (S:TS) (t:TypeId) (s x:V) (κ:V->TS->Option ρ):Option ρ:=match yX Θ t with
 | some ti=>match ti.ty,s with
   | .ls el, .v (.cl .em)=>ajt x fun n=>match el.unflat el.zcs with
     | some z=>eg (0 < n/\n*ti.el<=2 ^ 40) (κ (.v (.cl (.own ⟨S.gh.length,[]⟩ el.width 0 n.toNat true))) { S with gh:=S.gh++ [some ⟨el,List.replicate n.toNat z,none⟩] }) none
     | none=>none
   | _,_=>none
 | none=>none
def QC (Θ:Du) (Y:Tj) (S:TS) (o:Oper) (κ:V->TS->Option ρ):Option ρ:=
 let e:=S.opd
 match o.op with
 | .alloc t=>match yX Θ t with | some ti=>κ (.v (.cl (.ptrB S.bx.length 0))) { S with bx:=S.bx++ [ti.ty.zvs.map cC] } | none=>none
 | .box _ x=>match e x with
   | .v (.cl .dead)=>none
   | .v (.cl c)=>κ (.v (.cl (.ptrB S.bx.length 0))) { S with bx:=S.bx++ [[c]] }
   | .v (.agg cs)=>κ (.v (.cl (.ptrB S.bx.length 0))) { S with bx:=S.bx++ [cs] }
   | _=>none
 | .store t a x=>ajw Θ S t (e a) (e x) fun S'=>κ V.dead S'
 | .makeSlice t l c=>match yX Θ t with
   | some ti=>match ti.ty with
     | .ls el=>ajt (e l) fun n=>ajt (e c) fun m=>match el.unflat el.zcs with
       | some z=>eg (0<=n/\n=m/\n*ti.el<=2 ^ 40) (κ (.v (.cl (.own ⟨S.gh.length,[]⟩ el.width 0 n.toNat true))) { S with gh:=S.gh++ [some ⟨el,List.replicate n.toNat z,none⟩] }) none
       | none=>none
     | _=>none
   | none=>none
 | .buildSlice t len parts=>match yX Θ t with
   | some ti=>match ti.ty with
     | .ls el=>bif Nat.ble (len*el.width) 1048576&&eqN (parts.toList.map (·.1)) (List.range len) then (bif (parts.toList.map fun x=>e x.2).any YG then (match HY el (parts.toList.map fun x=>e x.2) with | some l=>κ (.v (.cl (.c (.ls el l)))) S | none=>none) else match Hv el S (parts.toList.map fun x=>e x.2) with
       | some (l,S1)=>κ (.v (.cl (.own ⟨S1.gh.length,[]⟩ el.width 0 l.length true))) { S1 with gh:=S1.gh++ [some ⟨el,l,none⟩] }
       | none=>none) else none
     | _=>none
   | none=>none
 | .call { callee:= .builtin .append,args:=as,argTypes:=ts } =>match as.toList,ts.toList with
   | [s,x],[t,t'] =>bif Nat.beq t t' then apB Θ S t (e s) (e x) κ else aqJ Θ S t (e s) (e x) κ
   | _,_=>none
 | .call { callee:= .value f,args:=as,argTypes:=ts } =>ak0 Θ Y S f ts.toList as.toList κ
 | _=>YE Θ S o κ
def HZ (S:TS) (d:Option Tmp) (v:V) (κ:TS->Option ρ):Option ρ:=match d with
 | some t=>bif Nat.blt t S.nt then κ { S with env:=(t,v)::S.env } else none
 | none=>κ S
def ak1 (S:TS) (all:List Oper) (o:Oper) (κ:Bool->TS->Option ρ):Option ρ:=match o.guard with
 | none=>κ true S
 | some (j,want)=>match C1 all j with
   | some oj=>match oj.dst with
     | some d=>match p7 S.env d with
       | .tup [] =>κ false S
       | _=>ag6 S (.tmp d) fun b S1=>κ (b==want) S1
     | none=>none
   | none=>none
noncomputable def amb {α:Type} (x y:α) (z:α):α:=open Classical in if x=y then x else z
def anC {α β:Type} (l:List α) (x y:β):β:=match l with | [] =>x | _::_=>y
def XZ (o:Oper):Option (TypeId×Operand):=match o.op with
 | .binOp .eql t x (.const (.slice none 0 0)) _=>(match o.guard with | none=>some (t,x) | some _=>none)
 | _=>none
def ar6 (Θ:Du) (t:TypeId):Bool:=match yX Θ t with | some ti=>(match ti.ty with | .ls _=>true | _=>false) | none=>false
def ahb (Y:Tj) (S:TS) (o:Oper):Option (Nat×FuncId×List Cl×Nat×Nat×List TypeId×List Operand):=match o.op with
 | .call { callee:= .value f,args:=as,argTypes:=ts } =>(match o.guard with
   | some _=>none
   | none=>match as.toList,ts.toList with
     | x::xs,_::us=>(match S.opd x with
       | .v (.cl (.own ⟨r,[]⟩ sz _ _ true))=>(match S.opd f with
         | .v (.cl (.c (.sc (.func (.func g) _ _))))=>bif Nat.blt g qB&& !Nat.beq (Y.kd g) 0 then some (Y.kd g,g,[],r,sz,us,xs) else none
         | .v (.fn g caps)=>bif Nat.blt g qB&& !Nat.beq (Y.kd g) 0 then some (Y.kd g,g,caps,r,sz,us,xs) else none
         | _=>none)
       | _=>none)
     | _,_=>none)
 | _=>none
def ajy:V->Bool
 | .v (.cl (.c (.sc _)))=>true
 | .tup [] =>true
 | _=>false
def anE (Θ:Du) (Y:Tj) (S:TS) (k:Nat) (g:FuncId) (caps:List Cl) (r sz:Nat) (us:List TypeId) (xs:List Operand) (dst:Option Tmp) (κ:TS->Option ρ):Option ρ:=match jZ S.gh r with
 | some ⟨el,l,none⟩=>bif Nat.beq sz el.width then HX Θ { S with gh:=jS S.gh r none } us xs fun vs=>YF (reC { S with gh:=jS S.gh r none } none) caps fun cs=>
   bif Nat.beq k 1 then Y (Nl g) (.cl (.c (.ls el l)):: (vs++cs.map .cl)) ρ fun res out=>(match out with
    | [⟨t,l',none⟩] =>bif decide (t=el)&&ajy res then eg (l'.length=l.length) (HZ { S with gh:=jS S.gh r (some ⟨t,l',none⟩) } dst res κ) none else none
    | _=>none)
   else bif Nat.ble S.fz r then Y (Tl g) (.cl (.c (.ls el l)):: (vs++cs.map .cl)) ρ fun res out=>HZ { S with gh:=jS S.gh r none++out.map some } dst (I0 S.gh.length res) κ
   else none else none
 | _=>none
inductive ajz where
 | nest (r i j sz lo len:Nat)
 | agg (cs:List Cl)
def aeo:V->Option ajz
 | .v (.cl (.own ⟨r,[(i,j)]⟩ sz lo len _))=>some (.nest r i j sz lo len)
 | .v (.agg cs)=>some (.agg cs)
 | _=>none
def YH (Y:Tj) (S:TS) (o:Oper):Option (FuncId×List Cl×ajz×List TypeId×List Operand):=match o.op with
 | .call { callee:= .value f,args:=as,argTypes:=ts } =>(match o.guard with
   | some _=>none
   | none=>match as.toList,ts.toList with
     | x::xs,_::us=>(match aeo (S.opd x) with
       | some a=>(match S.opd f with
         | .v (.cl (.c (.sc (.func (.func g) _ _))))=>bif Nat.blt g qB&&Nat.beq (Y.kd g) 1 then some (g,[],a,us,xs) else none
         | .v (.fn g caps)=>bif Nat.blt g qB&&Nat.beq (Y.kd g) 1 then some (g,caps,a,us,xs) else none
         | _=>none)
       | none=>none)
     | _,_=>none)
 | _=>none
def MV (S:TS):List Cl->Option (List C×List Nat)
 | [] =>some ([],[])
 | .c (.sc v)::cs=>(match MV S cs with | some (xs,L)=>some (.sc v::xs,L) | none=>none)
 | .own ⟨r,[]⟩ sz _ _ true::cs=>(match jZ S.gh r with
   | some ⟨el,l,none⟩=>bif Nat.beq sz el.width then (match MV S cs with | some (xs,L)=>some (.ls el l::xs,r::L) | none=>none) else none
   | _=>none)
 | _=>none
def anF (G:List (Option gK)) (L:List Nat):List (Option gK):=L.foldl (fun G r=>jS G r none) G
def YI (S:TS):List Nat->List gK->(TS->Option ρ)->Option ρ
 | [],[],κ=>κ S
 | r::L,⟨t,l',none⟩::out,κ=>(match jZ S.gh r with
   | some ⟨el,l,none⟩=>bif decide (t=el) then eg (l'.length=l.length) (YI { S with gh:=jS S.gh r (some ⟨t,l',none⟩) } L out κ) none else none
   | _=>none)
 | _,_,_=>none
def aep (Θ:Du) (Y:Tj) (S:TS) (g:FuncId) (caps:List Cl) (a:ajz) (us:List TypeId) (xs:List Operand) (dst:Option Tmp) (κ:TS->Option ρ):Option ρ:=match a with
 | .agg cs=>(match MV S cs with
   | some (ys,L)=>bif ndB L then HX Θ { S with gh:=anF S.gh L } us xs fun vs=>YF (reC { S with gh:=anF S.gh L } none) caps fun ks=>
     Y (Nl g) (.agg (ys.map .c):: (vs++ks.map .cl)) ρ fun res out=>bif ajy res then YI S L out fun S3=>HZ S3 dst res κ else none else none
   | none=>none)
 | .nest r i j sz lo len=>(match jZ S.gh r with
   | some ⟨t,l,none⟩=>(l[i]?).bind fun y=>(match C1 (t.flat y) j with
     | some (.ls el v)=>bif Nat.beq sz el.width then eg (lo=0/\len=v.length) (HX Θ { S with gh:=jS S.gh r (some ⟨t,l,some (i,j)⟩) } us xs fun vs=>YF (reC { S with gh:=jS S.gh r (some ⟨t,l,some (i,j)⟩) } none) caps fun ks=>
       Y (Nl g) (.cl (.c (.ls el v)):: (vs++ks.map .cl)) ρ fun res out=>(match out with
         | [⟨t',v',none⟩] =>bif decide (t'=el)&&ajy res then eg (v'.length=v.length) (match t.unflat (jS (t.flat y) j (.ls t' v')) with
           | some z=>HZ { S with gh:=jS S.gh r (some ⟨t,l.set i z,none⟩) } dst res κ
           | none=>none) none else none
         | _=>none)) none else none
     | _=>none)
   | _=>none)
def aeq (S:TS) (o:Oper):Option (TypeId×Nat×Nat×Nat×Nat):=match o.op with
 | .call { callee:= .builtin .clear,args:=as,argTypes:=ts } =>(match o.guard with
   | some _=>none
   | none=>match as.toList,ts.toList with
     | [x],[t] =>(match S.opd x with
       | .v (.cl (.own ⟨r,[]⟩ sz lo len _))=>some (t,r,sz,lo,len)
       | _=>none)
     | _,_=>none)
 | _=>none
def ajA (Θ:Du) (S:TS) (t:TypeId) (r sz lo len:Nat) (dst:Option Tmp) (κ:TS->Option ρ):Option ρ:=match yX Θ t with
 | some ti=>match jZ S.gh r with
   | some ⟨el,l,none⟩=>bif decide (ti.ty= .ls el)&&Nat.beq el.width 1&&Nat.beq sz 1&&el.flatB then (match el.unflat el.zcs with
     | some z=>eg (lo+len<=l.length) (HZ { S with gh:=jS S.gh r (some ⟨el,l.take lo++List.replicate len z++l.drop (lo+len),none⟩) } dst (.tup []) κ) none
     | none=>none) else none
   | _=>none
 | none=>none
def ahc (b:Bool):V:= .v (.cl (.c (.sc (.bool b))))
noncomputable def Wm (Θ:Du) (Y:Tj) (all:List Oper):List Oper->TS->(TS->Option ρ)->Option ρ
 | [],S,κ=>κ S
 | o::os,S,κ=>match XZ o with
   | some (t,x)=>bif ar6 Θ t then (match S.opd x with
     | .v (.cl (.c (.ls _ l)))=>anC l (amb (HZ S o.dst (ahc true) fun S3=>Wm Θ Y all os S3 κ) (HZ S o.dst (ahc false) fun S3=>Wm Θ Y all os S3 κ) none) (HZ S o.dst (ahc false) fun S3=>Wm Θ Y all os S3 κ)
     | _=>none) else none
   | none=>match aeq S o with
   | some (t,r,sz,lo,len)=>ajA Θ S t r sz lo len o.dst fun S3=>Wm Θ Y all os S3 κ
   | none=>match ahb Y S o with
   | some (k,g,caps,r,sz,us,xs)=>anE Θ Y S k g caps r sz us xs o.dst fun S3=>Wm Θ Y all os S3 κ
   | none=>match YH Y S o with
   | some (g,caps,a,us,xs)=>aep Θ Y S g caps a us xs o.dst fun S3=>Wm Θ Y all os S3 κ
   | none=>ak1 S all o fun b S1=>bif b then QC Θ Y S1 o fun v S2=>HZ S2 o.dst v fun S3=>Wm Θ Y all os S3 κ else HZ S1 o.dst (V.tup []) fun S3=>Wm Θ Y all os S3 κ
def gone:Nat->List (Option gK)->List (Option gK)->List Nat
 | n,some _::l,none::m=>n::gone (n+1) l m
 | n,_::l,_::m=>gone (n+1) l m
 | _,_,_=> []
def anG (l:List (Option gK)):List T:=l.map fun x=>match x with | some tr=>tr.tree | none=> .dd
def Tm (S S':TS):p6:=⟨S.gh.length,anG (S'.gh.drop S.gh.length),gone 0 S.gh S'.gh⟩
def aqK (d:Nat) (o:Oper):Bool:=match o.dst with | some d'=> !(Nat.beq d d') | none=>true
def ar7 (o:Oper) (os:List Oper):Bool:=match o.dst with | some d=>os.all (aqK d) | none=>false
def lsT (Θ:Du) (t:TypeId):Bool:=match yX Θ t with
 | some ti=>(match ti.ty with | .ls _=>true | _=>false)
 | none=>false
def ar8 (Θ:Du) (o:Oper):Bool:=match o.op with
 | .buildSlice t _ _=>lsT Θ t
 | .call { callee:= .builtin .append,args:=_,argTypes:=ts } =>(match ts.toList with | t::_=>lsT Θ t | [] =>false)
 | _=>true
def ak2:V->Bool
 | .v (.cl (.own p _ _ _ _))=>(match p.l with | [] =>true | _=>false)
 | _=>true
def aqL (S:TS) (o:Oper):Bool:=match o.op with
 | .buildSlice _ _ parts=> !(parts.toList.map fun x=>S.opd x.2).any YG
 | .call { callee:= .builtin .append,args:=as,argTypes:=ts } =>(match ts.toList with | [t,t'] =>Nat.beq t t' | _=>true)&&(match as.toList with | s::_=>ak2 (S.opd s) | [] =>true)
 | _=>true
def anH (Θ:Du):List Oper->TS->(TS->Option ρ)->Option ρ
 | [],S,κ=>κ S
 | o::os,S,κ=>match o.op with
   | .alloc t=>match yX Θ t with | some ti=>anH Θ os { S with bx:=S.bx++ [ti.ty.zvs.map cC] } κ | none=>none
   | _=>anH Θ os S κ
def ahd (Θ:Du) (Y:Tj) (all:List Oper):List Oper->TS->List p6->(TS->List p6->Option ρ)->Option ρ
 | [],S,ms,κ=>κ S ms
 | o::os,S,ms,κ=>bif eD o then ahd Θ Y all os S (ms++ [⟨S.gh.length,[],[]⟩]) κ else bif kE o then (bif o.guard.isNone then HZ S o.dst (V.v (.cl (.ptrB (S.bx.length - 1 - jX os) 0))) fun S3=>ahd Θ Y all os S3 (ms++ [⟨S.gh.length,[],[]⟩]) κ else none) else
    ak1 S all o fun b S1=>bif b then
     (bif sy o then (bif ar7 o os&&ar8 Θ o&&aqL S1 o then QC Θ Y S1 o fun v S2=>HZ S2 o.dst v fun S3=>ahd Θ Y all os S3 (ms++ [Tm S1 S2]) κ else none)
     else YE Θ S1 o fun v S2=>HZ S2 o.dst v fun S3=>ahd Θ Y all os S3 (ms++ [⟨S1.gh.length,[],[]⟩]) κ)
     else HZ S1 o.dst (V.tup []) fun S3=>ahd Θ Y all os S3 (ms++ [⟨S1.gh.length,[],[]⟩]) κ
def anI (Θ:Du) (Y:Tj):List Oper->TS->(TS->Option ρ)->Option ρ
 | [],S,κ=>κ S
 | o::os,S,κ=>bif eD o then (bif o.guard.isNone&&o.dst.isNone then QC Θ Y S o fun _ S1=>anI Θ Y os S1 κ else none) else anI Θ Y os S κ
def anJ (Θ:Du) (t:TypeId):Bool:=match yX Θ t with | some ti=>ti.ty.flatB | none=>false
def aq9 (Θ:Du) (Y:Tj) (ops:List Oper) (S:TS) (κ:TS->Option ρ):Option ρ:=
 anH Θ ops S fun S0=>ahd Θ Y ops ops S0 [] fun SV ms=>bif ai7 (anJ Θ) ops (oU ops) S0.st ms SV.st then anI Θ Y ops SV κ else none
def fC:Code->Nat
 | .region id _ _=>id
 | .seq a _=>fC a
 | .block _ c=>fC c
 | .loop c=>fC c
 | _=>0
abbrev FZ:=Nat->TS->(ρ:Type)->(X->TS->Option ρ)->Option ρ
noncomputable def iz (Θ:Du) (Y:Tj) (Λ:FZ):Code->TS->(X->TS->Option ρ)->Option ρ
 | .skip,S,κ=>κ .nor S
 | .region _ ops false,S,κ=>Wm Θ Y ops.toList ops.toList S (κ .nor)
 | .region _ ops true,S,κ=>aq9 Θ Y ops.toList S (κ .nor)
 | .seq a b,S,κ=>iz Θ Y Λ a S fun x S1=>match x with | .nor=>iz Θ Y Λ b S1 κ | x=>κ x S1
 | .cond c a b,S,κ=>ag6 S c fun t S1=>bif t then iz Θ Y Λ a S1 κ else iz Θ Y Λ b S1 κ
 | .block id c,S,κ=>iz Θ Y Λ c S fun x S1=>match x with | .ext i=>bif Nat.beq i id then κ .nor S1 else κ (.ext i) S1 | x=>κ x S1
 | .loop c,S,κ=>Λ (fC c) S ρ κ
 | .exit id,S,κ=>κ (.ext id) S
 | .ret,S,κ=>κ .ret S
 | _,_,_=>none
def apC (S:TS) (gs:List gK) (et:Option Ty) (c:Cl) (κ:Cl->List gK->TS->Option ρ):Option ρ:=match c,et with
 | .c (.sc v),_=>κ (.c (.sc v)) gs S
 | .em,some t=>κ (.own ⟨gs.length,[]⟩ t.width 0 0 true) (gs++ [⟨t,[],none⟩]) S
 | .own p sz lo len w,some t'=>match p.l with
   | [] =>bif Nat.ble S.fz p.r&&Nat.beq t'.width sz then GF S p fun t l=>bif Nat.beq t.width sz then
     (bif w then κ (.own ⟨gs.length,[]⟩ sz 0 l.length true) (gs++ [⟨t,l,none⟩]) { S with gh:=jS S.gh p.r none }
     else eg (lo=0/\len<=l.length) (κ (.own ⟨gs.length,[]⟩ sz 0 (l.take len).length true) (gs++ [⟨t,l.take len,none⟩]) { S with gh:=jS S.gh p.r none }) none) else none
     else none
   | _=>none
 | _,_=>none
def ak3:TS->List gK->List (Option Ty)->List Cl->(List Cl->List gK->TS->Option ρ)->Option ρ
 | S,gs,et::ets,c::cs,κ=>apC S gs et c fun c' gs' S'=>ak3 S' gs' ets cs fun cs' gs'' S''=>κ (c'::cs') gs'' S''
 | S,gs,[],[],κ=>κ [] gs S
 | _,_,_,_,_=>none
def ara (Θ:Du) (S:TS) (gs:List gK) (t:TypeId) (v:V) (κ:V1->List gK->TS->Option ρ):Option ρ:=match yX Θ t with
 | none=>none
 | some ti=>match v with
   | .v (.agg cs)=>ak3 S gs ti.ty.csh cs fun cs' gs' S'=>κ (.agg cs') gs' S'
   | .v (.cl c)=>apC S gs (ti.ty.csh.headD none) c fun c' gs' S'=>κ (.cl c') gs' S'
   | _=>none
def K6 (Θ:Du):TS->List gK->List (TypeId×V)->(List V1->List gK->Option ρ)->Option ρ
 | _,gs,[],κ=>κ [] gs
 | S,gs,(t,v)::r,κ=>ara Θ S gs t v fun v' gs' S'=>K6 Θ S' gs' r fun vs gs''=>κ (v'::vs) gs''
def abq (Θ:Du) (S:TS):List ResultVar->List TypeId->(List (TypeId×V)->Option ρ)->Option ρ
 | .tmp a::rs,t::ts,κ=>abq Θ S rs ts fun l=>κ ((t,p7 S.env a)::l)
 | .cell a t'::rs,t::ts,κ=>ag7 Θ S t' (p7 S.env a) fun v=>abq Θ S rs ts fun l=>κ ((t,v)::l)
 | [],[],κ=>κ []
 | _,_,_=>none
def Tn:List V1->V
 | [v] => .v v
 | vs=> .tup vs
def BF:Nat->List V1->List (Nat×V)
 | _,[] => []
 | n,v::l=>(n, .v v)::BF (n+1) l
noncomputable def fnK (Θ:Du) (Y:Tj) (Λ:FZ) (fn:Func) (args:List V1) (κ:V->List gK->Option ρ):Option ρ:=match fn.body with
 | none=>none
 | some c=>iz Θ Y Λ c { env:=BF 0 args,bx:= [],gh:= [],fz:=0,nt:=args.length+(fn.ntmps - args.length) } fun x S=>match x with
   | .ext _=>none
   | _=>abq Θ S fn.results.toList fn.resultTypes.toList fun rs=>K6 Θ S [] rs fun vs gs=>κ (Tn vs) gs
def aer:List Cl->Option (List C)
 | [] =>some []
 | .c x::l=>match aer l with | some r=>some (x::r) | none=>none
 | _=>none
def un (t:Ty) (a:V1) (κ:t.D->Option ρ):Option ρ:=match a with
 | .agg cs=>bif t.ag then (match aer cs with
   | some xs=>(match t.unflat xs with | some x=>κ x | none=>none)
   | none=>none) else none
 | .cl (.c y)=>bif t.ag then none else (match t.unflat [y] with | some x=>κ x | none=>none)
 | _=>none
def O3:List C->Nat->List Cl
 | [],_=> []
 | .sc v::r,n=> .c (.sc v)::O3 r n
 | .ls t l::r,n=> .own ⟨n,[]⟩ t.width 0 l.length true::O3 r (n+1)
def Hw:List C->List gK
 | [] => []
 | .sc _::r=>Hw r
 | .ls t l::r=>⟨t,l,none⟩::Hw r
def apD (t:Ty) (x:t.D) (n:Nat):V1:=bif t.ag then .agg (O3 (t.flat x) n) else match O3 (t.flat x) n with | [c] => .cl c | _=> .cl .dead
def Vq:Nat->List ((t:Ty)×t.D)->List V1
 | _,[] => []
 | n,⟨t,x⟩::r=>apD t x n::Vq (n+(Hw (t.flat x)).length) r
def QD:List ((t:Ty)×t.D)->List gK
 | [] => []
 | ⟨t,x⟩::r=>Hw (t.flat x)++QD r
def ret (l:List ((t:Ty)×t.D)) (κ:V->List gK->Option ρ):Option ρ:=κ (Tn (Vq 0 l)) (QD l)
end
abbrev eG:=List V1->(ρ:Type)->(V->List gK->Option ρ)->Option ρ
def arb:List (Nat×eG)->FuncId->List V1->(ρ:Type)->(V->List gK->Option ρ)->Option ρ
 | [],_,_,_,_=>none
 | (g,e)::l,f,as,ρ,κ=>bif Nat.beq g f then e as ρ κ else arb l f as ρ κ
def arc:List (Nat×eG)->Nat->Bool
 | [],_=>false
 | (g,_)::l,f=>bif Nat.beq g f then true else arc l f
def ek (l:List (Nat×eG)):Tj:=⟨arb l,fun g=>bif arc l (Nl g) then 1 else bif arc l (Tl g) then 2 else 0⟩
noncomputable def apE {ρ:Type} (Θ:Du) (Y:Tj) (Λ:FZ) (fn:Func) (m:Nat) (el:Ty) (l:List el.D) (args:List V1) (κ:V->List gK->Option ρ):Option ρ:=match fn.body with
 | none=>none
 | some c=>iz Θ Y Λ c { env:=BF 0 (.cl (.own ⟨0,[]⟩ el.width 0 l.length true)::args),bx:= [],gh:= [some ⟨el,l,none⟩],fz:=m,nt:=(args.length+1)+(fn.ntmps - (args.length+1)) } fun x S=>match x with
   | .ext _=>none
   | _=>abq Θ S fn.results.toList fn.resultTypes.toList fun rs=>bif Nat.beq m 0 then K6 Θ S [] rs fun vs gs=>κ (Tn vs) gs else match jZ S.gh 0 with
     | some ⟨t,l',none⟩=>K6 Θ S [⟨t,l',none⟩] rs fun vs gs=>κ (Tn vs) gs
     | _=>none
def arg (t:Ty) (x:t.D):V1:=bif t.ag then .agg ((t.flat x).map .c) else match (t.flat x).map Cl.c with | [c] => .cl c | _=> .cl .dead
end
section
open Go
theorem kR {α:Type}: ∀ (l:List α) (n:Nat),C1 l n=l[n]?
 | [],n=>by simp [C1]
 | a::l,0=>by simp [C1]
 | a::l,n+1=>by show C1 l n=_; rw [kR l]; simp
theorem nD {α:Type}: ∀ (l:List α) (n:Nat) (x:α),jS l n x=l.set n x
 | [],n,x=>by simp [jS]
 | a::l,0,x=>by simp [jS]
 | a::l,n+1,x=>by show a::jS l n x=_; rw [nD l]; simp
theorem ahf: ∀ {l:List (Nat×V)} {t:Nat},p7 l t=V.dead\/(t,p7 l t)∈l
 | [],t=> .inl rfl
 | (u,v)::l,t=>by
   simp only [p7];cases h:Nat.beq u t with
   | true=>
     have :u=t:=ay h;subst this;exact .inr (aN)
   | false=>
     rcases ahf (l:=l) (t:=t) with h' | h'
     ·exact .inl h'
     ·exact .inr (aI _ h')
def Cl.ok (G:List (Option gK)):Cl->Prop
 | .own p _ lo len w=>p.r < G.length/\(w=true->p.l= [] /\lo=0/\ ∀ tr,jZ G p.r=some tr->len=tr.l.length)
 | .ptrT p _ _ _=>p.r < G.length
 | _=>True
def V1.ok (G:List (Option gK)):V1->Prop
 | .cl c=>c.ok G
 | .agg cs=> ∀ c∈cs,c.ok G
 | .fn _ cs=> ∀ c∈cs,c.ok G
def V.ok (G:List (Option gK)):V->Prop
 | .v x=>x.ok G
 | .tup l=> ∀ x∈l,x.ok G
structure TS.ok (S:TS):Prop where
 env: ∀ x∈S.env,x.2.ok S.gh
 bx: ∀ cs∈S.bx,∀ c∈cs,c.ok S.gh
def pm (G G':List (Option gK)):Prop:=G.length<=G'.length/\ ∀ r tr',r < G.length->jZ G' r=some tr'-> ∃ tr,jZ G r=some tr/\tr.l.length=tr'.l.length
theorem pm.refl (G:List (Option gK)):pm G G:=⟨aE _,fun _ tr _ h=>⟨tr,h,rfl⟩⟩
theorem pm.trans {G H K:List (Option gK)} (h:pm G H) (k:pm H K):pm G K:=⟨bL h.1 k.1,fun r tr hr hK=>by
 obtain⟨t1,h1,h2⟩:=k.2 r tr (bh hr h.1) hK;obtain⟨t2,h3,h4⟩:=h.2 r t1 hr h1;exact⟨t2,h3,h4.trans h2⟩⟩
theorem Cl.ok_mono {G G':List (Option gK)} (h:pm G G') {c:Cl} (hc:c.ok G):c.ok G':=by
 cases c with
 | own p sz lo len w=>
   obtain⟨h1,h2⟩:=hc;refine⟨bh h1 h.1,fun hw=> ?_⟩;obtain⟨a,b,c⟩:=h2 hw;refine⟨a,b,fun tr htr=> ?_⟩;obtain⟨tr0,k1,k2⟩:=h.2 _ tr h1 htr;rw [c tr0 k1,k2]
 | ptrT p sz i j=>exact bh hc h.1
 | _=>trivial
theorem V1.ok_mono {G G':List (Option gK)} (h:pm G G') {v:V1} (hv:v.ok G):v.ok G':=by
 cases v with
 | cl c=>exact Cl.ok_mono h hv
 | agg cs=>exact fun c hc=>Cl.ok_mono h (hv c hc)
 | fn f cs=>exact fun c hc=>Cl.ok_mono h (hv c hc)
theorem V.ok_mono {G G':List (Option gK)} (h:pm G G') {v:V} (hv:v.ok G):v.ok G':=by
 cases v with
 | v x=>exact V1.ok_mono h hv
 | tup l=>exact fun x hx=>V1.ok_mono h (hv x hx)
theorem V.ok_dead (G:List (Option gK)):V.dead.ok G:=trivial
theorem V.ok_sc (G:List (Option gK)) (v:Value): (V.sc v).ok G:=trivial
theorem X0 {S:TS} (hS:S.ok) (t:Nat): (p7 S.env t).ok S.gh:=by
 rcases ahf (l:=S.env) (t:=t) with h | h
 ·rw [h]; trivial
 ·exact hS.env _ h
theorem EN (v:Value): (cC v).av=XU v:=by
 unfold cC XU;cases h:EY v with
 | true=>rfl
 | false=>
   simp only [cond_false,be,if_false];split
   ·rfl
   ·split
    ·exact absurd rfl ‹_›
    ·rfl
theorem ar9 (v:Value): (cV v).av=ofV v:=by
 cases v with
 | agg cs=>
   simp only [cV,ofV];cases h:cs.toList.all Value.oneCell' with
   | true=>
     simp only [cond_true,if_true];simp only [V.av,V1.av,bB]
     congr 1
     exact aO fun x _=>EN x
   | false=>rfl
 | bool b=>exact EN (.bool b)
 | int k n=>exact EN (.int k n)
 | float k n=>exact EN (.float k n)
 | complex k n m=>exact EN (.complex k n m)
 | string x=>exact EN (.string x)
 | pointer x=>exact EN (.pointer x)
 | slice x y z=>exact EN (.slice x y z)
 | map x=>exact EN (.map x)
 | chan x=>exact EN (.chan x)
 | func x y z=>exact EN (.func x y z)
 | nilFunc=>exact EN .nilFunc
 | iface x y=>exact EN (.iface x y)
 | nilIface=>exact EN .nilIface
 | tuple x=>exact EN (.tuple x)
theorem ak4 (G:List (Option gK)) (v:Value): (cC v).ok G:=by
 unfold cC;cases EY v with
 | true=>trivial
 | false=>simp only [cond_false]; split <;> trivial
theorem asa (G:List (Option gK)) (v:Value): (cV v).ok G:=by
 unfold cV;split
 ·rename_i cs;cases cs.toList.all Value.oneCell' with
  | true=>intro c hc; simp only [aQ] at hc; obtain⟨x,_,rfl⟩:=hc; exact ak4 _ _
  | false=>trivial
 ·exact ak4 _ _
theorem fu {S:TS} (x:Operand):opd S.st x=(S.opd x).av:=by
 cases x with
 | tmp t=>rfl
 | const v=>exact (ar9 v).symm
 | func f=>rfl
 | global g=>rfl
theorem wJ {S:TS} (hS:S.ok) (x:Operand): (S.opd x).ok S.gh:=by
 cases x with
 | tmp t=>exact X0 hS t
 | const v=>exact asa _ _
 | func f=>trivial
 | global g=>trivial
section
variable {ρ:Type}
theorem apF {α:Type} {b:Bool} {x y:Option α} {r:α} (h:br b x y=some r): (b=true/\x=some r)\/(b=false/\y=some r):=by
 cases b with
 | true=>exact .inl ⟨rfl,h⟩
 | false=>exact .inr ⟨rfl,h⟩
theorem jW {α:Type} {c:Prop} [Decidable c] {x:Option α} {r:α} (h:eg c x none=some r):c/\x=some r:=by
 unfold eg at h;split at h
 ·exact⟨‹_›,h⟩
 ·cases h
theorem To {α:Type} {c:Prop} [Decidable c] {x:Option α} {r:α} (h:eg c none x=some r): ¬ c/\x=some r:=by
 unfold eg at h;split at h
 ·cases h
 ·exact⟨‹_›,h⟩
theorem eE {α:Type} {c:Bool} {x:Option α} {r:α} (h: (bif c then x else none)=some r):c=true/\x=some r:=by
 cases c with
 | true=>exact⟨rfl,h⟩
 | false=>cases h
theorem ahg {S:TS} {t:Nat} {b:Bool} (h:p7 S.env t=V.sc (.bool b)): ({ S with env:=(t,V.sc (.bool b))::S.env }:TS).st=S.st:=by
 unfold TS.st;simp only
 congr 1
 funext u
 simp only [p7];cases hb:Nat.beq t u with
 | true=>
   have :t=u:=ay hb;subst this;rw [h];rfl
 | false=>rfl
theorem ahh {S:TS} (hS:S.ok) (t:Nat) (b:Bool): ({ S with env:=(t,V.sc (.bool b))::S.env }:TS).ok:=
 ⟨fun x hx=>by
  simp only [ba] at hx;rcases hx with rfl | hx
  ·trivial
  ·exact hS.env x hx,hS.bx⟩
theorem YJ {S:TS} (hS:S.ok) {x:Operand} {κ:Bool->TS->Option ρ} {r:ρ} (h:ag6 S x κ=some r):
  ∃ b S',opd S.st x= .sc (.bool b)/\S'.st=S.st/\S'.ok/\S'.gh=S.gh/\κ b S'=some r:=by
 unfold ag6 at h;split at h
 ·rename_i t;split at h
  ·rename_i b hb;rcases apF h with ⟨rfl,h⟩ | ⟨rfl,h⟩
   ·exact⟨true,_,by show (p7 S.env t).av=_; rw [hb]; rfl,ahg hb,ahh hS _ _,rfl,h⟩
   ·exact⟨false,_,by show (p7 S.env t).av=_; rw [hb]; rfl,ahg hb,ahh hS _ _,rfl,h⟩
  ·cases h
 ·rename_i b;exact⟨b,S,rfl,rfl,hS,rfl,h⟩
 ·cases h
theorem QE {v:V} {κ:Int->Option ρ} {r:ρ} (h:ajt v κ=some r): ∃ n,X9 v.av=some n/\κ n=some r:=by
 unfold ajt at h;split at h
 ·exact⟨_,rfl,h⟩
 ·cases h
theorem gK.look {G:List (Option gK)} {r:Nat} {tr:gK} (h:C1 G r=some (some tr)):jZ G r=some tr:=by
 unfold jZ;rw [h];rfl
theorem mT {S:TS} {p:gt} {κ: (t:Ty)->List t.D->Option ρ} {r:ρ} (h:GF S p κ=some r):
  ∃ (t:Ty) (l:List t.D),S.st.look p= .sl t.width (l.map t.row)/\(p.l= [] ->jZ S.gh p.r=some ⟨t,l,none⟩)/\κ t l=some r:=by
 unfold GF at h;split at h
 ·rename_i tr htr;have hg:=gK.look htr;split at h
  ·rename_i hh;obtain⟨t,l,hole⟩:=tr;simp only at hh;subst hh;split at h
   ·rename_i hp;refine⟨t,l,?_,fun _=>hg,h⟩;unfold St.look;have :S.st.gh p.r=some (.sl t.width (l.map t.row)):=by show (jZ S.gh p.r).map gK.tree=_; rw [hg]; rfl
    rw [this,hp];rfl
   ·rename_i i j hp;simp only [ao] at h;obtain⟨x,hx,h⟩:=h;split at h
    ·rename_i t' l' hj;refine⟨t',l',?_,(fun h0=>by rw [hp] at h0; cases h0),h⟩;unfold St.look;have :S.st.gh p.r=some (.sl t.width (l.map t.row)):=by show (jZ S.gh p.r).map gK.tree=_; rw [hg]; rfl
     rw [this,hp];simp only [T.go,T.cell];have e1: (l.map t.row).getD i [] =t.row x:=by simp [az,hx]
     rw [e1,t.row_flat];rw [kR] at hj;simp [az,hj,C.tree]
    ·cases h
   ·cases h
  ·cases h
 ·cases h
end
end
section
open Go
def Ty.shs (t:Ty):List Nat:=t.csh.map fun | some e=>e.width | none=>0
structure TI.ok (P:Program) (t:TypeId) (ti:TI):Prop where
 ag:agT P t=some ti.ty.ag
 cells:P.cellsOf t=ti.ty.width
 sh:C0 P 9 t=ti.ty.shs
 ze:S5 P t=some ti.ty.zvs
 fd: ∀ k,fdT P t k=C1 ti.fds k
 pl:ti.ty.ag=true->plT P t=some (ti.fds.map fun x=>(x.1,x.2.1))
 el: ∀ e,ti.ty= .ls e-> ∃ el,Nk P t=some el/\P.cellsOf el=e.width/\P.bytesOf el=ti.el/\0 < ti.el/\C0 P 9 el=e.shs/\S5 P el=some e.zvs
 bool:ti.ty= .b->P.underlying t=some .bool
 gu:ti.ty.ag=true->ti.ty.flatB=true->P.eqGuardType P.depth t=false
 eq:ti.ty.ag=true-> ∀ (a b:List Cl) (r:Bool) (xs ys:List Value),wx ti.ty.zvs a=true->wx ti.ty.zvs b=true->MT a b=some r->a=xs.map (fun x=> .c (.sc x))->b=ys.map (fun x=> .c (.sc x))->f7 P (Op.equal t (.agg xs.toArray) (.agg ys.toArray))=some r
 str:ad0 P t=(match ti.ty with | .s=>true | _=>false)
 int: ∀ k,ti.ty= .i k->P.underlying t=some (.int k)
def mu (P:Program) (Θ:Du):Prop:= ∀ t ti,yX Θ t=some ti->ti.ok P t
theorem Ty.width_pos (t:Ty):0 < t.width:=by
 cases t with
 | st n=>cases n <;> decide
 | _=>exact Nat.one_pos
theorem C.ro_tree (c:C):T.ro c.tree=c.av:=by cases c <;> rfl
theorem C.own_tree (p:gt) (i m:Nat) (c:C):am5 p i m c.tree=(aju p i m c).av:=by
 cases c with
 | sc v=>rfl
 | ls t l=>simp [am5,C.tree,aju,Cl.av]
theorem Tp {α β:Type} (f:Nat->α->β): ∀ (j:Nat) (l:List α) (k:Nat),(Ti f j l)[k]? =(l[k]?).map (f (j+k))
 | j,[],k=>by simp [Ti]
 | j,a::l,0=>by simp [Ti]
 | j,a::l,k+1=>by simp only [Ti,cc]; rw [Tp f (j+1) l k]; congr 2; omega
section
variable {ρ:Type} {P:Program} {Θ:Du} {S:TS}
theorem vY {p:gt} {sz:Nat} {rows:List (List T)} (h:S.st.look p= .sl sz rows):S.st.rows p sz=some rows:=by
 unfold St.rows;rw [h];simp
theorem al0 (hS:S.ok) {n:Nat} {v:Cl} (hv:v.ok S.gh) {κ:List Cl->Option ρ} {r:ρ} (h:ajv S n v κ=some r):
  ∃ cs:List Cl,jh S.st n v.av=some (cs.map Cl.av)/\(∀ c∈cs,c.ok S.gh)/\κ cs=some r:=by
 unfold ajv at h;split at h
 ·rename_i b j;split at h
  ·rename_i cs hcs;obtain⟨h1,h⟩:=eE h;have h1:j+n<=cs.length:=aF h1;refine⟨_,?_,fun c hc=> ?_,h⟩
   ·simp only [Cl.av,jh,TS.st,hcs,aH,ae,aJ];rw [if_pos h1];simp [bT,bW]
   ·rw [kR] at hcs;exact hS.bx cs (au hcs) c (b7 (co hc))
  ·cases h
 ·rename_i cells;obtain⟨h1,h⟩:=eE h;have h1:n<=cells.length:=aF h1;refine⟨_,?_,fun c hc=> ?_,h⟩
  ·simp only [Cl.av,jh,aJ];rw [if_pos h1]
   congr 1
   rw [<-bT,bB,bB];exact aO fun c _=>C.ro_tree c
  ·obtain⟨x,_,rfl⟩:=aQ.1 hc;trivial
 ·rename_i p sz i j;obtain⟨t,l,h1,_,h5⟩:=mT h;obtain⟨h2,h6⟩:=eE h5;clear h h5;simp only [ax] at h2;have h3:t.width=sz:=ay h2.1;have h4:j+n<=sz:=aF h2.2;subst h3;obtain⟨x,hx,h⟩:=ao.1 h6;have hil:i < l.length:=(aj.1 hx).1;have hfl: (t.flat x).length=t.width:=t.flat_length x;refine⟨_,?_,fun c hc=> ?_,h⟩
  ·have e1: (l.map t.row).getD i [] =t.row x:=by simp [az,hx]
   simp only [Cl.av,jh,vY h1];rw [e1,if_pos ⟨by simpa using hil,by rw [t.row_length]; exact h4⟩]
   congr 1
   apply bS;intro k;rw [ar,ar,Tp];by_cases hk:k < n
   ·have hjk:j+k < (t.flat x).length:=by omega
    rw [List.getElem?_range hk,bf,if_pos hk,aV,ai hjk];simp only [aH];rw [t.row_flat,az,ar,ai hjk];simp only [aH,aR];rw [C.own_tree]
   ·rw [bf,if_neg hk,bQ (by simp; omega)];rfl
  ·obtain⟨k,hk⟩:=List.getElem?_of_mem hc;rw [Tp] at hk;simp only [ap] at hk;obtain⟨y,_,rfl⟩:=hk;cases y with
   | sc v=>trivial
   | ls t' l'=>exact⟨hv,fun h=>by cases h⟩
 ·cases h
theorem anK {G:List (Option gK)} {ag:Bool} {cs:List Cl} (hcs: ∀ c∈cs,c.ok G) {κ:V->Option ρ} {r:ρ} (h:mkK ag cs κ=some r): ∃ v,mkV ag (cs.map Cl.av)=some v.av/\v.ok G/\κ v=some r:=by
 unfold mkK at h;cases ag with
 | true=>refine⟨_,rfl,?_,h⟩; exact hcs
 | false=>
   simp only [cond_false] at h;split at h
   ·rename_i c;refine⟨_,rfl,?_,h⟩; exact hcs c (by simp)
   ·cases h
theorem ahi (hΘ:mu P Θ) (hS:S.ok) {t:TypeId} {v:V} (hv:v.ok S.gh) {κ:V->Option ρ} {r:ρ} (h:ag7 Θ S t v κ=some r):
  ∃ u,load P S.st t v.av=some u.av/\u.ok S.gh/\κ u=some r:=by
 unfold ag7 at h;split at h
 ·rename_i ti hti;have hok:=hΘ _ _ hti;split at h
  ·rename_i a;obtain⟨cs,h1,h2,h⟩:=al0 hS hv h;obtain⟨u,h3,h4,h⟩:=anK h2 h;refine⟨u,?_,h4,h⟩;unfold load;rw [hok.ag,hok.cells];simp only [ae,V.av,V1.av,h1];exact h3
  ·cases h
 ·cases h
theorem apG {n:Nat} {i:Int} {v:Cl} (hv:v.ok S.gh) {κ:Cl->Option ρ} {r:ρ} (h:aq5 n i S v κ=some r): ∃ c,Qn n i v.av=some c.av/\c.ok S.gh/\κ c=some r:=by
 unfold aq5 at h;split at h
 ·rename_i t l;obtain⟨h1,h⟩:=eE h;have h1:t.width=n:=ay h1;obtain⟨h2,h⟩:=jW h;obtain⟨x,hx,h⟩:=ao.1 h;have hil:=(aj.1 hx).1;refine⟨_,?_,?_,h⟩
  rotate_left
  ·trivial
  simp only [Cl.av,C.av,Qn,aJ];rw [if_pos ⟨h2,by omega,h1⟩]
  congr 1
  simp [az,hx,t.row_flat]
 ·rename_i p sz lo len;obtain⟨h1,h⟩:=eE h;have h1:sz=n:=ay h1;obtain⟨t,l,h2,h3,h⟩:=mT h;obtain⟨h4,h⟩:=jW h;obtain⟨h5,h6⟩:=hv;obtain⟨h7,h8,h9⟩:=h6 rfl;have h10:=h9 _ (h3 h7);simp only at h10;refine⟨_,?_,?_,h⟩
  rotate_left
  ·exact h5
  simp only [Cl.av,Qn];rw [if_pos ⟨h4.1,by omega,h1⟩,h8,aY]
 ·rename_i p sz lo len;obtain⟨h1,h⟩:=eE h;have h1:sz=n:=ay h1;obtain⟨h4,h⟩:=jW h;refine⟨_,?_,?_,h⟩
  rotate_left
  ·exact hv.1
  simp only [Cl.av,Qn];rw [if_pos ⟨h4.1,h4.2,h1⟩]
 ·cases h
theorem ak5 {v:Cl} (hv:v.ok S.gh) {κ:Int->Option ρ} {r:ρ} (h:apz S v κ=some r): ∃ n,JW v.av=some n/\κ n=some r:=by
 unfold apz at h;split at h
 ·exact⟨_,by simp [Cl.av,C.av,JW],h⟩
 ·obtain⟨t,l,h2,h3,h⟩:=mT h;obtain⟨h5,h6⟩:=hv;obtain⟨h7,h8,h9⟩:=h6 rfl;have h10:=h9 _ (h3 h7);simp only at h10;exact⟨_,by simp [Cl.av,JW,h10],h⟩
 ·exact⟨_,rfl,h⟩
 ·exact⟨_,rfl,h⟩
 ·cases h
theorem apH {n:Nat} {lo hi:Int} {v:Cl} (hv:v.ok S.gh) {κ:Cl->Option ρ} {r:ρ} (h:aq6 n lo hi v κ=some r): ∃ c,cut n lo hi v.av=some c.av/\c.ok S.gh/\κ c=some r:=by
 unfold aq6 at h;split at h
 ·obtain⟨h1,h⟩:=jW h;exact⟨.em,by simp [Cl.av,cut,h1],trivial,h⟩
 ·rename_i t l;obtain⟨h1,h⟩:=eE h;have h1:t.width=n:=ay h1;obtain⟨h2,h⟩:=jW h;refine⟨_,?_,?_,h⟩
  rotate_left
  ·trivial
  simp only [Cl.av,C.av,cut,aJ];rw [if_pos ⟨h1,h2⟩];simp [bT,bW]
 ·rename_i p sz l len w;obtain⟨h1,h⟩:=eE h;have h1:sz=n:=ay h1;obtain⟨h2,h⟩:=jW h;refine⟨_,?_,?_,h⟩
  rotate_left
  ·exact⟨hv.1,fun h=>by cases h⟩
  simp only [Cl.av,cut];rw [if_pos ⟨h1,h2⟩]
 ·cases h
theorem adp {d:Int} {x:Option Operand} {κ:Int->Option ρ} {r:ρ} (h:aem S d x κ=some r): ∃ n,vX S.st d x=some n/\κ n=some r:=by
 unfold aem at h;split at h
 ·exact⟨_,rfl,h⟩
 ·obtain⟨n,h1,h⟩:=QE h;exact⟨n,by simp only [vX,fu]; exact h1,h⟩
theorem apI {G:List (Option gK)}: ∀ (parts:List (Nat×V)) (pl:List (Nat×Nat×Bool)) (cs cs':List Cl),(∀ c∈cs,c.ok G)->(∀ x∈parts,x.2.ok G)->alY pl cs parts=some cs'->
  bld (pl.map fun x=>(x.1,x.2.1)) (cs.map Cl.av) (parts.map fun x=>(x.1,x.2.av))=some (cs'.map Cl.av)/\ ∀ c∈cs',c.ok G:=by
 intro parts
 induction parts with
 | nil=>
   intro pl cs cs' hcs _ h;simp only [alY,af] at h;subst h;exact⟨rfl,hcs⟩
 | cons x parts ih=>
   intro pl cs cs' hcs hp h;obtain⟨k,v⟩:=x;simp only [alY] at h;split at h
   ·rename_i off n ag hk;split at h
    ·rename_i x;have hx:x.ok G:=hp (k, .v x) (by simp)
     have fC: ∀ (hd: (V.v x).av.isDead=false) (hcell: (V.v x).av.cells=x.cells.map Cl.av) (hcok: ∀ c∈x.cells,c.ok G)
       (h: (bif Nat.beq x.cells.length n&&Nat.ble (off+n) cs.length then alY pl (cs.take off++x.cells++cs.drop (off+n)) parts else none)=some cs'),
       bld (pl.map fun x=>(x.1,x.2.1)) (cs.map Cl.av) (((k,V.v x)::parts).map fun x=>(x.1,x.2.av))=some (cs'.map Cl.av)/\ ∀ c∈cs',c.ok G:=by
      intro hd hcell hcok h;obtain⟨h1,h⟩:=eE h;simp only [ax] at h1;have h2:x.cells.length=n:=ay h1.1;have h3:off+n<=cs.length:=aF h1.2
      obtain⟨g1,g2⟩:=ih pl _ cs' (fun c hc=>by
       simp only [bu] at hc;rcases hc with (hc | hc) | hc
       ·exact hcs c (co hc)
       ·exact hcok c hc
       ·exact hcs c (b7 hc)) (fun y hy=>hp y (aI _ hy)) h
      refine⟨?_,g2⟩;rw [kR] at hk;simp only [aX,bld,ar,hk,aH];rw [if_pos ⟨hd,by rw [hcell]; simpa using h2,by simpa using h3⟩,<-g1,hcell];simp [bT,bW]
     cases x with
     | cl c=>cases c with
       | dead=>cases h
       | c y=>cases y <;> exact fC rfl rfl (fun c hc=>by simp only [V1.cells,aD] at hc; subst hc; exact hx) h
       | em=>exact fC rfl rfl (fun c hc=>by simp only [V1.cells,aD] at hc; subst hc; exact hx) h
       | own p sz lo len w=>exact fC rfl rfl (fun c hc=>by simp only [V1.cells,aD] at hc; subst hc; exact hx) h
       | pro cs=>exact fC rfl rfl (fun c hc=>by simp only [V1.cells,aD] at hc; subst hc; exact hx) h
       | ptrB n j=>exact fC rfl rfl (fun c hc=>by simp only [V1.cells,aD] at hc; subst hc; exact hx) h
       | ptrT p sz i j=>exact fC rfl rfl (fun c hc=>by simp only [V1.cells,aD] at hc; subst hc; exact hx) h
     | agg cs2=>exact fC rfl rfl hx h
     | fn f cs2=>cases h
    ·cases h
   ·cases h
end
end
section
open Go
theorem fE {α β:Type} {P:Program} (s:Sem α) (f:α->Sem β):f7 P (s >>=f)=(f7 P s).bind fun a=>f7 P (f a):=by
 show f7 P (s.bind f)=_
 induction s with
 | pure a=>rfl
 | program k ih=>exact ih P
 | _=>rfl
theorem gO {α:Type} {P:Program} (a:α):f7 P (pure a)=some a:=rfl
theorem MW: ∀ {zs:List Value} {a:List Cl},wx zs a=true-> ∃ xs:List Value,a=xs.map (fun x=>Cl.c (.sc x))
 | [],[],_=>⟨[],rfl⟩
 | .int k n::zs,a,h=>by
   unfold wx at h;split at h
   ·rename_i heq;cases heq
   ·rename_i k1 n1 zs1 k2 n2 cs h1;have hd:=h;cases hk:decide (k1=k2) with
    | false=>rw [hk] at h; cases h
    | true=>
      rw [hk] at h;obtain⟨xs,hx⟩:=MW (zs:=zs1) (a:=cs) h;exact⟨.int k2 n2::xs,by rw [hx]; rfl⟩
   ·rename_i b1 zs1 b2 cs h1;cases h1
   ·cases h
 | .bool b::zs,a,h=>by
   unfold wx at h;split at h
   ·rename_i heq;cases heq
   ·rename_i h1;cases h1
   ·rename_i b1 zs1 b2 cs h1;obtain⟨xs,hx⟩:=MW (zs:=zs1) (a:=cs) h;exact⟨.bool b2::xs,by rw [hx]; rfl⟩
   ·cases h
 | .float _ _::_,_,h=>by simp [wx] at h
 | .complex _ _ _::_,_,h=>by simp [wx] at h
 | .string _::_,_,h=>by simp [wx] at h
 | .pointer _::_,_,h=>by simp [wx] at h
 | .slice _ _ _::_,_,h=>by simp [wx] at h
 | .map _::_,_,h=>by simp [wx] at h
 | .chan _::_,_,h=>by simp [wx] at h
 | .func _ _ _::_,_,h=>by simp [wx] at h
 | .nilFunc::_,_,h=>by simp [wx] at h
 | .iface _ _::_,_,h=>by simp [wx] at h
 | .nilIface::_,_,h=>by simp [wx] at h
 | .agg _::_,_,h=>by simp [wx] at h
 | .tuple _::_,_,h=>by simp [wx] at h
 | [],_::_,h=>by simp [wx] at h
theorem ak6 (f:AV->Option Value) (hf: ∀ v,f (.sc v)=some v): ∀ xs:List Value,((xs.map fun x=>Cl.c (.sc x)).map Cl.av).mapM f=some xs
 | [] =>rfl
 | x::xs=>by
   simp only [aX,db,ak6 f hf xs];show (f (.sc x)).bind _=_;rw [hf];rfl
theorem ak7 (xs:List Value):IQ (V.v (.agg (xs.map fun x=>Cl.c (.sc x)))).av=some (.agg xs.toArray):=by
 simp only [V.av,V1.av,IQ];rw [ak6 _ (fun _=>rfl)];rfl
theorem jY {P:Program} {t:TypeId} {d:TypeDesc} (h:P.underlying t=some d):f7 P (underlying t)=some d:=by
 simp only [underlying,fE,program,f7,ae,h];rfl
section
variable {ρ:Type} {P:Program} {Θ:Du} {S:TS}
theorem anL (hΘ:mu P Θ) {t:TypeId} {x y:V} {κ:Bool->Option ρ} {r:ρ} (h:eqK Θ t x y κ=some r):
  ∃ b,κ b=some r/\((∃ k a c,x.av= .sc (.int k a)/\y.av= .sc (.int k c)/\b=(a==c))\/
    ((∀ k a k' c,¬ (x.av= .sc (.int k a)/\y.av= .sc (.int k' c)))/\ ∃ xv yv,IQ x.av=some xv/\IQ y.av=some yv/\(∀ op xo yo,f7 P (eqGuard op t xo yo xv yv)=some ())/\f7 P (binOp .eql t xv yv)=some (.bool b)/\f7 P (binOp .neq t xv yv)=some (.bool (!b)))):=by
 unfold eqK at h;split at h
 ·rename_i k a k' c;split at h
  ·rename_i hk;subst hk;exact⟨_,h, .inl ⟨k,a,c,rfl,rfl,rfl⟩⟩
  ·cases h
 ·rename_i a c;split at h
  ·rename_i ti hti;split at h
   ·rename_i hb;have hu:=(hΘ _ _ hti).bool hb
    have hE:f7 P (Op.equal t (.bool a) (.bool c))=some (a==c):=by
     show f7 P (Op.equalIn (9999+1) t (.bool a) (.bool c))=_;rw [Op.equalIn];simp only [fE,jY hu,ae,gO]
    refine⟨_,h, .inr ⟨fun k a k' c hc=>by simp [V.av,V1.av,Cl.av,C.av] at hc, .bool a, .bool c,rfl,rfl,fun op xo yo=> ?_,?_,?_⟩⟩
    ·cases op <;> simp [eqGuard,gO] <;> rfl
    ·simp only [binOp,fE,hE,ae,gO]
    ·simp only [binOp,fE,hE,ae,gO]
   ·cases h
  ·cases h
 ·rename_i a c;split at h
  ·rename_i ti hti;obtain⟨h1,h'⟩:=eE h;simp only [ax] at h1;obtain⟨⟨⟨h1,hfl⟩,h2⟩,h3⟩:=h1;split at h'
   ·rename_i b hb;obtain⟨xs,hx⟩:=MW h2;obtain⟨ys,hy⟩:=MW h3;have hok:=hΘ _ _ hti;have hE:=hok.eq h1 a c b xs ys h2 h3 hb hx hy;have hg:=hok.gu h1 hfl;refine⟨_,h', .inr ⟨fun k a k' c hc=>by simp [V.av,V1.av] at hc, .agg xs.toArray, .agg ys.toArray,by rw [hx]; exact ak7 xs,by rw [hy]; exact ak7 ys,fun op xo yo=> ?_,?_,?_⟩⟩
    ·cases op <;> simp [eqGuard,fE,gO,program,f7,hg]
    ·simp only [binOp,fE,hE,ae,gO]
    ·simp only [binOp,fE,hE,ae,gO]
   ·cases h'
  ·cases h
 ·cases h
theorem BG {f:IntKind->Int->Int->Option ρ} {x y:V} {r:ρ} (h:V.ints f x y=some r): ∃ k a b,x.av= .sc (.int k a)/\y.av= .sc (.int k b)/\f k a b=some r:=by
 unfold V.ints at h;split at h
 ·split at h
  ·rename_i k a k' b hk;subst hk;exact⟨k,a,b,rfl,rfl,h⟩
  ·cases h
 ·cases h
theorem apJ (hΘ:mu P Θ) {D:GA} {op:BinOp} {t t':TypeId} {x y:Operand} {κ:V->Option ρ} {r:ρ} (h:aq7 Θ op t (S.opd x) (S.opd y) κ=some r) {dst:Option Tmp} {ty:TypeId} {pos:String} {aft:Array Edge} {gd:Option (Nat×Bool)}:
  ∃ v:V,eI D P S.st ⟨dst, .binOp op t x y t',ty,pos,aft,gd⟩=some v.av/\(∀ G,v.ok G)/\κ v=some r:=by
 have eqs: ∀ (b:Bool) (xv yv:Value),IQ (opd S.st x)=some xv->IQ (opd S.st y)=some yv->f7 P (eqGuard op t x y xv yv)=some ()->f7 P (binOp op t xv yv)=some (.bool b)->
   gD P S.st ⟨dst, .binOp op t x y t',ty,pos,aft,gd⟩=some (.sc (.bool b)):=by
  intro b xv yv h1 h2 h3 h4;unfold gD;rw [if_pos (by simp [Op.operands,h1,h2])];simp only [execOp,h1,h2,aR,fE,h3,h4,ae,gO,ofS,EY,if_true]
 cases op with
 | lss=>obtain⟨k,a,b,h1,h2,h3⟩:=BG h; exact⟨_,by simp only [eI,fu,h1,h2,if_true]; rfl,fun G=>V.ok_sc G _,h3⟩
 | leq=>obtain⟨k,a,b,h1,h2,h3⟩:=BG h; exact⟨_,by simp only [eI,fu,h1,h2,if_true]; rfl,fun G=>V.ok_sc G _,h3⟩
 | gtr=>obtain⟨k,a,b,h1,h2,h3⟩:=BG h; exact⟨_,by simp only [eI,fu,h1,h2,if_true]; rfl,fun G=>V.ok_sc G _,h3⟩
 | geq=>obtain⟨k,a,b,h1,h2,h3⟩:=BG h; exact⟨_,by simp only [eI,fu,h1,h2,if_true]; rfl,fun G=>V.ok_sc G _,h3⟩
 | add=>obtain⟨k,a,b,h1,h2,h3⟩:=BG h; exact⟨_,by simp only [eI,fu,h1,h2,if_true]; rfl,fun G=>V.ok_sc G _,h3⟩
 | sub=>obtain⟨k,a,b,h1,h2,h3⟩:=BG h; exact⟨_,by simp only [eI,fu,h1,h2,if_true]; rfl,fun G=>V.ok_sc G _,h3⟩
 | mul=>obtain⟨k,a,b,h1,h2,h3⟩:=BG h; exact⟨_,by simp only [eI,fu,h1,h2,if_true]; rfl,fun G=>V.ok_sc G _,h3⟩
 | eql=>
   have h':eqK Θ t (S.opd x) (S.opd y) (fun r=>κ (V.sc (.bool r)))=some r:=h;obtain⟨b,h1,h2⟩:=anL hΘ h';refine⟨_,?_,fun G=>V.ok_sc G _,h1⟩;rcases h2 with ⟨k,a,c,e1,e2,rfl⟩ | ⟨hn,xv,yv,e1,e2,e3,e4,e5⟩
   ·simp only [eI,fu,e1,e2,if_true]; rfl
   ·simp only [eI];split
    ·rename_i k a k' c g1 g2;exact absurd ⟨by rw [<-fu]; exact g1,by rw [<-fu]; exact g2⟩ (hn k a k' c)
    ·exact eqs b xv yv (by rw [fu]; exact e1) (by rw [fu]; exact e2) (e3 _ _ _) e4
 | neq=>
   have h':eqK Θ t (S.opd x) (S.opd y) (fun r=>κ (V.sc (.bool (!r))))=some r:=h;obtain⟨b,h1,h2⟩:=anL hΘ h';refine⟨_,?_,fun G=>V.ok_sc G _,h1⟩;rcases h2 with ⟨k,a,c,e1,e2,rfl⟩ | ⟨hn,xv,yv,e1,e2,e3,e4,e5⟩
   ·simp only [eI,fu,e1,e2,if_true]; rfl
   ·simp only [eI];split
    ·rename_i k a k' c g1 g2;exact absurd ⟨by rw [<-fu]; exact g1,by rw [<-fu]; exact g2⟩ (hn k a k' c)
    ·exact eqs (!b) xv yv (by rw [fu]; exact e1) (by rw [fu]; exact e2) (e3 _ _ _) e5
 | quo=>
   have h':V.ints (fun k a b=>if b=0 then none else κ (V.sc (.int k (k.wrap (a.tdiv b))))) (S.opd x) (S.opd y)=some r:=h;obtain⟨k,a,b,h1,h2,h3⟩:=BG h';split at h3
   ·cases h3
   ·rename_i hb;refine⟨_,?_,fun G=>V.ok_sc G _,h3⟩;have hx:IQ (opd S.st x)=some (.int k a):=by rw [fu,h1]; rfl
    have hy:IQ (opd S.st y)=some (.int k b):=by rw [fu,h2]; rfl
    simp only [eI];unfold gD;rw [if_pos (by simp [Op.operands,hx,hy])]
    have e:f7 P (binOp .quo t (.int k a) (.int k b))=some (.int k (k.wrap (a.tdiv b))):=by
     simp only [binOp,ne_eq,not_true,if_false,Op.intDiv,if_neg hb,gO]
    have e2:f7 P (execOp (fun x=>(IQ (opd S.st x)).getD undef) ⟨dst, .binOp .quo t x y t',ty,pos,aft,gd⟩)=some (.value (.int k (k.wrap (a.tdiv b)))):=by
     show f7 P (do pure (Next.value (<-(do eqGuard .quo t x y ((IQ (opd S.st x)).getD undef) ((IQ (opd S.st y)).getD undef); binOp .quo t ((IQ (opd S.st x)).getD undef) ((IQ (opd S.st y)).getD undef)))))=_;rw [hx,hy];have g:f7 P (eqGuard .quo t x y (.int k a) (.int k b))=some ():=rfl;simp only [fE,aR,g,e,ae,gO]
    rw [e2];rfl
 | rem=>
   have h':V.ints (fun k a b=>if b=0 then none else κ (V.sc (.int k (a.tmod b)))) (S.opd x) (S.opd y)=some r:=h;obtain⟨k,a,b,h1,h2,h3⟩:=BG h';split at h3
   ·cases h3
   ·rename_i hb;refine⟨_,?_,fun G=>V.ok_sc G _,h3⟩;have hx:IQ (opd S.st x)=some (.int k a):=by rw [fu,h1]; rfl
    have hy:IQ (opd S.st y)=some (.int k b):=by rw [fu,h2]; rfl
    simp only [eI];unfold gD;rw [if_pos (by simp [Op.operands,hx,hy])]
    have e:f7 P (binOp .rem t (.int k a) (.int k b))=some (.int k (a.tmod b)):=by
     simp only [binOp,ne_eq,not_true,if_false,Op.intDiv,if_neg hb,gO]
    have e2:f7 P (execOp (fun x=>(IQ (opd S.st x)).getD undef) ⟨dst, .binOp .rem t x y t',ty,pos,aft,gd⟩)=some (.value (.int k (a.tmod b))):=by
     show f7 P (do pure (Next.value (<-(do eqGuard .rem t x y ((IQ (opd S.st x)).getD undef) ((IQ (opd S.st y)).getD undef); binOp .rem t ((IQ (opd S.st x)).getD undef) ((IQ (opd S.st y)).getD undef)))))=_;rw [hx,hy];have g:f7 P (eqGuard .rem t x y (.int k a) (.int k b))=some ():=rfl;simp only [fE,aR,g,e,ae,gO]
    rw [e2];rfl
 | _=>simp [aq7] at h
end
end
section
open Go
theorem ahj {G:List (Option gK)}: ∀ (l:List V) (cs:List Cl),(∀ v∈l,v.ok G)->ag9 l=some cs->l.map V.av=cs.map Cl.av/\ ∀ c∈cs,c.ok G
 | [],cs,_,h=>by
   simp only [ag9,af] at h;subst h;exact⟨rfl,fun c hc=>by cases hc⟩
 | v::l,cs,hl,h=>by
   unfold ag9 at h;split at h
   ·rename_i heq; cases heq
   ·rename_i c l' heq;cases heq;split at h
    ·rename_i r hr;simp only [af] at h;subst h;obtain⟨h1,h2⟩:=ahj l r (fun v hv=>hl v (aI _ hv)) hr;refine⟨by simp only [aX,h1]; rfl,fun x hx=> ?_⟩;rcases ba.1 hx with rfl | hx
     ·exact hl _ aN
     ·exact h2 x hx
    ·cases h
   ·cases h
section
variable {ρ:Type} {P:Program} {Θ:Du} {S:TS} {D:GA}
theorem adq (hΘ:mu P Θ) (hS:S.ok) {o:Oper} {κ:V->TS->Option ρ} {r:ρ} (h:YE Θ S o κ=some r):
  ∃ v S',eI D P S.st o=some v.av/\S'.st=S.st/\S'.ok/\S'.gh=S.gh/\v.ok S.gh/\κ v S'=some r:=by
 have ok: ∀ x,(S.opd x).ok S.gh:=fun x=>wJ hS x;have done: ∀ {v:V},eI D P S.st o=some v.av->v.ok S.gh->κ v S=some r-> ∃ v S',eI D P S.st o=some v.av/\S'.st=S.st/\S'.ok/\S'.gh=S.gh/\v.ok S.gh/\κ v S'=some r:=fun h1 h2 h3=>⟨_,S,h1,rfl,hS,rfl,h2,h3⟩
 obtain⟨dst,op,ty,pos,aft,gd⟩:=o;unfold YE at h;cases op with
 | move x=>exact done (by simp only [eI,fu]) (ok x) h
 | assign x=>exact done (by simp only [eI,fu]) (ok x) h
 | pick c a b=>
   simp only at h;obtain⟨t,S1,h1,h2,h3,h4,h⟩:=YJ hS h;cases t with
   | true=>exact⟨_,S1,by simp only [eI,h1,if_true]; rw [<-h2,fu],h2,h3,h4,by rw [<-h4]; exact wJ h3 _,h⟩
   | false=>exact⟨_,S1,by simp only [eI,h1,be,if_false]; rw [<-h2,fu],h2,h3,h4,by rw [<-h4]; exact wJ h3 _,h⟩
 | load t a=>
   simp only at h;obtain⟨u,h1,h2,h⟩:=ahi hΘ hS (ok a) h;exact done (by simp only [eI,fu]; exact h1) h2 h
 | nilCheck x=>
   simp only at h;split at h <;> rename_i hx
   ·exact done (by simp only [eI,fu,hx]; rfl) (by rw [<-hx]; exact ok x) h
   ·exact done (by simp only [eI,fu,hx]; rfl) (by rw [<-hx]; exact ok x) h
   ·exact done (by simp only [eI,fu,hx]; rfl) (by rw [<-hx]; exact ok x) h
   ·exact done (by simp only [eI,fu,hx]; rfl) (by rw [<-hx]; exact ok x) h
   ·exact done (by simp only [eI,fu,hx]; rfl) (by rw [<-hx]; exact ok x) h
   ·cases h
 | fieldAddr t x k=>
   simp only at h;split at h
   ·rename_i ti hti;split at h
    ·rename_i off n ag hk;have hfd:=(hΘ _ _ hti).fd k;rw [hk] at hfd;cases hn:Nat.beq n 0 with
     | true=>rw [hn] at h; cases h
     | false=>
       rw [hn] at h;have hn': ¬ n=0:=by intro h0; subst h0; cases hn
       simp only [cond_false] at h;split at h <;> rename_i hx
       ·refine done ?_ ?_ h
        ·simp only [eI,hfd,ae,fu,hx];rw [if_neg hn'];rfl
        ·trivial
       ·refine done ?_ ?_ h
        ·simp only [eI,hfd,ae,fu,hx];rw [if_neg hn'];rfl
        ·have:=ok x;rw [hx] at this;exact this
       ·refine done ?_ ?_ h
        ·simp only [eI,hfd,ae,fu,hx];rw [if_neg hn'];simp [V.av,V1.av,Cl.av,bW]
        ·trivial
       ·cases h
    ·cases h
   ·cases h
 | field t x k=>
   simp only at h;split at h
   ·rename_i ti hti;split at h
    ·rename_i off n ag hk;have hfd:=(hΘ _ _ hti).fd k;rw [hk] at hfd;split at h
     ·rename_i cs hx;obtain⟨h1,h⟩:=eE h;simp only [ax] at h1;have h2:off+n<=cs.length:=aF h1.1;have h3:0 < n:=aF h1.2;have hcs:=ok x;rw [hx] at hcs;obtain⟨v,h4,h5,h⟩:=anK (G:=S.gh) (fun c hc=>hcs c (b7 (co hc))) h;refine done ?_ h5 h;simp only [eI,hfd,ae,fu,hx,V.av,V1.av,aJ];rw [if_pos ⟨h2,h3⟩,<-bW,<-bT];exact h4
     ·cases h
    ·cases h
   ·cases h
 | indexAddr t x ix=>
   simp only at h;split at h
   ·rename_i ti hti;split at h
    ·rename_i e he;obtain⟨el,g1,g2,_⟩:=(hΘ _ _ hti).el e he;obtain⟨i,h1,h⟩:=QE h;split at h
     ·rename_i a hx;have ha:=ok x;rw [hx] at ha;obtain⟨c,h2,h3,h⟩:=apG ha h;refine done ?_ ?_ h
      ·simp only [eI,g1,ae,fu,h1,hx,g2];exact h2
      ·exact h3
     ·cases h
    ·cases h
   ·cases h
 | build t parts=>
   simp only at h;split at h
   ·rename_i ti hti;obtain⟨h1,h⟩:=eE h;split at h
    ·rename_i cs hcs;have hok:=hΘ _ _ hti
     obtain⟨g1,g2⟩:=apI (G:=S.gh) _ _ _ _ (fun c hc=>by
      obtain⟨v,_,rfl⟩:=aQ.1 hc;exact ak4 _ _) (fun y hy=>by
      obtain⟨z,_,rfl⟩:=aQ.1 hy;exact ok z.2) hcs
     refine done ?_ ?_ h
     ·simp only [eI,hok.pl h1,hok.ze,ae]
      have e1:ti.ty.zvs.map XU=(ti.ty.zvs.map cC).map Cl.av:=by
       rw [bB];exact aO fun v _=>(EN v).symm
      have e2:parts.toList.map (fun x=>(x.1,opd S.st x.2))=(parts.toList.map fun x=>(x.1,S.opd x.2)).map fun x=>(x.1,x.2.av):=by
       rw [bB];exact aO fun x _=>by simp [fu]
      rw [e1,e2,g1];rfl
     ·exact g2
    ·cases h
   ·cases h
 | slice t x lo hi mx=>
   cases mx with
   | some m=>simp at h
   | none=>
     simp only at h;split at h
     ·rename_i ti hti;split at h
      ·rename_i e he;obtain⟨el,g1,g2,_⟩:=(hΘ _ _ hti).el e he;split at h
       ·rename_i a hx;have ha:=ok x;rw [hx] at ha;obtain⟨n,h1,h⟩:=ak5 ha h;obtain⟨l,h2,h⟩:=adp h;obtain⟨m,h3,h⟩:=adp h;obtain⟨c,h4,h5,h⟩:=apH ha h;refine done ?_ ?_ h
        ·simp only [eI,fu,hx];split
         ·rename_i s hs;have hs':a.av= .sc (.string s):=hs;rw [hs'] at h1;cases h1
         ·show (Nk P t).bind _=_;rw [g1];simp only [ae];show (JW a.av).bind _=_;rw [h1];simp only [ae,h2,h3,g2];exact h4
        ·exact h5
       ·cases h
      ·cases h
     ·cases h
 | extract x k=>
   simp only at h;split at h
   ·rename_i vs hx;split at h
    ·rename_i v hv;have hvs:=ok x;rw [hx] at hvs;rw [kR] at hv;refine done ?_ ?_ h
     ·simp only [eI,fu,hx,V.av,ar,hv,aH]
     ·exact hvs v (au hv)
    ·cases h
   ·cases h
 | makeFunc fn first caps=>
   cases fn with
   | func f=>
     simp only at h;obtain⟨h1,h⟩:=eE h;split at h
     ·rename_i cs hcs
      obtain⟨g1,g2⟩:=ahj (G:=S.gh) _ _ (fun v hv=>by
       obtain⟨y,_,rfl⟩:=aQ.1 hv;exact ok y) hcs
      refine done ?_ ?_ h
      ·simp only [eI,h1,if_true]
       have e:caps.toList.map (opd S.st)=(caps.toList.map S.opd).map V.av:=by
        rw [bB];exact aO fun x _=>fu x
       rw [e,g1];rfl
      ·exact g2
     ·cases h
   | _=>simp at h
 | unOp op t x=>
   cases op with
   | not=>
     simp only at h;split at h
     ·rename_i b hx;refine done ?_ ?_ h
      ·simp only [eI,fu,hx]; rfl
      ·trivial
     ·cases h
   | _=>simp at h
 | binOp op t x y t'=>
   simp only at h;obtain⟨v,h1,h2,h⟩:=apJ (D:=D) (t':=t') (dst:=dst) (ty:=ty) (pos:=pos) (aft:=aft) (gd:=gd) hΘ h;exact done h1 (h2 _) h
 | call c=>
   obtain⟨cl,as,ts⟩:=c;cases cl with
   | value f=>simp at h
   | invoke a b=>simp at h
   | builtin b=>
     cases b with
     | cap=>
       simp only at h;split at h
       ·rename_i x t e1 e2;split at h
        ·rename_i ti hti;split at h
         ·rename_i e he;obtain⟨el,g1,g2,_⟩:=(hΘ _ _ hti).el e he;split at h
          ·rename_i hx;refine done ?_ ?_ h
           ·simp only [eI,e1,e2,g1,Option.isSome_some,if_true,fu,hx];rfl
           ·trivial
          ·cases h
         ·cases h
        ·cases h
       ·cases h
     | len=>
       simp only at h;split at h
       ·rename_i x t e1 e2;split at h
        ·rename_i ti hti;split at h
         ·rename_i e he;obtain⟨el,g1,g2,_⟩:=(hΘ _ _ hti).el e he;split at h
          ·rename_i a hx;have ha:=ok x;rw [hx] at ha;obtain⟨n,h1,h⟩:=ak5 ha h;refine done ?_ ?_ h
           ·simp only [eI,e1,e2,g1,Option.isSome_some,if_true,fu,hx];show (JW a.av).map _=_;rw [h1];rfl
           ·trivial
          ·cases h
         ·cases h
        ·cases h
       ·cases h
     | max=>
       simp only at h;split at h
       ·rename_i x y e1;obtain⟨k,a,b,h1,h2,h⟩:=BG h;refine done ?_ (V.ok_sc _ _) h;simp only [eI,e1,aX,cn,fu,h1,h2];rfl
       ·cases h
     | min=>
       simp only at h;split at h
       ·rename_i x y e1;obtain⟨k,a,b,h1,h2,h⟩:=BG h;refine done ?_ (V.ok_sc _ _) h;simp only [eI,e1,aX,cn,fu,h1,h2];rfl
       ·cases h
     | _=>simp at h
 | convert s d x=>
   simp only at h;split at h
   ·rename_i si di hs hd;split at h
    ·rename_i k' hk;split at h
     ·rename_i k n hx;refine done ?_ (V.ok_sc _ _) h;have hud:=(hΘ _ _ hd).int _ hk
      obtain⟨ds,hus⟩: ∃ ds,P.underlying s=some ds:=by
       have:=(hΘ _ _ hs).ag;unfold agT at this;cases hu:P.underlying s with
       | none=>rw [hu] at this; cases this
       | some ds=>exact⟨ds,rfl⟩
      have hxv:IQ (opd S.st x)=some (.int k n):=by rw [fu,hx]; rfl
      simp only [eI];unfold gD;rw [if_pos (by simp [Op.operands,hxv])]
      have e:f7 P (Go.convert s d (.int k n))=some (.int k' (k'.wrap n)):=by
       unfold Go.convert;simp only [fE,jY hus,jY hud,ae];cases ds <;> rfl
      have e2:f7 P (execOp (fun x=>(IQ (opd S.st x)).getD undef) ⟨dst, .convert s d x,ty,pos,aft,gd⟩)=some (.value (.int k' (k'.wrap n))):=by
       show f7 P (do pure (Next.value (<-Go.convert s d ((IQ (opd S.st x)).getD undef))))=_;rw [hxv];simp only [fE,aR,e,ae,gO]
      rw [e2];rfl
     ·cases h
    ·cases h
   ·cases h
 | index t x ix=>
   simp only at h;split at h
   ·rename_i ti hti;split at h
    ·rename_i hs;split at h
     ·rename_i s k i hx hi;unfold eg at h;split at h
      ·rename_i h0;obtain⟨b,hb,h⟩:=ao.1 h;refine done ?_ (V.ok_sc _ _) h
       have hus:P.underlying t=some .string:=by
        have:=(hΘ _ _ hti).str;rw [hs] at this;unfold ad0 at this;split at this
        ·assumption
        ·cases this
       have hxv:IQ (opd S.st x)=some (.string s):=by rw [fu,hx]; rfl
       have hiv:IQ (opd S.st ix)=some (.int k i):=by rw [fu,hi]; rfl
       have hxa:opd S.st x= .sc (.string s):=by rw [fu,hx]; rfl
       simp only [eI,hxa];unfold gD;rw [if_pos (by simp [Op.operands,hxv,hiv])]
       have e:f7 P (Instr.index t (.string s) (.int k i))=some (.int .u8 b.toNat):=by
        unfold Instr.index;simp only [fE,asIntOf,gO,ae,jY hus];rw [if_pos h0,hb];rfl
       have e2:f7 P (execOp (fun x=>(IQ (opd S.st x)).getD undef) ⟨dst, .index t x ix,ty,pos,aft,gd⟩)=some (.value (.int .u8 b.toNat)):=by
        show f7 P (do pure (Next.value (<-Instr.index t ((IQ (opd S.st x)).getD undef) ((IQ (opd S.st ix)).getD undef))))=_;rw [hxv,hiv];simp only [fE,aR,e,ae,gO]
       rw [e2];rfl
      ·cases h
     ·cases h
    ·cases h
   ·cases h
 | _=>simp at h
end
end
section
open Go
theorem wK {G:List (Option gK)} {x:Option gK} (r:Nat):jZ (G++ [x]) r=if r=G.length then x else jZ G r:=by
 unfold jZ;rw [kR,kR];by_cases h:r=G.length
 ·subst h; simp
 ·rw [if_neg h];rcases cg r G.length with h' | h'
  ·rw [aP h']
  ·rw [bQ (by simp; omega),bQ h']
theorem Tq {G:List (Option gK)} (l:List gK) (r:Nat):jZ (G++l.map some) r=if G.length<=r then l[r - G.length]? else jZ G r:=by
 unfold jZ;rw [kR,kR];by_cases h:G.length<=r
 ·rw [if_pos h,aW h,ar];cases l[r - G.length]? <;> rfl
 ·rw [if_neg h,aP (by omega)]
theorem MX {G:List (Option gK)} {r:Nat} (h:G.length<=r):jZ G r=none:=by
 unfold jZ;rw [kR,bQ h];rfl
theorem MY {G:List (Option gK)} {r:Nat} {tr:gK} (h:jZ G r=some tr):r < G.length:=by
 rcases cg r G.length with h' | h'
 ·exact h'
 ·rw [MX h'] at h; cases h
theorem D5 {G:List (Option gK)} {x:Option gK} (q r:Nat) (hq:q < G.length\/x=none):jZ (jS G q x) r=if r=q then x else jZ G r:=by
 unfold jZ;rw [kR,kR,nD,bK];by_cases h:q=r
 ·subst h;simp only [if_true];rcases hq with hq | rfl
  ·rw [if_pos hq]; rfl
  ·split <;> rfl
 ·rw [if_neg h,if_neg (fun e=>h e.symm)]
theorem pm.app (G:List (Option gK)) (x:Option gK):pm G (G++ [x]):=⟨by simp,fun r tr hr h=>by
 rw [wK,if_neg (by omega)] at h;exact⟨tr,h,rfl⟩⟩
theorem pm.apps (G:List (Option gK)) (l:List gK):pm G (G++l.map some):=⟨by simp,fun r tr hr h=>by
 rw [Tq,if_neg (by omega)] at h;exact⟨tr,h,rfl⟩⟩
theorem pm.gone (G:List (Option gK)) (q:Nat):pm G (jS G q none):=⟨by rw [nD]; simp,fun r tr hr h=>by
 rw [D5 q r (.inr rfl)] at h;split at h
 ·cases h
 ·exact⟨tr,h,rfl⟩⟩
theorem pm.put {G:List (Option gK)} {q:Nat} {tr tr':gK} (h:jZ G q=some tr) (hl:tr'.l.length=tr.l.length):pm G (jS G q (some tr')):=⟨by rw [nD]; simp,fun r t hr h'=>by
 rw [D5 q r (.inl (MY h))] at h';split at h'
 ·rename_i hq;subst hq;cases h';exact⟨tr,h,hl.symm⟩
 ·exact⟨t,h',rfl⟩⟩
theorem TS.ok_gh {S:TS} (hS:S.ok) {G:List (Option gK)} (hG:pm S.gh G): ({ S with gh:=G }:TS).ok:=
 ⟨fun x hx=>V.ok_mono hG (hS.env x hx),fun cs hcs c hc=>Cl.ok_mono hG (hS.bx cs hcs c hc)⟩
theorem YK (S:TS) (x:gK): ({ S with gh:=S.gh++ [some x] }:TS).st= { S.st with gh:=gz S.st.gh S.gh.length (some x.tree),ng:=S.gh.length+1 } :=by
 unfold TS.st;simp only [bk,cj]
 congr 1
 funext r
 rw [wK];unfold gz;split <;> rfl
theorem QF (S:TS) (q:Nat): ({ S with gh:=jS S.gh q none }:TS).st= { S.st with gh:=gz S.st.gh q none } :=by
 unfold TS.st;simp only;have : (jS S.gh q none).length=S.gh.length:=by rw [nD]; simp
 rw [this]
 congr 1
 funext r
 rw [D5 q r (.inr rfl)];unfold gz;split <;> rfl
theorem Ts (S:TS) {q:Nat} (x:gK) (hq:q < S.gh.length): ({ S with gh:=jS S.gh q (some x) }:TS).st= { S.st with gh:=gz S.st.gh q (some x.tree) } :=by
 unfold TS.st;simp only;have : (jS S.gh q (some x)).length=S.gh.length:=by rw [nD]; simp
 rw [this]
 congr 1
 funext r
 rw [D5 q r (.inl hq)];unfold gz;split <;> rfl
theorem ajB (S:TS) (cs:List Cl): ({ S with bx:=S.bx++ [cs] }:TS).st= { S.st with bx:=gz S.st.bx S.bx.length (some (cs.map Cl.av)),nb:=S.bx.length+1 } :=by
 unfold TS.st;simp only [bk,cj]
 congr 1
 funext n
 unfold gz;simp only [kR];by_cases h:n=S.bx.length
 ·subst h; simp
 ·rw [if_neg h];rcases cg n S.bx.length with h' | h'
  ·rw [aP h']
  ·rw [bQ (by simp; omega),bQ h']
theorem al1 (S:TS) {b:Nat} (cs:List Cl) (hb:b < S.bx.length): ({ S with bx:=jS S.bx b cs }:TS).st= { S.st with bx:=gz S.st.bx b (some (cs.map Cl.av)) } :=by
 unfold TS.st;have : (jS S.bx b cs).length=S.bx.length:=by rw [nD]; simp
 simp only;rw [this]
 congr 1
 funext n
 unfold gz;simp only [kR];rw [nD,bK];by_cases h:b=n
 ·subst h; simp [hb]
 ·rw [if_neg h,if_neg (fun e=>h e.symm)]
theorem anM (t:Ty): (t.zvs.map cC).map Cl.av=t.zvs.map ofV:=by
 cases t with
 | st n=>cases n <;> rfl
 | _=>rfl
theorem anN (G:List (Option gK)) (t:Ty): ∀ c∈t.zvs.map cC,c.ok G:=fun c hc=>by
 obtain⟨v,_,rfl⟩:=aQ.1 hc;exact ak4 _ _
def K7 (P:Program) (g:FuncId) (args:List V1) (b:Bool) (res:V) (out:List gK):Prop:=
 ∃ (t:Ty) (x:t.D) (as:List V1),args=arg t x::as/\BE P g ((apD t x 0).av::as.map V1.av) ((Hw (t.flat x)).map gK.tree) (bif b then (Hw (t.flat x)).length else 0) res.av (out.map gK.tree)
structure Vr (P:Program) (f:Nat) (args:List V1) (res:V) (out:List gK):Prop where
 fn:f < qB->Hq P f (args.map V1.av) [] res.av (out.map gK.tree)
 io: ∀ g,f=Nl g->g < qB->K7 P g args true res out
 mv: ∀ g,f=Tl g->K7 P g args false res out
theorem anO (g:Nat): ¬ Nl g < qB:=Nat.not_lt.2 (dF qB g)
theorem ak8 (g:Nat): ¬ Tl g < qB:=Nat.not_lt.2 (bL (dF qB qB) (dF adn g))
theorem anP {g g':Nat} (hg:g < qB):Nl g≠Tl g':=fun h=>by
 have h1:Nl g < adn:=Nat.add_lt_add_right hg qB;rw [h] at h1;exact Nat.not_lt.2 (dF adn g') h1
theorem Vr.of_fn {P:Program} {f:Nat} {args:List V1} {res:V} {out:List gK} (h:Hq P f (args.map V1.av) [] res.av (out.map gK.tree)) (hf:f < qB):Vr P f args res out:=
 ⟨fun _=>h,fun g e _=>absurd (e ▸ hf) (anO g),fun g e=>absurd (e ▸ hf) (ak8 g)⟩
theorem Vr.of_io {P:Program} {g:Nat} {args:List V1} {res:V} {out:List gK} (h:K7 P g args true res out) (hg:g < qB):Vr P (Nl g) args res out:=
 ⟨fun h'=>absurd h' (anO g),fun g' e _=>by rw [<-Nat.add_right_cancel (e:g+qB=g'+qB)]; exact h,fun g' e=>absurd e (anP hg)⟩
theorem Vr.of_mv {P:Program} {g:Nat} {args:List V1} {res:V} {out:List gK} (h:K7 P g args false res out):Vr P (Tl g) args res out:=
 ⟨fun h'=>absurd h' (ak8 g),fun g' e hg=>absurd e.symm (anP hg),fun g' e=>by rw [<-Nat.add_right_cancel (e:g+adn=g'+adn)]; exact h⟩
theorem K7.get {P:Program} {g:FuncId} {el:Ty} {l:List el.D} {as:List V1} {b:Bool} {res:V} {out:List gK} (h:K7 P g (.cl (.c (.ls el l))::as) b res out):BE P g (.own ⟨0,[]⟩ el.width 0 l.length::as.map V1.av) [.sl el.width (l.map el.row)] (bif b then 1 else 0) res.av (out.map gK.tree):=by
 obtain⟨t,x,as',he,h⟩:=h;simp only [bF] at he;obtain⟨he,rfl⟩:=he;cases t with
 | ls el'=>
   have he':V1.cl (.c (.ls el l))= .cl (.c (.ls el' x)):=he;cases he';exact h
 | st n=>cases n <;> cases he
 | _=>cases he
theorem K7.getA {P:Program} {g:FuncId} {ys:List C} {as:List V1} {res:V} {out:List gK} (h:K7 P g (.agg (ys.map .c)::as) true res out):BE P g (.agg ((O3 ys 0).map Cl.av)::as.map V1.av) ((Hw ys).map gK.tree) (Hw ys).length res.av (out.map gK.tree):=by
 obtain⟨t,x,as',he,h⟩:=h;simp only [bF] at he;obtain⟨he,rfl⟩:=he;cases t with
 | st n=>
   have he':V1.agg (ys.map Cl.c)= .agg ((n.flat x).map Cl.c):=he;simp only [V1.agg.injEq] at he'
   have :ys=n.flat x:=by
    have hi: ∀ (l m:List C),l.map Cl.c=m.map Cl.c->l=m:=by
     intro l
     induction l with
     | nil=>intro m hm; cases m with | nil=>rfl | cons a m=>cases hm
     | cons a l ih=>
       intro m hm;cases m with
       | nil=>cases hm
       | cons b m=>
         simp only [aX,bF,Cl.c.injEq] at hm;rw [hm.1,ih m hm.2]
    exact hi _ _ he'
   subst this;exact h
 | _=>cases he
def ef (P:Program) (Y:Tj):Prop:= ∀ f args ρ κ r,Y f args ρ κ=some r-> ∃ res out,Vr P f args res out/\res.ok (out.map some)/\κ res out=some r
section
variable {ρ:Type} {P:Program} {Θ:Du} {S:TS}
theorem aes {α β:Type} {f:α->(β->Option ρ)->Option ρ} {R:α->β->Prop} (hf: ∀ a κ r,f a κ=some r-> ∃ b,R a b/\κ b=some r):
  ∀ (l:List α) (κ:List β->Option ρ) (r:ρ),YF f l κ=some r-> ∃ bs,l.length=bs.length/\(∀ (k:Nat) (a:α) (b:β),l[k]? =some a->bs[k]? =some b->R a b)/\κ bs=some r:=by
 intro l
 induction l with
 | nil=>intro κ r h; exact⟨[],rfl,fun k a b ha=>by simp at ha,h⟩
 | cons a l ih=>
   intro κ r h;obtain⟨b,h1,h⟩:=hf a _ r h;obtain⟨bs,h2,h3,h⟩:=ih _ r h;refine⟨b::bs,by simp [h2],fun k x y hx hy=> ?_,h⟩;cases k with
   | zero=>simp at hx hy; subst hx hy; exact h1
   | succ k=>exact h3 k x y (by simpa using hx) (by simpa using hy)
theorem anQ {α β γ:Type} {f:α->γ} {g:β->γ} {l:List α} {bs:List β} (h1:l.length=bs.length) (h2: ∀ (k:Nat) (a:α) (b:β),l[k]? =some a->bs[k]? =some b->f a=g b):l.map f=bs.map g:=by
 apply bS;intro k;rw [ar,ar];cases ha:l[k]? with
 | none=>
   rw [List.getElem?_eq_none_iff] at ha;rw [bQ (by omega)];rfl
 | some a=>
   have:=(aj.1 ha).1;rw [ai (by omega:k < bs.length)];simp only [aH];rw [h2 k a _ ha (ai (by omega))]
theorem K8 {p:gt} {sz lo len:Nat} {t:Ty} {l:List t.D} (hc: (Cl.own p sz lo len true).ok S.gh) (h:p.l= [] ->jZ S.gh p.r=some ⟨t,l,none⟩):p.l= [] /\lo=0/\len=l.length:=by
 obtain⟨_,h2⟩:=hc;obtain⟨a,b,c⟩:=h2 rfl;exact⟨a,b,c _ (h a)⟩
theorem YL (hS:S.ok) {et:Option Ty} {c:Cl} (hc:c.ok S.gh) {κ:Cl->Option ρ} {r:ρ} (h:reC S et c κ=some r): ∃ c',(∀ sz,(∀ t,et=some t->sz=t.width)->kO S.st sz c.av=c'.av)/\κ c'=some r:=by
 unfold reC at h;split at h
 ·rename_i x;exact⟨_,fun sz _=>by cases x <;> rfl,h⟩
 ·split at h
  ·rename_i t;exact⟨_,fun sz hsz=>by rw [hsz t rfl]; rfl,h⟩
  ·cases h
 ·rename_i p sz lo len;obtain⟨t,l,h1,h2,h⟩:=mT h;obtain⟨h3,h⟩:=eE h;have h3:t.width=sz:=ay h3;obtain⟨h4,h5,h6⟩:=K8 hc h2;refine⟨_,fun sz' _=> ?_,h⟩;simp only [Cl.av,kO,<-h3,vY h1,h5,h6,aY,aJ,aE,if_true,bM,C.av];rw [bi (by simp)]
 ·rename_i p sz lo len;obtain⟨t,l,h1,h2,h⟩:=mT h;obtain⟨h3,h⟩:=eE h;have h3:t.width=sz:=ay h3;obtain⟨h4,h⟩:=jW h;refine⟨_,fun sz' _=> ?_,h⟩;simp only [Cl.av,kO,<-h3,vY h1,aJ,h4,if_true,C.av];simp [bT,bW]
 ·exact⟨_,fun _ _=>rfl,h⟩
 ·rename_i p sz i j;obtain⟨t,l,h1,h2,h⟩:=mT h;obtain⟨h3,h⟩:=eE h;have h3:t.width=sz:=ay h3;obtain⟨x,hx,h⟩:=ao.1 h;refine⟨_,fun sz' _=> ?_,h⟩;simp only [Cl.av,kO,<-h3,vY h1];have e1: (l.map t.row).getD i [] =t.row x:=by simp [az,hx]
  rw [e1,t.row_flat,bW]
 ·rename_i b j;split at h
  ·rename_i cs hcs
   obtain⟨bs,h1,h2,h⟩:=aes (R:=fun (c:Cl) (x:C)=>c.ok S.gh->T.ofAV S.st 0 c.av=x.tree) (fun c κ r h=>by
    split at h
    ·rename_i x;exact⟨x,fun _=>by cases x <;> rfl,h⟩
    ·rename_i p sz lo len;obtain⟨t,l,h1,h2,h⟩:=mT h;obtain⟨h3,h⟩:=eE h;have h3:t.width=sz:=ay h3;refine⟨_,fun hc=> ?_,h⟩;obtain⟨h4,h5,h6⟩:=K8 hc h2;simp only [Cl.av,T.ofAV,<-h3,vY h1,h5,h6,aY,aJ,aE,if_true,bM,C.tree];rw [bi (by simp)]
    ·cases h) _ _ _ h
   refine⟨_,fun sz _=> ?_,h⟩;simp only [Cl.av,kO,TS.st,hcs,aH];rw [<-bW,bB]
   congr 1
   refine anQ h1 (fun k a b ha hb=>h2 k a b ha hb ?_);rw [kR] at hcs;exact hS.bx cs (au hcs) a (b7 (au ha))
  ·cases h
 ·exact⟨_,fun _ _=>rfl,h⟩
theorem apK (hS:S.ok): ∀ (ets:List (Option Ty)) (cs:List Cl) (κ:List Cl->Option ρ) (r:ρ),(∀ c∈cs,c.ok S.gh)->apA S ets cs κ=some r->
  ∃ cs',ets.length=cs.length/\List.zipWith (kO S.st) (ets.map fun | some e=>e.width | none=>0) (cs.map Cl.av)=cs'.map Cl.av/\κ cs'=some r:=by
 intro ets
 induction ets with
 | nil=>
   intro cs κ r hcs h;cases cs with
   | nil=>exact⟨[],rfl,rfl,h⟩
   | cons c cs=>cases h
 | cons et ets ih=>
   intro cs κ r hcs h;cases cs with
   | nil=>cases h
   | cons c cs=>
     unfold apA at h;obtain⟨c',h1,h⟩:=YL hS (hcs c aN) h;obtain⟨cs',h2,h3,h⟩:=ih cs _ r (fun x hx=>hcs x (aI _ hx)) h;refine⟨c'::cs',by simp [h2],?_,h⟩;simp only [aX,List.zipWith_cons_cons,h3];rw [h1];intro t ht;subst ht;rfl
theorem anR (hΘ:mu P Θ) (hS:S.ok) {t:TypeId} {v:V} (hv:v.ok S.gh) {κ:V1->Option ρ} {r:ρ} (h:reV Θ S t v κ=some r): ∃ v1:V1,sQ S.st (C0 P 9 t) v.av=v1.av/\κ v1=some r:=by
 unfold reV at h;split at h
 ·cases h
 ·rename_i f cs
  obtain⟨bs,h1,h2,h⟩:=aes (R:=fun (c c':Cl)=>c.ok S.gh->kO S.st 0 c.av=c'.av) (fun c κ r h=>by
   by_cases hc:c.ok S.gh
   ·obtain⟨c',h1,h⟩:=YL hS hc h;exact⟨c',fun _=>h1 0 (fun t ht=>by cases ht),h⟩
   ·have : ∃ c',κ c'=some r:=by
     unfold reC at h;split at h
     ·exact⟨_,h⟩
     ·cases h
     ·obtain⟨t,l,_,_,h⟩:=mT h; exact⟨_,(eE h).2⟩
     ·obtain⟨t,l,_,_,h⟩:=mT h; exact⟨_,(jW (eE h).2).2⟩
     ·exact⟨_,h⟩
     ·obtain⟨t,l,_,_,h⟩:=mT h; obtain⟨x,_,h⟩:=ao.1 (eE h).2; exact⟨_,h⟩
     ·split at h
      ·obtain⟨bs,_,_,h⟩:=aes (R:=fun _ _=>True) (fun c κ r h=>by
        split at h
        ·exact⟨_,trivial,h⟩
        ·obtain⟨t,l,_,_,h⟩:=mT h; exact⟨_,trivial,(eE h).2⟩
        ·cases h) _ _ _ h
       exact⟨_,h⟩
      ·cases h
     ·exact⟨_,h⟩
    obtain⟨c',h⟩:=this;exact⟨c',fun hc'=>absurd hc' hc,h⟩) _ _ _ h
  refine⟨_,?_,h⟩;simp only [V.av,V1.av,sQ,bB]
  congr 1
  exact anQ h1 (fun k a b ha hb=>h2 k a b ha hb (hv a (au ha)))
 ·rename_i cs;split at h
  ·rename_i ti hti;obtain⟨cs',h1,h2,h⟩:=apK hS _ _ _ _ hv h;refine⟨_,?_,h⟩;have e: (ti.ty.csh.map fun | some e=>e.width | none=>0)=ti.ty.shs:=rfl;simp only [V.av,V1.av,sQ,(hΘ _ _ hti).sh];rw [if_pos (by rw [<-e]; simpa using h1),<-e,h2]
  ·cases h
 ·exact⟨_,rfl,h⟩
 ·rename_i c hne
  have fC: ∀ (szs:List Nat),sQ S.st szs (V.v (.cl c)).av=kO S.st (szs.headD 0) c.av:=by
   intro szs;cases c with
   | c x=>cases x <;> rfl
   | em=>exact absurd rfl hne
   | _=>rfl
  split at h
  ·rename_i ti hti;obtain⟨c',h1,h⟩:=YL hS hv h;refine⟨_,?_,h⟩;rw [fC];refine h1 _ (fun t ht=> ?_);rw [(hΘ _ _ hti).sh];unfold Ty.shs;cases hc:ti.ty.csh with
   | nil=>rw [hc] at ht; cases ht
   | cons a l=>
     rw [hc] at ht;simp only [List.headD_cons] at ht;subst ht;rfl
  ·obtain⟨c',h1,h⟩:=YL hS hv h;exact⟨_,by rw [fC]; exact h1 _ (fun t ht=>by cases ht),h⟩
theorem H0 (hΘ:mu P Θ) (hS:S.ok): ∀ (ts:List TypeId) (as:List Operand) (κ:List V1->Option ρ) (r:ρ),HX Θ S ts as κ=some r->
  ∃ vs:List V1,List.zipWith (fun t a=>sQ S.st (C0 P 9 t) (opd S.st a)) ts as=vs.map V1.av/\κ vs=some r:=by
 intro ts
 induction ts with
 | nil=>
   intro as κ r h;cases as with
   | nil=>exact⟨[],rfl,h⟩
   | cons a as=>cases h
 | cons t ts ih=>
   intro as κ r h;cases as with
   | nil=>cases h
   | cons a as=>
     unfold HX at h;obtain⟨v,h1,h⟩:=anR hΘ hS (wJ hS a) h;obtain⟨vs,h2,h⟩:=ih as _ r h;exact⟨v::vs,by rw [List.zipWith_cons_cons,h2,fu,h1,aX],h⟩
end
end
section
open Go
open Classical in
noncomputable def al2 (d:Option Tmp) (g:FuncId) (args:List AV) (res:AV×List T):GA:=fun d' g' a' gs'=>if d'=d/\g'=g/\a'=args/\gs'= [] then some res else none
theorem YM {P:Program} {d:Option Tmp} {g:FuncId} {args:List AV} {res:AV} {out:List T} (h:Hq P g args [] res out):BC P (al2 d g args (res,out)):=by
 intro d' g' a' gs' r' o' h';unfold al2 at h';split at h'
 ·rename_i hc;obtain⟨rfl,rfl,rfl,rfl⟩:=hc;simp only [af,aq] at h';obtain⟨rfl,rfl⟩:=h';exact h
 ·cases h'
theorem ak9 (d:Option Tmp) (g:FuncId) (args:List AV) (res:AV×List T):al2 d g args res d g args [] =some res:=by
 unfold al2;rw [if_pos ⟨rfl,rfl,rfl,rfl⟩]
def noD:GA:=fun _ _ _ _=>none
theorem qF {P:Program}:BC P noD:=fun _ _ _ _ _ _ h=>by cases h
theorem al3 (n:Nat) (c:Cl): (aen n c).av=C7 n c.av:=by
 cases c with
 | c x=>cases x <;> rfl
 | _=>rfl
theorem YN (n:Nat) (v:V1): (MU n v).av=yT n v.av:=by
 cases v with
 | cl c=>cases c with
   | c x=>cases x <;> rfl
   | _=>rfl
 | agg cs=>
   simp only [MU,V1.av,yT,bB]
   congr 1
   exact aO fun c _=>al3 n c
 | fn f cs=>rfl
theorem Tt (n:Nat) (v:V): (I0 n v).av=Be n v.av:=by
 cases v with
 | v x=>
   have :Be n x.av=yT n x.av:=by
    cases x with
    | cl c=>cases c with
      | c x=>cases x <;> rfl
      | _=>rfl
    | _=>rfl
   show (MU n x).av=Be n x.av;rw [this,YN]
 | tup l=>
   simp only [I0,V.av,Be,bB]
   congr 1
   exact aO fun c _=>YN n c
theorem adr {G:List (Option gK)} {out:List gK} {c:Cl} (h:c.ok (out.map some)): (aen G.length c).ok (G++out.map some):=by
 cases c with
 | own p sz lo len w=>
   obtain⟨h1,h2⟩:=h;refine⟨by simp at h1 ⊢; omega,fun hw=> ?_⟩;obtain⟨a,b,c⟩:=h2 hw;refine⟨a,b,fun tr htr=>c tr ?_⟩;rw [Tq,if_pos (by simp)] at htr;simp only [cz] at htr;unfold jZ;rw [kR,ar,htr];rfl
 | c x=>cases x <;> trivial
 | _=>trivial
theorem YO {G:List (Option gK)} {out:List gK} {v:V1} (h:v.ok (out.map some)): (MU G.length v).ok (G++out.map some):=by
 cases v with
 | cl c=>exact adr h
 | agg cs=>
   intro c hc;obtain⟨x,hx,rfl⟩:=aQ.1 hc;exact adr (h x hx)
 | fn f cs=>trivial
theorem Tu {G:List (Option gK)} {out:List gK} {v:V} (h:v.ok (out.map some)): (I0 G.length v).ok (G++out.map some):=by
 cases v with
 | v x=>exact YO h
 | tup l=>
   intro c hc;obtain⟨x,hx,rfl⟩:=aQ.1 hc;exact YO (h x hx)
theorem O4 (S:TS) (v:AV) (out:List gK): ({ S with gh:=S.gh++out.map some }:TS).st=(BA S.st (v,out.map gK.tree)).2:=by
 unfold TS.st BA;simp only [bk,aJ]
 congr 1
 funext r
 rw [Tq];by_cases h:S.gh.length<=r
 ·rw [if_pos h];by_cases h2:r < S.gh.length+out.length
  ·rw [if_pos ⟨h,h2⟩,ar]
  ·rw [if_neg (fun hh=>h2 hh.2),bQ (by omega),MX h]
 ·rw [if_neg h,if_neg (fun hh=>h hh.1)]
section
variable {ρ:Type} {P:Program} {Θ:Du} {S:TS} {Y:Tj}
theorem QG (hS:S.ok): ∀ (caps:List Cl) (κ':List Cl->Option ρ) (r:ρ),(∀ c∈caps,c.ok S.gh)->YF (reC S none) caps κ'=some r-> ∃ cs,(caps.map Cl.av).map (kO S.st 0)=cs.map Cl.av/\κ' cs=some r:=by
 intro caps
 induction caps with
 | nil=>intro κ' r _ h; exact⟨[],rfl,h⟩
 | cons c caps ih=>
   intro κ' r hc h;unfold YF at h;obtain⟨c',g1,h⟩:=YL hS (hc c aN) h;obtain⟨cs,g2,h⟩:=ih _ r (fun x hx=>hc x (aI _ hx)) h;exact⟨c'::cs,by rw [aX,aX,g2,g1 0 (fun t ht=>by cases ht),aX],h⟩
theorem anS (hΘ:mu P Θ) (hY:ef P Y) (hS:S.ok) {f:Operand} {ts:Array TypeId} {as:Array Operand} {κ:V->TS->Option ρ} {r:ρ} (h:ak0 Θ Y S f ts.toList as.toList κ=some r) {dst:Option Tmp} {ty:TypeId} {pos:String} {aft:Array Edge} {gd:Option (Nat×Bool)}:
  ∃ D v S',BC P D/\pO D P S.st ⟨dst, .call { callee:= .value f,args:=as,argTypes:=ts },ty,pos,aft,gd⟩=some (V.av v,TS.st S')/\S'.ok/\v.ok S'.gh/\κ v S'=some r:=by
 have fin: ∀ (g:FuncId) (caps:List AV) (vs:List V1),g < qB->callee S.st f=some (g,caps)->args P S.st ts as caps=vs.map V1.av->Y g vs ρ (fun res out=>κ (I0 S.gh.length res) { S with gh:=S.gh++out.map some })=some r->
   ∃ D v S',BC P D/\pO D P S.st ⟨dst, .call { callee:= .value f,args:=as,argTypes:=ts },ty,pos,aft,gd⟩=some (V.av v,TS.st S')/\S'.ok/\v.ok S'.gh/\κ v S'=some r:=by
  intro g caps vs hg h1 h2 h3;obtain⟨res,out,h4,h5,h6⟩:=hY _ _ _ _ _ h3;have h4:=h4.fn hg;refine⟨al2 dst g (vs.map V1.av) (res.av,out.map gK.tree),_,_,YM h4,?_,TS.ok_gh hS (pm.apps _ _),Tu h5,h6⟩;simp only [pO,h1,ae,h2];rw [ak9];simp only [aH];rw [O4 S res.av out,Tt];rfl
 unfold ak0 at h;split at h
 ·rename_i g x y hf;obtain⟨hg,h⟩:=eE h;have hg:g < qB:=aF hg;obtain⟨vs,h1,h⟩:=H0 hΘ hS _ _ _ _ h;refine fin g [] vs hg ?_ ?_ h
  ·unfold callee;rw [fu,hf];rfl
  ·unfold args;simp only [cn,bG];exact h1
 ·rename_i g caps hf;obtain⟨hg,h⟩:=eE h;have hg:g < qB:=aF hg;obtain⟨vs,h1,h⟩:=H0 hΘ hS _ _ _ _ h
  have hcaps: ∀ c∈caps,c.ok S.gh:=by
   have:=wJ hS f;rw [hf] at this;exact this
  obtain⟨cs,h2,h⟩:=QG hS _ _ _ hcaps h;refine fin g (caps.map Cl.av) (vs++cs.map .cl) hg ?_ ?_ h
  ·unfold callee;rw [fu,hf];rfl
  ·unfold args;rw [h1,h2,bX,bB];rfl
 ·cases h
theorem nF {t t':Ty} {l:List t.D} {l':List t'.D} (h:K5 t t' l=some l'): ∃ e:t=t',e ▸ l=l':=by
 unfold K5 at h;split at h
 ·rename_i e;exact⟨e,Option.some.inj h⟩
 ·cases h
theorem al4 {t:Ty} (h:t.flatB=true) (x:t.D): (t.row x).all T.flat=true:=by
 cases t with
 | st n=>cases n <;> first | rfl | cases h
 | ls t=>cases h
 | _=>rfl
theorem Tv (t:Ty): (t.shs.all (· ==0))=t.flatB:=by
 cases t with
 | st n=>cases n <;> rfl
 | ls t=>
   show ((t.width==0)&&true)=false;have:=t.width_pos;cases hw:t.width with
   | zero=>omega
   | succ n=>rfl
 | _=>rfl
theorem MZ {t:Ty} (h:t.flatB=true) (l:List t.D): (l.map t.row).all (fun r=>r.all T.flat)=true:=by
 rw [aG];intro x hx;obtain⟨y,_,rfl⟩:=aQ.1 hx;exact al4 h y
theorem apL (hS:S.ok) {el:Ty} {v:Cl} (hv:v.ok S.gh) {κ:List el.D->TS->Option ρ} {r:ρ} (h:anA S el v κ=some r):
  ∃ more S',yU S.st el.width el.flatB v.av=some (more.map el.row,S'.st)/\S'.ok/\pm S.gh S'.gh/\S'.gh.length=S.gh.length/\S'.fz=S.fz/\κ more S'=some r:=by
 unfold anA at h;split at h
 ·exact⟨[],S,rfl,hS,pm.refl _,rfl,rfl,h⟩
 ·rename_i t l;obtain⟨h1,h⟩:=eE h;split at h
  ·rename_i l' hl;obtain⟨e,hl⟩:=nF hl;subst e;simp only at hl;subst hl;refine⟨l,S,?_,hS,pm.refl _,rfl,rfl,h⟩;simp only [Cl.av,C.av,yU];rw [if_pos ⟨trivial,MZ h1 l⟩]
  ·cases h
 ·rename_i p sz lo len w;obtain⟨h0,h⟩:=eE h;have h0:el.width=sz:=ay h0;cases hfl:el.flatB with
  | true=>
    rw [hfl] at h;simp only [cond_true] at h;obtain⟨t,l,h1,h2,h⟩:=mT h;split at h
    ·rename_i l' hl;obtain⟨e,hl⟩:=nF hl;subst e;simp only at hl;subst hl
     have src: ∀ (lo len:Nat),lo+len<=l.length->yU S.st t.width true (.own p sz lo len)=some (((l.drop lo).take len).map t.row,S.st):=by
      intro lo len hle;simp only [yU];rw [if_pos h0.symm,vY h1];simp only [ae,Bool.true_eq_false,false_and,if_false,aJ];rw [if_pos ⟨hle,by rw [<-bW,<-bT]; exact MZ hfl _⟩];simp [bT,bW]
     cases w with
     | true=>
       obtain⟨e1,e2,e3⟩:=K8 hv h2;refine⟨l,S,?_,hS,pm.refl _,rfl,rfl,h⟩;have:=src lo len (by omega);rw [e2,e3,bM,bg] at this;simp only [Cl.av];rw [e2,e3];exact this
     | false=>
       simp only [cond_false] at h;obtain⟨h3,h⟩:=jW h;exact⟨_,S,src lo len h3,hS,pm.refl _,rfl,rfl,h⟩
    ·cases h
  | false=>
    rw [hfl] at h;simp only [cond_false] at h;split at h
    ·rename_i hp;obtain⟨h3,h6⟩:=eE h;clear h;simp only [ax] at h3;obtain⟨hw,h4⟩:=h3;have h4:S.fz<=p.r:=aF h4;subst hw;obtain⟨t,l,h1,h2,h⟩:=mT h6;split at h
     ·rename_i l' hl;obtain⟨e,hl⟩:=nF hl;subst e;simp only at hl;subst hl;obtain⟨e1,e2,e3⟩:=K8 hv h2;refine⟨l,_,?_,TS.ok_gh hS (pm.gone _ _),pm.gone _ _,by simp [nD],rfl,h⟩;simp only [Cl.av,yU];rw [if_pos h0.symm,vY h1];simp only [ae,aJ];rw [if_pos ⟨trivial,hp,e2,e3,h4⟩,QF]
     ·cases h
    ·cases h
 ·cases h
end
end
section
open Go
theorem ajC (t:Ty):t.zvs.length=t.width:=by
 cases t with
 | st n=>cases n <;> rfl
 | _=>rfl
theorem O5 (t:Ty):t.shs.length=t.width:=by
 cases t with
 | st n=>cases n <;> rfl
 | _=>rfl
theorem X1 {P:Program} {el:TypeId} {e:Ty} (h1:P.cellsOf el=e.width) (h2:C0 P 9 el=e.shs) (h3:S5 P el=some e.zvs):Wi P el=some (List.zipWith zc e.shs e.zvs):=by
 unfold Wi;rw [h3];simp only [ae];rw [if_pos ⟨by rw [h1,ajC],by rw [h2,h1,O5]⟩,h2]
section
variable {ρ:Type} {P:Program} {Θ:Du} {S:TS}
theorem anT (hS:S.ok) {el:Ty} {v:Cl} (hv:v.ok S.gh) {more:List el.D} {κ:List el.D->TS->Option ρ} {r:ρ} (h:aha S el v more κ=some r):
  ∃ l S',wD S.st v.av el.width (more.map el.row)=some (.own ⟨S.gh.length,[]⟩ el.width 0 l.length,{ S'.st with gh:=gz S'.st.gh S.gh.length (some (.sl el.width (l.map el.row))),ng:=S.gh.length+1 })/\
    S'.ok/\pm S.gh S'.gh/\S'.gh.length=S.gh.length/\κ l S'=some r:=by
 unfold aha at h;split at h
 ·refine⟨more,S,?_,hS,pm.refl _,rfl,h⟩;simp only [Cl.av,wD,aJ];rfl
 ·rename_i p sz lo len w;obtain⟨h0,h'⟩:=eE h;clear h;simp only [ax] at h0;have hfz:S.fz<=p.r:=aF h0.1;have hsz:el.width=sz:=ay h0.2;split at h'
  ·rename_i hp;obtain⟨t,l,h1,h2,h⟩:=mT h';split at h
   ·rename_i l' hl;obtain⟨e,hl⟩:=nF hl;subst e;simp only at hl;subst hl
    have fin: ∀ (len:Nat),¬ l.length < len->wD S.st (.own p sz 0 len) t.width (more.map t.row)=some (.own ⟨S.gh.length,[]⟩ t.width 0 (l.take len++more).length,{ ({ S with gh:=jS S.gh p.r none }:TS).st with gh:=gz ({ S with gh:=jS S.gh p.r none }:TS).st.gh S.gh.length (some (.sl t.width ((l.take len++more).map t.row))),ng:=S.gh.length+1 }):=by
     intro len hlen;simp only [wD];rw [if_pos ⟨hsz.symm,trivial,hfz⟩,vY h1];simp only [ae,aJ];rw [if_neg hlen,if_pos hp,QF];have e1: (l.take len++more).length=len+more.length:=by simp; omega
     rw [e1,bX,bT];rfl
    cases w with
    | true=>
      obtain⟨e1,e2,e3⟩:=K8 hv h2;refine⟨_,_,?_,TS.ok_gh hS (pm.gone _ _),pm.gone _ _,by simp [nD],h⟩;have:=fin l.length (by omega);rw [bg] at this;simp only [Cl.av];rw [e2,e3];exact this
    | false=>
      simp only [cond_false] at h;obtain⟨h3,h⟩:=jW h;obtain⟨h4,h⟩:=To h;refine⟨_,_,?_,TS.ok_gh hS (pm.gone _ _),pm.gone _ _,by simp [nD],h⟩;simp only [Cl.av];rw [h3];exact fin len h4
   ·cases h
  ·rename_i i j hp;split at h'
   ·rename_i tr htr;split at h'
    ·rename_i hh;obtain⟨t,l,h1,h2,h⟩:=mT h';split at h
     ·rename_i l' hl;obtain⟨e,hl⟩:=nF hl;subst e;simp only at hl;subst hl;obtain⟨h3,h⟩:=jW h;obtain⟨h4,h⟩:=To h;have hg:=gK.look htr;have hput:pm S.gh (jS S.gh p.r (some (gK.mk tr.t tr.l (some (i,j))))):=pm.put hg rfl;refine⟨_,{ S with gh:=jS S.gh p.r (some (gK.mk tr.t tr.l (some (i,j)))) },?_,TS.ok_gh hS hput,hput,by simp [nD],h⟩;simp only [Cl.av,wD];rw [if_pos ⟨hsz.symm,h3,hfz⟩,vY h1];simp only [ae,aJ];rw [if_neg h4,if_neg (by rw [hp]; simp),Ts _ _ (MY hg)];have e1: (l.take len++more).length=len+more.length:=by simp; omega
      rw [e1,bX,bT]
      have e2:S.st.setAt p .dd= { S.st with gh:=gz S.st.gh p.r (some (gK.tree ⟨tr.t,tr.l,some (i,j)⟩)) } :=by
       unfold St.setAt
       congr 2
       show ((jZ S.gh p.r).map gK.tree).map _=_;rw [hg,hp];obtain⟨t0,l0,hole⟩:=tr;simp only at hh;subst hh;rfl
      rw [e2];rfl
     ·cases h
    ·cases h'
   ·cases h'
  ·cases h'
 ·cases h
theorem apM (hΘ:mu P Θ) (hS:S.ok) {t:TypeId} {s x:Operand} {κ:V->TS->Option ρ} {r:ρ} (h:apB Θ S t (S.opd s) (S.opd x) κ=some r) {dst:Option Tmp} {ty:TypeId} {pos:String} {aft:Array Edge} {gd:Option (Nat×Bool)} {D:GA}:
  ∃ v S',pO D P S.st ⟨dst, .call { callee:= .builtin .append,args:= #[s,x],argTypes:= #[t,t] },ty,pos,aft,gd⟩=some (V.av v,TS.st S')/\S'.ok/\v.ok S'.gh/\κ v S'=some r:=by
 unfold apB at h;split at h
 ·rename_i ti hti;split at h
  ·rename_i el sv xv he hs hx;obtain⟨elT',g1,g2,g3,g4,g5,g6⟩:=(hΘ _ _ hti).el el he;have hsv:=wJ hS s;rw [hs] at hsv;have hxv:=wJ hS x;rw [hx] at hxv;obtain⟨more,S1,h1,k1,k2,k3,k4,h⟩:=apL hS (show xv.ok S.gh from hxv) h;obtain⟨l,S2,h2,m1,m2,m3,h⟩:=anT k1 (Cl.ok_mono k2 (show sv.ok S.gh from hsv)) h;obtain⟨hb,h⟩:=jW h;have hgl:pm S1.gh (S2.gh++ [some ⟨el,l,none⟩]):=m2.trans (pm.app _ _);refine⟨_,_,?_,TS.ok_gh m1 (pm.app _ _),?_,h⟩
   ·simp only [pO];rw [if_pos trivial,g1];simp only [ae,g2,g5,Tv,fu,hs,hx];show (yU S.st el.width el.flatB xv.av).bind _=_;rw [h1];simp only [ae];show (wD S1.st sv.av el.width _).bind _=_;rw [h2];simp only [ae];have hlen:l.length<=2 ^ 40:=bL (Nat.le_mul_of_pos_right _ g4) hb;rw [if_pos ⟨by rw [g3]; exact hb,hlen,el.width_pos,by rw [X1 g2 g5 g6]; rfl⟩];rw [YK,m3];rfl
   ·refine⟨by simp,fun _=>⟨rfl,rfl,fun tr htr=> ?_⟩⟩;rw [wK,if_pos rfl] at htr;cases htr;rfl
  ·cases h
 ·cases h
end
end
end Go.Proofs.YtkcgfceffffmoaaGreat.En
