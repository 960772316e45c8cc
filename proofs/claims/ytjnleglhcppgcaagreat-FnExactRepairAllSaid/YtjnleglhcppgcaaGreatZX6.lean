import Derived.Test.YtjnleglhcppgcaaGreatZX5
namespace Go.Proofs.YtjnleglhcppgcaaGreat.En
section
open Go
inductive Cl where
 |c (x:C)
 |em
 |own (p:eT) (sz lo len:Nat) (w:Bool)
 |pro (cs:List C)
 |ptrB (n j:Nat)
 |ptrT (p:eT) (sz i j:Nat)
 |dead
 deriving Inhabited
inductive V1 where
 |cl (x:Cl)
 |agg (cs:List Cl)
 |fn (f:FuncId) (cs:List Cl)
 deriving Inhabited
inductive V where
 |v (x:V1)
 |tup (l:List V1)
 deriving Inhabited
structure eL where
 t:Ty
 l:List t.D
 hole:Option (Nat×Nat)
structure TS where
 env:List (Nat×V)
 bx:List (List Cl)
 gh:List (Option eL)
 fz:Nat
 nt:Nat
structure TI where
 ty:Ty
 el:Nat
 fds:List (Nat×Nat×Bool)
 bytes:Nat
abbrev pp:=List (Nat×TI)
@[reducible] def V.c (x:C):V:= .v (.cl (.c x))
@[reducible] def V.sc (x:Value):V:= .v (.cl (.c (.sc x)))
@[reducible] def V.dead:V:= .v (.cl .dead)
def jr:List (Nat×V)->Nat->V
 | [],_=>V.dead
 | (t,v)::l,u=>bif Nat.beq t u then v else jr l u
def nv:pp->Nat->Option TI
 | [],_=>none
 | (t,v)::l,u=>bif Nat.beq t u then some v else nv l u
def pq {α:Type}:List α->Nat->Option α
 | [],_=>none
 |a::l,n=>bif Nat.beq n 0 then some a else pq l (n-1)
def cC (v:Value):Cl:=bif qT v then .c (.sc v) else match v with | .slice none 0 0=> .em| _=> .dead
def cV:Value->V
 | .agg cs=>bif cs.toList.all Value.oneCell' then .v (.agg (cs.toList.map cC)) else V.dead
 |v=> .v (.cl (cC v))
def TS.opd (S:TS):Operand->V
 | .tmp t=>jr S.env t
 | .const v=>cV v
 | .func f=>V.sc (.func (.func f) #[] #[])
 | .global _=>V.dead
def V1.cells:V1->List Cl
 | .cl x=> [x]
 | .agg cs=>cs
 | .fn _ _=> [.dead]
def C.flatB:C->Bool| .sc _=>true| _=>false
def Ty.flatB (t:Ty):Bool:=t.csh.all (·.isNone)
section
variable {ρ:Type}
def br {α:Type} (b:Bool) (x y:α):α:=cond b x y
def dU {α:Type} (c:Prop) [Decidable c] (x y:α):α:=if c then x else y
def Ie (S:TS) (x:Operand) (κ:Bool->TS->Option ρ):Option ρ:=match x with
 | .tmp t=>match jr S.env t with
   | .v (.cl (.c (.sc (.bool b))))=>br b (κ true { S with env:=(t,V.sc (.bool true))::S.env }) (κ false { S with env:=(t,V.sc (.bool false))::S.env })
   | _=>none
 | .const (.bool b)=>κ b S
 | _=>none
def J9 (v:V) (κ:Int->Option ρ):Option ρ:=match v with | .v (.cl (.c (.sc (.int _ n))))=>κ n| _=>none
def sI (S:TS) (p:eT) (κ: (t:Ty)->List t.D->Option ρ):Option ρ:=match pq S.gh p.r with
 |some (some tr)=>match tr.hole with
  |none=>match p.l with
   | [] =>κ tr.t tr.l
   | [(i,j)] =>(tr.l[i]?).bind fun x=>match pq (tr.t.flat x) j with
     |some (.ls t l)=>κ t l
     | _=>none
   | _=>none
  |some _=>none
 | _=>none
def C.ro:C->Cl:=Cl.c
def Ka (p:eT) (i j:Nat):C->Cl
 | .sc v=> .c (.sc v)
 | .ls t l=> .own ⟨p.r,p.l++ [(i,j)]⟩ t.width 0 l.length false
def Ab {α β:Type} (f:Nat->α->β):Nat->List α->List β
 | _,[] => []
 |n,a::l=>f n a::Ab f (n+1) l
def Kb (S:TS) (n:Nat) (v:Cl) (κ:List Cl->Option ρ):Option ρ:=match v with
 | .ptrB b j=>match pq S.bx b with
   |some cs=>bif Nat.ble (j+n) cs.length then κ ((cs.drop j).take n) else none
   |none=>none
 | .pro cells=>bif Nat.ble n cells.length then κ ((cells.take n).map Cl.c) else none
 | .ptrT p sz i j=>sI S p fun t l=>bif Nat.beq t.width sz&&Nat.ble (j+n) sz then (l[i]?).bind fun x=>κ (Ab (Ka p i) j (((t.flat x).drop j).take n)) else none
 | _=>none
def Ti (ag:Bool) (cs:List Cl) (κ:V->Option ρ):Option ρ:=bif ag then κ (.v (.agg cs)) else match cs with | [c] =>κ (.v (.cl c))| _=>none
def Ty.ag:Ty->Bool| .st _=>true| _=>false
def Ig (Θ:pp) (S:TS) (t:TypeId) (v:V) (κ:V->Option ρ):Option ρ:=match nv Θ t with
 |some ti=>match v with | .v (.cl a)=>Kb S ti.ty.width a fun cs=>Ti ti.ty.ag cs κ| _=>none
 |none=>none
def Q7 (n:Nat) (i:Int) (S:TS) (v:Cl) (κ:Cl->Option ρ):Option ρ:=match v with
 | .c (.ls t l)=>bif Nat.beq t.width n then dU (0<=i) ((l[i.toNat]?).bind fun x=>κ (.pro (t.flat x))) none else none
 | .own p sz _ _ true=>bif Nat.beq sz n then sI S p fun _ l=>dU (0<=i/\i<l.length) (κ (.ptrT p sz i.toNat 0)) none else none
 | .own p sz lo len false=>bif Nat.beq sz n then dU (0<=i/\i<len) (κ (.ptrT p sz (lo+i.toNat) 0)) none else none
 | _=>none
def Pu (S:TS) (v:Cl) (κ:Int->Option ρ):Option ρ:=match v with
 | .c (.ls _ l)=>κ l.length
 | .own p _ _ _ true=>sI S p fun _ l=>κ l.length
 | .own _ _ _ len false=>κ len
 | .em=>κ 0
 | _=>none
def Q8 (n:Nat) (lo hi:Int) (v:Cl) (κ:Cl->Option ρ):Option ρ:=match v with
 | .em=>dU (lo=0/\hi=0) (κ .em) none
 | .c (.ls t l)=>bif Nat.beq t.width n then dU (0<=lo/\lo<=hi/\hi<=l.length) (κ (.c (.ls t ((l.drop lo.toNat).take (hi.toNat-lo.toNat))))) none else none
 | .own p sz l len _=>bif Nat.beq sz n then dU (0<=lo/\lo<=hi/\hi<=len) (κ (.own p sz (l+lo.toNat) (hi.toNat-lo.toNat) false)) none else none
 | _=>none
def Gr (S:TS) (d:Int) (x:Option Operand) (κ:Int->Option ρ):Option ρ:=match x with
 |none=>κ d
 |some x=>J9 (S.opd x) κ
def Mg:List (Nat×Nat×Bool)->List Cl->List (Nat×V)->Option (List Cl)
 | _,cs,[] =>some cs
 |pl,cs,(k,v)::r=>match pq pl k with
  |some (off,n,_)=>match v with
   | .v x=>match x with
     | .cl .dead=>none
     | .fn _ _=>none
     |x=>bif Nat.beq x.cells.length n&&Nat.ble (off+n) cs.length then Mg pl (cs.take off++x.cells++cs.drop (off+n)) r else none
   | _=>none
  |none=>none
def Ih:Value->Value->Option Bool
 | .int _ a, .int _ b=>some (a==b)
 | .bool a, .bool b=>some (a==b)
 | _,_=>none
def wF:List Cl->List Cl->Option Bool
 | [],[] =>some true
 | .c (.sc a)::l, .c (.sc b)::m=>match Ih a b,wF l m with
   |some x,some y=>some (x&&y)
   | _,_=>none
 | _,_=>none
def mt:List Value->List Cl->Bool
 | [],[] =>true
 | .int k _::zs, .c (.sc (.int k' _))::cs=>bif decide (k=k') then mt zs cs else false
 | .bool _::zs, .c (.sc (.bool _))::cs=>mt zs cs
 | _,_=>false
def V.ints (f:IntKind->Int->Int->Option ρ):V->V->Option ρ
 | .v (.cl (.c (.sc (.int k a)))), .v (.cl (.c (.sc (.int k' b))))=>if k=k' then f k a b else none
 | _,_=>none
def R3 (Θ:pp) (t:TypeId) (x y:V) (κ:Bool->Option ρ):Option ρ:=match x,y with
 | .v (.cl (.c (.sc (.int k a)))), .v (.cl (.c (.sc (.int k' b))))=>if k=k' then κ (a==b) else none
 | .v (.cl (.c (.sc (.bool a)))), .v (.cl (.c (.sc (.bool b))))=>match nv Θ t with
   |some ti=>match ti.ty with | .b=>κ (a==b)| _=>none
   |none=>none
 | .v (.agg a), .v (.agg b)=>match nv Θ t with
   |some ti=>bif ti.ty.ag&&ti.ty.flatB&&mt ti.ty.zvs a&&mt ti.ty.zvs b then (match wF a b with |some r=>κ r|none=>none) else none
   |none=>none
 | _,_=>none
def Q9 (Θ:pp) (op:BinOp) (t:TypeId) (x y:V) (κ:V->Option ρ):Option ρ:=match op with
 | .lss=>V.ints (fun _ a b=>κ (V.sc (.bool (decide (a<b))))) x y
 | .leq=>V.ints (fun _ a b=>κ (V.sc (.bool (decide (a<=b))))) x y
 | .gtr=>V.ints (fun _ a b=>κ (V.sc (.bool (decide (a>b))))) x y
 | .geq=>V.ints (fun _ a b=>κ (V.sc (.bool (decide (a≥b))))) x y
 | .add=>V.ints (fun k a b=>κ (V.sc (.int k (k.wrap (a+b))))) x y
 | .sub=>V.ints (fun k a b=>κ (V.sc (.int k (k.wrap (a-b))))) x y
 | .mul=>V.ints (fun k a b=>κ (V.sc (.int k (k.wrap (a*b))))) x y
 | .quo=>V.ints (fun k a b=>if b=0 then none else κ (V.sc (.int k (k.wrap (a.tdiv b))))) x y
 | .rem=>V.ints (fun k a b=>if b=0 then none else κ (V.sc (.int k (a.tmod b)))) x y
 | .eql=>R3 Θ t x y fun r=>κ (V.sc (.bool r))
 | .neq=>R3 Θ t x y fun r=>κ (V.sc (.bool (!r)))
 | _=>none
def Ii:List V->Option (List Cl)
 | [] =>some []
 | .v (.cl c)::l=>match Ii l with |some r=>some (c::r)|none=>none
 | _=>none
def C0 (Θ:pp) (S:TS) (o:Oper) (κ:V->TS->Option ρ):Option ρ:=
 let e:=S.opd
 match o.op with
 | .move x| .assign x=>κ (e x) S
 | .pick c a b=>Ie S c fun t S=>bif t then κ (S.opd a) S else κ (S.opd b) S
 | .load t a=>Ig Θ S t (e a) (fun v=>κ v S)
 | .nilCheck x=>match e x with
   | .v (.cl (.ptrB n j))=>κ (.v (.cl (.ptrB n j))) S
   | .v (.cl (.ptrT p sz i j))=>κ (.v (.cl (.ptrT p sz i j))) S
   | .v (.cl (.pro cs))=>κ (.v (.cl (.pro cs))) S
   | .v (.fn f cs)=>κ (.v (.fn f cs)) S
   | .v (.cl (.c (.sc (.func (.func f) a b))))=>κ (.v (.cl (.c (.sc (.func (.func f) a b))))) S
   | _=>none
 | .fieldAddr t x k=>match nv Θ t with
   |some ti=>match pq ti.fds k with
    |some (off,n,_)=>bif Nat.beq n 0 then none else match e x with
     | .v (.cl (.ptrB b j))=>κ (.v (.cl (.ptrB b (j+off)))) S
     | .v (.cl (.ptrT p sz i j))=>κ (.v (.cl (.ptrT p sz i (j+off)))) S
     | .v (.cl (.pro cs))=>κ (.v (.cl (.pro (cs.drop off)))) S
     | _=>none
    |none=>none
   |none=>none
 | .field t x k=>match nv Θ t with
   |some ti=>match pq ti.fds k with
    |some (off,n,ag)=>match e x with
     | .v (.agg cs)=>bif Nat.ble (off+n) cs.length&&Nat.blt 0 n then Ti ag ((cs.drop off).take n) (fun v=>κ v S) else none
     | _=>none
    |none=>none
   |none=>none
 | .indexAddr t x ix=>match nv Θ t with
   |some ti=>match ti.ty with
    | .ls el=>J9 (e ix) fun i=>match e x with | .v (.cl a)=>Q7 el.width i S a (fun c=>κ (.v (.cl c)) S)| _=>none
    | _=>none
   |none=>none
 | .build t parts=>match nv Θ t with
   |some ti=>bif ti.ty.ag then (match Mg ti.fds (ti.ty.zvs.map cC) (parts.toList.map fun x=>(x.1,e x.2)) with |some cs=>κ (.v (.agg cs)) S|none=>none) else none
   |none=>none
 | .slice t x lo hi none=>match nv Θ t with
   |some ti=>match ti.ty with
    | .ls el=>match e x with
      | .v (.cl a)=>Pu S a fun n=>Gr S 0 lo fun l=>Gr S n hi fun h=>Q8 el.width l h a (fun c=>κ (.v (.cl c)) S)
      | _=>none
    | _=>none
   |none=>none
 | .convert s d x=>match nv Θ s,nv Θ d with
   |some _,some di=>match di.ty with
    | .i k'=>(match e x with | .v (.cl (.c (.sc (.int _ n))))=>κ (V.sc (.int k' (k'.wrap n))) S| _=>none)
    | _=>none
   | _,_=>none
 | .index t x ix=>match nv Θ t with
   |some ti=>match ti.ty with
    | .s=>(match e x,e ix with | .v (.cl (.c (.sc (.string s)))), .v (.cl (.c (.sc (.int _ i))))=>dU (0<=i) ((s[i.toNat]?).bind fun b=>κ (V.sc (.int .u8 b.toNat)) S) none| _,_=>none)
    | _=>none
   |none=>none
 | .extract x k=>match e x with | .tup vs=>(match pq vs k with |some v=>κ (.v v) S|none=>none)| _=>none
 | .makeFunc (.func f) first caps=>bif first.isEmpty then (match Ii (caps.toList.map e) with |some cs=>κ (.v (.fn f cs)) S|none=>none) else none
 | .call { callee:= .builtin .len,args:=as,argTypes:=ts } =>match as.toList,ts.toList with
   | [x],[t] =>match nv Θ t with
     |some ti=>match ti.ty with
      | .ls _=>(match e x with | .v (.cl a)=>Pu S a fun n=>κ (V.sc (.int .i64 n)) S| _=>none)
      | _=>none
     |none=>none
   | _,_=>none
 | .call { callee:= .builtin .cap,args:=as,argTypes:=ts } =>match as.toList,ts.toList with
   | [x],[t] =>match nv Θ t with
     |some ti=>match ti.ty with
      | .ls _=>(match e x with | .v (.cl .em)=>κ (V.sc (.int .i64 0)) S| _=>none)
      | _=>none
     |none=>none
   | _,_=>none
 | .call { callee:= .builtin .max,args:=as,argTypes:=_ } =>match as.toList with
   | [x,y] =>V.ints (fun k a b=>κ (V.sc (.int k (if b>a then b else a))) S) (e x) (e y)
   | _=>none
 | .call { callee:= .builtin .min,args:=as,argTypes:=_ } =>match as.toList with
   | [x,y] =>V.ints (fun k a b=>κ (V.sc (.int k (if b<a then b else a))) S) (e x) (e y)
   | _=>none
 | .binOp op t x y _=>Q9 Θ op t (e x) (e y) (fun v=>κ v S)
 | .unOp .not _ x=>match e x with | .v (.cl (.c (.sc (.bool b))))=>κ (V.sc (.bool (!b))) S| _=>none
 | _=>none
end
end
section
open Go
def C.av:C->AV
 | .sc v=> .sc v
 | .ls t l=> .ro t.width (l.map t.row)
def Cl.av:Cl->AV
 | .c x=>x.av
 | .em=> .em
 | .own p sz lo len _=> .own p sz lo len
 | .pro cs=> .pro (cs.map C.tree)
 | .ptrB n j=> .ptrB n j
 | .ptrT p sz i j=> .ptrT p sz i j
 | .dead=> .dead
def V1.av:V1->AV
 | .cl x=>x.av
 | .agg cs=> .agg (cs.map Cl.av)
 | .fn f cs=> .fn f (cs.map Cl.av)
def V.av:V->AV
 | .v x=>x.av
 | .tup l=> .tup (l.map V1.av)
def eL.tree (x:eL):T:=match x.hole with
 |none=> .sl x.t.width (x.l.map x.t.row)
 |some (i,j)=> .sl x.t.width ((x.l.map x.t.row).set i (((x.l.map x.t.row).getD i []).set j .dd))
def fA (G:List (Option eL)) (r:Nat):Option eL:=(pq G r).getD none
def TS.st (S:TS):St where
 env:=fun t=>(jr S.env t).av
 bx:=fun n=>(pq S.bx n).map fun cs=>cs.map Cl.av
 gh:=fun r=>(fA S.gh r).map eL.tree
 nb:=S.bx.length
 ng:=S.gh.length
 fz:=S.fz
 orc:=none
 nt:=S.nt
structure yX where
 f:FuncId->List V1->(ρ:Type)->(V->List eL->Option ρ)->Option ρ
 kd:FuncId->Nat
instance:CoeFun yX fun _=>FuncId->List V1->(ρ:Type)->(V->List eL->Option ρ)->Option ρ:=⟨yX.f⟩
def jE:Nat:=1048576
def FG:Nat:=jE+jE
def Ad (g:Nat):Nat:=g+jE
def Ij (g:Nat):Nat:=g+FG
def Gs (n:Nat):Cl->Cl
 | .own p sz lo len w=> .own ⟨p.r+n,p.l⟩ sz lo len w
 | .c (.sc v)=> .c (.sc v)
 | _=> .dead
def wG (n:Nat):V1->V1
 | .agg cs=> .agg (cs.map (Gs n))
 | .cl c=> .cl (Gs n c)
 | .fn _ _=> .cl .dead
def ut (n:Nat):V->V
 | .tup vs=> .tup (vs.map (wG n))
 | .v x=> .v (wG n x)
def fK {α:Type}:List α->Nat->α->List α
 | [],_,_=> []
 |a::l,n,x=>bif Nat.beq n 0 then x::l else a::fK l (n-1) x
def vw (t t':Ty) (l:List t.D):Option (List t'.D):=if h:t=t' then some (h ▸ l) else none
def qM (r j:Nat):Cl->Cl
 | .own p sz lo len w=>match p.l with | (_,j')::_=>bif Nat.beq p.r r&&Nat.beq j j' then .dead else .own p sz lo len w| [] => .own p sz lo len w
 | .ptrT p sz a b=>match p.l with | (_,j')::_=>bif Nat.beq p.r r&&Nat.beq j j' then .dead else .ptrT p sz a b| [] => .ptrT p sz a b
 |c=>c
def tc (r j:Nat):V1->V1
 | .cl c=> .cl (qM r j c)
 | .agg cs=> .agg (cs.map (qM r j))
 | .fn f cs=> .fn f (cs.map (qM r j))
def FH (r j:Nat):V->V
 | .v x=> .v (tc r j x)
 | .tup vs=> .tup (vs.map (tc r j))
def TS.kill (S:TS) (r j:Nat):TS:= { S with env:=S.env.map fun x=>(x.1,FH r j x.2),bx:=S.bx.map fun cs=>cs.map (qM r j) }
def jF (S:TS) (no j:Nat) (et:Option Ty) (c:Cl):Option (C×TS):=match c,et with
 | .c (.sc v),none=>some (.sc v,S)
 | .em,some t=>some (.ls t [],S.kill no j)
 | .own p sz _ _ true,some t=>match p.l with
   | [] =>bif Nat.beq t.width sz&&Nat.ble S.fz p.r&& !(Nat.beq p.r no) then match pq S.gh p.r with
     |some (some tr)=>match tr.hole with
      |none=>bif Nat.beq tr.t.width sz then some (.ls tr.t tr.l,{ S with gh:=fK S.gh p.r none }.kill no j) else none
      |some _=>none
     | _=>none else none
   | _=>none
 | _,_=>none
def qN (no:Nat):Nat->TS->List (Option Ty)->List Cl->Option (List C×TS)
 |j,S,et::ets,c::cs=>match jF S no j et c with
  |some (x,S1)=>match qN no (j+1) S1 ets cs with
   |some (xs,S2)=>some (x::xs,S2)
   |none=>none
  |none=>none
 | _,S,[],[] =>some ([],S)
 | _,_,_,_=>none
def TX (et:Option Ty) (v:Value):C:=match et with |some t=> .ls t [] |none=> .sc v
def Ty.zcs (t:Ty):List C:=List.zipWith TX t.csh t.zvs
def Ra:List Cl->Option (List C)
 | [] =>some []
 | .c (.sc v)::l=>match Ra l with |some r=>some (.sc v::r)|none=>none
 | _=>none
section
variable {ρ:Type}
def C1 {α β:Type} (f:α->(β->Option ρ)->Option ρ):List α->(List β->Option ρ)->Option ρ
 | [],κ=>κ []
 |a::l,κ=>f a fun b=>C1 f l fun bs=>κ (b::bs)
def Kd (Θ:pp) (S:TS) (t:TypeId) (a v:V) (κ:TS->Option ρ):Option ρ:=match nv Θ t with
 |none=>none
 |some ti=>match v with
  | .tup _=>none
  | .v (.cl .dead)=>none
  | .v (.fn _ _)=>none
  | .v x=>bif Nat.beq x.cells.length ti.ty.width then match a with
    | .v (.cl (.ptrB b j))=>match pq S.bx b with
      |some cs=>bif Nat.ble (j+x.cells.length) cs.length then κ { S with bx:=fK S.bx b (cs.take j++x.cells++cs.drop (j+x.cells.length)) } else none
      |none=>none
    | .v (.cl (.ptrT p sz i j))=>match p.l with
      | [] =>match pq S.gh p.r with
        |some (some tr)=>bif Nat.beq tr.t.width sz&&Nat.ble (j+ti.ty.width) sz&&Nat.beq x.cells.length ti.ty.width then
         bif ti.ty.flatB then
          match tr.hole,Ra x.cells with
          |none,some vs=>(tr.l[i]?).bind fun y=>match tr.t.unflat ((tr.t.flat y).take j++vs++(tr.t.flat y).drop (j+ti.ty.width)) with
           |some z=>κ { S with gh:=fK S.gh p.r (some ⟨tr.t,tr.l.set i z,none⟩) }
           |none=>none
          | _,_=>none
         else bif Nat.ble S.fz p.r then match qN p.r j S ti.ty.csh x.cells with
          |some (vs,S1)=>(tr.l[i]?).bind fun y=>match tr.t.unflat ((tr.t.flat y).take j++vs++(tr.t.flat y).drop (j+ti.ty.width)) with
           |some z=>match tr.hole with
            |none=>κ { S1 with gh:=fK S1.gh p.r (some ⟨tr.t,tr.l.set i z,none⟩) }
            |some (i0,j0)=>bif Nat.beq j j0&&Nat.beq ti.ty.width 1 then dU (i=i0) (κ { S1 with gh:=fK S1.gh p.r (some ⟨tr.t,tr.l.set i z,none⟩) }) none else none
           |none=>none
          |none=>none else none
         else none
        | _=>none
      | _=>none
    | _=>none
    else none
def Mh (S:TS) (et:Option Ty) (c:Cl) (κ:Cl->Option ρ):Option ρ:=match c with
 | .c x=>κ (.c x)
 | .em=>match et with |some t=>κ (.c (.ls t []))|none=>none
 | .own p sz _ _ true=>sI S p fun t l=>bif Nat.beq t.width sz then κ (.c (.ls t l)) else none
 | .own p sz lo len false=>sI S p fun t l=>bif Nat.beq t.width sz then dU (lo+len<=l.length) (κ (.c (.ls t ((l.drop lo).take len)))) none else none
 | .pro cs=>κ (.pro cs)
 | .ptrT p sz i j=>sI S p fun t l=>bif Nat.beq t.width sz then (l[i]?).bind fun x=>κ (.pro ((t.flat x).drop j)) else none
 | .ptrB b j=>match pq S.bx b with
   |some cs=>C1 (fun c κ=>match c with
    | .c x=>κ x
    | .own p sz _ _ true=>sI S p fun t l=>bif Nat.beq t.width sz then κ (.ls t l) else none
    | _=>none) (cs.drop j) fun cs=>κ (.pro cs)
   |none=>none
 | .dead=>κ .dead
def Pv (S:TS):List (Option Ty)->List Cl->(List Cl->Option ρ)->Option ρ
 |et::ets,c::cs,κ=>Mh S et c fun c'=>Pv S ets cs fun cs'=>κ (c'::cs')
 | [],[],κ=>κ []
 | _,_,_=>none
def Tv (Θ:pp) (S:TS) (t:TypeId) (v:V) (κ:V1->Option ρ):Option ρ:=match v with
 | .tup _=>none
 | .v (.fn f cs)=>C1 (Mh S none) cs fun cs'=>κ (.fn f cs')
 | .v (.agg cs)=>match nv Θ t with |some ti=>Pv S ti.ty.csh cs fun cs'=>κ (.agg cs')|none=>none
 | .v (.cl .em)=>κ (.cl .em)
 | .v (.cl c)=>match nv Θ t with |some ti=>Mh S (ti.ty.csh.headD none) c fun c'=>κ (.cl c')|none=>Mh S none c fun c'=>κ (.cl c')
def tH (Θ:pp) (S:TS):List TypeId->List Operand->(List V1->Option ρ)->Option ρ
 |t::ts,a::as,κ=>Tv Θ S t (S.opd a) fun v=>tH Θ S ts as fun vs=>κ (v::vs)
 | [],[],κ=>κ []
 | _,_,_=>none
def Lj (Θ:pp) (Y:yX) (S:TS) (f:Operand) (ts:List TypeId) (as:List Operand) (κ:V->TS->Option ρ):Option ρ:=match S.opd f with
 | .v (.cl (.c (.sc (.func (.func g) _ _))))=>bif Nat.blt g jE then tH Θ S ts as fun vs=>Y g vs ρ fun res out=>κ (ut S.gh.length res) { S with gh:=S.gh++out.map some } else none
 | .v (.fn g caps)=>bif Nat.blt g jE then tH Θ S ts as fun vs=>C1 (Mh S none) caps fun cs=>Y g (vs++cs.map .cl) ρ fun res out=>κ (ut S.gh.length res) { S with gh:=S.gh++out.map some } else none
 | _=>none
def NB (S:TS) (el:Ty) (v:Cl) (κ:List el.D->TS->Option ρ):Option ρ:=match v with
 | .em=>κ [] S
 | .c (.ls t l)=>bif el.flatB then match vw t el l with |some l=>κ l S|none=>none else none
 | .own p sz lo len w=>bif Nat.beq el.width sz then (bif el.flatB then sI S p fun t l=>match vw t el l with
   |some l=>bif w then κ l S else dU (lo+len<=l.length) (κ ((l.drop lo).take len) S) none
   |none=>none
   else match p.l with
   | [] =>bif w&&Nat.ble S.fz p.r then sI S p fun t l=>match vw t el l with |some l=>κ l { S with gh:=fK S.gh p.r none } |none=>none else none
   | _=>none) else none
 | _=>none
def Ik (S:TS) (el:Ty) (v:Cl) (more:List el.D) (κ:List el.D->TS->Option ρ):Option ρ:=match v with
 | .em=>κ more S
 | .own p sz lo len w=>bif Nat.ble S.fz p.r&&Nat.beq el.width sz then match p.l with
   | [] =>sI S p fun t l=>match vw t el l with
     |some l=>bif w then κ (l++more) { S with gh:=fK S.gh p.r none }
      else dU (lo=0) (dU (l.length<len) none (κ (l.take len++more) { S with gh:=fK S.gh p.r none })) none
     |none=>none
   | [(i,j)] =>match pq S.gh p.r with
     |some (some tr)=>match tr.hole with
      |none=>sI S p fun t l=>match vw t el l with
       |some l=>dU (lo=0) (dU (l.length<len) none (κ (l.take len++more) { S with gh:=fK S.gh p.r (some ⟨tr.t,tr.l,some (i,j)⟩) })) none
       |none=>none
      |some _=>none
     | _=>none
   | _=>none else none
 | _=>none
def Pw (Θ:pp) (S:TS) (t:TypeId) (s x:V) (κ:V->TS->Option ρ):Option ρ:=match nv Θ t with
 |some ti=>match ti.ty,s,x with
  | .ls el, .v (.cl s), .v (.cl x)=>NB S el x fun more S1=>Ik S1 el s more fun l S2=>dU (l.length*ti.el<=2 ^ 40) (κ (.v (.cl (.own ⟨S2.gh.length,[]⟩ el.width 0 l.length true))) { S2 with gh:=S2.gh++ [some ⟨el,l,none⟩] }) none
  | _,_,_=>none
 |none=>none
def Sc:List Nat->List Nat->Bool
 | [],[] =>true
 |a::l,b::m=>bif Nat.beq a b then Sc l m else false
 | _,_=>false
def td (el:Ty):TS->List V->Option (List el.D×TS)
 |S,[] =>some ([],S)
 |S, .v x::r=>match qN S.gh.length 0 S el.csh x.cells with
  |some (vs,S1)=>match el.unflat vs,td el S1 r with
   |some y,some (ys,S2)=>some (y::ys,S2)
   | _,_=>none
  |none=>none
 | _,_=>none
def Ke:Cl->Bool| .c (.ls _ _)=>true| _=>false
def C2:V->Bool| .v x=>x.cells.any Ke| _=>false
def nB:List (Option Ty)->List Cl->Option (List C)
 | _::ets, .c x::cs=>(match nB ets cs with |some r=>some (x::r)|none=>none)
 |some t::ets, .em::cs=>(match nB ets cs with |some r=>some (.ls t []::r)|none=>none)
 | [],[] =>some []
 | _,_=>none
def tI (el:Ty):List V->Option (List el.D)
 | [] =>some []
 | .v x::r=>(match nB el.csh x.cells with
   |some xs=>(match el.unflat xs,tI el r with |some y,some ys=>some (y::ys)| _,_=>none)
   |none=>none)
 | _=>none
def QK (Θ:pp) (S:TS) (t:TypeId) (s x:V) (κ:V->TS->Option ρ):Option ρ:=match nv Θ t with
 |some ti=>match ti.ty,s with
  | .ls el, .v (.cl .em)=>J9 x fun n=>match el.unflat el.zcs with
    |some z=>dU (0<n/\n*ti.el<=2 ^ 40) (κ (.v (.cl (.own ⟨S.gh.length,[]⟩ el.width 0 n.toNat true))) { S with gh:=S.gh++ [some ⟨el,List.replicate n.toNat z,none⟩] }) none
    |none=>none
  | _,_=>none
 |none=>none
def yY (Θ:pp) (Y:yX) (S:TS) (o:Oper) (κ:V->TS->Option ρ):Option ρ:=
 let e:=S.opd
 match o.op with
 | .alloc t=>match nv Θ t with |some ti=>κ (.v (.cl (.ptrB S.bx.length 0))) { S with bx:=S.bx++ [ti.ty.zvs.map cC] } |none=>none
 | .box _ x=>match e x with
   | .v (.cl .dead)=>none
   | .v (.cl c)=>κ (.v (.cl (.ptrB S.bx.length 0))) { S with bx:=S.bx++ [[c]] }
   | .v (.agg cs)=>κ (.v (.cl (.ptrB S.bx.length 0))) { S with bx:=S.bx++ [cs] }
   | _=>none
 | .store t a x=>Kd Θ S t (e a) (e x) fun S'=>κ V.dead S'
 | .makeSlice t l c=>match nv Θ t with
   |some ti=>match ti.ty with
    | .ls el=>J9 (e l) fun n=>J9 (e c) fun m=>match el.unflat el.zcs with
      |some z=>dU (0<=n/\n=m/\n*ti.el<=2 ^ 40) (κ (.v (.cl (.own ⟨S.gh.length,[]⟩ el.width 0 n.toNat true))) { S with gh:=S.gh++ [some ⟨el,List.replicate n.toNat z,none⟩] }) none
      |none=>none
    | _=>none
   |none=>none
 | .buildSlice t len parts=>match nv Θ t with
   |some ti=>match ti.ty with
    | .ls el=>bif Nat.ble (len*el.width) 1048576&&Sc (parts.toList.map (·.1)) (List.range len) then (bif (parts.toList.map fun x=>e x.2).any C2 then (match tI el (parts.toList.map fun x=>e x.2) with |some l=>κ (.v (.cl (.c (.ls el l)))) S|none=>none) else match td el S (parts.toList.map fun x=>e x.2) with
      |some (l,S1)=>κ (.v (.cl (.own ⟨S1.gh.length,[]⟩ el.width 0 l.length true))) { S1 with gh:=S1.gh++ [some ⟨el,l,none⟩] }
      |none=>none) else none
    | _=>none
   |none=>none
 | .call { callee:= .builtin .append,args:=as,argTypes:=ts } =>match as.toList,ts.toList with
   | [s,x],[t,t'] =>bif Nat.beq t t' then Pw Θ S t (e s) (e x) κ else QK Θ S t (e s) (e x) κ
   | _,_=>none
 | .call { callee:= .value f,args:=as,argTypes:=ts } =>Lj Θ Y S f ts.toList as.toList κ
 | _=>C0 Θ S o κ
def tJ (S:TS) (d:Option Tmp) (v:V) (κ:TS->Option ρ):Option ρ:=match d with
 |some t=>bif Nat.blt t S.nt then κ { S with env:=(t,v)::S.env } else none
 |none=>κ S
def Lk (S:TS) (all:List Oper) (o:Oper) (κ:Bool->TS->Option ρ):Option ρ:=match o.guard with
 |none=>κ true S
 |some (j,want)=>match pq all j with
  |some oj=>match oj.dst with
   |some d=>match jr S.env d with
    | .tup [] =>κ false S
    | _=>Ie S (.tmp d) fun b S1=>κ (b==want) S1
   |none=>none
  |none=>none
noncomputable def Px {α:Type} (x y:α) (z:α):α:=open Classical in if x=y then x else z
def Rb {α β:Type} (l:List α) (x y:β):β:=match l with | [] =>x| _::_=>y
def Cj (o:Oper):Option (TypeId×Operand):=match o.op with
 | .binOp .eql t x (.const (.slice none 0 0)) _=>(match o.guard with |none=>some (t,x)|some _=>none)
 | _=>none
def Sd (Θ:pp) (t:TypeId):Bool:=match nv Θ t with |some ti=>(match ti.ty with | .ls _=>true| _=>false)|none=>false
def Il (Y:yX) (S:TS) (o:Oper):Option (Nat×FuncId×List Cl×Nat×Nat×List TypeId×List Operand):=match o.op with
 | .call { callee:= .value f,args:=as,argTypes:=ts } =>(match o.guard with
   |some _=>none
   |none=>match as.toList,ts.toList with
    |x::xs,_::us=>(match S.opd x with
     | .v (.cl (.own ⟨r,[]⟩ sz _ _ true))=>(match S.opd f with
       | .v (.cl (.c (.sc (.func (.func g) _ _))))=>bif Nat.blt g jE&& !Nat.beq (Y.kd g) 0 then some (Y.kd g,g,[],r,sz,us,xs) else none
       | .v (.fn g caps)=>bif Nat.blt g jE&& !Nat.beq (Y.kd g) 0 then some (Y.kd g,g,caps,r,sz,us,xs) else none
       | _=>none)
     | _=>none)
    | _,_=>none)
 | _=>none
def Kf:V->Bool
 | .v (.cl (.c (.sc _)))=>true
 | .tup [] =>true
 | _=>false
def NC (Θ:pp) (Y:yX) (S:TS) (k:Nat) (g:FuncId) (caps:List Cl) (r sz:Nat) (us:List TypeId) (xs:List Operand) (dst:Option Tmp) (κ:TS->Option ρ):Option ρ:=match fA S.gh r with
 |some ⟨el,l,none⟩=>bif Nat.beq sz el.width then tH Θ { S with gh:=fK S.gh r none } us xs fun vs=>C1 (Mh { S with gh:=fK S.gh r none } none) caps fun cs=>
  bif Nat.beq k 1 then Y (Ad g) (.cl (.c (.ls el l)):: (vs++cs.map .cl)) ρ fun res out=>(match out with
   | [⟨t,l',none⟩] =>bif decide (t=el)&&Kf res then dU (l'.length=l.length) (tJ { S with gh:=fK S.gh r (some ⟨t,l',none⟩) } dst res κ) none else none
   | _=>none)
  else bif Nat.ble S.fz r then Y (Ij g) (.cl (.c (.ls el l)):: (vs++cs.map .cl)) ρ fun res out=>tJ { S with gh:=fK S.gh r none++out.map some } dst (ut S.gh.length res) κ
  else none else none
 | _=>none
inductive Kg where
 |nest (r i j sz lo len:Nat)
 |agg (cs:List Cl)
def Gt:V->Option Kg
 | .v (.cl (.own ⟨r,[(i,j)]⟩ sz lo len _))=>some (.nest r i j sz lo len)
 | .v (.agg cs)=>some (.agg cs)
 | _=>none
def C3 (Y:yX) (S:TS) (o:Oper):Option (FuncId×List Cl×Kg×List TypeId×List Operand):=match o.op with
 | .call { callee:= .value f,args:=as,argTypes:=ts } =>(match o.guard with
   |some _=>none
   |none=>match as.toList,ts.toList with
    |x::xs,_::us=>(match Gt (S.opd x) with
     |some a=>(match S.opd f with
      | .v (.cl (.c (.sc (.func (.func g) _ _))))=>bif Nat.blt g jE&&Nat.beq (Y.kd g) 1 then some (g,[],a,us,xs) else none
      | .v (.fn g caps)=>bif Nat.blt g jE&&Nat.beq (Y.kd g) 1 then some (g,caps,a,us,xs) else none
      | _=>none)
     |none=>none)
    | _,_=>none)
 | _=>none
def wH (S:TS):List Cl->Option (List C×List Nat)
 | [] =>some ([],[])
 | .c (.sc v)::cs=>(match wH S cs with |some (xs,L)=>some (.sc v::xs,L)|none=>none)
 | .own ⟨r,[]⟩ sz _ _ true::cs=>(match fA S.gh r with
   |some ⟨el,l,none⟩=>bif Nat.beq sz el.width then (match wH S cs with |some (xs,L)=>some (.ls el l::xs,r::L)|none=>none) else none
   | _=>none)
 | _=>none
def ND (G:List (Option eL)) (L:List Nat):List (Option eL):=L.foldl (fun G r=>fK G r none) G
def C4 (S:TS):List Nat->List eL->(TS->Option ρ)->Option ρ
 | [],[],κ=>κ S
 |r::L,⟨t,l',none⟩::out,κ=>(match fA S.gh r with
  |some ⟨el,l,none⟩=>bif decide (t=el) then dU (l'.length=l.length) (C4 { S with gh:=fK S.gh r (some ⟨t,l',none⟩) } L out κ) none else none
  | _=>none)
 | _,_,_=>none
def Gu (Θ:pp) (Y:yX) (S:TS) (g:FuncId) (caps:List Cl) (a:Kg) (us:List TypeId) (xs:List Operand) (dst:Option Tmp) (κ:TS->Option ρ):Option ρ:=match a with
 | .agg cs=>(match wH S cs with
   |some (ys,L)=>bif QX L then tH Θ { S with gh:=ND S.gh L } us xs fun vs=>C1 (Mh { S with gh:=ND S.gh L } none) caps fun ks=>Y (Ad g) (.agg (ys.map .c):: (vs++ks.map .cl)) ρ fun res out=>bif Kf res then C4 S L out fun S3=>tJ S3 dst res κ else none else none
   |none=>none)
 | .nest r i j sz lo len=>(match fA S.gh r with
   |some ⟨t,l,none⟩=>(l[i]?).bind fun y=>(match pq (t.flat y) j with
    |some (.ls el v)=>bif Nat.beq sz el.width then dU (lo=0/\len=v.length) (tH Θ { S with gh:=fK S.gh r (some ⟨t,l,some (i,j)⟩) } us xs fun vs=>C1 (Mh { S with gh:=fK S.gh r (some ⟨t,l,some (i,j)⟩) } none) caps fun ks=>
     Y (Ad g) (.cl (.c (.ls el v)):: (vs++ks.map .cl)) ρ fun res out=>(match out with
       | [⟨t',v',none⟩] =>bif decide (t'=el)&&Kf res then dU (v'.length=v.length) (match t.unflat (fK (t.flat y) j (.ls t' v')) with
         |some z=>tJ { S with gh:=fK S.gh r (some ⟨t,l.set i z,none⟩) } dst res κ
         |none=>none) none else none
       | _=>none)) none else none
    | _=>none)
   | _=>none)
def Gv (S:TS) (o:Oper):Option (TypeId×Nat×Nat×Nat×Nat):=match o.op with
 | .call { callee:= .builtin .clear,args:=as,argTypes:=ts } =>(match o.guard with
   |some _=>none
   |none=>match as.toList,ts.toList with
    | [x],[t] =>(match S.opd x with
      | .v (.cl (.own ⟨r,[]⟩ sz lo len _))=>some (t,r,sz,lo,len)
      | _=>none)
    | _,_=>none)
 | _=>none
def Kh (Θ:pp) (S:TS) (t:TypeId) (r sz lo len:Nat) (dst:Option Tmp) (κ:TS->Option ρ):Option ρ:=match nv Θ t with
 |some ti=>match fA S.gh r with
  |some ⟨el,l,none⟩=>bif decide (ti.ty= .ls el)&&Nat.beq el.width 1&&Nat.beq sz 1&&el.flatB then (match el.unflat el.zcs with
   |some z=>dU (lo+len<=l.length) (tJ { S with gh:=fK S.gh r (some ⟨el,l.take lo++List.replicate len z++l.drop (lo+len),none⟩) } dst (.tup []) κ) none
   |none=>none) else none
  | _=>none
 |none=>none
def Im (b:Bool):V:= .v (.cl (.c (.sc (.bool b))))
noncomputable def BB (Θ:pp) (Y:yX) (all:List Oper):List Oper->TS->(TS->Option ρ)->Option ρ
 | [],S,κ=>κ S
 |o::os,S,κ=>match Cj o with
  |some (t,x)=>bif Sd Θ t then (match S.opd x with
   | .v (.cl (.c (.ls _ l)))=>Rb l (Px (tJ S o.dst (Im true) fun S3=>BB Θ Y all os S3 κ) (tJ S o.dst (Im false) fun S3=>BB Θ Y all os S3 κ) none) (tJ S o.dst (Im false) fun S3=>BB Θ Y all os S3 κ)
   | _=>none) else none
  |none=>match Gv S o with
  |some (t,r,sz,lo,len)=>Kh Θ S t r sz lo len o.dst fun S3=>BB Θ Y all os S3 κ
  |none=>match Il Y S o with
  |some (k,g,caps,r,sz,us,xs)=>NC Θ Y S k g caps r sz us xs o.dst fun S3=>BB Θ Y all os S3 κ
  |none=>match C3 Y S o with
  |some (g,caps,a,us,xs)=>Gu Θ Y S g caps a us xs o.dst fun S3=>BB Θ Y all os S3 κ
  |none=>Lk S all o fun b S1=>bif b then yY Θ Y S1 o fun v S2=>tJ S2 o.dst v fun S3=>BB Θ Y all os S3 κ else tJ S1 o.dst (V.tup []) fun S3=>BB Θ Y all os S3 κ
def gone:Nat->List (Option eL)->List (Option eL)->List Nat
 |n,some _::l,none::m=>n::gone (n+1) l m
 |n,_::l,_::m=>gone (n+1) l m
 | _,_,_=> []
def NE (l:List (Option eL)):List T:=l.map fun x=>match x with |some tr=>tr.tree|none=> .dd
def Ae (S S':TS):jq:=⟨S.gh.length,NE (S'.gh.drop S.gh.length),gone 0 S.gh S'.gh⟩
def QL (d:Nat) (o:Oper):Bool:=match o.dst with |some d'=> !(Nat.beq d d')|none=>true
def Se (o:Oper) (os:List Oper):Bool:=match o.dst with |some d=>os.all (QL d)|none=>false
def Tj (Θ:pp) (t:TypeId):Bool:=match nv Θ t with
 |some ti=>(match ti.ty with | .ls _=>true| _=>false)
 |none=>false
def Sf (Θ:pp) (o:Oper):Bool:=match o.op with
 | .buildSlice t _ _=>Tj Θ t
 | .call { callee:= .builtin .append,args:=_,argTypes:=ts } =>(match ts.toList with |t::_=>Tj Θ t| [] =>false)
 | _=>true
def Ll:V->Bool
 | .v (.cl (.own p _ _ _ _))=>(match p.l with | [] =>true| _=>false)
 | _=>true
def QM (S:TS) (o:Oper):Bool:=match o.op with
 | .buildSlice _ _ parts=> !(parts.toList.map fun x=>S.opd x.2).any C2
 | .call { callee:= .builtin .append,args:=as,argTypes:=ts } =>(match ts.toList with | [t,t'] =>Nat.beq t t'| _=>true)&&(match as.toList with |s::_=>Ll (S.opd s)| [] =>true)
 | _=>true
def NF (Θ:pp):List Oper->TS->(TS->Option ρ)->Option ρ
 | [],S,κ=>κ S
 |o::os,S,κ=>match o.op with
  | .alloc t=>match nv Θ t with |some ti=>NF Θ os { S with bx:=S.bx++ [ti.ty.zvs.map cC] } κ|none=>none
  | _=>NF Θ os S κ
def Io (Θ:pp) (Y:yX) (all:List Oper):List Oper->TS->List jq->(TS->List jq->Option ρ)->Option ρ
 | [],S,ms,κ=>κ S ms
 |o::os,S,ms,κ=>bif ed o then Io Θ Y all os S (ms++ [⟨S.gh.length,[],[]⟩]) κ else bif fY o then (bif o.guard.isNone then tJ S o.dst (V.v (.cl (.ptrB (S.bx.length-1-fP os) 0))) fun S3=>Io Θ Y all os S3 (ms++ [⟨S.gh.length,[],[]⟩]) κ else none) else
   Lk S all o fun b S1=>bif b then
    (bif ku o then (bif Se o os&&Sf Θ o&&QM S1 o then yY Θ Y S1 o fun v S2=>tJ S2 o.dst v fun S3=>Io Θ Y all os S3 (ms++ [Ae S1 S2]) κ else none)
    else C0 Θ S1 o fun v S2=>tJ S2 o.dst v fun S3=>Io Θ Y all os S3 (ms++ [⟨S1.gh.length,[],[]⟩]) κ)
    else tJ S1 o.dst (V.tup []) fun S3=>Io Θ Y all os S3 (ms++ [⟨S1.gh.length,[],[]⟩]) κ
def NG (Θ:pp) (Y:yX):List Oper->TS->(TS->Option ρ)->Option ρ
 | [],S,κ=>κ S
 |o::os,S,κ=>bif ed o then (bif o.guard.isNone&&o.dst.isNone then yY Θ Y S o fun _ S1=>NG Θ Y os S1 κ else none) else NG Θ Y os S κ
def NH (Θ:pp) (t:TypeId):Bool:=match nv Θ t with |some ti=>ti.ty.flatB|none=>false
def Rc (Θ:pp) (Y:yX) (ops:List Oper) (S:TS) (κ:TS->Option ρ):Option ρ:=
 NF Θ ops S fun S0=>Io Θ Y ops ops S0 [] fun SV ms=>bif JN (NH Θ) ops (i4 ops) S0.st ms SV.st then NG Θ Y ops SV κ else none
def gA:Code->Nat
 | .region id _ _=>id
 | .seq a _=>gA a
 | .block _ c=>gA c
 | .loop c=>gA c
 | _=>0
abbrev qh:=Nat->TS->(ρ:Type)->(X->TS->Option ρ)->Option ρ
noncomputable def yb (Θ:pp) (Y:yX) (Λ:qh):Code->TS->(X->TS->Option ρ)->Option ρ
 | .skip,S,κ=>κ .nor S
 | .region _ ops false,S,κ=>BB Θ Y ops.toList ops.toList S (κ .nor)
 | .region _ ops true,S,κ=>Rc Θ Y ops.toList S (κ .nor)
 | .seq a b,S,κ=>yb Θ Y Λ a S fun x S1=>match x with | .nor=>yb Θ Y Λ b S1 κ|x=>κ x S1
 | .cond c a b,S,κ=>Ie S c fun t S1=>bif t then yb Θ Y Λ a S1 κ else yb Θ Y Λ b S1 κ
 | .block id c,S,κ=>yb Θ Y Λ c S fun x S1=>match x with | .ext i=>bif Nat.beq i id then κ .nor S1 else κ (.ext i) S1|x=>κ x S1
 | .loop c,S,κ=>Λ (gA c) S ρ κ
 | .exit id,S,κ=>κ (.ext id) S
 | .ret,S,κ=>κ .ret S
 | _,_,_=>none
def Py (S:TS) (gs:List eL) (et:Option Ty) (c:Cl) (κ:Cl->List eL->TS->Option ρ):Option ρ:=match c,et with
 | .c (.sc v),_=>κ (.c (.sc v)) gs S
 | .em,some t=>κ (.own ⟨gs.length,[]⟩ t.width 0 0 true) (gs++ [⟨t,[],none⟩]) S
 | .own p sz lo len w,some t'=>match p.l with
   | [] =>bif Nat.ble S.fz p.r&&Nat.beq t'.width sz then sI S p fun t l=>bif Nat.beq t.width sz then
     (bif w then κ (.own ⟨gs.length,[]⟩ sz 0 l.length true) (gs++ [⟨t,l,none⟩]) { S with gh:=fK S.gh p.r none }
     else dU (lo=0/\len<=l.length) (κ (.own ⟨gs.length,[]⟩ sz 0 (l.take len).length true) (gs++ [⟨t,l.take len,none⟩]) { S with gh:=fK S.gh p.r none }) none) else none
     else none
   | _=>none
 | _,_=>none
def Lm:TS->List eL->List (Option Ty)->List Cl->(List Cl->List eL->TS->Option ρ)->Option ρ
 |S,gs,et::ets,c::cs,κ=>Py S gs et c fun c' gs' S'=>Lm S' gs' ets cs fun cs' gs'' S''=>κ (c'::cs') gs'' S''
 |S,gs,[],[],κ=>κ [] gs S
 | _,_,_,_,_=>none
def Rd (Θ:pp) (S:TS) (gs:List eL) (t:TypeId) (v:V) (κ:V1->List eL->TS->Option ρ):Option ρ:=match nv Θ t with
 |none=>none
 |some ti=>match v with
  | .v (.agg cs)=>Lm S gs ti.ty.csh cs fun cs' gs' S'=>κ (.agg cs') gs' S'
  | .v (.cl c)=>Py S gs (ti.ty.csh.headD none) c fun c' gs' S'=>κ (.cl c') gs' S'
  | _=>none
def tK (Θ:pp):TS->List eL->List (TypeId×V)->(List V1->List eL->Option ρ)->Option ρ
 | _,gs,[],κ=>κ [] gs
 |S,gs,(t,v)::r,κ=>Rd Θ S gs t v fun v' gs' S'=>tK Θ S' gs' r fun vs gs''=>κ (v'::vs) gs''
def BC (Θ:pp) (S:TS):List ResultVar->List TypeId->(List (TypeId×V)->Option ρ)->Option ρ
 | .tmp a::rs,t::ts,κ=>BC Θ S rs ts fun l=>κ ((t,jr S.env a)::l)
 | .cell a t'::rs,t::ts,κ=>Ig Θ S t' (jr S.env a) fun v=>BC Θ S rs ts fun l=>κ ((t,v)::l)
 | [],[],κ=>κ []
 | _,_,_=>none
def w7:List V1->V
 | [v] => .v v
 |vs=> .tup vs
def mF:Nat->List V1->List (Nat×V)
 | _,[] => []
 |n,v::l=>(n, .v v)::mF (n+1) l
noncomputable def Sg (Θ:pp) (Y:yX) (Λ:qh) (fn:Func) (args:List V1) (κ:V->List eL->Option ρ):Option ρ:=match fn.body with
 |none=>none
 |some c=>yb Θ Y Λ c { env:=mF 0 args,bx:= [],gh:= [],fz:=0,nt:=args.length+(fn.ntmps-args.length) } fun x S=>match x with
  | .ext _=>none
  | _=>BC Θ S fn.results.toList fn.resultTypes.toList fun rs=>tK Θ S [] rs fun vs gs=>κ (w7 vs) gs
def Gw:List Cl->Option (List C)
 | [] =>some []
 | .c x::l=>match Gw l with |some r=>some (x::r)|none=>none
 | _=>none
def un (t:Ty) (a:V1) (κ:t.D->Option ρ):Option ρ:=match a with
 | .agg cs=>bif t.ag then (match Gw cs with
   |some xs=>(match t.unflat xs with |some x=>κ x|none=>none)
   |none=>none) else none
 | .cl (.c y)=>bif t.ag then none else (match t.unflat [y] with |some x=>κ x|none=>none)
 | _=>none
def vk:List C->Nat->List Cl
 | [],_=> []
 | .sc v::r,n=> .c (.sc v)::vk r n
 | .ls t l::r,n=> .own ⟨n,[]⟩ t.width 0 l.length true::vk r (n+1)
def nw:List C->List eL
 | [] => []
 | .sc _::r=>nw r
 | .ls t l::r=>⟨t,l,none⟩::nw r
def C5 (t:Ty) (x:t.D) (n:Nat):V1:=bif t.ag then .agg (vk (t.flat x) n) else match vk (t.flat x) n with | [c] => .cl c| _=> .cl .dead
def xh:Nat->List ((t:Ty)×t.D)->List V1
 | _,[] => []
 |n,⟨t,x⟩::r=>C5 t x n::xh (n+(nw (t.flat x)).length) r
def xi:List ((t:Ty)×t.D)->List eL
 | [] => []
 | ⟨t,x⟩::r=>nw (t.flat x)++xi r
def ret (l:List ((t:Ty)×t.D)) (κ:V->List eL->Option ρ):Option ρ:=κ (w7 (xh 0 l)) (xi l)
end
abbrev Ki:=List V1->(ρ:Type)->(V->List eL->Option ρ)->Option ρ
def Re:List (Nat×Ki)->FuncId->List V1->(ρ:Type)->(V->List eL->Option ρ)->Option ρ
 | [],_,_,_,_=>none
 | (g,e)::l,f,as,ρ,κ=>bif Nat.beq g f then e as ρ κ else Re l f as ρ κ
def Rf:List (Nat×Ki)->Nat->Bool
 | [],_=>false
 | (g,_)::l,f=>bif Nat.beq g f then true else Rf l f
def EC (l:List (Nat×Ki)):yX:=⟨Re l,fun g=>bif Rf l (Ad g) then 1 else bif Rf l (Ij g) then 2 else 0⟩
noncomputable def Mi {ρ:Type} (Θ:pp) (Y:yX) (Λ:qh) (fn:Func) (m:Nat) (el:Ty) (l:List el.D) (args:List V1) (κ:V->List eL->Option ρ):Option ρ:=match fn.body with
 |none=>none
 |some c=>yb Θ Y Λ c { env:=mF 0 (.cl (.own ⟨0,[]⟩ el.width 0 l.length true)::args),bx:= [],gh:= [some ⟨el,l,none⟩],fz:=m,nt:=(args.length+1)+(fn.ntmps-(args.length+1)) } fun x S=>match x with
  | .ext _=>none
  | _=>BC Θ S fn.results.toList fn.resultTypes.toList fun rs=>bif Nat.beq m 0 then tK Θ S [] rs fun vs gs=>κ (w7 vs) gs else match fA S.gh 0 with
    |some ⟨t,l',none⟩=>tK Θ S [⟨t,l',none⟩] rs fun vs gs=>κ (w7 vs) gs
    | _=>none
def wI (S:TS):Nat->Nat->Option (List eL)
 | _,0=>some []
 |r,n+1=>(match fA S.gh r with
  |some ⟨t,l,none⟩=>(match wI S (r+1) n with |some ts=>some (⟨t,l,none⟩::ts)|none=>none)
  | _=>none)
noncomputable def Pz {ρ:Type} (Θ:pp) (Y:yX) (Λ:qh) (fn:Func) (t:Ty) (x:t.D) (args:List V1) (κ:V->List eL->Option ρ):Option ρ:=match fn.body with
 |none=>none
 |some c=>yb Θ Y Λ c { env:=mF 0 (C5 t x 0::args),bx:= [],gh:=(nw (t.flat x)).map some,fz:=(nw (t.flat x)).length,nt:=(args.length+1)+(fn.ntmps-(args.length+1)) } fun y S=>match y with
  | .ext _=>none
  | _=>BC Θ S fn.results.toList fn.resultTypes.toList fun rs=>match wI S 0 (nw (t.flat x)).length with
    |some gs=>tK Θ S gs rs fun vs gs'=>κ (w7 vs) gs'
    |none=>none
def Ip (t:Ty) (x:t.D):V1:=bif t.ag then .agg ((t.flat x).map .c) else match (t.flat x).map Cl.c with | [c] => .cl c| _=> .cl .dead
end
section
open Go
theorem fZ {α:Type}: ∀ (l:List α) (n:Nat),pq l n=l[n]?
 | [],n=>by simp[pq]
 |a::l,0=>by simp[pq]
 |a::l,n+1=>by show pq l n=_; rw[fZ l]; simp
theorem it {α:Type}: ∀ (l:List α) (n:Nat) (x:α),fK l n x=l.set n x
 | [],n,x=>by simp[fK]
 |a::l,0,x=>by simp[fK]
 |a::l,n+1,x=>by show a::fK l n x=_; rw[it l]; simp
theorem Iq: ∀ {l:List (Nat×V)} {t:Nat},jr l t=V.dead\/(t,jr l t)∈l
 | [],t=> .inl rfl
 | (u,v)::l,t=>by
   simp only[jr];cases h:Nat.beq u t with
   |true=>have :u=t:=au h;subst this;exact .inr (aI)
   |false=>
    rcases Iq (l:=l) (t:=t) with h'|h'
    ·exact .inl h'
    ·exact .inr (aE _ h')
def Cl.ok (G:List (Option eL)):Cl->Prop
 | .own p _ lo len w=>p.r<G.length/\(w=true->p.l= [] /\lo=0/\ ∀tr,fA G p.r=some tr->len=tr.l.length)
 | .ptrT p _ _ _=>p.r<G.length
 | _=>True
def V1.ok (G:List (Option eL)):V1->Prop
 | .cl c=>c.ok G
 | .agg cs=> ∀c∈cs,c.ok G
 | .fn _ cs=> ∀c∈cs,c.ok G
def V.ok (G:List (Option eL)):V->Prop
 | .v x=>x.ok G
 | .tup l=> ∀x∈l,x.ok G
structure TS.ok (S:TS):Prop where
 env: ∀x∈S.env,x.2.ok S.gh
 bx: ∀cs∈S.bx,∀c∈cs,c.ok S.gh
def jd (G G':List (Option eL)):Prop:=G.length<=G'.length/\ ∀r tr',r<G.length->fA G' r=some tr'-> ∃tr,fA G r=some tr/\tr.l.length=tr'.l.length
theorem jd.refl (G:List (Option eL)):jd G G:=⟨ay _,fun _ tr _ h=>⟨tr,h,rfl⟩⟩
theorem jd.trans {G H K:List (Option eL)} (h:jd G H) (k:jd H K):jd G K:=⟨bI h.1 k.1,fun r tr hr hK=>by obtain⟨t1,h1,h2⟩:=k.2 r tr (bc hr h.1) hK;obtain⟨t2,h3,h4⟩:=h.2 r t1 hr h1;exact⟨t2,h3,h4.trans h2⟩⟩
theorem Cl.ok_mono {G G':List (Option eL)} (h:jd G G') {c:Cl} (hc:c.ok G):c.ok G':=by
 cases c with
 |own p sz lo len w=>obtain⟨h1,h2⟩:=hc;refine⟨bc h1 h.1,fun hw=> ?_⟩;obtain⟨a,b,c⟩:=h2 hw;refine⟨a,b,fun tr htr=> ?_⟩;obtain⟨tr0,k1,k2⟩:=h.2 _ tr h1 htr;rw[c tr0 k1,k2]
 |ptrT p sz i j=>exact bc hc h.1
 | _=>trivial
theorem V1.ok_mono {G G':List (Option eL)} (h:jd G G') {v:V1} (hv:v.ok G):v.ok G':=by
 cases v with
 |cl c=>exact Cl.ok_mono h hv
 |agg cs=>exact fun c hc=>Cl.ok_mono h (hv c hc)
 |fn f cs=>exact fun c hc=>Cl.ok_mono h (hv c hc)
theorem V.ok_mono {G G':List (Option eL)} (h:jd G G') {v:V} (hv:v.ok G):v.ok G':=by
 cases v with
 |v x=>exact V1.ok_mono h hv
 |tup l=>exact fun x hx=>V1.ok_mono h (hv x hx)
theorem V.ok_dead (G:List (Option eL)):V.dead.ok G:=trivial
theorem V.ok_sc (G:List (Option eL)) (v:Value): (V.sc v).ok G:=trivial
theorem Ck {S:TS} (hS:S.ok) (t:Nat): (jr S.env t).ok S.gh:=by
 rcases Iq (l:=S.env) (t:=t) with h|h
 ·rw[h]; trivial
 ·exact hS.env _ h
theorem qO (v:Value): (cC v).av=Ce v:=by
 unfold cC Ce;cases h:qT v with
 |true=>rfl
 |false=>
  simp only[cond_false,aY,if_false];split
  ·rfl
  ·split
   ·exact absurd rfl ‹_›
   ·rfl
theorem Si (v:Value): (cV v).av=Em v:=by
 cases v with
 |agg cs=>
  simp only[cV,Em];cases h:cs.toList.all Value.oneCell' with
  |true=>
   simp only[cond_true,if_true];simp only[V.av,V1.av,bu]
   congr 1
   exact aJ fun x _=>qO x
  |false=>rfl
 |bool b=>exact qO (.bool b)
 |int k n=>exact qO (.int k n)
 |float k n=>exact qO (.float k n)
 |complex k n m=>exact qO (.complex k n m)
 |string x=>exact qO (.string x)
 |pointer x=>exact qO (.pointer x)
 |slice x y z=>exact qO (.slice x y z)
 |map x=>exact qO (.map x)
 |chan x=>exact qO (.chan x)
 |func x y z=>exact qO (.func x y z)
 |nilFunc=>exact qO .nilFunc
 |iface x y=>exact qO (.iface x y)
 |nilIface=>exact qO .nilIface
 |tuple x=>exact qO (.tuple x)
theorem Ln (G:List (Option eL)) (v:Value): (cC v).ok G:=by
 unfold cC;cases qT v with
 |true=>trivial
 |false=>simp only[cond_false]; split<;>trivial
theorem Sj (G:List (Option eL)) (v:Value): (cV v).ok G:=by
 unfold cV;split
 ·rename_i cs;cases cs.toList.all Value.oneCell' with
  |true=>intro c hc; simp only[aL] at hc; obtain⟨x,_,rfl⟩:=hc; exact Ln _ _
  |false=>trivial
 ·exact Ln _ _
theorem eu {S:TS} (x:Operand):opd S.st x=(S.opd x).av:=by
 cases x with
 |tmp t=>rfl
 |const v=>exact (Si v).symm
 |func f=>rfl
 |global g=>rfl
theorem mG {S:TS} (hS:S.ok) (x:Operand): (S.opd x).ok S.gh:=by
 cases x with
 |tmp t=>exact Ck hS t
 |const v=>exact Sj _ _
 |func f=>trivial
 |global g=>trivial
section
variable {ρ:Type}
theorem PA {α:Type} {b:Bool} {x y:Option α} {r:α} (h:br b x y=some r): (b=true/\x=some r)\/(b=false/\y=some r):=by
 cases b with
 |true=>exact .inl ⟨rfl,h⟩
 |false=>exact .inr ⟨rfl,h⟩
theorem fO {α:Type} {c:Prop} [Decidable c] {x:Option α} {r:α} (h:dU c x none=some r):c/\x=some r:=by
 unfold dU at h;split at h
 ·exact⟨‹_›,h⟩
 ·cases h
theorem Af {α:Type} {c:Prop} [Decidable c] {x:Option α} {r:α} (h:dU c none x=some r): ¬c/\x=some r:=by
 unfold dU at h;split at h
 ·cases h
 ·exact⟨‹_›,h⟩
theorem ef {α:Type} {c:Bool} {x:Option α} {r:α} (h: (bif c then x else none)=some r):c=true/\x=some r:=by
 cases c with
 |true=>exact⟨rfl,h⟩
 |false=>cases h
theorem Ir {S:TS} {t:Nat} {b:Bool} (h:jr S.env t=V.sc (.bool b)): ({ S with env:=(t,V.sc (.bool b))::S.env }:TS).st=S.st:=by
 unfold TS.st;simp only
 congr 1
 funext u
 simp only[jr];cases hb:Nat.beq t u with
 |true=>have :t=u:=au hb;subst this;rw[h];rfl
 |false=>rfl
theorem It {S:TS} (hS:S.ok) (t:Nat) (b:Bool): ({ S with env:=(t,V.sc (.bool b))::S.env }:TS).ok:=
 ⟨fun x hx=>by
  simp only[aR] at hx;rcases hx with rfl|hx
  ·trivial
  ·exact hS.env x hx,hS.bx⟩
theorem C6 {S:TS} (hS:S.ok) {x:Operand} {κ:Bool->TS->Option ρ} {r:ρ} (h:Ie S x κ=some r):
  ∃b S',opd S.st x= .sc (.bool b)/\S'.st=S.st/\S'.ok/\S'.gh=S.gh/\κ b S'=some r:=by
 unfold Ie at h;split at h
 ·rename_i t;split at h
  ·rename_i b hb;rcases PA h with ⟨rfl,h⟩| ⟨rfl,h⟩
   ·exact⟨true,_,by show (jr S.env t).av=_; rw[hb]; rfl,Ir hb,It hS _ _,rfl,h⟩
   ·exact⟨false,_,by show (jr S.env t).av=_; rw[hb]; rfl,Ir hb,It hS _ _,rfl,h⟩
  ·cases h
 ·rename_i b;exact⟨b,S,rfl,rfl,hS,rfl,h⟩
 ·cases h
theorem yZ {v:V} {κ:Int->Option ρ} {r:ρ} (h:J9 v κ=some r): ∃n,Cu v.av=some n/\κ n=some r:=by
 unfold J9 at h;split at h
 ·exact⟨_,rfl,h⟩
 ·cases h
theorem eL.look {G:List (Option eL)} {r:Nat} {tr:eL} (h:pq G r=some (some tr)):fA G r=some tr:=by unfold fA;rw[h];rfl
theorem gY {S:TS} {p:eT} {κ: (t:Ty)->List t.D->Option ρ} {r:ρ} (h:sI S p κ=some r):
  ∃ (t:Ty) (l:List t.D),S.st.look p= .sl t.width (l.map t.row)/\(p.l= [] ->fA S.gh p.r=some ⟨t,l,none⟩)/\κ t l=some r:=by
 unfold sI at h;split at h
 ·rename_i tr htr;have hg:=eL.look htr;split at h
  ·rename_i hh;obtain⟨t,l,hole⟩:=tr;simp only at hh;subst hh;split at h
   ·rename_i hp;refine⟨t,l,?_,fun _=>hg,h⟩;unfold St.look;have :S.st.gh p.r=some (.sl t.width (l.map t.row)):=by show (fA S.gh p.r).map eL.tree=_; rw[hg]; rfl
    rw[this,hp];rfl
   ·rename_i i j hp;simp only[aj] at h;obtain⟨x,hx,h⟩:=h;split at h
    ·rename_i t' l' hj;refine⟨t',l',?_,(fun h0=>by rw[hp] at h0; cases h0),h⟩;unfold St.look;have :S.st.gh p.r=some (.sl t.width (l.map t.row)):=by show (fA S.gh p.r).map eL.tree=_; rw[hg]; rfl
     rw[this,hp];simp only[T.go,T.cell];have e1: (l.map t.row).getD i [] =t.row x:=by simp[aw,hx]
     rw[e1,t.row_flat];rw[fZ] at hj;simp[aw,hj,C.tree]
    ·cases h
   ·cases h
  ·cases h
 ·cases h
end
end
section
open Go
def Ty.shs (t:Ty):List Nat:=t.csh.map fun |some e=>e.width|none=>0
structure TI.ok (P:Program) (t:TypeId) (ti:TI):Prop where
 ag:El P t=some ti.ty.ag
 cells:P.cellsOf t=ti.ty.width
 sh:pn P 9 t=ti.ty.shs
 ze:zO P t=some ti.ty.zvs
 fd: ∀k,M4 P t k=pq ti.fds k
 pl:ti.ty.ag=true->R5 P t=some (ti.fds.map fun x=>(x.1,x.2.1))
 el: ∀e,ti.ty= .ls e-> ∃el,w6 P t=some el/\P.cellsOf el=e.width/\P.bytesOf el=ti.el/\0<ti.el/\pn P 9 el=e.shs/\zO P el=some e.zvs
 bool:ti.ty= .b->P.underlying t=some .bool
 gu:ti.ty.ag=true->ti.ty.flatB=true->P.eqGuardType P.depth t=false
 eq:ti.ty.ag=true-> ∀ (a b:List Cl) (r:Bool) (xs ys:List Value),mt ti.ty.zvs a=true->mt ti.ty.zvs b=true->wF a b=some r->a=xs.map (fun x=> .c (.sc x))->b=ys.map (fun x=> .c (.sc x))->eD P (Op.equal t (.agg xs.toArray) (.agg ys.toArray))=some r
 str:F4 P t=(match ti.ty with | .s=>true| _=>false)
 int: ∀k,ti.ty= .i k->P.underlying t=some (.int k)
def gC (P:Program) (Θ:pp):Prop:= ∀t ti,nv Θ t=some ti->ti.ok P t
theorem Ty.width_pos (t:Ty):0<t.width:=by
 cases t with
 |st n=>cases n<;>decide
 | _=>exact Nat.one_pos
theorem C.ro_tree (c:C):T.ro c.tree=c.av:=by cases c<;>rfl
theorem C.own_tree (p:eT) (i m:Nat) (c:C):M7 p i m c.tree=(Ka p i m c).av:=by
 cases c with
 |sc v=>rfl
 |ls t l=>simp[M7,C.tree,Ka,Cl.av]
theorem Ag {α β:Type} (f:Nat->α->β): ∀ (j:Nat) (l:List α) (k:Nat),(Ab f j l)[k]? =(l[k]?).map (f (j+k))
 |j,[],k=>by simp[Ab]
 |j,a::l,0=>by simp[Ab]
 |j,a::l,k+1=>by simp only[Ab,ca]; rw[Ag f (j+1) l k]; congr 2; omega
section
variable {ρ:Type} {P:Program} {Θ:pp} {S:TS}
theorem mn {p:eT} {sz:Nat} {rows:List (List T)} (h:S.st.look p= .sl sz rows):S.st.rows p sz=some rows:=by unfold St.rows;rw[h];simp
theorem Mj (hS:S.ok) {n:Nat} {v:Cl} (hv:v.ok S.gh) {κ:List Cl->Option ρ} {r:ρ} (h:Kb S n v κ=some r):
  ∃cs:List Cl,fu S.st n v.av=some (cs.map Cl.av)/\(∀c∈cs,c.ok S.gh)/\κ cs=some r:=by
 unfold Kb at h;split at h
 ·rename_i b j;split at h
  ·rename_i cs hcs;obtain⟨h1,h⟩:=ef h;have h1:j+n<=cs.length:=az h1;refine⟨_,?_,fun c hc=> ?_,h⟩
   ·simp only[Cl.av,fu,TS.st,hcs,aB,ae,aD];rw[if_pos h1];simp[bO,bR]
   ·rw[fZ] at hcs;exact hS.bx cs (aq hcs) c (bV (cn hc))
  ·cases h
 ·rename_i cells;obtain⟨h1,h⟩:=ef h;have h1:n<=cells.length:=az h1;refine⟨_,?_,fun c hc=> ?_,h⟩
  ·simp only[Cl.av,fu,aD];rw[if_pos h1]
   congr 1
   rw[<-bO,bu,bu];exact aJ fun c _=>C.ro_tree c
  ·obtain⟨x,_,rfl⟩:=aL.1 hc;trivial
 ·rename_i p sz i j;obtain⟨t,l,h1,_,h5⟩:=gY h;obtain⟨h2,h6⟩:=ef h5;clear h h5;simp only[ar] at h2;have h3:t.width=sz:=au h2.1;have h4:j+n<=sz:=az h2.2;subst h3;obtain⟨x,hx,h⟩:=aj.1 h6;have hil:i<l.length:=(ai.1 hx).1;have hfl: (t.flat x).length=t.width:=t.flat_length x;refine⟨_,?_,fun c hc=> ?_,h⟩
  ·have e1: (l.map t.row).getD i [] =t.row x:=by simp[aw,hx]
   simp only[Cl.av,fu,mn h1];rw[e1,if_pos ⟨by simpa using hil,by rw[t.row_length]; exact h4⟩]
   congr 1
   apply bN;intro k;rw[ap,ap,Ag];by_cases hk:k<n
   ·have hjk:j+k< (t.flat x).length:=by omega
    rw[List.getElem?_range hk,aZ,if_pos hk,aP,ah hjk];simp only[aB];rw[t.row_flat,aw,ap,ah hjk];simp only[aB,aM];rw[C.own_tree]
   ·rw[aZ,if_neg hk,bM (by simp; omega)];rfl
  ·obtain⟨k,hk⟩:=List.getElem?_of_mem hc;rw[Ag] at hk;simp only[ak] at hk;obtain⟨y,_,rfl⟩:=hk;cases y with
   |sc v=>trivial
   |ls t' l'=>exact⟨hv,fun h=>by cases h⟩
 ·cases h
theorem NI {G:List (Option eL)} {ag:Bool} {cs:List Cl} (hcs: ∀c∈cs,c.ok G) {κ:V->Option ρ} {r:ρ} (h:Ti ag cs κ=some r): ∃v,QE ag (cs.map Cl.av)=some v.av/\v.ok G/\κ v=some r:=by
 unfold Ti at h;cases ag with
 |true=>refine⟨_,rfl,?_,h⟩; exact hcs
 |false=>
  simp only[cond_false] at h;split at h
  ·rename_i c;refine⟨_,rfl,?_,h⟩; exact hcs c (by simp)
  ·cases h
theorem Iu (hΘ:gC P Θ) (hS:S.ok) {t:TypeId} {v:V} (hv:v.ok S.gh) {κ:V->Option ρ} {r:ρ} (h:Ig Θ S t v κ=some r):
  ∃u,load P S.st t v.av=some u.av/\u.ok S.gh/\κ u=some r:=by
 unfold Ig at h;split at h
 ·rename_i ti hti;have hok:=hΘ _ _ hti;split at h
  ·rename_i a;obtain⟨cs,h1,h2,h⟩:=Mj hS hv h;obtain⟨u,h3,h4,h⟩:=NI h2 h;refine⟨u,?_,h4,h⟩;unfold load;rw[hok.ag,hok.cells];simp only[ae,V.av,V1.av,h1];exact h3
  ·cases h
 ·cases h
theorem PB {n:Nat} {i:Int} {v:Cl} (hv:v.ok S.gh) {κ:Cl->Option ρ} {r:ρ} (h:Q7 n i S v κ=some r): ∃c,yH n i v.av=some c.av/\c.ok S.gh/\κ c=some r:=by
 unfold Q7 at h;split at h
 ·rename_i t l;obtain⟨h1,h⟩:=ef h;have h1:t.width=n:=au h1;obtain⟨h2,h⟩:=fO h;obtain⟨x,hx,h⟩:=aj.1 h;have hil:=(ai.1 hx).1;refine⟨_,?_,?_,h⟩
  rotate_left
  ·trivial
  simp only[Cl.av,C.av,yH,aD];rw[if_pos ⟨h2,by omega,h1⟩]
  congr 1
  simp[aw,hx,t.row_flat]
 ·rename_i p sz lo len;obtain⟨h1,h⟩:=ef h;have h1:sz=n:=au h1;obtain⟨t,l,h2,h3,h⟩:=gY h;obtain⟨h4,h⟩:=fO h;obtain⟨h5,h6⟩:=hv;obtain⟨h7,h8,h9⟩:=h6 rfl;have h10:=h9 _ (h3 h7);simp only at h10;refine⟨_,?_,?_,h⟩
  rotate_left
  ·exact h5
  simp only[Cl.av,yH];rw[if_pos ⟨h4.1,by omega,h1⟩,h8,aV]
 ·rename_i p sz lo len;obtain⟨h1,h⟩:=ef h;have h1:sz=n:=au h1;obtain⟨h4,h⟩:=fO h;refine⟨_,?_,?_,h⟩
  rotate_left
  ·exact hv.1
  simp only[Cl.av,yH];rw[if_pos ⟨h4.1,h4.2,h1⟩]
 ·cases h
theorem Lo {v:Cl} (hv:v.ok S.gh) {κ:Int->Option ρ} {r:ρ} (h:Pu S v κ=some r): ∃n,uL v.av=some n/\κ n=some r:=by
 unfold Pu at h;split at h
 ·exact⟨_,by simp[Cl.av,C.av,uL],h⟩
 ·obtain⟨t,l,h2,h3,h⟩:=gY h;obtain⟨h5,h6⟩:=hv;obtain⟨h7,h8,h9⟩:=h6 rfl;have h10:=h9 _ (h3 h7);simp only at h10;exact⟨_,by simp[Cl.av,uL,h10],h⟩
 ·exact⟨_,rfl,h⟩
 ·exact⟨_,rfl,h⟩
 ·cases h
theorem PC {n:Nat} {lo hi:Int} {v:Cl} (hv:v.ok S.gh) {κ:Cl->Option ρ} {r:ρ} (h:Q8 n lo hi v κ=some r): ∃c,QF n lo hi v.av=some c.av/\c.ok S.gh/\κ c=some r:=by
 unfold Q8 at h;split at h
 ·obtain⟨h1,h⟩:=fO h;exact⟨.em,by simp[Cl.av,QF,h1],trivial,h⟩
 ·rename_i t l;obtain⟨h1,h⟩:=ef h;have h1:t.width=n:=au h1;obtain⟨h2,h⟩:=fO h;refine⟨_,?_,?_,h⟩
  rotate_left
  ·trivial
  simp only[Cl.av,C.av,QF,aD];rw[if_pos ⟨h1,h2⟩];simp[bO,bR]
 ·rename_i p sz l len w;obtain⟨h1,h⟩:=ef h;have h1:sz=n:=au h1;obtain⟨h2,h⟩:=fO h;refine⟨_,?_,?_,h⟩
  rotate_left
  ·exact⟨hv.1,fun h=>by cases h⟩
  simp only[Cl.av,QF];rw[if_pos ⟨h1,h2⟩]
 ·cases h
theorem FI {d:Int} {x:Option Operand} {κ:Int->Option ρ} {r:ρ} (h:Gr S d x κ=some r): ∃n,mi S.st d x=some n/\κ n=some r:=by
 unfold Gr at h;split at h
 ·exact⟨_,rfl,h⟩
 ·obtain⟨n,h1,h⟩:=yZ h;exact⟨n,by simp only[mi,eu]; exact h1,h⟩
theorem PD {G:List (Option eL)}: ∀ (parts:List (Nat×V)) (pl:List (Nat×Nat×Bool)) (cs cs':List Cl),(∀c∈cs,c.ok G)->(∀x∈parts,x.2.ok G)->Mg pl cs parts=some cs'->
  Pb (pl.map fun x=>(x.1,x.2.1)) (cs.map Cl.av) (parts.map fun x=>(x.1,x.2.av))=some (cs'.map Cl.av)/\ ∀c∈cs',c.ok G:=by
 intro parts
 induction parts with
 |nil=>intro pl cs cs' hcs _ h;simp only[Mg,af] at h;subst h;exact⟨rfl,hcs⟩
 |cons x parts ih=>
  intro pl cs cs' hcs hp h;obtain⟨k,v⟩:=x;simp only[Mg] at h;split at h
  ·rename_i off n ag hk;split at h
   ·rename_i x;have hx:x.ok G:=hp (k, .v x) (by simp)
    have gA: ∀ (hd: (V.v x).av.isDead=false) (hcell: (V.v x).av.cells=x.cells.map Cl.av) (hcok: ∀c∈x.cells,c.ok G)
      (h: (bif Nat.beq x.cells.length n&&Nat.ble (off+n) cs.length then Mg pl (cs.take off++x.cells++cs.drop (off+n)) parts else none)=some cs'),
      Pb (pl.map fun x=>(x.1,x.2.1)) (cs.map Cl.av) (((k,V.v x)::parts).map fun x=>(x.1,x.2.av))=some (cs'.map Cl.av)/\ ∀c∈cs',c.ok G:=by
     intro hd hcell hcok h;obtain⟨h1,h⟩:=ef h;simp only[ar] at h1;have h2:x.cells.length=n:=au h1.1;have h3:off+n<=cs.length:=az h1.2
     obtain⟨g1,g2⟩:=ih pl _ cs' (fun c hc=>by
      simp only[bq] at hc;rcases hc with (hc|hc)|hc
      ·exact hcs c (cn hc)
      ·exact hcok c hc
      ·exact hcs c (bV hc)) (fun y hy=>hp y (aE _ hy)) h
     refine⟨?_,g2⟩;rw[fZ] at hk;simp only[aQ,Pb,ap,hk,aB];rw[if_pos ⟨hd,by rw[hcell]; simpa using h2,by simpa using h3⟩,<-g1,hcell];simp[bO,bR]
    cases x with
    |cl c=>cases c with
     |dead=>cases h
     |c y=>cases y<;>exact gA rfl rfl (fun c hc=>by simp only[V1.cells,ax] at hc; subst hc; exact hx) h
     |em=>exact gA rfl rfl (fun c hc=>by simp only[V1.cells,ax] at hc; subst hc; exact hx) h
     |own p sz lo len w=>exact gA rfl rfl (fun c hc=>by simp only[V1.cells,ax] at hc; subst hc; exact hx) h
     |pro cs=>exact gA rfl rfl (fun c hc=>by simp only[V1.cells,ax] at hc; subst hc; exact hx) h
     |ptrB n j=>exact gA rfl rfl (fun c hc=>by simp only[V1.cells,ax] at hc; subst hc; exact hx) h
     |ptrT p sz i j=>exact gA rfl rfl (fun c hc=>by simp only[V1.cells,ax] at hc; subst hc; exact hx) h
    |agg cs2=>exact gA rfl rfl hx h
    |fn f cs2=>cases h
   ·cases h
  ·cases h
end
end
section
open Go
theorem ez {α β:Type} {P:Program} (s:Sem α) (f:α->Sem β):eD P (s >>=f)=(eD P s).bind fun a=>eD P (f a):=by
 show eD P (s.bind f)=_
 induction s with
 |pure a=>rfl
 |program k ih=>exact ih P
 | _=>rfl
theorem eY {α:Type} {P:Program} (a:α):eD P (pure a)=some a:=rfl
theorem wJ: ∀ {zs:List Value} {a:List Cl},mt zs a=true-> ∃xs:List Value,a=xs.map (fun x=>Cl.c (.sc x))
 | [],[],_=>⟨[],rfl⟩
 | .int k n::zs,a,h=>by
   unfold mt at h;split at h
   ·rename_i heq;cases heq
   ·rename_i k1 n1 zs1 k2 n2 cs h1;have hd:=h;cases hk:decide (k1=k2) with
    |false=>rw[hk] at h; cases h
    |true=>rw[hk] at h;obtain⟨xs,hx⟩:=wJ (zs:=zs1) (a:=cs) h;exact⟨.int k2 n2::xs,by rw[hx]; rfl⟩
   ·rename_i b1 zs1 b2 cs h1;cases h1
   ·cases h
 | .bool b::zs,a,h=>by
   unfold mt at h;split at h
   ·rename_i heq;cases heq
   ·rename_i h1;cases h1
   ·rename_i b1 zs1 b2 cs h1;obtain⟨xs,hx⟩:=wJ (zs:=zs1) (a:=cs) h;exact⟨.bool b2::xs,by rw[hx]; rfl⟩
   ·cases h
 | .float _ _::_,_,h=>by simp[mt] at h
 | .complex _ _ _::_,_,h=>by simp[mt] at h
 | .string _::_,_,h=>by simp[mt] at h
 | .pointer _::_,_,h=>by simp[mt] at h
 | .slice _ _ _::_,_,h=>by simp[mt] at h
 | .map _::_,_,h=>by simp[mt] at h
 | .chan _::_,_,h=>by simp[mt] at h
 | .func _ _ _::_,_,h=>by simp[mt] at h
 | .nilFunc::_,_,h=>by simp[mt] at h
 | .iface _ _::_,_,h=>by simp[mt] at h
 | .nilIface::_,_,h=>by simp[mt] at h
 | .agg _::_,_,h=>by simp[mt] at h
 | .tuple _::_,_,h=>by simp[mt] at h
 | [],_::_,h=>by simp[mt] at h
theorem Lp (f:AV->Option Value) (hf: ∀v,f (.sc v)=some v): ∀xs:List Value,((xs.map fun x=>Cl.c (.sc x)).map Cl.av).mapM f=some xs
 | [] =>rfl
 |x::xs=>by simp only[aQ,dc,Lp f hf xs];show (f (.sc x)).bind _=_;rw[hf];rfl
theorem Lq (xs:List Value):ug (V.v (.agg (xs.map fun x=>Cl.c (.sc x)))).av=some (.agg xs.toArray):=by simp only[V.av,V1.av,ug];rw[Lp _ (fun _=>rfl)];rfl
theorem fQ {P:Program} {t:TypeId} {d:TypeDesc} (h:P.underlying t=some d):eD P (underlying t)=some d:=by simp only[underlying,ez,program,eD,ae,h];rfl
section
variable {ρ:Type} {P:Program} {Θ:pp} {S:TS}
theorem NJ (hΘ:gC P Θ) {t:TypeId} {x y:V} {κ:Bool->Option ρ} {r:ρ} (h:R3 Θ t x y κ=some r):
  ∃b,κ b=some r/\((∃k a c,x.av= .sc (.int k a)/\y.av= .sc (.int k c)/\b=(a==c))\/
   ((∀k a k' c,¬ (x.av= .sc (.int k a)/\y.av= .sc (.int k' c)))/\ ∃xv yv,ug x.av=some xv/\ug y.av=some yv/\(∀op xo yo,eD P (eqGuard op t xo yo xv yv)=some ())/\eD P (binOp .eql t xv yv)=some (.bool b)/\eD P (binOp .neq t xv yv)=some (.bool (!b)))):=by
 unfold R3 at h;split at h
 ·rename_i k a k' c;split at h
  ·rename_i hk;subst hk;exact⟨_,h, .inl ⟨k,a,c,rfl,rfl,rfl⟩⟩
  ·cases h
 ·rename_i a c;split at h
  ·rename_i ti hti;split at h
   ·rename_i hb;have hu:=(hΘ _ _ hti).bool hb
    have hE:eD P (Op.equal t (.bool a) (.bool c))=some (a==c):=by show eD P (Op.equalIn (9999+1) t (.bool a) (.bool c))=_;rw[Op.equalIn];simp only[ez,fQ hu,ae,eY]
    refine⟨_,h, .inr ⟨fun k a k' c hc=>by simp[V.av,V1.av,Cl.av,C.av] at hc, .bool a, .bool c,rfl,rfl,fun op xo yo=> ?_,?_,?_⟩⟩
    ·cases op<;>simp[eqGuard,eY]<;>rfl
    ·simp only[binOp,ez,hE,ae,eY]
    ·simp only[binOp,ez,hE,ae,eY]
   ·cases h
  ·cases h
 ·rename_i a c;split at h
  ·rename_i ti hti;obtain⟨h1,h'⟩:=ef h;simp only[ar] at h1;obtain⟨⟨⟨h1,hfl⟩,h2⟩,h3⟩:=h1;split at h'
   ·rename_i b hb;obtain⟨xs,hx⟩:=wJ h2;obtain⟨ys,hy⟩:=wJ h3;have hok:=hΘ _ _ hti;have hE:=hok.eq h1 a c b xs ys h2 h3 hb hx hy;have hg:=hok.gu h1 hfl;refine⟨_,h', .inr ⟨fun k a k' c hc=>by simp[V.av,V1.av] at hc, .agg xs.toArray, .agg ys.toArray,by rw[hx]; exact Lq xs,by rw[hy]; exact Lq ys,fun op xo yo=> ?_,?_,?_⟩⟩
    ·cases op<;>simp[eqGuard,ez,eY,program,eD,hg]
    ·simp only[binOp,ez,hE,ae,eY]
    ·simp only[binOp,ez,hE,ae,eY]
   ·cases h'
  ·cases h
 ·cases h
theorem oO {f:IntKind->Int->Int->Option ρ} {x y:V} {r:ρ} (h:V.ints f x y=some r): ∃k a b,x.av= .sc (.int k a)/\y.av= .sc (.int k b)/\f k a b=some r:=by
 unfold V.ints at h;split at h
 ·split at h
  ·rename_i k a k' b hk;subst hk;exact⟨k,a,b,rfl,rfl,h⟩
  ·cases h
 ·cases h
theorem PE (hΘ:gC P Θ) {D:sE} {op:BinOp} {t t':TypeId} {x y:Operand} {κ:V->Option ρ} {r:ρ} (h:Q9 Θ op t (S.opd x) (S.opd y) κ=some r) {dst:Option Tmp} {ty:TypeId} {pos:String} {aft:Array Edge} {gd:Option (Nat×Bool)}:
  ∃v:V,eh D P S.st ⟨dst, .binOp op t x y t',ty,pos,aft,gd⟩=some v.av/\(∀G,v.ok G)/\κ v=some r:=by
 have eqs: ∀ (b:Bool) (xv yv:Value),ug (opd S.st x)=some xv->ug (opd S.st y)=some yv->eD P (eqGuard op t x y xv yv)=some ()->eD P (binOp op t xv yv)=some (.bool b)->
   eW P S.st ⟨dst, .binOp op t x y t',ty,pos,aft,gd⟩=some (.sc (.bool b)):=by
  intro b xv yv h1 h2 h3 h4;unfold eW;rw[if_pos (by simp[Op.operands,h1,h2])];simp only[execOp,h1,h2,aM,ez,h3,h4,ae,eY,Tf,qT,if_true]
 cases op with
 |lss=>obtain⟨k,a,b,h1,h2,h3⟩:=oO h; exact⟨_,by simp only[eh,eu,h1,h2,if_true]; rfl,fun G=>V.ok_sc G _,h3⟩
 |leq=>obtain⟨k,a,b,h1,h2,h3⟩:=oO h; exact⟨_,by simp only[eh,eu,h1,h2,if_true]; rfl,fun G=>V.ok_sc G _,h3⟩
 |gtr=>obtain⟨k,a,b,h1,h2,h3⟩:=oO h; exact⟨_,by simp only[eh,eu,h1,h2,if_true]; rfl,fun G=>V.ok_sc G _,h3⟩
 |geq=>obtain⟨k,a,b,h1,h2,h3⟩:=oO h; exact⟨_,by simp only[eh,eu,h1,h2,if_true]; rfl,fun G=>V.ok_sc G _,h3⟩
 |add=>obtain⟨k,a,b,h1,h2,h3⟩:=oO h; exact⟨_,by simp only[eh,eu,h1,h2,if_true]; rfl,fun G=>V.ok_sc G _,h3⟩
 |sub=>obtain⟨k,a,b,h1,h2,h3⟩:=oO h; exact⟨_,by simp only[eh,eu,h1,h2,if_true]; rfl,fun G=>V.ok_sc G _,h3⟩
 |mul=>obtain⟨k,a,b,h1,h2,h3⟩:=oO h; exact⟨_,by simp only[eh,eu,h1,h2,if_true]; rfl,fun G=>V.ok_sc G _,h3⟩
 |eql=>
  have h':R3 Θ t (S.opd x) (S.opd y) (fun r=>κ (V.sc (.bool r)))=some r:=h;obtain⟨b,h1,h2⟩:=NJ hΘ h';refine⟨_,?_,fun G=>V.ok_sc G _,h1⟩;rcases h2 with ⟨k,a,c,e1,e2,rfl⟩| ⟨hn,xv,yv,e1,e2,e3,e4,e5⟩
  ·simp only[eh,eu,e1,e2,if_true]; rfl
  ·simp only[eh];split
   ·rename_i k a k' c g1 g2;exact absurd ⟨by rw[<-eu]; exact g1,by rw[<-eu]; exact g2⟩ (hn k a k' c)
   ·exact eqs b xv yv (by rw[eu]; exact e1) (by rw[eu]; exact e2) (e3 _ _ _) e4
 |neq=>
  have h':R3 Θ t (S.opd x) (S.opd y) (fun r=>κ (V.sc (.bool (!r))))=some r:=h;obtain⟨b,h1,h2⟩:=NJ hΘ h';refine⟨_,?_,fun G=>V.ok_sc G _,h1⟩;rcases h2 with ⟨k,a,c,e1,e2,rfl⟩| ⟨hn,xv,yv,e1,e2,e3,e4,e5⟩
  ·simp only[eh,eu,e1,e2,if_true]; rfl
  ·simp only[eh];split
   ·rename_i k a k' c g1 g2;exact absurd ⟨by rw[<-eu]; exact g1,by rw[<-eu]; exact g2⟩ (hn k a k' c)
   ·exact eqs (!b) xv yv (by rw[eu]; exact e1) (by rw[eu]; exact e2) (e3 _ _ _) e5
 |quo=>
  have h':V.ints (fun k a b=>if b=0 then none else κ (V.sc (.int k (k.wrap (a.tdiv b))))) (S.opd x) (S.opd y)=some r:=h;obtain⟨k,a,b,h1,h2,h3⟩:=oO h';split at h3
  ·cases h3
  ·rename_i hb;refine⟨_,?_,fun G=>V.ok_sc G _,h3⟩;have hx:ug (opd S.st x)=some (.int k a):=by rw[eu,h1]; rfl
   have hy:ug (opd S.st y)=some (.int k b):=by rw[eu,h2]; rfl
   simp only[eh];unfold eW;rw[if_pos (by simp[Op.operands,hx,hy])]
   have e:eD P (binOp .quo t (.int k a) (.int k b))=some (.int k (k.wrap (a.tdiv b))):=by simp only[binOp,ne_eq,not_true,if_false,Op.intDiv,if_neg hb,eY]
   have e2:eD P (execOp (fun x=>(ug (opd S.st x)).getD undef) ⟨dst, .binOp .quo t x y t',ty,pos,aft,gd⟩)=some (.value (.int k (k.wrap (a.tdiv b)))):=by show eD P (do pure (Next.value (<-(do eqGuard .quo t x y ((ug (opd S.st x)).getD undef) ((ug (opd S.st y)).getD undef); binOp .quo t ((ug (opd S.st x)).getD undef) ((ug (opd S.st y)).getD undef)))))=_;rw[hx,hy];have g:eD P (eqGuard .quo t x y (.int k a) (.int k b))=some ():=rfl;simp only[ez,aM,g,e,ae,eY]
   rw[e2];rfl
 |rem=>
  have h':V.ints (fun k a b=>if b=0 then none else κ (V.sc (.int k (a.tmod b)))) (S.opd x) (S.opd y)=some r:=h;obtain⟨k,a,b,h1,h2,h3⟩:=oO h';split at h3
  ·cases h3
  ·rename_i hb;refine⟨_,?_,fun G=>V.ok_sc G _,h3⟩;have hx:ug (opd S.st x)=some (.int k a):=by rw[eu,h1]; rfl
   have hy:ug (opd S.st y)=some (.int k b):=by rw[eu,h2]; rfl
   simp only[eh];unfold eW;rw[if_pos (by simp[Op.operands,hx,hy])]
   have e:eD P (binOp .rem t (.int k a) (.int k b))=some (.int k (a.tmod b)):=by simp only[binOp,ne_eq,not_true,if_false,Op.intDiv,if_neg hb,eY]
   have e2:eD P (execOp (fun x=>(ug (opd S.st x)).getD undef) ⟨dst, .binOp .rem t x y t',ty,pos,aft,gd⟩)=some (.value (.int k (a.tmod b))):=by show eD P (do pure (Next.value (<-(do eqGuard .rem t x y ((ug (opd S.st x)).getD undef) ((ug (opd S.st y)).getD undef); binOp .rem t ((ug (opd S.st x)).getD undef) ((ug (opd S.st y)).getD undef)))))=_;rw[hx,hy];have g:eD P (eqGuard .rem t x y (.int k a) (.int k b))=some ():=rfl;simp only[ez,aM,g,e,ae,eY]
   rw[e2];rfl
 | _=>simp[Q9] at h
end
end
section
open Go
theorem Iv {G:List (Option eL)}: ∀ (l:List V) (cs:List Cl),(∀v∈l,v.ok G)->Ii l=some cs->l.map V.av=cs.map Cl.av/\ ∀c∈cs,c.ok G
 | [],cs,_,h=>by simp only[Ii,af] at h;subst h;exact⟨rfl,fun c hc=>by cases hc⟩
 |v::l,cs,hl,h=>by
  unfold Ii at h;split at h
  ·rename_i heq; cases heq
  ·rename_i c l' heq;cases heq;split at h
   ·rename_i r hr;simp only[af] at h;subst h;obtain⟨h1,h2⟩:=Iv l r (fun v hv=>hl v (aE _ hv)) hr;refine⟨by simp only[aQ,h1]; rfl,fun x hx=> ?_⟩;rcases aR.1 hx with rfl|hx
    ·exact hl _ aI
    ·exact h2 x hx
   ·cases h
  ·cases h
section
variable {ρ:Type} {P:Program} {Θ:pp} {S:TS} {D:sE}
theorem FJ (hΘ:gC P Θ) (hS:S.ok) {o:Oper} {κ:V->TS->Option ρ} {r:ρ} (h:C0 Θ S o κ=some r):
  ∃v S',eh D P S.st o=some v.av/\S'.st=S.st/\S'.ok/\S'.gh=S.gh/\v.ok S.gh/\κ v S'=some r:=by
 have ok: ∀x,(S.opd x).ok S.gh:=fun x=>mG hS x;have done: ∀ {v:V},eh D P S.st o=some v.av->v.ok S.gh->κ v S=some r-> ∃v S',eh D P S.st o=some v.av/\S'.st=S.st/\S'.ok/\S'.gh=S.gh/\v.ok S.gh/\κ v S'=some r:=fun h1 h2 h3=>⟨_,S,h1,rfl,hS,rfl,h2,h3⟩
 obtain⟨dst,op,ty,pos,aft,gd⟩:=o;unfold C0 at h;cases op with
 |move x=>exact done (by simp only[eh,eu]) (ok x) h
 |assign x=>exact done (by simp only[eh,eu]) (ok x) h
 |pick c a b=>
  simp only at h;obtain⟨t,S1,h1,h2,h3,h4,h⟩:=C6 hS h;cases t with
  |true=>exact⟨_,S1,by simp only[eh,h1,if_true]; rw[<-h2,eu],h2,h3,h4,by rw[<-h4]; exact mG h3 _,h⟩
  |false=>exact⟨_,S1,by simp only[eh,h1,aY,if_false]; rw[<-h2,eu],h2,h3,h4,by rw[<-h4]; exact mG h3 _,h⟩
 |load t a=>simp only at h;obtain⟨u,h1,h2,h⟩:=Iu hΘ hS (ok a) h;exact done (by simp only[eh,eu]; exact h1) h2 h
 |nilCheck x=>
  simp only at h;split at h<;>rename_i hx
  ·exact done (by simp only[eh,eu,hx]; rfl) (by rw[<-hx]; exact ok x) h
  ·exact done (by simp only[eh,eu,hx]; rfl) (by rw[<-hx]; exact ok x) h
  ·exact done (by simp only[eh,eu,hx]; rfl) (by rw[<-hx]; exact ok x) h
  ·exact done (by simp only[eh,eu,hx]; rfl) (by rw[<-hx]; exact ok x) h
  ·exact done (by simp only[eh,eu,hx]; rfl) (by rw[<-hx]; exact ok x) h
  ·cases h
 |fieldAddr t x k=>
  simp only at h;split at h
  ·rename_i ti hti;split at h
   ·rename_i off n ag hk;have hfd:=(hΘ _ _ hti).fd k;rw[hk] at hfd;cases hn:Nat.beq n 0 with
    |true=>rw[hn] at h; cases h
    |false=>
     rw[hn] at h;have hn': ¬n=0:=by intro h0; subst h0; cases hn
     simp only[cond_false] at h;split at h<;>rename_i hx
     ·refine done ?_ ?_ h
      ·simp only[eh,hfd,ae,eu,hx];rw[if_neg hn'];rfl
      ·trivial
     ·refine done ?_ ?_ h
      ·simp only[eh,hfd,ae,eu,hx];rw[if_neg hn'];rfl
      ·have:=ok x;rw[hx] at this;exact this
     ·refine done ?_ ?_ h
      ·simp only[eh,hfd,ae,eu,hx];rw[if_neg hn'];simp[V.av,V1.av,Cl.av,bR]
      ·trivial
     ·cases h
   ·cases h
  ·cases h
 |field t x k=>
  simp only at h;split at h
  ·rename_i ti hti;split at h
   ·rename_i off n ag hk;have hfd:=(hΘ _ _ hti).fd k;rw[hk] at hfd;split at h
    ·rename_i cs hx;obtain⟨h1,h⟩:=ef h;simp only[ar] at h1;have h2:off+n<=cs.length:=az h1.1;have h3:0<n:=az h1.2;have hcs:=ok x;rw[hx] at hcs;obtain⟨v,h4,h5,h⟩:=NI (G:=S.gh) (fun c hc=>hcs c (bV (cn hc))) h;refine done ?_ h5 h;simp only[eh,hfd,ae,eu,hx,V.av,V1.av,aD];rw[if_pos ⟨h2,h3⟩,<-bR,<-bO];exact h4
    ·cases h
   ·cases h
  ·cases h
 |indexAddr t x ix=>
  simp only at h;split at h
  ·rename_i ti hti;split at h
   ·rename_i e he;obtain⟨el,g1,g2,_⟩:=(hΘ _ _ hti).el e he;obtain⟨i,h1,h⟩:=yZ h;split at h
    ·rename_i a hx;have ha:=ok x;rw[hx] at ha;obtain⟨c,h2,h3,h⟩:=PB ha h;refine done ?_ ?_ h
     ·simp only[eh,g1,ae,eu,h1,hx,g2];exact h2
     ·exact h3
    ·cases h
   ·cases h
  ·cases h
 |build t parts=>
  simp only at h;split at h
  ·rename_i ti hti;obtain⟨h1,h⟩:=ef h;split at h
   ·rename_i cs hcs;have hok:=hΘ _ _ hti
    obtain⟨g1,g2⟩:=PD (G:=S.gh) _ _ _ _ (fun c hc=>by
     obtain⟨v,_,rfl⟩:=aL.1 hc;exact Ln _ _) (fun y hy=>by
     obtain⟨z,_,rfl⟩:=aL.1 hy;exact ok z.2) hcs
    refine done ?_ ?_ h
    ·simp only[eh,hok.pl h1,hok.ze,ae]
     have e1:ti.ty.zvs.map Ce=(ti.ty.zvs.map cC).map Cl.av:=by rw[bu];exact aJ fun v _=>(qO v).symm
     have e2:parts.toList.map (fun x=>(x.1,opd S.st x.2))=(parts.toList.map fun x=>(x.1,S.opd x.2)).map fun x=>(x.1,x.2.av):=by rw[bu];exact aJ fun x _=>by simp[eu]
     rw[e1,e2,g1];rfl
    ·exact g2
   ·cases h
  ·cases h
 |slice t x lo hi mx=>
  cases mx with
  |some m=>simp at h
  |none=>
   simp only at h;split at h
   ·rename_i ti hti;split at h
    ·rename_i e he;obtain⟨el,g1,g2,_⟩:=(hΘ _ _ hti).el e he;split at h
     ·rename_i a hx;have ha:=ok x;rw[hx] at ha;obtain⟨n,h1,h⟩:=Lo ha h;obtain⟨l,h2,h⟩:=FI h;obtain⟨m,h3,h⟩:=FI h;obtain⟨c,h4,h5,h⟩:=PC ha h;refine done ?_ ?_ h
      ·simp only[eh,eu,hx];split
       ·rename_i s hs;have hs':a.av= .sc (.string s):=hs;rw[hs'] at h1;cases h1
       ·show (w6 P t).bind _=_;rw[g1];simp only[ae];show (uL a.av).bind _=_;rw[h1];simp only[ae,h2,h3,g2];exact h4
      ·exact h5
     ·cases h
    ·cases h
   ·cases h
 |extract x k=>
  simp only at h;split at h
  ·rename_i vs hx;split at h
   ·rename_i v hv;have hvs:=ok x;rw[hx] at hvs;rw[fZ] at hv;refine done ?_ ?_ h
    ·simp only[eh,eu,hx,V.av,ap,hv,aB]
    ·exact hvs v (aq hv)
   ·cases h
  ·cases h
 |makeFunc fn first caps=>
  cases fn with
  |func f=>
   simp only at h;obtain⟨h1,h⟩:=ef h;split at h
   ·rename_i cs hcs
    obtain⟨g1,g2⟩:=Iv (G:=S.gh) _ _ (fun v hv=>by obtain⟨y,_,rfl⟩:=aL.1 hv;exact ok y) hcs
    refine done ?_ ?_ h
    ·simp only[eh,h1,if_true]
     have e:caps.toList.map (opd S.st)=(caps.toList.map S.opd).map V.av:=by rw[bu];exact aJ fun x _=>eu x
     rw[e,g1];rfl
    ·exact g2
   ·cases h
  | _=>simp at h
 |unOp op t x=>
  cases op with
  |not=>
   simp only at h;split at h
   ·rename_i b hx;refine done ?_ ?_ h
    ·simp only[eh,eu,hx]; rfl
    ·trivial
   ·cases h
  | _=>simp at h
 |binOp op t x y t'=>simp only at h;obtain⟨v,h1,h2,h⟩:=PE (D:=D) (t':=t') (dst:=dst) (ty:=ty) (pos:=pos) (aft:=aft) (gd:=gd) hΘ h;exact done h1 (h2 _) h
 |call c=>
  obtain⟨cl,as,ts⟩:=c;cases cl with
  |value f=>simp at h
  |invoke a b=>simp at h
  |builtin b=>
   cases b with
   |cap=>
    simp only at h;split at h
    ·rename_i x t e1 e2;split at h
     ·rename_i ti hti;split at h
      ·rename_i e he;obtain⟨el,g1,g2,_⟩:=(hΘ _ _ hti).el e he;split at h
       ·rename_i hx;refine done ?_ ?_ h
        ·simp only[eh,e1,e2,g1,Option.isSome_some,if_true,eu,hx];rfl
        ·trivial
       ·cases h
      ·cases h
     ·cases h
    ·cases h
   |len=>
    simp only at h;split at h
    ·rename_i x t e1 e2;split at h
     ·rename_i ti hti;split at h
      ·rename_i e he;obtain⟨el,g1,g2,_⟩:=(hΘ _ _ hti).el e he;split at h
       ·rename_i a hx;have ha:=ok x;rw[hx] at ha;obtain⟨n,h1,h⟩:=Lo ha h;refine done ?_ ?_ h
        ·simp only[eh,e1,e2,g1,Option.isSome_some,if_true,eu,hx];show (uL a.av).map _=_;rw[h1];rfl
        ·trivial
       ·cases h
      ·cases h
     ·cases h
    ·cases h
   |max=>
    simp only at h;split at h
    ·rename_i x y e1;obtain⟨k,a,b,h1,h2,h⟩:=oO h;refine done ?_ (V.ok_sc _ _) h;simp only[eh,e1,aQ,ck,eu,h1,h2];rfl
    ·cases h
   |min=>
    simp only at h;split at h
    ·rename_i x y e1;obtain⟨k,a,b,h1,h2,h⟩:=oO h;refine done ?_ (V.ok_sc _ _) h;simp only[eh,e1,aQ,ck,eu,h1,h2];rfl
    ·cases h
   | _=>simp at h
 |convert s d x=>
  simp only at h;split at h
  ·rename_i si di hs hd;split at h
   ·rename_i k' hk;split at h
    ·rename_i k n hx;refine done ?_ (V.ok_sc _ _) h;have hud:=(hΘ _ _ hd).int _ hk
     obtain⟨ds,hus⟩: ∃ds,P.underlying s=some ds:=by
      have:=(hΘ _ _ hs).ag;unfold El at this;cases hu:P.underlying s with
      |none=>rw[hu] at this; cases this
      |some ds=>exact⟨ds,rfl⟩
     have hxv:ug (opd S.st x)=some (.int k n):=by rw[eu,hx]; rfl
     simp only[eh];unfold eW;rw[if_pos (by simp[Op.operands,hxv])]
     have e:eD P (Go.convert s d (.int k n))=some (.int k' (k'.wrap n)):=by unfold Go.convert;simp only[ez,fQ hus,fQ hud,ae];cases ds<;>rfl
     have e2:eD P (execOp (fun x=>(ug (opd S.st x)).getD undef) ⟨dst, .convert s d x,ty,pos,aft,gd⟩)=some (.value (.int k' (k'.wrap n))):=by show eD P (do pure (Next.value (<-Go.convert s d ((ug (opd S.st x)).getD undef))))=_;rw[hxv];simp only[ez,aM,e,ae,eY]
     rw[e2];rfl
    ·cases h
   ·cases h
  ·cases h
 |index t x ix=>
  simp only at h;split at h
  ·rename_i ti hti;split at h
   ·rename_i hs;split at h
    ·rename_i s k i hx hi;unfold dU at h;split at h
     ·rename_i h0;obtain⟨b,hb,h⟩:=aj.1 h;refine done ?_ (V.ok_sc _ _) h
      have hus:P.underlying t=some .string:=by
       have:=(hΘ _ _ hti).str;rw[hs] at this;unfold F4 at this;split at this
       ·assumption
       ·cases this
      have hxv:ug (opd S.st x)=some (.string s):=by rw[eu,hx]; rfl
      have hiv:ug (opd S.st ix)=some (.int k i):=by rw[eu,hi]; rfl
      have hxa:opd S.st x= .sc (.string s):=by rw[eu,hx]; rfl
      simp only[eh,hxa];unfold eW;rw[if_pos (by simp[Op.operands,hxv,hiv])]
      have e:eD P (Instr.index t (.string s) (.int k i))=some (.int .u8 b.toNat):=by unfold Instr.index;simp only[ez,asIntOf,eY,ae,fQ hus];rw[if_pos h0,hb];rfl
      have e2:eD P (execOp (fun x=>(ug (opd S.st x)).getD undef) ⟨dst, .index t x ix,ty,pos,aft,gd⟩)=some (.value (.int .u8 b.toNat)):=by show eD P (do pure (Next.value (<-Instr.index t ((ug (opd S.st x)).getD undef) ((ug (opd S.st ix)).getD undef))))=_;rw[hxv,hiv];simp only[ez,aM,e,ae,eY]
      rw[e2];rfl
     ·cases h
    ·cases h
   ·cases h
  ·cases h
 | _=>simp at h
end
end
section
open Go
theorem mH {G:List (Option eL)} {x:Option eL} (r:Nat):fA (G++ [x]) r=if r=G.length then x else fA G r:=by
 unfold fA;rw[fZ,fZ];by_cases h:r=G.length
 ·subst h; simp
 ·rw[if_neg h];rcases ce r G.length with h'|h'
  ·rw[aK h']
  ·rw[bM (by simp; omega),bM h']
theorem Ah {G:List (Option eL)} (l:List eL) (r:Nat):fA (G++l.map some) r=if G.length<=r then l[r-G.length]? else fA G r:=by
 unfold fA;rw[fZ,fZ];by_cases h:G.length<=r
 ·rw[if_pos h,aN h,ap];cases l[r-G.length]?<;>rfl
 ·rw[if_neg h,aK (by omega)]
theorem wK {G:List (Option eL)} {r:Nat} (h:G.length<=r):fA G r=none:=by unfold fA;rw[fZ,bM h];rfl
theorem uu {G:List (Option eL)} {r:Nat} {tr:eL} (h:fA G r=some tr):r<G.length:=by
 rcases ce r G.length with h'|h'
 ·exact h'
 ·rw[wK h'] at h; cases h
theorem qi {G:List (Option eL)} {x:Option eL} (q r:Nat) (hq:q<G.length\/x=none):fA (fK G q x) r=if r=q then x else fA G r:=by
 unfold fA;rw[fZ,fZ,it,bG];by_cases h:q=r
 ·subst h;simp only[if_true];rcases hq with hq|rfl
  ·rw[if_pos hq]; rfl
  ·split<;>rfl
 ·rw[if_neg h,if_neg (fun e=>h e.symm)]
theorem jd.app (G:List (Option eL)) (x:Option eL):jd G (G++ [x]):=⟨by simp,fun r tr hr h=>by rw[mH,if_neg (by omega)] at h;exact⟨tr,h,rfl⟩⟩
theorem jd.apps (G:List (Option eL)) (l:List eL):jd G (G++l.map some):=⟨by simp,fun r tr hr h=>by rw[Ah,if_neg (by omega)] at h;exact⟨tr,h,rfl⟩⟩
theorem jd.gone (G:List (Option eL)) (q:Nat):jd G (fK G q none):=⟨by rw[it]; simp,fun r tr hr h=>by
 rw[qi q r (.inr rfl)] at h;split at h
 ·cases h
 ·exact⟨tr,h,rfl⟩⟩
theorem jd.put {G:List (Option eL)} {q:Nat} {tr tr':eL} (h:fA G q=some tr) (hl:tr'.l.length=tr.l.length):jd G (fK G q (some tr')):=⟨by rw[it]; simp,fun r t hr h'=>by
 rw[qi q r (.inl (uu h))] at h';split at h'
 ·rename_i hq;subst hq;cases h';exact⟨tr,h,hl.symm⟩
 ·exact⟨t,h',rfl⟩⟩
theorem TS.ok_gh {S:TS} (hS:S.ok) {G:List (Option eL)} (hG:jd S.gh G): ({ S with gh:=G }:TS).ok:=
 ⟨fun x hx=>V.ok_mono hG (hS.env x hx),fun cs hcs c hc=>Cl.ok_mono hG (hS.bx cs hcs c hc)⟩
theorem C7 (S:TS) (x:eL): ({ S with gh:=S.gh++ [some x] }:TS).st= { S.st with gh:=eV S.st.gh S.gh.length (some x.tree),ng:=S.gh.length+1 } :=by
 unfold TS.st;simp only[be,ch]
 congr 1
 funext r
 rw[mH];unfold eV;split<;>rfl
theorem za (S:TS) (q:Nat): ({ S with gh:=fK S.gh q none }:TS).st= { S.st with gh:=eV S.st.gh q none } :=by
 unfold TS.st;simp only;have : (fK S.gh q none).length=S.gh.length:=by rw[it]; simp
 rw[this]
 congr 1
 funext r
 rw[qi q r (.inr rfl)];unfold eV;split<;>rfl
theorem Ai (S:TS) {q:Nat} (x:eL) (hq:q<S.gh.length): ({ S with gh:=fK S.gh q (some x) }:TS).st= { S.st with gh:=eV S.st.gh q (some x.tree) } :=by
 unfold TS.st;simp only;have : (fK S.gh q (some x)).length=S.gh.length:=by rw[it]; simp
 rw[this]
 congr 1
 funext r
 rw[qi q r (.inl hq)];unfold eV;split<;>rfl
theorem Kj (S:TS) (cs:List Cl): ({ S with bx:=S.bx++ [cs] }:TS).st= { S.st with bx:=eV S.st.bx S.bx.length (some (cs.map Cl.av)),nb:=S.bx.length+1 } :=by
 unfold TS.st;simp only[be,ch]
 congr 1
 funext n
 unfold eV;simp only[fZ];by_cases h:n=S.bx.length
 ·subst h; simp
 ·rw[if_neg h];rcases ce n S.bx.length with h'|h'
  ·rw[aK h']
  ·rw[bM (by simp; omega),bM h']
theorem Ml (S:TS) {b:Nat} (cs:List Cl) (hb:b<S.bx.length): ({ S with bx:=fK S.bx b cs }:TS).st= { S.st with bx:=eV S.st.bx b (some (cs.map Cl.av)) } :=by
 unfold TS.st;have : (fK S.bx b cs).length=S.bx.length:=by rw[it]; simp
 simp only;rw[this]
 congr 1
 funext n
 unfold eV;simp only[fZ];rw[it,bG];by_cases h:b=n
 ·subst h; simp[hb]
 ·rw[if_neg h,if_neg (fun e=>h e.symm)]
theorem NK (t:Ty): (t.zvs.map cC).map Cl.av=t.zvs.map Em:=by
 cases t with
 |st n=>cases n<;>rfl
 | _=>rfl
theorem NL (G:List (Option eL)) (t:Ty): ∀c∈t.zvs.map cC,c.ok G:=fun c hc=>by obtain⟨v,_,rfl⟩:=aL.1 hc;exact Ln _ _
def vx (P:Program) (g:FuncId) (args:List V1) (b:Bool) (res:V) (out:List eL):Prop:=
 ∃ (t:Ty) (x:t.D) (as:List V1),args=Ip t x::as/\nu P g ((C5 t x 0).av::as.map V1.av) ((nw (t.flat x)).map eL.tree) (bif b then (nw (t.flat x)).length else 0) res.av (out.map eL.tree)
structure A9 (P:Program) (f:Nat) (args:List V1) (res:V) (out:List eL):Prop where
 fn:f<jE->s8 P f (args.map V1.av) [] res.av (out.map eL.tree)
 io: ∀g,f=Ad g->g<jE->vx P g args true res out
 mv: ∀g,f=Ij g->vx P g args false res out
theorem NM (g:Nat): ¬Ad g<jE:=Nat.not_lt.2 (dG jE g)
theorem Lr (g:Nat): ¬Ij g<jE:=Nat.not_lt.2 (bI (dG jE jE) (dG FG g))
theorem NN {g g':Nat} (hg:g<jE):Ad g≠Ij g':=fun h=>by have h1:Ad g<FG:=Nat.add_lt_add_right hg jE;rw[h] at h1;exact Nat.not_lt.2 (dG FG g') h1
theorem A9.of_fn {P:Program} {f:Nat} {args:List V1} {res:V} {out:List eL} (h:s8 P f (args.map V1.av) [] res.av (out.map eL.tree)) (hf:f<jE):A9 P f args res out:=
 ⟨fun _=>h,fun g e _=>absurd (e ▸ hf) (NM g),fun g e=>absurd (e ▸ hf) (Lr g)⟩
theorem A9.of_io {P:Program} {g:Nat} {args:List V1} {res:V} {out:List eL} (h:vx P g args true res out) (hg:g<jE):A9 P (Ad g) args res out:=
 ⟨fun h'=>absurd h' (NM g),fun g' e _=>by rw[<-Nat.add_right_cancel (e:g+jE=g'+jE)]; exact h,fun g' e=>absurd e (NN hg)⟩
theorem A9.of_mv {P:Program} {g:Nat} {args:List V1} {res:V} {out:List eL} (h:vx P g args false res out):A9 P (Ij g) args res out:=
 ⟨fun h'=>absurd h' (Lr g),fun g' e hg=>absurd e.symm (NN hg),fun g' e=>by rw[<-Nat.add_right_cancel (e:g+FG=g'+FG)]; exact h⟩
theorem vx.get {P:Program} {g:FuncId} {el:Ty} {l:List el.D} {as:List V1} {b:Bool} {res:V} {out:List eL} (h:vx P g (.cl (.c (.ls el l))::as) b res out):nu P g (.own ⟨0,[]⟩ el.width 0 l.length::as.map V1.av) [.sl el.width (l.map el.row)] (bif b then 1 else 0) res.av (out.map eL.tree):=by
 obtain⟨t,x,as',he,h⟩:=h;simp only[bB] at he;obtain⟨he,rfl⟩:=he;cases t with
 |ls el'=>have he':V1.cl (.c (.ls el l))= .cl (.c (.ls el' x)):=he;cases he';exact h
 |st n=>cases n<;>cases he
 | _=>cases he
theorem vx.getA {P:Program} {g:FuncId} {ys:List C} {as:List V1} {res:V} {out:List eL} (h:vx P g (.agg (ys.map .c)::as) true res out):nu P g (.agg ((vk ys 0).map Cl.av)::as.map V1.av) ((nw ys).map eL.tree) (nw ys).length res.av (out.map eL.tree):=by
 obtain⟨t,x,as',he,h⟩:=h;simp only[bB] at he;obtain⟨he,rfl⟩:=he;cases t with
 |st n=>
  have he':V1.agg (ys.map Cl.c)= .agg ((n.flat x).map Cl.c):=he;simp only[V1.agg.injEq] at he'
  have :ys=n.flat x:=by
   have hi: ∀ (l m:List C),l.map Cl.c=m.map Cl.c->l=m:=by
    intro l
    induction l with
    |nil=>intro m hm; cases m with |nil=>rfl|cons a m=>cases hm
    |cons a l ih=>
     intro m hm;cases m with
     |nil=>cases hm
     |cons b m=>simp only[aQ,bB,Cl.c.injEq] at hm;rw[hm.1,ih m hm.2]
   exact hi _ _ he'
  subst this;exact h
 | _=>cases he
def mJ (P:Program) (Y:yX):Prop:= ∀f args ρ κ r,Y f args ρ κ=some r-> ∃res out,A9 P f args res out/\res.ok (out.map some)/\κ res out=some r
section
variable {ρ:Type} {P:Program} {Θ:pp} {S:TS}
theorem Gx {α β:Type} {f:α->(β->Option ρ)->Option ρ} {R:α->β->Prop} (hf: ∀a κ r,f a κ=some r-> ∃b,R a b/\κ b=some r):
  ∀ (l:List α) (κ:List β->Option ρ) (r:ρ),C1 f l κ=some r-> ∃bs,l.length=bs.length/\(∀ (k:Nat) (a:α) (b:β),l[k]? =some a->bs[k]? =some b->R a b)/\κ bs=some r:=by
 intro l
 induction l with
 |nil=>intro κ r h; exact⟨[],rfl,fun k a b ha=>by simp at ha,h⟩
 |cons a l ih=>
  intro κ r h;obtain⟨b,h1,h⟩:=hf a _ r h;obtain⟨bs,h2,h3,h⟩:=ih _ r h;refine⟨b::bs,by simp[h2],fun k x y hx hy=> ?_,h⟩;cases k with
  |zero=>simp at hx hy; subst hx hy; exact h1
  |succ k=>exact h3 k x y (by simpa using hx) (by simpa using hy)
theorem NP {α β γ:Type} {f:α->γ} {g:β->γ} {l:List α} {bs:List β} (h1:l.length=bs.length) (h2: ∀ (k:Nat) (a:α) (b:β),l[k]? =some a->bs[k]? =some b->f a=g b):l.map f=bs.map g:=by
 apply bN;intro k;rw[ap,ap];cases ha:l[k]? with
 |none=>rw[List.getElem?_eq_none_iff] at ha;rw[bM (by omega)];rfl
 |some a=>have:=(ai.1 ha).1;rw[ah (by omega:k<bs.length)];simp only[aB];rw[h2 k a _ ha (ah (by omega))]
theorem vy {p:eT} {sz lo len:Nat} {t:Ty} {l:List t.D} (hc: (Cl.own p sz lo len true).ok S.gh) (h:p.l= [] ->fA S.gh p.r=some ⟨t,l,none⟩):p.l= [] /\lo=0/\len=l.length:=by obtain⟨_,h2⟩:=hc;obtain⟨a,b,c⟩:=h2 rfl;exact⟨a,b,c _ (h a)⟩
theorem C8 (hS:S.ok) {et:Option Ty} {c:Cl} (hc:c.ok S.gh) {κ:Cl->Option ρ} {r:ρ} (h:Mh S et c κ=some r): ∃c',(∀sz,(∀t,et=some t->sz=t.width)->gn S.st sz c.av=c'.av)/\κ c'=some r:=by
 unfold Mh at h;split at h
 ·rename_i x;exact⟨_,fun sz _=>by cases x<;>rfl,h⟩
 ·split at h
  ·rename_i t;exact⟨_,fun sz hsz=>by rw[hsz t rfl]; rfl,h⟩
  ·cases h
 ·rename_i p sz lo len;obtain⟨t,l,h1,h2,h⟩:=gY h;obtain⟨h3,h⟩:=ef h;have h3:t.width=sz:=au h3;obtain⟨h4,h5,h6⟩:=vy hc h2;refine⟨_,fun sz' _=> ?_,h⟩;simp only[Cl.av,gn,<-h3,mn h1,h5,h6,aV,aD,ay,if_true,bJ,C.av];rw[bf (by simp)]
 ·rename_i p sz lo len;obtain⟨t,l,h1,h2,h⟩:=gY h;obtain⟨h3,h⟩:=ef h;have h3:t.width=sz:=au h3;obtain⟨h4,h⟩:=fO h;refine⟨_,fun sz' _=> ?_,h⟩;simp only[Cl.av,gn,<-h3,mn h1,aD,h4,if_true,C.av];simp[bO,bR]
 ·exact⟨_,fun _ _=>rfl,h⟩
 ·rename_i p sz i j;obtain⟨t,l,h1,h2,h⟩:=gY h;obtain⟨h3,h⟩:=ef h;have h3:t.width=sz:=au h3;obtain⟨x,hx,h⟩:=aj.1 h;refine⟨_,fun sz' _=> ?_,h⟩;simp only[Cl.av,gn,<-h3,mn h1];have e1: (l.map t.row).getD i [] =t.row x:=by simp[aw,hx]
  rw[e1,t.row_flat,bR]
 ·rename_i b j;split at h
  ·rename_i cs hcs
   obtain⟨bs,h1,h2,h⟩:=Gx (R:=fun (c:Cl) (x:C)=>c.ok S.gh->T.ofAV S.st 0 c.av=x.tree) (fun c κ r h=>by
    split at h
    ·rename_i x;exact⟨x,fun _=>by cases x<;>rfl,h⟩
    ·rename_i p sz lo len;obtain⟨t,l,h1,h2,h⟩:=gY h;obtain⟨h3,h⟩:=ef h;have h3:t.width=sz:=au h3;refine⟨_,fun hc=> ?_,h⟩;obtain⟨h4,h5,h6⟩:=vy hc h2;simp only[Cl.av,T.ofAV,<-h3,mn h1,h5,h6,aV,aD,ay,if_true,bJ,C.tree];rw[bf (by simp)]
    ·cases h) _ _ _ h
   refine⟨_,fun sz _=> ?_,h⟩;simp only[Cl.av,gn,TS.st,hcs,aB];rw[<-bR,bu]
   congr 1
   refine NP h1 (fun k a b ha hb=>h2 k a b ha hb ?_);rw[fZ] at hcs;exact hS.bx cs (aq hcs) a (bV (aq ha))
  ·cases h
 ·exact⟨_,fun _ _=>rfl,h⟩
theorem PF (hS:S.ok): ∀ (ets:List (Option Ty)) (cs:List Cl) (κ:List Cl->Option ρ) (r:ρ),(∀c∈cs,c.ok S.gh)->Pv S ets cs κ=some r->
  ∃cs',ets.length=cs.length/\List.zipWith (gn S.st) (ets.map fun |some e=>e.width|none=>0) (cs.map Cl.av)=cs'.map Cl.av/\κ cs'=some r:=by
 intro ets
 induction ets with
 |nil=>
  intro cs κ r hcs h;cases cs with
  |nil=>exact⟨[],rfl,rfl,h⟩
  |cons c cs=>cases h
 |cons et ets ih=>
  intro cs κ r hcs h;cases cs with
  |nil=>cases h
  |cons c cs=>unfold Pv at h;obtain⟨c',h1,h⟩:=C8 hS (hcs c aI) h;obtain⟨cs',h2,h3,h⟩:=ih cs _ r (fun x hx=>hcs x (aE _ hx)) h;refine⟨c'::cs',by simp[h2],?_,h⟩;simp only[aQ,List.zipWith_cons_cons,h3];rw[h1];intro t ht;subst ht;rfl
theorem NQ (hΘ:gC P Θ) (hS:S.ok) {t:TypeId} {v:V} (hv:v.ok S.gh) {κ:V1->Option ρ} {r:ρ} (h:Tv Θ S t v κ=some r): ∃v1:V1,kF S.st (pn P 9 t) v.av=v1.av/\κ v1=some r:=by
 unfold Tv at h;split at h
 ·cases h
 ·rename_i f cs
  obtain⟨bs,h1,h2,h⟩:=Gx (R:=fun (c c':Cl)=>c.ok S.gh->gn S.st 0 c.av=c'.av) (fun c κ r h=>by
   by_cases hc:c.ok S.gh
   ·obtain⟨c',h1,h⟩:=C8 hS hc h;exact⟨c',fun _=>h1 0 (fun t ht=>by cases ht),h⟩
   ·have : ∃c',κ c'=some r:=by
     unfold Mh at h;split at h
     ·exact⟨_,h⟩
     ·cases h
     ·obtain⟨t,l,_,_,h⟩:=gY h; exact⟨_,(ef h).2⟩
     ·obtain⟨t,l,_,_,h⟩:=gY h; exact⟨_,(fO (ef h).2).2⟩
     ·exact⟨_,h⟩
     ·obtain⟨t,l,_,_,h⟩:=gY h; obtain⟨x,_,h⟩:=aj.1 (ef h).2; exact⟨_,h⟩
     ·split at h
      ·obtain⟨bs,_,_,h⟩:=Gx (R:=fun _ _=>True) (fun c κ r h=>by
        split at h
        ·exact⟨_,trivial,h⟩
        ·obtain⟨t,l,_,_,h⟩:=gY h; exact⟨_,trivial,(ef h).2⟩
        ·cases h) _ _ _ h
       exact⟨_,h⟩
      ·cases h
     ·exact⟨_,h⟩
    obtain⟨c',h⟩:=this;exact⟨c',fun hc'=>absurd hc' hc,h⟩) _ _ _ h
  refine⟨_,?_,h⟩;simp only[V.av,V1.av,kF,bu]
  congr 1
  exact NP h1 (fun k a b ha hb=>h2 k a b ha hb (hv a (aq ha)))
 ·rename_i cs;split at h
  ·rename_i ti hti;obtain⟨cs',h1,h2,h⟩:=PF hS _ _ _ _ hv h;refine⟨_,?_,h⟩;have e: (ti.ty.csh.map fun |some e=>e.width|none=>0)=ti.ty.shs:=rfl;simp only[V.av,V1.av,kF,(hΘ _ _ hti).sh];rw[if_pos (by rw[<-e]; simpa using h1),<-e,h2]
  ·cases h
 ·exact⟨_,rfl,h⟩
 ·rename_i c hne
  have gA: ∀ (szs:List Nat),kF S.st szs (V.v (.cl c)).av=gn S.st (szs.headD 0) c.av:=by
   intro szs;cases c with
   |c x=>cases x<;>rfl
   |em=>exact absurd rfl hne
   | _=>rfl
  split at h
  ·rename_i ti hti;obtain⟨c',h1,h⟩:=C8 hS hv h;refine⟨_,?_,h⟩;rw[gA];refine h1 _ (fun t ht=> ?_);rw[(hΘ _ _ hti).sh];unfold Ty.shs;cases hc:ti.ty.csh with
   |nil=>rw[hc] at ht; cases ht
   |cons a l=>rw[hc] at ht;simp only[List.headD_cons] at ht;subst ht;rfl
  ·obtain⟨c',h1,h⟩:=C8 hS hv h;exact⟨_,by rw[gA]; exact h1 _ (fun t ht=>by cases ht),h⟩
theorem tL (hΘ:gC P Θ) (hS:S.ok): ∀ (ts:List TypeId) (as:List Operand) (κ:List V1->Option ρ) (r:ρ),tH Θ S ts as κ=some r->
  ∃vs:List V1,List.zipWith (fun t a=>kF S.st (pn P 9 t) (opd S.st a)) ts as=vs.map V1.av/\κ vs=some r:=by
 intro ts
 induction ts with
 |nil=>
  intro as κ r h;cases as with
  |nil=>exact⟨[],rfl,h⟩
  |cons a as=>cases h
 |cons t ts ih=>
  intro as κ r h;cases as with
  |nil=>cases h
  |cons a as=>unfold tH at h;obtain⟨v,h1,h⟩:=NQ hΘ hS (mG hS a) h;obtain⟨vs,h2,h⟩:=ih as _ r h;exact⟨v::vs,by rw[List.zipWith_cons_cons,h2,eu,h1,aQ],h⟩
end
end
section
open Go
open Classical in
noncomputable def Mm (d:Option Tmp) (g:FuncId) (args:List AV) (res:AV×List T):sE:=fun d' g' a' gs'=>if d'=d/\g'=g/\a'=args/\gs'= [] then some res else none
theorem C9 {P:Program} {d:Option Tmp} {g:FuncId} {args:List AV} {res:AV} {out:List T} (h:s8 P g args [] res out):oL P (Mm d g args (res,out)):=by
 intro d' g' a' gs' r' o' h';unfold Mm at h';split at h'
 ·rename_i hc;obtain⟨rfl,rfl,rfl,rfl⟩:=hc;simp only[af,an] at h';obtain⟨rfl,rfl⟩:=h';exact h
 ·cases h'
theorem Ls (d:Option Tmp) (g:FuncId) (args:List AV) (res:AV×List T):Mm d g args res d g args [] =some res:=by unfold Mm;rw[if_pos ⟨rfl,rfl,rfl,rfl⟩]
def HC:sE:=fun _ _ _ _=>none
theorem jI {P:Program}:oL P HC:=fun _ _ _ _ _ _ h=>by cases h
theorem Mn (n:Nat) (c:Cl): (Gs n c).av=pD n c.av:=by
 cases c with
 |c x=>cases x<;>rfl
 | _=>rfl
theorem Da (n:Nat) (v:V1): (wG n v).av=nq n v.av:=by
 cases v with
 |cl c=>cases c with
  |c x=>cases x<;>rfl
  | _=>rfl
 |agg cs=>
  simp only[wG,V1.av,nq,bu]
  congr 1
  exact aJ fun c _=>Mn n c
 |fn f cs=>rfl
theorem Aj (n:Nat) (v:V): (ut n v).av=oo n v.av:=by
 cases v with
 |v x=>
  have :oo n x.av=nq n x.av:=by
   cases x with
   |cl c=>cases c with
    |c x=>cases x<;>rfl
    | _=>rfl
   | _=>rfl
  show (wG n x).av=oo n x.av;rw[this,Da]
 |tup l=>
  simp only[ut,V.av,oo,bu]
  congr 1
  exact aJ fun c _=>Da n c
theorem FK {G:List (Option eL)} {out:List eL} {c:Cl} (h:c.ok (out.map some)): (Gs G.length c).ok (G++out.map some):=by
 cases c with
 |own p sz lo len w=>obtain⟨h1,h2⟩:=h;refine⟨by simp at h1 ⊢; omega,fun hw=> ?_⟩;obtain⟨a,b,c⟩:=h2 hw;refine⟨a,b,fun tr htr=>c tr ?_⟩;rw[Ah,if_pos (by simp)] at htr;simp only[cy] at htr;unfold fA;rw[fZ,ap,htr];rfl
 |c x=>cases x<;>trivial
 | _=>trivial
theorem Db {G:List (Option eL)} {out:List eL} {v:V1} (h:v.ok (out.map some)): (wG G.length v).ok (G++out.map some):=by
 cases v with
 |cl c=>exact FK h
 |agg cs=>intro c hc;obtain⟨x,hx,rfl⟩:=aL.1 hc;exact FK (h x hx)
 |fn f cs=>trivial
theorem Ak {G:List (Option eL)} {out:List eL} {v:V} (h:v.ok (out.map some)): (ut G.length v).ok (G++out.map some):=by
 cases v with
 |v x=>exact Db h
 |tup l=>intro c hc;obtain⟨x,hx,rfl⟩:=aL.1 hc;exact Db (h x hx)
theorem yc (S:TS) (v:AV) (out:List eL): ({ S with gh:=S.gh++out.map some }:TS).st=(oJ S.st (v,out.map eL.tree)).2:=by
 unfold TS.st oJ;simp only[be,aD]
 congr 1
 funext r
 rw[Ah];by_cases h:S.gh.length<=r
 ·rw[if_pos h];by_cases h2:r<S.gh.length+out.length
  ·rw[if_pos ⟨h,h2⟩,ap]
  ·rw[if_neg (fun hh=>h2 hh.2),bM (by omega),wK h]
 ·rw[if_neg h,if_neg (fun hh=>h hh.1)]
section
variable {ρ:Type} {P:Program} {Θ:pp} {S:TS} {Y:yX}
theorem zb (hS:S.ok): ∀ (caps:List Cl) (κ':List Cl->Option ρ) (r:ρ),(∀c∈caps,c.ok S.gh)->C1 (Mh S none) caps κ'=some r-> ∃cs,(caps.map Cl.av).map (gn S.st 0)=cs.map Cl.av/\κ' cs=some r:=by
 intro caps
 induction caps with
 |nil=>intro κ' r _ h; exact⟨[],rfl,h⟩
 |cons c caps ih=>intro κ' r hc h;unfold C1 at h;obtain⟨c',g1,h⟩:=C8 hS (hc c aI) h;obtain⟨cs,g2,h⟩:=ih _ r (fun x hx=>hc x (aE _ hx)) h;exact⟨c'::cs,by rw[aQ,aQ,g2,g1 0 (fun t ht=>by cases ht),aQ],h⟩
theorem NR (hΘ:gC P Θ) (hY:mJ P Y) (hS:S.ok) {f:Operand} {ts:Array TypeId} {as:Array Operand} {κ:V->TS->Option ρ} {r:ρ} (h:Lj Θ Y S f ts.toList as.toList κ=some r) {dst:Option Tmp} {ty:TypeId} {pos:String} {aft:Array Edge} {gd:Option (Nat×Bool)}:
  ∃D v S',oL P D/\jg D P S.st ⟨dst, .call { callee:= .value f,args:=as,argTypes:=ts },ty,pos,aft,gd⟩=some (V.av v,TS.st S')/\S'.ok/\v.ok S'.gh/\κ v S'=some r:=by
 have fin: ∀ (g:FuncId) (caps:List AV) (vs:List V1),g<jE->callee S.st f=some (g,caps)->args P S.st ts as caps=vs.map V1.av->Y g vs ρ (fun res out=>κ (ut S.gh.length res) { S with gh:=S.gh++out.map some })=some r->
   ∃D v S',oL P D/\jg D P S.st ⟨dst, .call { callee:= .value f,args:=as,argTypes:=ts },ty,pos,aft,gd⟩=some (V.av v,TS.st S')/\S'.ok/\v.ok S'.gh/\κ v S'=some r:=by
  intro g caps vs hg h1 h2 h3;obtain⟨res,out,h4,h5,h6⟩:=hY _ _ _ _ _ h3;have h4:=h4.fn hg;refine⟨Mm dst g (vs.map V1.av) (res.av,out.map eL.tree),_,_,C9 h4,?_,TS.ok_gh hS (jd.apps _ _),Ak h5,h6⟩;simp only[jg,h1,ae,h2];rw[Ls];simp only[aB];rw[yc S res.av out,Aj];rfl
 unfold Lj at h;split at h
 ·rename_i g x y hf;obtain⟨hg,h⟩:=ef h;have hg:g<jE:=az hg;obtain⟨vs,h1,h⟩:=tL hΘ hS _ _ _ _ h;refine fin g [] vs hg ?_ ?_ h
  ·unfold callee;rw[eu,hf];rfl
  ·unfold args;simp only[ck,bw];exact h1
 ·rename_i g caps hf;obtain⟨hg,h⟩:=ef h;have hg:g<jE:=az hg;obtain⟨vs,h1,h⟩:=tL hΘ hS _ _ _ _ h
  have hcaps: ∀c∈caps,c.ok S.gh:=by have:=mG hS f;rw[hf] at this;exact this
  obtain⟨cs,h2,h⟩:=zb hS _ _ _ hcaps h;refine fin g (caps.map Cl.av) (vs++cs.map .cl) hg ?_ ?_ h
  ·unfold callee;rw[eu,hf];rfl
  ·unfold args;rw[h1,h2,bS,bu];rfl
 ·cases h
theorem iu {t t':Ty} {l:List t.D} {l':List t'.D} (h:vw t t' l=some l'): ∃e:t=t',e ▸ l=l':=by
 unfold vw at h;split at h
 ·rename_i e;exact⟨e,Option.some.inj h⟩
 ·cases h
theorem Mo {t:Ty} (h:t.flatB=true) (x:t.D): (t.row x).all T.flat=true:=by
 cases t with
 |st n=>cases n<;>first |rfl|cases h
 |ls t=>cases h
 | _=>rfl
theorem Al (t:Ty): (t.shs.all (· ==0))=t.flatB:=by
 cases t with
 |st n=>cases n<;>rfl
 |ls t=>
  show ((t.width==0)&&true)=false;have:=t.width_pos;cases hw:t.width with
  |zero=>omega
  |succ n=>rfl
 | _=>rfl
theorem wL {t:Ty} (h:t.flatB=true) (l:List t.D): (l.map t.row).all (fun r=>r.all T.flat)=true:=by rw[aA];intro x hx;obtain⟨y,_,rfl⟩:=aL.1 hx;exact Mo h y
theorem PG (hS:S.ok) {el:Ty} {v:Cl} (hv:v.ok S.gh) {κ:List el.D->TS->Option ρ} {r:ρ} (h:NB S el v κ=some r):
  ∃more S',nr S.st el.width el.flatB v.av=some (more.map el.row,S'.st)/\S'.ok/\jd S.gh S'.gh/\S'.gh.length=S.gh.length/\S'.fz=S.fz/\κ more S'=some r:=by
 unfold NB at h;split at h
 ·exact⟨[],S,rfl,hS,jd.refl _,rfl,rfl,h⟩
 ·rename_i t l;obtain⟨h1,h⟩:=ef h;split at h
  ·rename_i l' hl;obtain⟨e,hl⟩:=iu hl;subst e;simp only at hl;subst hl;refine⟨l,S,?_,hS,jd.refl _,rfl,rfl,h⟩;simp only[Cl.av,C.av,nr];rw[if_pos ⟨trivial,wL h1 l⟩]
  ·cases h
 ·rename_i p sz lo len w;obtain⟨h0,h⟩:=ef h;have h0:el.width=sz:=au h0;cases hfl:el.flatB with
  |true=>
   rw[hfl] at h;simp only[cond_true] at h;obtain⟨t,l,h1,h2,h⟩:=gY h;split at h
   ·rename_i l' hl;obtain⟨e,hl⟩:=iu hl;subst e;simp only at hl;subst hl
    have src: ∀ (lo len:Nat),lo+len<=l.length->nr S.st t.width true (.own p sz lo len)=some (((l.drop lo).take len).map t.row,S.st):=by intro lo len hle;simp only[nr];rw[if_pos h0.symm,mn h1];simp only[ae,Bool.true_eq_false,false_and,if_false,aD];rw[if_pos ⟨hle,by rw[<-bR,<-bO]; exact wL hfl _⟩];simp[bO,bR]
    cases w with
    |true=>obtain⟨e1,e2,e3⟩:=vy hv h2;refine⟨l,S,?_,hS,jd.refl _,rfl,rfl,h⟩;have:=src lo len (by omega);rw[e2,e3,bJ,aX] at this;simp only[Cl.av];rw[e2,e3];exact this
    |false=>simp only[cond_false] at h;obtain⟨h3,h⟩:=fO h;exact⟨_,S,src lo len h3,hS,jd.refl _,rfl,rfl,h⟩
   ·cases h
  |false=>
   rw[hfl] at h;simp only[cond_false] at h;split at h
   ·rename_i hp;obtain⟨h3,h6⟩:=ef h;clear h;simp only[ar] at h3;obtain⟨hw,h4⟩:=h3;have h4:S.fz<=p.r:=az h4;subst hw;obtain⟨t,l,h1,h2,h⟩:=gY h6;split at h
    ·rename_i l' hl;obtain⟨e,hl⟩:=iu hl;subst e;simp only at hl;subst hl;obtain⟨e1,e2,e3⟩:=vy hv h2;refine⟨l,_,?_,TS.ok_gh hS (jd.gone _ _),jd.gone _ _,by simp[it],rfl,h⟩;simp only[Cl.av,nr];rw[if_pos h0.symm,mn h1];simp only[ae,aD];rw[if_pos ⟨trivial,hp,e2,e3,h4⟩,za]
    ·cases h
   ·cases h
 ·cases h
end
end
section
open Go
theorem Kk (t:Ty):t.zvs.length=t.width:=by
 cases t with
 |st n=>cases n<;>rfl
 | _=>rfl
theorem yd (t:Ty):t.shs.length=t.width:=by
 cases t with
 |st n=>cases n<;>rfl
 | _=>rfl
theorem Cm {P:Program} {el:TypeId} {e:Ty} (h1:P.cellsOf el=e.width) (h2:pn P 9 el=e.shs) (h3:zO P el=some e.zvs):Bx P el=some (List.zipWith zc e.shs e.zvs):=by unfold Bx;rw[h3];simp only[ae];rw[if_pos ⟨by rw[h1,Kk],by rw[h2,h1,yd]⟩,h2]
section
variable {ρ:Type} {P:Program} {Θ:pp} {S:TS}
theorem NS (hS:S.ok) {el:Ty} {v:Cl} (hv:v.ok S.gh) {more:List el.D} {κ:List el.D->TS->Option ρ} {r:ρ} (h:Ik S el v more κ=some r):
  ∃l S',mw S.st v.av el.width (more.map el.row)=some (.own ⟨S.gh.length,[]⟩ el.width 0 l.length,{ S'.st with gh:=eV S'.st.gh S.gh.length (some (.sl el.width (l.map el.row))),ng:=S.gh.length+1 })/\
   S'.ok/\jd S.gh S'.gh/\S'.gh.length=S.gh.length/\κ l S'=some r:=by
 unfold Ik at h;split at h
 ·refine⟨more,S,?_,hS,jd.refl _,rfl,h⟩;simp only[Cl.av,mw,aD];rfl
 ·rename_i p sz lo len w;obtain⟨h0,h'⟩:=ef h;clear h;simp only[ar] at h0;have hfz:S.fz<=p.r:=az h0.1;have hsz:el.width=sz:=au h0.2;split at h'
  ·rename_i hp;obtain⟨t,l,h1,h2,h⟩:=gY h';split at h
   ·rename_i l' hl;obtain⟨e,hl⟩:=iu hl;subst e;simp only at hl;subst hl
    have fin: ∀ (len:Nat),¬l.length<len->mw S.st (.own p sz 0 len) t.width (more.map t.row)=some (.own ⟨S.gh.length,[]⟩ t.width 0 (l.take len++more).length,{ ({ S with gh:=fK S.gh p.r none }:TS).st with gh:=eV ({ S with gh:=fK S.gh p.r none }:TS).st.gh S.gh.length (some (.sl t.width ((l.take len++more).map t.row))),ng:=S.gh.length+1 }):=by
     intro len hlen;simp only[mw];rw[if_pos ⟨hsz.symm,trivial,hfz⟩,mn h1];simp only[ae,aD];rw[if_neg hlen,if_pos hp,za];have e1: (l.take len++more).length=len+more.length:=by simp; omega
     rw[e1,bS,bO];rfl
    cases w with
    |true=>obtain⟨e1,e2,e3⟩:=vy hv h2;refine⟨_,_,?_,TS.ok_gh hS (jd.gone _ _),jd.gone _ _,by simp[it],h⟩;have:=fin l.length (by omega);rw[aX] at this;simp only[Cl.av];rw[e2,e3];exact this
    |false=>simp only[cond_false] at h;obtain⟨h3,h⟩:=fO h;obtain⟨h4,h⟩:=Af h;refine⟨_,_,?_,TS.ok_gh hS (jd.gone _ _),jd.gone _ _,by simp[it],h⟩;simp only[Cl.av];rw[h3];exact fin len h4
   ·cases h
  ·rename_i i j hp;split at h'
   ·rename_i tr htr;split at h'
    ·rename_i hh;obtain⟨t,l,h1,h2,h⟩:=gY h';split at h
     ·rename_i l' hl;obtain⟨e,hl⟩:=iu hl;subst e;simp only at hl;subst hl;obtain⟨h3,h⟩:=fO h;obtain⟨h4,h⟩:=Af h;have hg:=eL.look htr;have hput:jd S.gh (fK S.gh p.r (some (eL.mk tr.t tr.l (some (i,j))))):=jd.put hg rfl;refine⟨_,{ S with gh:=fK S.gh p.r (some (eL.mk tr.t tr.l (some (i,j)))) },?_,TS.ok_gh hS hput,hput,by simp[it],h⟩;simp only[Cl.av,mw];rw[if_pos ⟨hsz.symm,h3,hfz⟩,mn h1];simp only[ae,aD];rw[if_neg h4,if_neg (by rw[hp]; simp),Ai _ _ (uu hg)];have e1: (l.take len++more).length=len+more.length:=by simp; omega
      rw[e1,bS,bO]
      have e2:S.st.setAt p .dd= { S.st with gh:=eV S.st.gh p.r (some (eL.tree ⟨tr.t,tr.l,some (i,j)⟩)) } :=by
       unfold St.setAt
       congr 2
       show ((fA S.gh p.r).map eL.tree).map _=_;rw[hg,hp];obtain⟨t0,l0,hole⟩:=tr;simp only at hh;subst hh;rfl
      rw[e2];rfl
     ·cases h
    ·cases h'
   ·cases h'
  ·cases h'
 ·cases h
theorem PH (hΘ:gC P Θ) (hS:S.ok) {t:TypeId} {s x:Operand} {κ:V->TS->Option ρ} {r:ρ} (h:Pw Θ S t (S.opd s) (S.opd x) κ=some r) {dst:Option Tmp} {ty:TypeId} {pos:String} {aft:Array Edge} {gd:Option (Nat×Bool)} {D:sE}:
  ∃v S',jg D P S.st ⟨dst, .call { callee:= .builtin .append,args:= #[s,x],argTypes:= #[t,t] },ty,pos,aft,gd⟩=some (V.av v,TS.st S')/\S'.ok/\v.ok S'.gh/\κ v S'=some r:=by
 unfold Pw at h;split at h
 ·rename_i ti hti;split at h
  ·rename_i el sv xv he hs hx;obtain⟨elT',g1,g2,g3,g4,g5,g6⟩:=(hΘ _ _ hti).el el he;have hsv:=mG hS s;rw[hs] at hsv;have hxv:=mG hS x;rw[hx] at hxv;obtain⟨more,S1,h1,k1,k2,k3,k4,h⟩:=PG hS (show xv.ok S.gh from hxv) h;obtain⟨l,S2,h2,m1,m2,m3,h⟩:=NS k1 (Cl.ok_mono k2 (show sv.ok S.gh from hsv)) h;obtain⟨hb,h⟩:=fO h;have hgl:jd S1.gh (S2.gh++ [some ⟨el,l,none⟩]):=m2.trans (jd.app _ _);refine⟨_,_,?_,TS.ok_gh m1 (jd.app _ _),?_,h⟩
   ·simp only[jg];rw[if_pos trivial,g1];simp only[ae,g2,g5,Al,eu,hs,hx];show (nr S.st el.width el.flatB xv.av).bind _=_;rw[h1];simp only[ae];show (mw S1.st sv.av el.width _).bind _=_;rw[h2];simp only[ae];have hlen:l.length<=2 ^ 40:=bI (Nat.le_mul_of_pos_right _ g4) hb;rw[if_pos ⟨by rw[g3]; exact hb,hlen,el.width_pos,by rw[Cm g2 g5 g6]; rfl⟩];rw[C7,m3];rfl
   ·refine⟨by simp,fun _=>⟨rfl,rfl,fun tr htr=> ?_⟩⟩;rw[mH,if_pos rfl] at htr;cases htr;rfl
  ·cases h
 ·cases h
end
end
end Go.Proofs.YtjnleglhcppgcaaGreat.En
