import Derived.Test.YtkcgfceffffmoaaGreatZX5
namespace Go.Proofs.YtkcgfceffffmoaaGreat.En
open Go
def C.av:C→AV
 | .sc v=> .sc v
 | .ls t l=> .ro t.width (l.map t.row)
def Cl.av:Cl→AV
 | .c x=>x.av
 | .em=> .em
 | .own p sz lo len _=> .own p sz lo len
 | .pro cs=> .pro (cs.map C.tree)
 | .ptrB n j=> .ptrB n j
 | .ptrT p sz i j=> .ptrT p sz i j
 | .dead=> .dead
def V1.av:V1→AV
 | .cl x=>x.av
 | .agg cs=> .agg (cs.map Cl.av)
 | .fn f cs=> .fn f (cs.map Cl.av)
def V.av:V→AV
 | .v x=>x.av
 | .tup l=> .tup (l.map V1.av)
def bU.tree (x:bU):T:=match x.hole with
 | none=> .sl x.t.width (x.l.map x.t.row)
 | some (i,j)=> .sl x.t.width ((x.l.map x.t.row).set i (((x.l.map x.t.row).getD i []).set j .dd))
def cY (G:List (Option bU)) (r:Nat):Option bU:=(nZ G r).getD none
def TS.st (S:TS):St where
 env:=fun t=>(f7 S.env t).av
 bx:=fun n=>(nZ S.bx n).map fun cs=>cs.map Cl.av
 gh:=fun r=>(cY S.gh r).map bU.tree
 nb:=S.bx.length
 ng:=S.gh.length
 fz:=S.fz
 orc:=none
 nt:=S.nt
structure xZ where
 f:FuncId→List V1→(ρ:Type)→(V→List bU→Option ρ)→Option ρ
 kd:FuncId→Nat
instance:CoeFun xZ fun _=>FuncId→List V1→(ρ:Type)→(V→List bU→Option ρ)→Option ρ:=⟨xZ.f⟩
def gC:Nat:=1048576
def Fa:Nat:=gC+gC
def uI (g:Nat):Nat:=g+gC
def B8 (g:Nat):Nat:=g+Fa
def F7 (n:Nat):Cl→Cl
 | .own p sz lo len w=> .own ⟨p.r+n,p.l⟩ sz lo len w
 | .c (.sc v)=> .c (.sc v)
 | _=> .dead
def uo (n:Nat):V1→V1
 | .agg cs=> .agg (cs.map (F7 n))
 | .cl c=> .cl (F7 n c)
 | .fn _ _=> .cl .dead
def rV (n:Nat):V→V
 | .tup vs=> .tup (vs.map (uo n))
 | .v x=> .v (uo n x)
def cS {α:Type}:List α→Nat→α→List α
 | [],_,_=> []
 | a::l,n,x=>bif Nat.beq n 0 then x::l else a::cS l (n - 1) x
def te (t t':Ty) (l:List t.D):Option (List t'.D):=if h:t=t' then some (h ▸ l) else none
def pe (r j:Nat):Cl→Cl
 | .own p sz lo len w=>match p.l with | (_,j')::_=>bif Nat.beq p.r r&&Nat.beq j j' then .dead else .own p sz lo len w | [] => .own p sz lo len w
 | .ptrT p sz a b=>match p.l with | (_,j')::_=>bif Nat.beq p.r r&&Nat.beq j j' then .dead else .ptrT p sz a b | [] => .ptrT p sz a b
 | c=>c
def qN (r j:Nat):V1→V1
 | .cl c=> .cl (pe r j c)
 | .agg cs=> .agg (cs.map (pe r j))
 | .fn f cs=> .fn f (cs.map (pe r j))
def Fb (r j:Nat):V→V
 | .v x=> .v (qN r j x)
 | .tup vs=> .tup (vs.map (qN r j))
def TS.kill (S:TS) (r j:Nat):TS:= { S with env:=S.env.map fun x=>(x.1,Fb r j x.2),bx:=S.bx.map fun cs=>cs.map (pe r j) }
def gD (S:TS) (no j:Nat) (et:Option Ty) (c:Cl):Option (C×TS):=match c,et with
 | .c (.sc v),none=>some (.sc v,S)
 | .em,some t=>some (.ls t [],S.kill no j)
 | .own p sz _ _ true,some t=>match p.l with
   | [] =>bif Nat.beq t.width sz&&Nat.ble S.fz p.r&& !(Nat.beq p.r no) then match nZ S.gh p.r with
     | some (some tr)=>match tr.hole with
       | none=>bif Nat.beq tr.t.width sz then some (.ls tr.t tr.l,{ S with gh:=cS S.gh p.r none }.kill no j) else none
       | some _=>none
     | _=>none else none
   | _=>none
 | _,_=>none
def pf (no:Nat):Nat→TS→List (Option Ty)→List Cl→Option (List C×TS)
 | j,S,et::ets,c::cs=>match gD S no j et c with
   | some (x,S1)=>match pf no (j+1) S1 ets cs with
     | some (xs,S2)=>some (x::xs,S2)
     | none=>none
   | none=>none
 | _,S,[],[] =>some ([],S)
 | _,_,_,_=>none
def SN (et:Option Ty) (v:Value):C:=match et with | some t=> .ls t [] | none=> .sc v
def Ty.zcs (t:Ty):List C:=List.zipWith SN t.csh t.zvs
def QT:List Cl→Option (List C)
 | [] =>some []
 | .c (.sc v)::l=>match QT l with | some r=>some (.sc v::r) | none=>none
 | _=>none
section
variable {ρ:Type}
def B9 {α β:Type} (f:α→(β→Option ρ)→Option ρ):List α→(List β→Option ρ)→Option ρ
 | [],κ=>κ []
 | a::l,κ=>f a fun b=>B9 f l fun bs=>κ (b::bs)
def Kt (Θ:oI) (S:TS) (t:TypeId) (a v:V) (κ:TS→Option ρ):Option ρ:=match mo Θ t with
 | none=>none
 | some ti=>match v with
   | .tup _=>none
   | .v (.cl .dead)=>none
   | .v (.fn _ _)=>none
   | .v x=>bif Nat.beq x.cells.length ti.ty.width then match a with
     | .v (.cl (.ptrB b j))=>match nZ S.bx b with
       | some cs=>bif Nat.ble (j+x.cells.length) cs.length then κ { S with bx:=cS S.bx b (cs.take j++x.cells++cs.drop (j+x.cells.length)) } else none
       | none=>none
     | .v (.cl (.ptrT p sz i j))=>match p.l with
       | [] =>match nZ S.gh p.r with
         | some (some tr)=>bif Nat.beq tr.t.width sz&&Nat.ble (j+ti.ty.width) sz&&Nat.beq x.cells.length ti.ty.width then
           bif ti.ty.flatB then
            match tr.hole,QT x.cells with
            | none,some vs=>(tr.l[i]?).bind fun y=>match tr.t.unflat ((tr.t.flat y).take j++vs++(tr.t.flat y).drop (j+ti.ty.width)) with
              | some z=>κ { S with gh:=cS S.gh p.r (some ⟨tr.t,tr.l.set i z,none⟩) }
              | none=>none
            | _,_=>none
           else bif Nat.ble S.fz p.r then match pf p.r j S ti.ty.csh x.cells with
            | some (vs,S1)=>(tr.l[i]?).bind fun y=>match tr.t.unflat ((tr.t.flat y).take j++vs++(tr.t.flat y).drop (j+ti.ty.width)) with
              | some z=>match tr.hole with
                | none=>κ { S1 with gh:=cS S1.gh p.r (some ⟨tr.t,tr.l.set i z,none⟩) }
                | some (i0,j0)=>bif Nat.beq j j0&&Nat.beq ti.ty.width 1 then aL (i=i0) (κ { S1 with gh:=cS S1.gh p.r (some ⟨tr.t,tr.l.set i z,none⟩) }) none else none
              | none=>none
            | none=>none else none
           else none
         | _=>none
       | _=>none
     | _=>none
     else none
def Ms (S:TS) (et:Option Ty) (c:Cl) (κ:Cl→Option ρ):Option ρ:=match c with
 | .c x=>κ (.c x)
 | .em=>match et with | some t=>κ (.c (.ls t [])) | none=>none
 | .own p sz _ _ true=>qp S p fun t l=>bif Nat.beq t.width sz then κ (.c (.ls t l)) else none
 | .own p sz lo len false=>qp S p fun t l=>bif Nat.beq t.width sz then aL (lo+len≤l.length) (κ (.c (.ls t ((l.drop lo).take len)))) none else none
 | .pro cs=>κ (.pro cs)
 | .ptrT p sz i j=>qp S p fun t l=>bif Nat.beq t.width sz then (l[i]?).bind fun x=>κ (.pro ((t.flat x).drop j)) else none
 | .ptrB b j=>match nZ S.bx b with
   | some cs=>B9 (fun c κ=>match c with
     | .c x=>κ x
     | .own p sz _ _ true=>qp S p fun t l=>bif Nat.beq t.width sz then κ (.ls t l) else none
     | _=>none) (cs.drop j) fun cs=>κ (.pro cs)
   | none=>none
 | .dead=>κ .dead
def Pv (S:TS):List (Option Ty)→List Cl→(List Cl→Option ρ)→Option ρ
 | et::ets,c::cs,κ=>Ms S et c fun c'=>Pv S ets cs fun cs'=>κ (c'::cs')
 | [],[],κ=>κ []
 | _,_,_=>none
def Sy (Θ:oI) (S:TS) (t:TypeId) (v:V) (κ:V1→Option ρ):Option ρ:=match v with
 | .tup _=>none
 | .v (.fn f cs)=>B9 (Ms S none) cs fun cs'=>κ (.fn f cs')
 | .v (.agg cs)=>match mo Θ t with | some ti=>Pv S ti.ty.csh cs fun cs'=>κ (.agg cs') | none=>none
 | .v (.cl c)=>match mo Θ t with | some ti=>Ms S (ti.ty.csh.headD none) c fun c'=>κ (.cl c') | none=>Ms S none c fun c'=>κ (.cl c')
def ri (Θ:oI) (S:TS):List TypeId→List Operand→(List V1→Option ρ)→Option ρ
 | t::ts,a::as,κ=>Sy Θ S t (S.opd a) fun v=>ri Θ S ts as fun vs=>κ (v::vs)
 | [],[],κ=>κ []
 | _,_,_=>none
def Lr (Θ:oI) (Y:xZ) (S:TS) (f:Operand) (ts:List TypeId) (as:List Operand) (κ:V→TS→Option ρ):Option ρ:=match S.opd f with
 | .v (.cl (.c (.sc (.func (.func g) _ _))))=>bif Nat.blt g gC then ri Θ S ts as fun vs=>Y g vs ρ fun res out=>κ (rV S.gh.length res) { S with gh:=S.gh++out.map some } else none
 | .v (.fn g caps)=>bif Nat.blt g gC then ri Θ S ts as fun vs=>B9 (Ms S none) caps fun cs=>Y g (vs++cs.map .cl) ρ fun res out=>κ (rV S.gh.length res) { S with gh:=S.gh++out.map some } else none
 | _=>none
def NP (S:TS) (el:Ty) (v:Cl) (κ:List el.D→TS→Option ρ):Option ρ:=match v with
 | .em=>κ [] S
 | .c (.ls t l)=>bif el.flatB then match te t el l with | some l=>κ l S | none=>none else none
 | .own p sz lo len w=>bif Nat.beq el.width sz then (bif el.flatB then qp S p fun t l=>match te t el l with
   | some l=>bif w then κ l S else aL (lo+len≤l.length) (κ ((l.drop lo).take len) S) none
   | none=>none
   else match p.l with
   | [] =>bif w&&Nat.ble S.fz p.r then qp S p fun t l=>match te t el l with | some l=>κ l { S with gh:=cS S.gh p.r none } | none=>none else none
   | _=>none) else none
 | _=>none
def Ij (S:TS) (el:Ty) (v:Cl) (more:List el.D) (κ:List el.D→TS→Option ρ):Option ρ:=match v with
 | .em=>κ more S
 | .own p sz lo len w=>bif Nat.ble S.fz p.r&&Nat.beq el.width sz then match p.l with
   | [] =>qp S p fun t l=>match te t el l with
     | some l=>bif w then κ (l++more) { S with gh:=cS S.gh p.r none }
       else aL (lo=0) (aL (l.length < len) none (κ (l.take len++more) { S with gh:=cS S.gh p.r none })) none
     | none=>none
   | [(i,j)] =>match nZ S.gh p.r with
     | some (some tr)=>match tr.hole with
       | none=>qp S p fun t l=>match te t el l with
         | some l=>aL (lo=0) (aL (l.length < len) none (κ (l.take len++more) { S with gh:=cS S.gh p.r (some ⟨tr.t,tr.l,some (i,j)⟩) })) none
         | none=>none
       | some _=>none
     | _=>none
   | _=>none else none
 | _=>none
def Pw (Θ:oI) (S:TS) (t:TypeId) (s x:V) (κ:V→TS→Option ρ):Option ρ:=match mo Θ t with
 | some ti=>match ti.ty,s,x with
   | .ls el, .v (.cl s), .v (.cl x)=>NP S el x fun more S1=>Ij S1 el s more fun l S2=>
     aL (l.length*ti.el≤2 ^ 40) (κ (.v (.cl (.own ⟨S2.gh.length,[]⟩ el.width 0 l.length true))) { S2 with gh:=S2.gh++ [some ⟨el,l,none⟩] }) none
   | _,_,_=>none
 | none=>none
def RF:List Nat→List Nat→Bool
 | [],[] =>true
 | a::l,b::m=>bif Nat.beq a b then RF l m else false
 | _,_=>false
def qO (el:Ty):TS→List V→Option (List el.D×TS)
 | S,[] =>some ([],S)
 | S, .v x::r=>match pf S.gh.length 0 S el.csh x.cells with
   | some (vs,S1)=>match el.unflat vs,qO el S1 r with
     | some y,some (ys,S2)=>some (y::ys,S2)
     | _,_=>none
   | none=>none
 | _,_=>none
def wC (Θ:oI) (Y:xZ) (S:TS) (o:Oper) (κ:V→TS→Option ρ):Option ρ:=
 let e:=S.opd
 match o.op with
 | .alloc t=>match mo Θ t with | some ti=>κ (.v (.cl (.ptrB S.bx.length 0))) { S with bx:=S.bx++ [ti.ty.zvs.map cC] } | none=>none
 | .box _ x=>match e x with
   | .v (.cl .dead)=>none
   | .v (.cl c)=>κ (.v (.cl (.ptrB S.bx.length 0))) { S with bx:=S.bx++ [[c]] }
   | .v (.agg cs)=>κ (.v (.cl (.ptrB S.bx.length 0))) { S with bx:=S.bx++ [cs] }
   | _=>none
 | .store t a x=>Kt Θ S t (e a) (e x) fun S'=>κ V.dead S'
 | .makeSlice t l c=>match mo Θ t with
   | some ti=>match ti.ty with
     | .ls el=>Mq (e l) fun n=>Mq (e c) fun m=>match el.unflat el.zcs with
       | some z=>aL (0≤n∧n=m∧n*ti.el≤2 ^ 40) (κ (.v (.cl (.own ⟨S.gh.length,[]⟩ el.width 0 n.toNat true))) { S with gh:=S.gh++ [some ⟨el,List.replicate n.toNat z,none⟩] }) none
       | none=>none
     | _=>none
   | none=>none
 | .buildSlice t len parts=>match mo Θ t with
   | some ti=>match ti.ty with
     | .ls el=>bif Nat.ble (len*el.width) 1048576&&RF (parts.toList.map (·.1)) (List.range len) then (match qO el S (parts.toList.map fun x=>e x.2) with
       | some (l,S1)=>κ (.v (.cl (.own ⟨S1.gh.length,[]⟩ el.width 0 l.length true))) { S1 with gh:=S1.gh++ [some ⟨el,l,none⟩] }
       | none=>none) else none
     | _=>none
   | none=>none
 | .call { callee:= .builtin .append,args:=as,argTypes:=ts } =>match as.toList,ts.toList with
   | [s,x],[t,t'] =>bif Nat.beq t t' then Pw Θ S t (e s) (e x) κ else none
   | _,_=>none
 | .call { callee:= .value f,args:=as,argTypes:=ts } =>Lr Θ Y S f ts.toList as.toList κ
 | _=>B7 Θ S o κ
def tf (S:TS) (d:Option Tmp) (v:V) (κ:TS→Option ρ):Option ρ:=match d with
 | some t=>bif Nat.blt t S.nt then κ { S with env:=(t,v)::S.env } else none
 | none=>κ S
def Ls (S:TS) (all:List Oper) (o:Oper) (κ:Bool→TS→Option ρ):Option ρ:=match o.guard with
 | none=>κ true S
 | some (j,want)=>match nZ all j with
   | some oj=>match oj.dst with
     | some d=>match f7 S.env d with
       | .tup [] =>κ false S
       | _=>Ie S (.tmp d) fun b S1=>κ (b==want) S1
     | none=>none
   | none=>none
noncomputable def Px {α:Type} (x y:α) (z:α):α:=open Classical in if x=y then x else z
def QU {α β:Type} (l:List α) (x y:β):β:=match l with | [] =>x | _::_=>y
def Bp (o:Oper):Option (TypeId×Operand):=match o.op with
 | .binOp .eql t x (.const (.slice none 0 0)) _=>(match o.guard with | none=>some (t,x) | some _=>none)
 | _=>none
def RG (Θ:oI) (t:TypeId):Bool:=match mo Θ t with | some ti=>(match ti.ty with | .ls _=>true | _=>false) | none=>false
def Ik (Y:xZ) (S:TS) (o:Oper):Option (Nat×FuncId×List Cl×Nat×Nat×List TypeId×List Operand):=match o.op with
 | .call { callee:= .value f,args:=as,argTypes:=ts } =>(match o.guard with
   | some _=>none
   | none=>match as.toList,ts.toList with
     | x::xs,_::us=>(match S.opd x with
       | .v (.cl (.own ⟨r,[]⟩ sz _ _ true))=>(match S.opd f with
         | .v (.cl (.c (.sc (.func (.func g) _ _))))=>bif Nat.blt g gC&& !Nat.beq (Y.kd g) 0 then some (Y.kd g,g,[],r,sz,us,xs) else none
         | .v (.fn g caps)=>bif Nat.blt g gC&& !Nat.beq (Y.kd g) 0 then some (Y.kd g,g,caps,r,sz,us,xs) else none
         | _=>none)
       | _=>none)
     | _,_=>none)
 | _=>none
def Ku:V→Bool
 | .v (.cl (.c (.sc _)))=>true
 | .tup [] =>true
 | _=>false
def NQ (Θ:oI) (Y:xZ) (S:TS) (k:Nat) (g:FuncId) (caps:List Cl) (r sz:Nat) (us:List TypeId) (xs:List Operand) (dst:Option Tmp) (κ:TS→Option ρ):Option ρ:=match cY S.gh r with
 | some ⟨el,l,none⟩=>bif Nat.beq sz el.width then ri Θ { S with gh:=cS S.gh r none } us xs fun vs=>B9 (Ms { S with gh:=cS S.gh r none } none) caps fun cs=>
   bif Nat.beq k 1 then Y (uI g) (.cl (.c (.ls el l)):: (vs++cs.map .cl)) ρ fun res out=>(match out with
    | [⟨t,l',none⟩] =>bif decide (t=el)&&Ku res then aL (l'.length=l.length) (tf { S with gh:=cS S.gh r (some ⟨t,l',none⟩) } dst res κ) none else none
    | _=>none)
   else bif Nat.ble S.fz r then Y (B8 g) (.cl (.c (.ls el l)):: (vs++cs.map .cl)) ρ fun res out=>tf { S with gh:=cS S.gh r none++out.map some } dst (rV S.gh.length res) κ
   else none else none
 | _=>none
inductive Kv where
 | nest (r i j sz lo len:Nat)
 | agg (cs:List Cl)
def F8:V→Option Kv
 | .v (.cl (.own ⟨r,[(i,j)]⟩ sz lo len _))=>some (.nest r i j sz lo len)
 | .v (.agg cs)=>some (.agg cs)
 | _=>none
def Ca (Y:xZ) (S:TS) (o:Oper):Option (FuncId×List Cl×Kv×List TypeId×List Operand):=match o.op with
 | .call { callee:= .value f,args:=as,argTypes:=ts } =>(match o.guard with
   | some _=>none
   | none=>match as.toList,ts.toList with
     | x::xs,_::us=>(match F8 (S.opd x) with
       | some a=>(match S.opd f with
         | .v (.cl (.c (.sc (.func (.func g) _ _))))=>bif Nat.blt g gC&&Nat.beq (Y.kd g) 1 then some (g,[],a,us,xs) else none
         | .v (.fn g caps)=>bif Nat.blt g gC&&Nat.beq (Y.kd g) 1 then some (g,caps,a,us,xs) else none
         | _=>none)
       | none=>none)
     | _,_=>none)
 | _=>none
def uq (S:TS):List Cl→Option (List C×List Nat)
 | [] =>some ([],[])
 | .c (.sc v)::cs=>(match uq S cs with | some (xs,L)=>some (.sc v::xs,L) | none=>none)
 | .own ⟨r,[]⟩ sz _ _ true::cs=>(match cY S.gh r with
   | some ⟨el,l,none⟩=>bif Nat.beq sz el.width then (match uq S cs with | some (xs,L)=>some (.ls el l::xs,r::L) | none=>none) else none
   | _=>none)
 | _=>none
def NR (G:List (Option bU)) (L:List Nat):List (Option bU):=L.foldl (fun G r=>cS G r none) G
def Cb (S:TS):List Nat→List bU→(TS→Option ρ)→Option ρ
 | [],[],κ=>κ S
 | r::L,⟨t,l',none⟩::out,κ=>(match cY S.gh r with
   | some ⟨el,l,none⟩=>bif decide (t=el) then aL (l'.length=l.length) (Cb { S with gh:=cS S.gh r (some ⟨t,l',none⟩) } L out κ) none else none
   | _=>none)
 | _,_,_=>none
def F9 (Θ:oI) (Y:xZ) (S:TS) (g:FuncId) (caps:List Cl) (a:Kv) (us:List TypeId) (xs:List Operand) (dst:Option Tmp) (κ:TS→Option ρ):Option ρ:=match a with
 | .agg cs=>(match uq S cs with
   | some (ys,L)=>bif QG L then ri Θ { S with gh:=NR S.gh L } us xs fun vs=>B9 (Ms { S with gh:=NR S.gh L } none) caps fun ks=>
     Y (uI g) (.agg (ys.map .c):: (vs++ks.map .cl)) ρ fun res out=>bif Ku res then Cb S L out fun S3=>tf S3 dst res κ else none else none
   | none=>none)
 | .nest r i j sz lo len=>(match cY S.gh r with
   | some ⟨t,l,none⟩=>(l[i]?).bind fun y=>(match nZ (t.flat y) j with
     | some (.ls el v)=>bif Nat.beq sz el.width then aL (lo=0∧len=v.length) (ri Θ { S with gh:=cS S.gh r (some ⟨t,l,some (i,j)⟩) } us xs fun vs=>B9 (Ms { S with gh:=cS S.gh r (some ⟨t,l,some (i,j)⟩) } none) caps fun ks=>
       Y (uI g) (.cl (.c (.ls el v)):: (vs++ks.map .cl)) ρ fun res out=>(match out with
         | [⟨t',v',none⟩] =>bif decide (t'=el)&&Ku res then aL (v'.length=v.length) (match t.unflat (cS (t.flat y) j (.ls t' v')) with
           | some z=>tf { S with gh:=cS S.gh r (some ⟨t,l.set i z,none⟩) } dst res κ
           | none=>none) none else none
         | _=>none)) none else none
     | _=>none)
   | _=>none)
def Ga (S:TS) (o:Oper):Option (TypeId×Nat×Nat×Nat×Nat):=match o.op with
 | .call { callee:= .builtin .clear,args:=as,argTypes:=ts } =>(match o.guard with
   | some _=>none
   | none=>match as.toList,ts.toList with
     | [x],[t] =>(match S.opd x with
       | .v (.cl (.own ⟨r,[]⟩ sz lo len _))=>some (t,r,sz,lo,len)
       | _=>none)
     | _,_=>none)
 | _=>none
def Kw (Θ:oI) (S:TS) (t:TypeId) (r sz lo len:Nat) (dst:Option Tmp) (κ:TS→Option ρ):Option ρ:=match mo Θ t with
 | some ti=>match cY S.gh r with
   | some ⟨el,l,none⟩=>bif decide (ti.ty= .ls el)&&Nat.beq el.width 1&&Nat.beq sz 1&&el.flatB then (match el.unflat el.zcs with
     | some z=>aL (lo+len≤l.length) (tf { S with gh:=cS S.gh r (some ⟨el,l.take lo++List.replicate len z++l.drop (lo+len),none⟩) } dst (.tup []) κ) none
     | none=>none) else none
   | _=>none
 | none=>none
def Il (b:Bool):V:= .v (.cl (.c (.sc (.bool b))))
noncomputable def Aq (Θ:oI) (Y:xZ) (all:List Oper):List Oper→TS→(TS→Option ρ)→Option ρ
 | [],S,κ=>κ S
 | o::os,S,κ=>match Bp o with
   | some (t,x)=>bif RG Θ t then (match S.opd x with
     | .v (.cl (.c (.ls _ l)))=>QU l (Px (tf S o.dst (Il true) fun S3=>Aq Θ Y all os S3 κ) (tf S o.dst (Il false) fun S3=>Aq Θ Y all os S3 κ) none) (tf S o.dst (Il false) fun S3=>Aq Θ Y all os S3 κ)
     | _=>none) else none
   | none=>match Ga S o with
   | some (t,r,sz,lo,len)=>Kw Θ S t r sz lo len o.dst fun S3=>Aq Θ Y all os S3 κ
   | none=>match Ik Y S o with
   | some (k,g,caps,r,sz,us,xs)=>NQ Θ Y S k g caps r sz us xs o.dst fun S3=>Aq Θ Y all os S3 κ
   | none=>match Ca Y S o with
   | some (g,caps,a,us,xs)=>F9 Θ Y S g caps a us xs o.dst fun S3=>Aq Θ Y all os S3 κ
   | none=>Ls S all o fun b S1=>bif b then wC Θ Y S1 o fun v S2=>tf S2 o.dst v fun S3=>Aq Θ Y all os S3 κ else tf S1 o.dst (V.tup []) fun S3=>Aq Θ Y all os S3 κ
def gone:Nat→List (Option bU)→List (Option bU)→List Nat
 | n,some _::l,none::m=>n::gone (n+1) l m
 | n,_::l,_::m=>gone (n+1) l m
 | _,_,_=> []
def NS (l:List (Option bU)):List T:=l.map fun x=>match x with | some tr=>tr.tree | none=> .dd
def x0 (S S':TS):fZ:=⟨S.gh.length,NS (S'.gh.drop S.gh.length),gone 0 S.gh S'.gh⟩
def Qv (d:Nat) (o:Oper):Bool:=match o.dst with | some d'=> !(Nat.beq d d') | none=>true
def RH (o:Oper) (os:List Oper):Bool:=match o.dst with | some d=>os.all (Qv d) | none=>false
def Sl (Θ:oI) (t:TypeId):Bool:=match mo Θ t with
 | some ti=>(match ti.ty with | .ls _=>true | _=>false)
 | none=>false
def RI (Θ:oI) (o:Oper):Bool:=match o.op with
 | .buildSlice t _ _=>Sl Θ t
 | .call { callee:= .builtin .append,args:=_,argTypes:=ts } =>(match ts.toList with | t::_=>Sl Θ t | [] =>false)
 | _=>true
def NT:V→Bool
 | .v (.cl (.own p _ _ _ _))=>(match p.l with | [] =>true | _=>false)
 | _=>true
def Qw (S:TS) (o:Oper):Bool:=match o.op with
 | .call { callee:= .builtin .append,args:=as,argTypes:=_ } =>(match as.toList with | s::_=>NT (S.opd s) | [] =>true)
 | _=>true
def NU (Θ:oI):List Oper→TS→(TS→Option ρ)→Option ρ
 | [],S,κ=>κ S
 | o::os,S,κ=>match o.op with
   | .alloc t=>match mo Θ t with | some ti=>NU Θ os { S with bx:=S.bx++ [ti.ty.zvs.map cC] } κ | none=>none
   | _=>NU Θ os S κ
def Im (Θ:oI) (Y:xZ) (all:List Oper):List Oper→TS→List fZ→(TS→List fZ→Option ρ)→Option ρ
 | [],S,ms,κ=>κ S ms
 | o::os,S,ms,κ=>bif ar o then Im Θ Y all os S (ms++ [⟨S.gh.length,[],[]⟩]) κ else bif db o then (bif o.guard.isNone then tf S o.dst (V.v (.cl (.ptrB (S.bx.length - 1 - cW os) 0))) fun S3=>Im Θ Y all os S3 (ms++ [⟨S.gh.length,[],[]⟩]) κ else none) else
    Ls S all o fun b S1=>bif b then
     (bif iG o then (bif RH o os&&RI Θ o&&Qw S1 o then wC Θ Y S1 o fun v S2=>tf S2 o.dst v fun S3=>Im Θ Y all os S3 (ms++ [x0 S1 S2]) κ else none)
     else B7 Θ S1 o fun v S2=>tf S2 o.dst v fun S3=>Im Θ Y all os S3 (ms++ [⟨S1.gh.length,[],[]⟩]) κ)
     else tf S1 o.dst (V.tup []) fun S3=>Im Θ Y all os S3 (ms++ [⟨S1.gh.length,[],[]⟩]) κ
def NV (Θ:oI) (Y:xZ):List Oper→TS→(TS→Option ρ)→Option ρ
 | [],S,κ=>κ S
 | o::os,S,κ=>bif ar o then (bif o.guard.isNone&&o.dst.isNone then wC Θ Y S o fun _ S1=>NV Θ Y os S1 κ else none) else NV Θ Y os S κ
def NW (Θ:oI) (t:TypeId):Bool:=match mo Θ t with | some ti=>ti.ty.flatB | none=>false
def QV (Θ:oI) (Y:xZ) (ops:List Oper) (S:TS) (κ:TS→Option ρ):Option ρ:=
 NU Θ ops S fun S0=>Im Θ Y ops ops S0 [] fun SV ms=>bif J5 (NW Θ) ops (jE ops) S0.st ms SV.st then NV Θ Y ops SV κ else none
def cd:Code→Nat
 | .region id _ _=>id
 | .seq a _=>cd a
 | .block _ c=>cd c
 | .loop c=>cd c
 | _=>0
abbrev pQ:=Nat→TS→(ρ:Type)→(X→TS→Option ρ)→Option ρ
noncomputable def eM (Θ:oI) (Y:xZ) (Λ:pQ):Code→TS→(X→TS→Option ρ)→Option ρ
 | .skip,S,κ=>κ .nor S
 | .region _ ops false,S,κ=>Aq Θ Y ops.toList ops.toList S (κ .nor)
 | .region _ ops true,S,κ=>QV Θ Y ops.toList S (κ .nor)
 | .seq a b,S,κ=>eM Θ Y Λ a S fun x S1=>match x with | .nor=>eM Θ Y Λ b S1 κ | x=>κ x S1
 | .cond c a b,S,κ=>Ie S c fun t S1=>bif t then eM Θ Y Λ a S1 κ else eM Θ Y Λ b S1 κ
 | .block id c,S,κ=>eM Θ Y Λ c S fun x S1=>match x with | .ext i=>bif Nat.beq i id then κ .nor S1 else κ (.ext i) S1 | x=>κ x S1
 | .loop c,S,κ=>Λ (cd c) S ρ κ
 | .exit id,S,κ=>κ (.ext id) S
 | .ret,S,κ=>κ .ret S
 | _,_,_=>none
def Py (S:TS) (gs:List bU) (et:Option Ty) (c:Cl) (κ:Cl→List bU→TS→Option ρ):Option ρ:=match c,et with
 | .c (.sc v),_=>κ (.c (.sc v)) gs S
 | .em,some t=>κ (.own ⟨gs.length,[]⟩ t.width 0 0 true) (gs++ [⟨t,[],none⟩]) S
 | .own p sz lo len w,some t'=>match p.l with
   | [] =>bif Nat.ble S.fz p.r&&Nat.beq t'.width sz then qp S p fun t l=>bif Nat.beq t.width sz then
     (bif w then κ (.own ⟨gs.length,[]⟩ sz 0 l.length true) (gs++ [⟨t,l,none⟩]) { S with gh:=cS S.gh p.r none }
     else aL (lo=0∧len≤l.length) (κ (.own ⟨gs.length,[]⟩ sz 0 (l.take len).length true) (gs++ [⟨t,l.take len,none⟩]) { S with gh:=cS S.gh p.r none }) none) else none
     else none
   | _=>none
 | _,_=>none
def Lt:TS→List bU→List (Option Ty)→List Cl→(List Cl→List bU→TS→Option ρ)→Option ρ
 | S,gs,et::ets,c::cs,κ=>Py S gs et c fun c' gs' S'=>Lt S' gs' ets cs fun cs' gs'' S''=>κ (c'::cs') gs'' S''
 | S,gs,[],[],κ=>κ [] gs S
 | _,_,_,_,_=>none
def QW (Θ:oI) (S:TS) (gs:List bU) (t:TypeId) (v:V) (κ:V1→List bU→TS→Option ρ):Option ρ:=match mo Θ t with
 | none=>none
 | some ti=>match v with
   | .v (.agg cs)=>Lt S gs ti.ty.csh cs fun cs' gs' S'=>κ (.agg cs') gs' S'
   | .v (.cl c)=>Py S gs (ti.ty.csh.headD none) c fun c' gs' S'=>κ (.cl c') gs' S'
   | _=>none
def tg (Θ:oI):TS→List bU→List (TypeId×V)→(List V1→List bU→Option ρ)→Option ρ
 | _,gs,[],κ=>κ [] gs
 | S,gs,(t,v)::r,κ=>QW Θ S gs t v fun v' gs' S'=>tg Θ S' gs' r fun vs gs''=>κ (v'::vs) gs''
def DW (Θ:oI) (S:TS):List ResultVar→List TypeId→(List (TypeId×V)→Option ρ)→Option ρ
 | .tmp a::rs,t::ts,κ=>DW Θ S rs ts fun l=>κ ((t,f7 S.env a)::l)
 | .cell a t'::rs,t::ts,κ=>Ig Θ S t' (f7 S.env a) fun v=>DW Θ S rs ts fun l=>κ ((t,v)::l)
 | [],[],κ=>κ []
 | _,_,_=>none
def x9:List V1→V
 | [v] => .v v
 | vs=> .tup vs
def nh:Nat→List V1→List (Nat×V)
 | _,[] => []
 | n,v::l=>(n, .v v)::nh (n+1) l
noncomputable def Sz (Θ:oI) (Y:xZ) (Λ:pQ) (fn:Func) (args:List V1) (κ:V→List bU→Option ρ):Option ρ:=match fn.body with
 | none=>none
 | some c=>eM Θ Y Λ c { env:=nh 0 args,bx:= [],gh:= [],fz:=0,nt:=args.length+(fn.ntmps - args.length) } fun x S=>match x with
   | .ext _=>none
   | _=>DW Θ S fn.results.toList fn.resultTypes.toList fun rs=>tg Θ S [] rs fun vs gs=>κ (x9 vs) gs
def Gb:List Cl→Option (List C)
 | [] =>some []
 | .c x::l=>match Gb l with | some r=>some (x::r) | none=>none
 | _=>none
def un (t:Ty) (a:V1) (κ:t.D→Option ρ):Option ρ:=match a with
 | .agg cs=>bif t.ag then (match Gb cs with
   | some xs=>(match t.unflat xs with | some x=>κ x | none=>none)
   | none=>none) else none
 | .cl (.c y)=>bif t.ag then none else (match t.unflat [y] with | some x=>κ x | none=>none)
 | _=>none
def vz:List C→Nat→List Cl
 | [],_=> []
 | .sc v::r,n=> .c (.sc v)::vz r n
 | .ls t l::r,n=> .own ⟨n,[]⟩ t.width 0 l.length true::vz r (n+1)
def qP:List C→List bU
 | [] => []
 | .sc _::r=>qP r
 | .ls t l::r=>⟨t,l,none⟩::qP r
def Pz (t:Ty) (x:t.D) (n:Nat):V1:=bif t.ag then .agg (vz (t.flat x) n) else match vz (t.flat x) n with | [c] => .cl c | _=> .cl .dead
def zF:Nat→List ((t:Ty)×t.D)→List V1
 | _,[] => []
 | n,⟨t,x⟩::r=>Pz t x n::zF (n+(qP (t.flat x)).length) r
def wD:List ((t:Ty)×t.D)→List bU
 | [] => []
 | ⟨t,x⟩::r=>qP (t.flat x)++wD r
def ret (l:List ((t:Ty)×t.D)) (κ:V→List bU→Option ρ):Option ρ:=κ (x9 (zF 0 l)) (wD l)
end
abbrev bw:=List V1→(ρ:Type)→(V→List bU→Option ρ)→Option ρ
def QX:List (Nat×bw)→FuncId→List V1→(ρ:Type)→(V→List bU→Option ρ)→Option ρ
 | [],_,_,_,_=>none
 | (g,e)::l,f,as,ρ,κ=>bif Nat.beq g f then e as ρ κ else QX l f as ρ κ
def QY:List (Nat×bw)→Nat→Bool
 | [],_=>false
 | (g,_)::l,f=>bif Nat.beq g f then true else QY l f
def aP (l:List (Nat×bw)):xZ:=⟨QX l,fun g=>bif QY l (uI g) then 1 else bif QY l (B8 g) then 2 else 0⟩
noncomputable def PA {ρ:Type} (Θ:oI) (Y:xZ) (Λ:pQ) (fn:Func) (m:Nat) (el:Ty) (l:List el.D) (args:List V1) (κ:V→List bU→Option ρ):Option ρ:=match fn.body with
 | none=>none
 | some c=>eM Θ Y Λ c { env:=nh 0 (.cl (.own ⟨0,[]⟩ el.width 0 l.length true)::args),bx:= [],gh:= [some ⟨el,l,none⟩],fz:=m,nt:=(args.length+1)+(fn.ntmps - (args.length+1)) } fun x S=>match x with
   | .ext _=>none
   | _=>DW Θ S fn.results.toList fn.resultTypes.toList fun rs=>bif Nat.beq m 0 then tg Θ S [] rs fun vs gs=>κ (x9 vs) gs else match cY S.gh 0 with
     | some ⟨t,l',none⟩=>tg Θ S [⟨t,l',none⟩] rs fun vs gs=>κ (x9 vs) gs
     | _=>none
def Lu (t:Ty) (x:t.D):V1:=bif t.ag then .agg ((t.flat x).map .c) else match (t.flat x).map Cl.c with | [c] => .cl c | _=> .cl .dead
end Go.Proofs.YtkcgfceffffmoaaGreat.En
namespace Go.Proofs.YtkcgfceffffmoaaGreat.En
open Go
theorem dj {α:Type}: ∀ (l:List α) (n:Nat),nZ l n=l[n]?
 | [],n=>by simp [nZ]
 | a::l,0=>by simp [nZ]
 | a::l,n+1=>by show nZ l n=_; rw [dj l]; simp
theorem eK {α:Type}: ∀ (l:List α) (n:Nat) (x:α),cS l n x=l.set n x
 | [],n,x=>by simp [cS]
 | a::l,0,x=>by simp [cS]
 | a::l,n+1,x=>by show a::cS l n x=_; rw [eK l]; simp
theorem Io: ∀ {l:List (Nat×V)} {t:Nat},f7 l t=V.dead∨(t,f7 l t)∈l
 | [],t=> .inl rfl
 | (u,v)::l,t=>by
   simp only [f7]
   cases h:Nat.beq u t with
   | true=>
     have :u=t:=Nat.eq_of_beq_eq_true h
     subst this
     exact .inr (List.mem_cons_self)
   | false=>
     rcases Io (l:=l) (t:=t) with h' | h'
     ·exact .inl h'
     ·exact .inr (List.mem_cons_of_mem _ h')
def Cl.ok (G:List (Option bU)):Cl→Prop
 | .own p _ lo len w=>p.r < G.length∧(w=true→p.l= [] ∧lo=0∧ ∀ tr,cY G p.r=some tr→len=tr.l.length)
 | .ptrT p _ _ _=>p.r < G.length
 | _=>True
def V1.ok (G:List (Option bU)):V1→Prop
 | .cl c=>c.ok G
 | .agg cs=> ∀ c∈cs,c.ok G
 | .fn _ cs=> ∀ c∈cs,c.ok G
def V.ok (G:List (Option bU)):V→Prop
 | .v x=>x.ok G
 | .tup l=> ∀ x∈l,x.ok G
structure TS.ok (S:TS):Prop where
 env: ∀ x∈S.env,x.2.ok S.gh
 bx: ∀ cs∈S.bx,∀ c∈cs,c.ok S.gh
def fV (G G':List (Option bU)):Prop:=G.length≤G'.length∧ ∀ r tr',r < G.length→cY G' r=some tr'→ ∃ tr,cY G r=some tr∧tr.l.length=tr'.l.length
theorem fV.refl (G:List (Option bU)):fV G G:=⟨Nat.le_refl _,fun _ tr _ h=>⟨tr,h,rfl⟩⟩
theorem fV.trans {G H K:List (Option bU)} (h:fV G H) (k:fV H K):fV G K:=⟨Nat.le_trans h.1 k.1,fun r tr hr hK=>by
 obtain⟨t1,h1,h2⟩:=k.2 r tr (Nat.lt_of_lt_of_le hr h.1) hK
 obtain⟨t2,h3,h4⟩:=h.2 r t1 hr h1
 exact⟨t2,h3,h4.trans h2⟩⟩
theorem Cl.ok_mono {G G':List (Option bU)} (h:fV G G') {c:Cl} (hc:c.ok G):c.ok G':=by
 cases c with
 | own p sz lo len w=>
   obtain⟨h1,h2⟩:=hc
   refine⟨Nat.lt_of_lt_of_le h1 h.1,fun hw=> ?_⟩
   obtain⟨a,b,c⟩:=h2 hw
   refine⟨a,b,fun tr htr=> ?_⟩
   obtain⟨tr0,k1,k2⟩:=h.2 _ tr h1 htr
   rw [c tr0 k1,k2]
 | ptrT p sz i j=>exact Nat.lt_of_lt_of_le hc h.1
 | _=>trivial
theorem V1.ok_mono {G G':List (Option bU)} (h:fV G G') {v:V1} (hv:v.ok G):v.ok G':=by
 cases v with
 | cl c=>exact Cl.ok_mono h hv
 | agg cs=>exact fun c hc=>Cl.ok_mono h (hv c hc)
 | fn f cs=>exact fun c hc=>Cl.ok_mono h (hv c hc)
theorem V.ok_mono {G G':List (Option bU)} (h:fV G G') {v:V} (hv:v.ok G):v.ok G':=by
 cases v with
 | v x=>exact V1.ok_mono h hv
 | tup l=>exact fun x hx=>V1.ok_mono h (hv x hx)
theorem V.ok_dead (G:List (Option bU)):V.dead.ok G:=trivial
theorem V.ok_sc (G:List (Option bU)) (v:Value): (V.sc v).ok G:=trivial
theorem Bq {S:TS} (hS:S.ok) (t:Nat): (f7 S.env t).ok S.gh:=by
 rcases Io (l:=S.env) (t:=t) with h | h
 ·rw [h]; trivial
 ·exact hS.env _ h
theorem pg (v:Value): (cC v).av=Bk v:=by
 unfold cC Bk
 cases h:pn v with
 | true=>rfl
 | false=>
   simp only [cond_false,Bool.false_eq_true,if_false]
   split
   ·rfl
   ·split
    ·exact absurd rfl ‹_›
    ·rfl
theorem RJ (v:Value): (cV v).av=DM v:=by
 cases v with
 | agg cs=>
   simp only [cV,DM]
   cases h:cs.toList.all Value.oneCell' with
   | true=>
     simp only [cond_true,if_true]
     simp only [V.av,V1.av,List.map_map]
     congr 1
     exact List.map_congr_left fun x _=>pg x
   | false=>rfl
 | bool b=>exact pg (.bool b)
 | int k n=>exact pg (.int k n)
 | float k n=>exact pg (.float k n)
 | complex k n m=>exact pg (.complex k n m)
 | string x=>exact pg (.string x)
 | pointer x=>exact pg (.pointer x)
 | slice x y z=>exact pg (.slice x y z)
 | map x=>exact pg (.map x)
 | chan x=>exact pg (.chan x)
 | func x y z=>exact pg (.func x y z)
 | nilFunc=>exact pg .nilFunc
 | iface x y=>exact pg (.iface x y)
 | nilIface=>exact pg .nilIface
 | tuple x=>exact pg (.tuple x)
theorem Lw (G:List (Option bU)) (v:Value): (cC v).ok G:=by
 unfold cC
 cases pn v with
 | true=>trivial
 | false=>simp only [cond_false]; split <;> trivial
theorem RK (G:List (Option bU)) (v:Value): (cV v).ok G:=by
 unfold cV
 split
 ·rename_i cs
  cases cs.toList.all Value.oneCell' with
  | true=>intro c hc; simp only [List.mem_map] at hc; obtain⟨x,_,rfl⟩:=hc; exact Lw _ _
  | false=>trivial
 ·exact Lw _ _
theorem ba {S:TS} (x:Operand):opd S.st x=(S.opd x).av:=by
 cases x with
 | tmp t=>rfl
 | const v=>exact (RJ v).symm
 | func f=>rfl
 | global g=>rfl
theorem ko {S:TS} (hS:S.ok) (x:Operand): (S.opd x).ok S.gh:=by
 cases x with
 | tmp t=>exact Bq hS t
 | const v=>exact RK _ _
 | func f=>trivial
 | global g=>trivial
section
variable {ρ:Type}
theorem PB {α:Type} {b:Bool} {x y:Option α} {r:α} (h:br b x y=some r): (b=true∧x=some r)∨(b=false∧y=some r):=by
 cases b with
 | true=>exact .inl ⟨rfl,h⟩
 | false=>exact .inr ⟨rfl,h⟩
theorem c8 {α:Type} {c:Prop} [Decidable c] {x:Option α} {r:α} (h:aL c x none=some r):c∧x=some r:=by
 unfold aL at h
 split at h
 ·exact⟨‹_›,h⟩
 ·cases h
theorem ya {α:Type} {c:Prop} [Decidable c] {x:Option α} {r:α} (h:aL c none x=some r): ¬ c∧x=some r:=by
 unfold aL at h
 split at h
 ·cases h
 ·exact⟨‹_›,h⟩
theorem am {α:Type} {c:Bool} {x:Option α} {r:α} (h: (bif c then x else none)=some r):c=true∧x=some r:=by
 cases c with
 | true=>exact⟨rfl,h⟩
 | false=>cases h
theorem Ip {S:TS} {t:Nat} {b:Bool} (h:f7 S.env t=V.sc (.bool b)): ({ S with env:=(t,V.sc (.bool b))::S.env }:TS).st=S.st:=by
 unfold TS.st
 simp only
 congr 1
 funext u
 simp only [f7]
 cases hb:Nat.beq t u with
 | true=>
   have :t=u:=Nat.eq_of_beq_eq_true hb
   subst this
   rw [h]
   rfl
 | false=>rfl
theorem Iq {S:TS} (hS:S.ok) (t:Nat) (b:Bool): ({ S with env:=(t,V.sc (.bool b))::S.env }:TS).ok:=
 ⟨fun x hx=>by
  simp only [List.mem_cons] at hx
  rcases hx with rfl | hx
  ·trivial
  ·exact hS.env x hx,hS.bx⟩
theorem Cc {S:TS} (hS:S.ok) {x:Operand} {κ:Bool→TS→Option ρ} {r:ρ} (h:Ie S x κ=some r):
  ∃ b S',opd S.st x= .sc (.bool b)∧S'.st=S.st∧S'.ok∧S'.gh=S.gh∧κ b S'=some r:=by
 unfold Ie at h
 split at h
 ·rename_i t
  split at h
  ·rename_i b hb
   rcases PB h with ⟨rfl,h⟩ | ⟨rfl,h⟩
   ·exact⟨true,_,by show (f7 S.env t).av=_; rw [hb]; rfl,Ip hb,Iq hS _ _,rfl,h⟩
   ·exact⟨false,_,by show (f7 S.env t).av=_; rw [hb]; rfl,Ip hb,Iq hS _ _,rfl,h⟩
  ·cases h
 ·rename_i b
  exact⟨b,S,rfl,rfl,hS,rfl,h⟩
 ·cases h
theorem Br {v:V} {κ:Int→Option ρ} {r:ρ} (h:Mq v κ=some r): ∃ n,FJ v.av=some n∧κ n=some r:=by
 unfold Mq at h
 split at h
 ·exact⟨_,rfl,h⟩
 ·cases h
theorem bU.look {G:List (Option bU)} {r:Nat} {tr:bU} (h:nZ G r=some (some tr)):cY G r=some tr:=by
 unfold cY
 rw [h]
 rfl
theorem ek {S:TS} {p:bS} {κ: (t:Ty)→List t.D→Option ρ} {r:ρ} (h:qp S p κ=some r):
  ∃ (t:Ty) (l:List t.D),S.st.look p= .sl t.width (l.map t.row)∧(p.l= [] →cY S.gh p.r=some ⟨t,l,none⟩)∧κ t l=some r:=by
 unfold qp at h
 split at h
 ·rename_i tr htr
  have hg:=bU.look htr
  split at h
  ·rename_i hh
   obtain⟨t,l,hole⟩:=tr
   simp only at hh
   subst hh
   split at h
   ·rename_i hp
    refine⟨t,l,?_,fun _=>hg,h⟩
    unfold St.look
    have :S.st.gh p.r=some (.sl t.width (l.map t.row)):=by show (cY S.gh p.r).map bU.tree=_; rw [hg]; rfl
    rw [this,hp]
    rfl
   ·rename_i i j hp
    simp only [Option.bind_eq_some_iff] at h
    obtain⟨x,hx,h⟩:=h
    split at h
    ·rename_i t' l' hj
     refine⟨t',l',?_,(fun h0=>by rw [hp] at h0; cases h0),h⟩
     unfold St.look
     have :S.st.gh p.r=some (.sl t.width (l.map t.row)):=by show (cY S.gh p.r).map bU.tree=_; rw [hg]; rfl
     rw [this,hp]
     simp only [T.go,T.cell]
     have e1: (l.map t.row).getD i [] =t.row x:=by simp [List.getD_eq_getElem?_getD,hx]
     rw [e1,t.row_flat]
     rw [dj] at hj
     simp [List.getD_eq_getElem?_getD,hj,C.tree]
    ·cases h
   ·cases h
  ·cases h
 ·cases h
end
end Go.Proofs.YtkcgfceffffmoaaGreat.En
namespace Go.Proofs.YtkcgfceffffmoaaGreat.En
open Go
def Ty.shs (t:Ty):List Nat:=t.csh.map fun | some e=>e.width | none=>0
structure TI.ok (P:Program) (t:TypeId) (ti:TI):Prop where
 ag:DL P t=some ti.ty.ag
 cells:P.cellsOf t=ti.ty.width
 sh:n0 P 9 t=ti.ty.shs
 ze:xN P t=some ti.ty.zvs
 fd: ∀ k,Nm P t k=nZ ti.fds k
 pl:ti.ty.ag=true→Rz P t=some (ti.fds.map fun x=>(x.1,x.2.1))
 el: ∀ e,ti.ty= .ls e→ ∃ el,wo P t=some el∧P.cellsOf el=e.width∧P.bytesOf el=ti.el∧0 < ti.el∧n0 P 9 el=e.shs∧xN P el=some e.zvs
 bool:ti.ty= .b→P.underlying t=some .bool
 gu:ti.ty.ag=true→ti.ty.flatB=true→P.eqGuardType P.depth t=false
 eq:ti.ty.ag=true→ ∀ (a b:List Cl) (r:Bool) (xs ys:List Value),kf ti.ty.zvs a=true→kf ti.ty.zvs b=true→um a b=some r→a=xs.map (fun x=> .c (.sc x))→b=ys.map (fun x=> .c (.sc x))→bz P (Op.equal t (.agg xs.toArray) (.agg ys.toArray))=some r
 str:FI P t=(match ti.ty with | .s=>true | _=>false)
 int: ∀ k,ti.ty= .i k→P.underlying t=some (.int k)
def eb (P:Program) (Θ:oI):Prop:= ∀ t ti,mo Θ t=some ti→ti.ok P t
theorem Ty.width_pos (t:Ty):0 < t.width:=by
 cases t with
 | st n=>cases n <;> decide
 | _=>exact Nat.one_pos
theorem C.ro_tree (c:C):T.ro c.tree=c.av:=by cases c <;> rfl
theorem C.own_tree (p:bS) (i m:Nat) (c:C):Nn p i m c.tree=(Kr p i m c).av:=by
 cases c with
 | sc v=>rfl
 | ls t l=>simp [Nn,C.tree,Kr,Cl.av]
theorem yb {α β:Type} (f:Nat→α→β): ∀ (j:Nat) (l:List α) (k:Nat),(xY f j l)[k]? =(l[k]?).map (f (j+k))
 | j,[],k=>by simp [xY]
 | j,a::l,0=>by simp [xY]
 | j,a::l,k+1=>by simp only [xY,List.getElem?_cons_succ]; rw [yb f (j+1) l k]; congr 2; omega
section
variable {ρ:Type} {P:Program} {Θ:oI} {S:TS}
theorem j8 {p:bS} {sz:Nat} {rows:List (List T)} (h:S.st.look p= .sl sz rows):S.st.rows p sz=some rows:=by
 unfold St.rows
 rw [h]
 simp
theorem Mt (hS:S.ok) {n:Nat} {v:Cl} (hv:v.ok S.gh) {κ:List Cl→Option ρ} {r:ρ} (h:Ks S n v κ=some r):
  ∃ cs:List Cl,cJ S.st n v.av=some (cs.map Cl.av)∧(∀ c∈cs,c.ok S.gh)∧κ cs=some r:=by
 unfold Ks at h
 split at h
 ·rename_i b j
  split at h
  ·rename_i cs hcs
   obtain⟨h1,h⟩:=am h
   have h1:j+n≤cs.length:=Nat.le_of_ble_eq_true h1
   refine⟨_,?_,fun c hc=> ?_,h⟩
   ·simp only [Cl.av,cJ,TS.st,hcs,Option.map_some,Option.bind_some,List.length_map]
    rw [if_pos h1]
    simp [List.map_take,List.map_drop]
   ·rw [dj] at hcs
    exact hS.bx cs (List.mem_of_getElem? hcs) c (List.mem_of_mem_drop (List.mem_of_mem_take hc))
  ·cases h
 ·rename_i cells
  obtain⟨h1,h⟩:=am h
  have h1:n≤cells.length:=Nat.le_of_ble_eq_true h1
  refine⟨_,?_,fun c hc=> ?_,h⟩
  ·simp only [Cl.av,cJ,List.length_map]
   rw [if_pos h1]
   congr 1
   rw [←List.map_take,List.map_map,List.map_map]
   exact List.map_congr_left fun c _=>C.ro_tree c
  ·obtain⟨x,_,rfl⟩:=List.mem_map.1 hc
   trivial
 ·rename_i p sz i j
  obtain⟨t,l,h1,_,h5⟩:=ek h
  obtain⟨h2,h6⟩:=am h5
  clear h h5
  simp only [Bool.and_eq_true] at h2
  have h3:t.width=sz:=Nat.eq_of_beq_eq_true h2.1
  have h4:j+n≤sz:=Nat.le_of_ble_eq_true h2.2
  subst h3
  obtain⟨x,hx,h⟩:=Option.bind_eq_some_iff.1 h6
  have hil:i < l.length:=(List.getElem?_eq_some_iff.1 hx).1
  have hfl: (t.flat x).length=t.width:=t.flat_length x
  refine⟨_,?_,fun c hc=> ?_,h⟩
  ·have e1: (l.map t.row).getD i [] =t.row x:=by simp [List.getD_eq_getElem?_getD,hx]
   simp only [Cl.av,cJ,j8 h1]
   rw [e1,if_pos ⟨by simpa using hil,by rw [t.row_length]; exact h4⟩]
   congr 1
   apply List.ext_getElem?
   intro k
   rw [List.getElem?_map,List.getElem?_map,yb]
   by_cases hk:k < n
   ·have hjk:j+k < (t.flat x).length:=by omega
    rw [List.getElem?_range hk,List.getElem?_take,if_pos hk,List.getElem?_drop,List.getElem?_eq_getElem hjk]
    simp only [Option.map_some]
    rw [t.row_flat,List.getD_eq_getElem?_getD,List.getElem?_map,List.getElem?_eq_getElem hjk]
    simp only [Option.map_some,Option.getD_some]
    rw [C.own_tree]
   ·rw [List.getElem?_take,if_neg hk,List.getElem?_eq_none (by simp; omega)]
    rfl
  ·obtain⟨k,hk⟩:=List.getElem?_of_mem hc
   rw [yb] at hk
   simp only [Option.map_eq_some_iff] at hk
   obtain⟨y,_,rfl⟩:=hk
   cases y with
   | sc v=>trivial
   | ls t' l'=>exact⟨hv,fun h=>by cases h⟩
 ·cases h
theorem NX {G:List (Option bU)} {ag:Bool} {cs:List Cl} (hcs: ∀ c∈cs,c.ok G) {κ:V→Option ρ} {r:ρ} (h:Sk ag cs κ=some r): ∃ v,Qp ag (cs.map Cl.av)=some v.av∧v.ok G∧κ v=some r:=by
 unfold Sk at h
 cases ag with
 | true=>refine⟨_,rfl,?_,h⟩; exact hcs
 | false=>
   simp only [cond_false] at h
   split at h
   ·rename_i c
    refine⟨_,rfl,?_,h⟩; exact hcs c (by simp)
   ·cases h
theorem Ir (hΘ:eb P Θ) (hS:S.ok) {t:TypeId} {v:V} (hv:v.ok S.gh) {κ:V→Option ρ} {r:ρ} (h:Ig Θ S t v κ=some r):
  ∃ u,load P S.st t v.av=some u.av∧u.ok S.gh∧κ u=some r:=by
 unfold Ig at h
 split at h
 ·rename_i ti hti
  have hok:=hΘ _ _ hti
  split at h
  ·rename_i a
   obtain⟨cs,h1,h2,h⟩:=Mt hS hv h
   obtain⟨u,h3,h4,h⟩:=NX h2 h
   refine⟨u,?_,h4,h⟩
   unfold load
   rw [hok.ag,hok.cells]
   simp only [Option.bind_some,V.av,V1.av,h1]
   exact h3
  ·cases h
 ·cases h
theorem PC {n:Nat} {i:Int} {v:Cl} (hv:v.ok S.gh) {κ:Cl→Option ρ} {r:ρ} (h:QQ n i S v κ=some r): ∃ c,wr n i v.av=some c.av∧c.ok S.gh∧κ c=some r:=by
 unfold QQ at h
 split at h
 ·rename_i t l
  obtain⟨h1,h⟩:=am h
  have h1:t.width=n:=Nat.eq_of_beq_eq_true h1
  obtain⟨h2,h⟩:=c8 h
  obtain⟨x,hx,h⟩:=Option.bind_eq_some_iff.1 h
  have hil:=(List.getElem?_eq_some_iff.1 hx).1
  refine⟨_,?_,?_,h⟩
  rotate_left
  ·trivial
  simp only [Cl.av,C.av,wr,List.length_map]
  rw [if_pos ⟨h2,by omega,h1⟩]
  congr 1
  simp [List.getD_eq_getElem?_getD,hx,t.row_flat]
 ·rename_i p sz lo len
  obtain⟨h1,h⟩:=am h
  have h1:sz=n:=Nat.eq_of_beq_eq_true h1
  obtain⟨t,l,h2,h3,h⟩:=ek h
  obtain⟨h4,h⟩:=c8 h
  obtain⟨h5,h6⟩:=hv
  obtain⟨h7,h8,h9⟩:=h6 rfl
  have h10:=h9 _ (h3 h7)
  simp only at h10
  refine⟨_,?_,?_,h⟩
  rotate_left
  ·exact h5
  simp only [Cl.av,wr]
  rw [if_pos ⟨h4.1,by omega,h1⟩,h8,Nat.zero_add]
 ·rename_i p sz lo len
  obtain⟨h1,h⟩:=am h
  have h1:sz=n:=Nat.eq_of_beq_eq_true h1
  obtain⟨h4,h⟩:=c8 h
  refine⟨_,?_,?_,h⟩
  rotate_left
  ·exact hv.1
  simp only [Cl.av,wr]
  rw [if_pos ⟨h4.1,h4.2,h1⟩]
 ·cases h
theorem Lx {v:Cl} (hv:v.ok S.gh) {κ:Int→Option ρ} {r:ρ} (h:Pu S v κ=some r): ∃ n,su v.av=some n∧κ n=some r:=by
 unfold Pu at h
 split at h
 ·exact⟨_,by simp [Cl.av,C.av,su],h⟩
 ·obtain⟨t,l,h2,h3,h⟩:=ek h
  obtain⟨h5,h6⟩:=hv
  obtain⟨h7,h8,h9⟩:=h6 rfl
  have h10:=h9 _ (h3 h7)
  simp only at h10
  exact⟨_,by simp [Cl.av,su,h10],h⟩
 ·exact⟨_,rfl,h⟩
 ·exact⟨_,rfl,h⟩
 ·cases h
theorem PD {n:Nat} {lo hi:Int} {v:Cl} (hv:v.ok S.gh) {κ:Cl→Option ρ} {r:ρ} (h:QR n lo hi v κ=some r): ∃ c,Qq n lo hi v.av=some c.av∧c.ok S.gh∧κ c=some r:=by
 unfold QR at h
 split at h
 ·obtain⟨h1,h⟩:=c8 h
  exact⟨.em,by simp [Cl.av,Qq,h1],trivial,h⟩
 ·rename_i t l
  obtain⟨h1,h⟩:=am h
  have h1:t.width=n:=Nat.eq_of_beq_eq_true h1
  obtain⟨h2,h⟩:=c8 h
  refine⟨_,?_,?_,h⟩
  rotate_left
  ·trivial
  simp only [Cl.av,C.av,Qq,List.length_map]
  rw [if_pos ⟨h1,h2⟩]
  simp [List.map_take,List.map_drop]
 ·rename_i p sz l len w
  obtain⟨h1,h⟩:=am h
  have h1:sz=n:=Nat.eq_of_beq_eq_true h1
  obtain⟨h2,h⟩:=c8 h
  refine⟨_,?_,?_,h⟩
  rotate_left
  ·exact⟨hv.1,fun h=>by cases h⟩
  simp only [Cl.av,Qq]
  rw [if_pos ⟨h1,h2⟩]
 ·cases h
theorem Fc {d:Int} {x:Option Operand} {κ:Int→Option ρ} {r:ρ} (h:F6 S d x κ=some r): ∃ n,j7 S.st d x=some n∧κ n=some r:=by
 unfold F6 at h
 split at h
 ·exact⟨_,rfl,h⟩
 ·obtain⟨n,h1,h⟩:=Br h
  exact⟨n,by simp only [j7,ba]; exact h1,h⟩
theorem PE {G:List (Option bU)}: ∀ (parts:List (Nat×V)) (pl:List (Nat×Nat×Bool)) (cs cs':List Cl),(∀ c∈cs,c.ok G)→(∀ x∈parts,x.2.ok G)→Mr pl cs parts=some cs'→
  Pc (pl.map fun x=>(x.1,x.2.1)) (cs.map Cl.av) (parts.map fun x=>(x.1,x.2.av))=some (cs'.map Cl.av)∧ ∀ c∈cs',c.ok G:=by
 intro parts
 induction parts with
 | nil=>
   intro pl cs cs' hcs _ h
   simp only [Mr,Option.some.injEq] at h
   subst h
   exact⟨rfl,hcs⟩
 | cons x parts ih=>
   intro pl cs cs' hcs hp h
   obtain⟨k,v⟩:=x
   simp only [Mr] at h
   split at h
   ·rename_i off n ag hk
    split at h
    ·rename_i x
     have hx:x.ok G:=hp (k, .v x) (by simp)
     have cd: ∀ (hd: (V.v x).av.isDead=false) (hcell: (V.v x).av.cells=x.cells.map Cl.av) (hcok: ∀ c∈x.cells,c.ok G)
       (h: (bif Nat.beq x.cells.length n&&Nat.ble (off+n) cs.length then Mr pl (cs.take off++x.cells++cs.drop (off+n)) parts else none)=some cs'),
       Pc (pl.map fun x=>(x.1,x.2.1)) (cs.map Cl.av) (((k,V.v x)::parts).map fun x=>(x.1,x.2.av))=some (cs'.map Cl.av)∧ ∀ c∈cs',c.ok G:=by
      intro hd hcell hcok h
      obtain⟨h1,h⟩:=am h
      simp only [Bool.and_eq_true] at h1
      have h2:x.cells.length=n:=Nat.eq_of_beq_eq_true h1.1
      have h3:off+n≤cs.length:=Nat.le_of_ble_eq_true h1.2
      obtain⟨g1,g2⟩:=ih pl _ cs' (fun c hc=>by
       simp only [List.mem_append] at hc
       rcases hc with (hc | hc) | hc
       ·exact hcs c (List.mem_of_mem_take hc)
       ·exact hcok c hc
       ·exact hcs c (List.mem_of_mem_drop hc)) (fun y hy=>hp y (List.mem_cons_of_mem _ hy)) h
      refine⟨?_,g2⟩
      rw [dj] at hk
      simp only [List.map_cons,Pc,List.getElem?_map,hk,Option.map_some]
      rw [if_pos ⟨hd,by rw [hcell]; simpa using h2,by simpa using h3⟩,←g1,hcell]
      simp [List.map_take,List.map_drop]
     cases x with
     | cl c=>cases c with
       | dead=>cases h
       | c y=>cases y <;> exact cd rfl rfl (fun c hc=>by simp only [V1.cells,List.mem_singleton] at hc; subst hc; exact hx) h
       | em=>exact cd rfl rfl (fun c hc=>by simp only [V1.cells,List.mem_singleton] at hc; subst hc; exact hx) h
       | own p sz lo len w=>exact cd rfl rfl (fun c hc=>by simp only [V1.cells,List.mem_singleton] at hc; subst hc; exact hx) h
       | pro cs=>exact cd rfl rfl (fun c hc=>by simp only [V1.cells,List.mem_singleton] at hc; subst hc; exact hx) h
       | ptrB n j=>exact cd rfl rfl (fun c hc=>by simp only [V1.cells,List.mem_singleton] at hc; subst hc; exact hx) h
       | ptrT p sz i j=>exact cd rfl rfl (fun c hc=>by simp only [V1.cells,List.mem_singleton] at hc; subst hc; exact hx) h
     | agg cs2=>exact cd rfl rfl hx h
     | fn f cs2=>cases h
    ·cases h
   ·cases h
end
end Go.Proofs.YtkcgfceffffmoaaGreat.En
namespace Go.Proofs.YtkcgfceffffmoaaGreat.En
open Go
theorem bf {α β:Type} {P:Program} (s:Sem α) (f:α→Sem β):bz P (s >>=f)=(bz P s).bind fun a=>bz P (f a):=by
 show bz P (s.bind f)=_
 induction s with
 | pure a=>rfl
 | program k ih=>exact ih P
 | _=>rfl
theorem bW {α:Type} {P:Program} (a:α):bz P (pure a)=some a:=rfl
theorem ur: ∀ {zs:List Value} {a:List Cl},kf zs a=true→ ∃ xs:List Value,a=xs.map (fun x=>Cl.c (.sc x))
 | [],[],_=>⟨[],rfl⟩
 | .int k n::zs,a,h=>by
   unfold kf at h
   split at h
   ·rename_i heq
    cases heq
   ·rename_i k1 n1 zs1 k2 n2 cs h1
    have hd:=h
    cases hk:decide (k1=k2) with
    | false=>rw [hk] at h; cases h
    | true=>
      rw [hk] at h
      obtain⟨xs,hx⟩:=ur (zs:=zs1) (a:=cs) h
      exact⟨.int k2 n2::xs,by rw [hx]; rfl⟩
   ·rename_i b1 zs1 b2 cs h1
    cases h1
   ·cases h
 | .bool b::zs,a,h=>by
   unfold kf at h
   split at h
   ·rename_i heq
    cases heq
   ·rename_i h1
    cases h1
   ·rename_i b1 zs1 b2 cs h1
    obtain⟨xs,hx⟩:=ur (zs:=zs1) (a:=cs) h
    exact⟨.bool b2::xs,by rw [hx]; rfl⟩
   ·cases h
 | .float _ _::_,_,h=>by simp [kf] at h
 | .complex _ _ _::_,_,h=>by simp [kf] at h
 | .string _::_,_,h=>by simp [kf] at h
 | .pointer _::_,_,h=>by simp [kf] at h
 | .slice _ _ _::_,_,h=>by simp [kf] at h
 | .map _::_,_,h=>by simp [kf] at h
 | .chan _::_,_,h=>by simp [kf] at h
 | .func _ _ _::_,_,h=>by simp [kf] at h
 | .nilFunc::_,_,h=>by simp [kf] at h
 | .iface _ _::_,_,h=>by simp [kf] at h
 | .nilIface::_,_,h=>by simp [kf] at h
 | .agg _::_,_,h=>by simp [kf] at h
 | .tuple _::_,_,h=>by simp [kf] at h
 | [],_::_,h=>by simp [kf] at h
theorem Ly (f:AV→Option Value) (hf: ∀ v,f (.sc v)=some v): ∀ xs:List Value,((xs.map fun x=>Cl.c (.sc x)).map Cl.av).mapM f=some xs
 | [] =>rfl
 | x::xs=>by
   simp only [List.map_cons,List.mapM_cons,Ly f hf xs]
   show (f (.sc x)).bind _=_
   rw [hf]
   rfl
theorem Lz (xs:List Value):rL (V.v (.agg (xs.map fun x=>Cl.c (.sc x)))).av=some (.agg xs.toArray):=by
 simp only [V.av,V1.av,rL]
 rw [Ly _ (fun _=>rfl)]
 rfl
theorem cX {P:Program} {t:TypeId} {d:TypeDesc} (h:P.underlying t=some d):bz P (underlying t)=some d:=by
 simp only [underlying,bf,program,bz,Option.bind_some,h]
 rfl
section
variable {ρ:Type} {P:Program} {Θ:oI} {S:TS}
theorem NY (hΘ:eb P Θ) {t:TypeId} {x y:V} {κ:Bool→Option ρ} {r:ρ} (h:Ry Θ t x y κ=some r):
  ∃ b,κ b=some r∧((∃ k a c,x.av= .sc (.int k a)∧y.av= .sc (.int k c)∧b=(a==c))∨
    ((∀ k a k' c,¬ (x.av= .sc (.int k a)∧y.av= .sc (.int k' c)))∧ ∃ xv yv,rL x.av=some xv∧rL y.av=some yv∧(∀ op xo yo,bz P (eqGuard op t xo yo xv yv)=some ())∧bz P (binOp .eql t xv yv)=some (.bool b)∧bz P (binOp .neq t xv yv)=some (.bool (!b)))):=by
 unfold Ry at h
 split at h
 ·rename_i k a k' c
  split at h
  ·rename_i hk
   subst hk
   exact⟨_,h, .inl ⟨k,a,c,rfl,rfl,rfl⟩⟩
  ·cases h
 ·rename_i a c
  split at h
  ·rename_i ti hti
   split at h
   ·rename_i hb
    have hu:=(hΘ _ _ hti).bool hb
    have hE:bz P (Op.equal t (.bool a) (.bool c))=some (a==c):=by
     show bz P (Op.equalIn (9999+1) t (.bool a) (.bool c))=_
     rw [Op.equalIn]
     simp only [bf,cX hu,Option.bind_some,bW]
    refine⟨_,h, .inr ⟨fun k a k' c hc=>by simp [V.av,V1.av,Cl.av,C.av] at hc, .bool a, .bool c,rfl,rfl,fun op xo yo=> ?_,?_,?_⟩⟩
    ·cases op <;> simp [eqGuard,bW] <;> rfl
    ·simp only [binOp,bf,hE,Option.bind_some,bW]
    ·simp only [binOp,bf,hE,Option.bind_some,bW]
   ·cases h
  ·cases h
 ·rename_i a c
  split at h
  ·rename_i ti hti
   obtain⟨h1,h'⟩:=am h
   simp only [Bool.and_eq_true] at h1
   obtain⟨⟨⟨h1,hfl⟩,h2⟩,h3⟩:=h1
   split at h'
   ·rename_i b hb
    obtain⟨xs,hx⟩:=ur h2
    obtain⟨ys,hy⟩:=ur h3
    have hok:=hΘ _ _ hti
    have hE:=hok.eq h1 a c b xs ys h2 h3 hb hx hy
    have hg:=hok.gu h1 hfl
    refine⟨_,h', .inr ⟨fun k a k' c hc=>by simp [V.av,V1.av] at hc, .agg xs.toArray, .agg ys.toArray,by rw [hx]; exact Lz xs,by rw [hy]; exact Lz ys,fun op xo yo=> ?_,?_,?_⟩⟩
    ·cases op <;> simp [eqGuard,bf,bW,program,bz,hg]
    ·simp only [binOp,bf,hE,Option.bind_some,bW]
    ·simp only [binOp,bf,hE,Option.bind_some,bW]
   ·cases h'
  ·cases h
 ·cases h
theorem ni {f:IntKind→Int→Int→Option ρ} {x y:V} {r:ρ} (h:V.ints f x y=some r): ∃ k a b,x.av= .sc (.int k a)∧y.av= .sc (.int k b)∧f k a b=some r:=by
 unfold V.ints at h
 split at h
 ·split at h
  ·rename_i k a k' b hk
   subst hk
   exact⟨k,a,b,rfl,rfl,h⟩
  ·cases h
 ·cases h
theorem PF (hΘ:eb P Θ) {D:qk} {op:BinOp} {t t':TypeId} {x y:Operand} {κ:V→Option ρ} {r:ρ} (h:QS Θ op t (S.opd x) (S.opd y) κ=some r) {dst:Option Tmp} {ty:TypeId} {pos:String} {aft:Array Edge} {gd:Option (Nat×Bool)}:
  ∃ v:V,ao D P S.st ⟨dst, .binOp op t x y t',ty,pos,aft,gd⟩=some v.av∧(∀ G,v.ok G)∧κ v=some r:=by
 have eqs: ∀ (b:Bool) (xv yv:Value),rL (opd S.st x)=some xv→rL (opd S.st y)=some yv→bz P (eqGuard op t x y xv yv)=some ()→bz P (binOp op t xv yv)=some (.bool b)→
   bV P S.st ⟨dst, .binOp op t x y t',ty,pos,aft,gd⟩=some (.sc (.bool b)):=by
  intro b xv yv h1 h2 h3 h4
  unfold bV
  rw [if_pos (by simp [Op.operands,h1,h2])]
  simp only [execOp,h1,h2,Option.getD_some,bf,h3,h4,Option.bind_some,bW,Sg,pn,if_true]
 cases op with
 | lss=>obtain⟨k,a,b,h1,h2,h3⟩:=ni h; exact⟨_,by simp only [ao,ba,h1,h2,if_true]; rfl,fun G=>V.ok_sc G _,h3⟩
 | leq=>obtain⟨k,a,b,h1,h2,h3⟩:=ni h; exact⟨_,by simp only [ao,ba,h1,h2,if_true]; rfl,fun G=>V.ok_sc G _,h3⟩
 | gtr=>obtain⟨k,a,b,h1,h2,h3⟩:=ni h; exact⟨_,by simp only [ao,ba,h1,h2,if_true]; rfl,fun G=>V.ok_sc G _,h3⟩
 | geq=>obtain⟨k,a,b,h1,h2,h3⟩:=ni h; exact⟨_,by simp only [ao,ba,h1,h2,if_true]; rfl,fun G=>V.ok_sc G _,h3⟩
 | add=>obtain⟨k,a,b,h1,h2,h3⟩:=ni h; exact⟨_,by simp only [ao,ba,h1,h2,if_true]; rfl,fun G=>V.ok_sc G _,h3⟩
 | sub=>obtain⟨k,a,b,h1,h2,h3⟩:=ni h; exact⟨_,by simp only [ao,ba,h1,h2,if_true]; rfl,fun G=>V.ok_sc G _,h3⟩
 | mul=>obtain⟨k,a,b,h1,h2,h3⟩:=ni h; exact⟨_,by simp only [ao,ba,h1,h2,if_true]; rfl,fun G=>V.ok_sc G _,h3⟩
 | eql=>
   have h':Ry Θ t (S.opd x) (S.opd y) (fun r=>κ (V.sc (.bool r)))=some r:=h
   obtain⟨b,h1,h2⟩:=NY hΘ h'
   refine⟨_,?_,fun G=>V.ok_sc G _,h1⟩
   rcases h2 with ⟨k,a,c,e1,e2,rfl⟩ | ⟨hn,xv,yv,e1,e2,e3,e4,e5⟩
   ·simp only [ao,ba,e1,e2,if_true]; rfl
   ·simp only [ao]
    split
    ·rename_i k a k' c g1 g2
     exact absurd ⟨by rw [←ba]; exact g1,by rw [←ba]; exact g2⟩ (hn k a k' c)
    ·exact eqs b xv yv (by rw [ba]; exact e1) (by rw [ba]; exact e2) (e3 _ _ _) e4
 | neq=>
   have h':Ry Θ t (S.opd x) (S.opd y) (fun r=>κ (V.sc (.bool (!r))))=some r:=h
   obtain⟨b,h1,h2⟩:=NY hΘ h'
   refine⟨_,?_,fun G=>V.ok_sc G _,h1⟩
   rcases h2 with ⟨k,a,c,e1,e2,rfl⟩ | ⟨hn,xv,yv,e1,e2,e3,e4,e5⟩
   ·simp only [ao,ba,e1,e2,if_true]; rfl
   ·simp only [ao]
    split
    ·rename_i k a k' c g1 g2
     exact absurd ⟨by rw [←ba]; exact g1,by rw [←ba]; exact g2⟩ (hn k a k' c)
    ·exact eqs (!b) xv yv (by rw [ba]; exact e1) (by rw [ba]; exact e2) (e3 _ _ _) e5
 | quo=>
   have h':V.ints (fun k a b=>if b=0 then none else κ (V.sc (.int k (k.wrap (a.tdiv b))))) (S.opd x) (S.opd y)=some r:=h
   obtain⟨k,a,b,h1,h2,h3⟩:=ni h'
   split at h3
   ·cases h3
   ·rename_i hb
    refine⟨_,?_,fun G=>V.ok_sc G _,h3⟩
    have hx:rL (opd S.st x)=some (.int k a):=by rw [ba,h1]; rfl
    have hy:rL (opd S.st y)=some (.int k b):=by rw [ba,h2]; rfl
    simp only [ao]
    unfold bV
    rw [if_pos (by simp [Op.operands,hx,hy])]
    have e:bz P (binOp .quo t (.int k a) (.int k b))=some (.int k (k.wrap (a.tdiv b))):=by
     simp only [binOp,ne_eq,not_true,if_false,Op.intDiv,if_neg hb,bW]
    have e2:bz P (execOp (fun x=>(rL (opd S.st x)).getD undef) ⟨dst, .binOp .quo t x y t',ty,pos,aft,gd⟩)=some (.value (.int k (k.wrap (a.tdiv b)))):=by
     show bz P (do pure (Next.value (←(do eqGuard .quo t x y ((rL (opd S.st x)).getD undef) ((rL (opd S.st y)).getD undef); binOp .quo t ((rL (opd S.st x)).getD undef) ((rL (opd S.st y)).getD undef)))))=_
     rw [hx,hy]
     have g:bz P (eqGuard .quo t x y (.int k a) (.int k b))=some ():=rfl
     simp only [bf,Option.getD_some,g,e,Option.bind_some,bW]
    rw [e2]
    rfl
 | rem=>
   have h':V.ints (fun k a b=>if b=0 then none else κ (V.sc (.int k (a.tmod b)))) (S.opd x) (S.opd y)=some r:=h
   obtain⟨k,a,b,h1,h2,h3⟩:=ni h'
   split at h3
   ·cases h3
   ·rename_i hb
    refine⟨_,?_,fun G=>V.ok_sc G _,h3⟩
    have hx:rL (opd S.st x)=some (.int k a):=by rw [ba,h1]; rfl
    have hy:rL (opd S.st y)=some (.int k b):=by rw [ba,h2]; rfl
    simp only [ao]
    unfold bV
    rw [if_pos (by simp [Op.operands,hx,hy])]
    have e:bz P (binOp .rem t (.int k a) (.int k b))=some (.int k (a.tmod b)):=by
     simp only [binOp,ne_eq,not_true,if_false,Op.intDiv,if_neg hb,bW]
    have e2:bz P (execOp (fun x=>(rL (opd S.st x)).getD undef) ⟨dst, .binOp .rem t x y t',ty,pos,aft,gd⟩)=some (.value (.int k (a.tmod b))):=by
     show bz P (do pure (Next.value (←(do eqGuard .rem t x y ((rL (opd S.st x)).getD undef) ((rL (opd S.st y)).getD undef); binOp .rem t ((rL (opd S.st x)).getD undef) ((rL (opd S.st y)).getD undef)))))=_
     rw [hx,hy]
     have g:bz P (eqGuard .rem t x y (.int k a) (.int k b))=some ():=rfl
     simp only [bf,Option.getD_some,g,e,Option.bind_some,bW]
    rw [e2]
    rfl
 | _=>simp [QS] at h
end
end Go.Proofs.YtkcgfceffffmoaaGreat.En
namespace Go.Proofs.YtkcgfceffffmoaaGreat.En
open Go
theorem It {G:List (Option bU)}: ∀ (l:List V) (cs:List Cl),(∀ v∈l,v.ok G)→Ii l=some cs→l.map V.av=cs.map Cl.av∧ ∀ c∈cs,c.ok G
 | [],cs,_,h=>by
   simp only [Ii,Option.some.injEq] at h
   subst h
   exact⟨rfl,fun c hc=>by cases hc⟩
 | v::l,cs,hl,h=>by
   unfold Ii at h
   split at h
   ·rename_i heq; cases heq
   ·rename_i c l' heq
    cases heq
    split at h
    ·rename_i r hr
     simp only [Option.some.injEq] at h
     subst h
     obtain⟨h1,h2⟩:=It l r (fun v hv=>hl v (List.mem_cons_of_mem _ hv)) hr
     refine⟨by simp only [List.map_cons,h1]; rfl,fun x hx=> ?_⟩
     rcases List.mem_cons.1 hx with rfl | hx
     ·exact hl _ List.mem_cons_self
     ·exact h2 x hx
    ·cases h
   ·cases h
section
variable {ρ:Type} {P:Program} {Θ:oI} {S:TS} {D:qk}
theorem Fd (hΘ:eb P Θ) (hS:S.ok) {o:Oper} {κ:V→TS→Option ρ} {r:ρ} (h:B7 Θ S o κ=some r):
  ∃ v S',ao D P S.st o=some v.av∧S'.st=S.st∧S'.ok∧S'.gh=S.gh∧v.ok S.gh∧κ v S'=some r:=by
 have ok: ∀ x,(S.opd x).ok S.gh:=fun x=>ko hS x
 have done: ∀ {v:V},ao D P S.st o=some v.av→v.ok S.gh→κ v S=some r→ ∃ v S',ao D P S.st o=some v.av∧S'.st=S.st∧S'.ok∧S'.gh=S.gh∧v.ok S.gh∧κ v S'=some r:=fun h1 h2 h3=>⟨_,S,h1,rfl,hS,rfl,h2,h3⟩
 obtain⟨dst,op,ty,pos,aft,gd⟩:=o
 unfold B7 at h
 cases op with
 | move x=>exact done (by simp only [ao,ba]) (ok x) h
 | assign x=>exact done (by simp only [ao,ba]) (ok x) h
 | pick c a b=>
   simp only at h
   obtain⟨t,S1,h1,h2,h3,h4,h⟩:=Cc hS h
   cases t with
   | true=>exact⟨_,S1,by simp only [ao,h1,if_true]; rw [←h2,ba],h2,h3,h4,by rw [←h4]; exact ko h3 _,h⟩
   | false=>exact⟨_,S1,by simp only [ao,h1,Bool.false_eq_true,if_false]; rw [←h2,ba],h2,h3,h4,by rw [←h4]; exact ko h3 _,h⟩
 | load t a=>
   simp only at h
   obtain⟨u,h1,h2,h⟩:=Ir hΘ hS (ok a) h
   exact done (by simp only [ao,ba]; exact h1) h2 h
 | nilCheck x=>
   simp only at h
   split at h <;> rename_i hx
   ·exact done (by simp only [ao,ba,hx]; rfl) (by rw [←hx]; exact ok x) h
   ·exact done (by simp only [ao,ba,hx]; rfl) (by rw [←hx]; exact ok x) h
   ·exact done (by simp only [ao,ba,hx]; rfl) (by rw [←hx]; exact ok x) h
   ·exact done (by simp only [ao,ba,hx]; rfl) (by rw [←hx]; exact ok x) h
   ·exact done (by simp only [ao,ba,hx]; rfl) (by rw [←hx]; exact ok x) h
   ·cases h
 | fieldAddr t x k=>
   simp only at h
   split at h
   ·rename_i ti hti
    split at h
    ·rename_i off n ag hk
     have hfd:=(hΘ _ _ hti).fd k
     rw [hk] at hfd
     cases hn:Nat.beq n 0 with
     | true=>rw [hn] at h; cases h
     | false=>
       rw [hn] at h
       have hn': ¬ n=0:=by intro h0; subst h0; cases hn
       simp only [cond_false] at h
       split at h <;> rename_i hx
       ·refine done ?_ ?_ h
        ·simp only [ao,hfd,Option.bind_some,ba,hx]
         rw [if_neg hn']
         rfl
        ·trivial
       ·refine done ?_ ?_ h
        ·simp only [ao,hfd,Option.bind_some,ba,hx]
         rw [if_neg hn']
         rfl
        ·have:=ok x
         rw [hx] at this
         exact this
       ·refine done ?_ ?_ h
        ·simp only [ao,hfd,Option.bind_some,ba,hx]
         rw [if_neg hn']
         simp [V.av,V1.av,Cl.av,List.map_drop]
        ·trivial
       ·cases h
    ·cases h
   ·cases h
 | field t x k=>
   simp only at h
   split at h
   ·rename_i ti hti
    split at h
    ·rename_i off n ag hk
     have hfd:=(hΘ _ _ hti).fd k
     rw [hk] at hfd
     split at h
     ·rename_i cs hx
      obtain⟨h1,h⟩:=am h
      simp only [Bool.and_eq_true] at h1
      have h2:off+n≤cs.length:=Nat.le_of_ble_eq_true h1.1
      have h3:0 < n:=Nat.le_of_ble_eq_true h1.2
      have hcs:=ok x
      rw [hx] at hcs
      obtain⟨v,h4,h5,h⟩:=NX (G:=S.gh) (fun c hc=>hcs c (List.mem_of_mem_drop (List.mem_of_mem_take hc))) h
      refine done ?_ h5 h
      simp only [ao,hfd,Option.bind_some,ba,hx,V.av,V1.av,List.length_map]
      rw [if_pos ⟨h2,h3⟩,←List.map_drop,←List.map_take]
      exact h4
     ·cases h
    ·cases h
   ·cases h
 | indexAddr t x ix=>
   simp only at h
   split at h
   ·rename_i ti hti
    split at h
    ·rename_i e he
     obtain⟨el,g1,g2,_⟩:=(hΘ _ _ hti).el e he
     obtain⟨i,h1,h⟩:=Br h
     split at h
     ·rename_i a hx
      have ha:=ok x
      rw [hx] at ha
      obtain⟨c,h2,h3,h⟩:=PC ha h
      refine done ?_ ?_ h
      ·simp only [ao,g1,Option.bind_some,ba,h1,hx,g2]
       exact h2
      ·exact h3
     ·cases h
    ·cases h
   ·cases h
 | build t parts=>
   simp only at h
   split at h
   ·rename_i ti hti
    obtain⟨h1,h⟩:=am h
    split at h
    ·rename_i cs hcs
     have hok:=hΘ _ _ hti
     obtain⟨g1,g2⟩:=PE (G:=S.gh) _ _ _ _ (fun c hc=>by
      obtain⟨v,_,rfl⟩:=List.mem_map.1 hc
      exact Lw _ _) (fun y hy=>by
      obtain⟨z,_,rfl⟩:=List.mem_map.1 hy
      exact ok z.2) hcs
     refine done ?_ ?_ h
     ·simp only [ao,hok.pl h1,hok.ze,Option.bind_some]
      have e1:ti.ty.zvs.map Bk=(ti.ty.zvs.map cC).map Cl.av:=by
       rw [List.map_map]
       exact List.map_congr_left fun v _=>(pg v).symm
      have e2:parts.toList.map (fun x=>(x.1,opd S.st x.2))=(parts.toList.map fun x=>(x.1,S.opd x.2)).map fun x=>(x.1,x.2.av):=by
       rw [List.map_map]
       exact List.map_congr_left fun x _=>by simp [ba]
      rw [e1,e2,g1]
      rfl
     ·exact g2
    ·cases h
   ·cases h
 | slice t x lo hi mx=>
   cases mx with
   | some m=>simp at h
   | none=>
     simp only at h
     split at h
     ·rename_i ti hti
      split at h
      ·rename_i e he
       obtain⟨el,g1,g2,_⟩:=(hΘ _ _ hti).el e he
       split at h
       ·rename_i a hx
        have ha:=ok x
        rw [hx] at ha
        obtain⟨n,h1,h⟩:=Lx ha h
        obtain⟨l,h2,h⟩:=Fc h
        obtain⟨m,h3,h⟩:=Fc h
        obtain⟨c,h4,h5,h⟩:=PD ha h
        refine done ?_ ?_ h
        ·simp only [ao,ba,hx]
         split
         ·rename_i s hs
          have hs':a.av= .sc (.string s):=hs
          rw [hs'] at h1
          cases h1
         ·show (wo P t).bind _=_
          rw [g1]
          simp only [Option.bind_some]
          show (su a.av).bind _=_
          rw [h1]
          simp only [Option.bind_some,h2,h3,g2]
          exact h4
        ·exact h5
       ·cases h
      ·cases h
     ·cases h
 | extract x k=>
   simp only at h
   split at h
   ·rename_i vs hx
    split at h
    ·rename_i v hv
     have hvs:=ok x
     rw [hx] at hvs
     rw [dj] at hv
     refine done ?_ ?_ h
     ·simp only [ao,ba,hx,V.av,List.getElem?_map,hv,Option.map_some]
     ·exact hvs v (List.mem_of_getElem? hv)
    ·cases h
   ·cases h
 | makeFunc fn first caps=>
   cases fn with
   | func f=>
     simp only at h
     obtain⟨h1,h⟩:=am h
     split at h
     ·rename_i cs hcs
      obtain⟨g1,g2⟩:=It (G:=S.gh) _ _ (fun v hv=>by
       obtain⟨y,_,rfl⟩:=List.mem_map.1 hv
       exact ok y) hcs
      refine done ?_ ?_ h
      ·simp only [ao,h1,if_true]
       have e:caps.toList.map (opd S.st)=(caps.toList.map S.opd).map V.av:=by
        rw [List.map_map]
        exact List.map_congr_left fun x _=>ba x
       rw [e,g1]
       rfl
      ·exact g2
     ·cases h
   | _=>simp at h
 | unOp op t x=>
   cases op with
   | not=>
     simp only at h
     split at h
     ·rename_i b hx
      refine done ?_ ?_ h
      ·simp only [ao,ba,hx]; rfl
      ·trivial
     ·cases h
   | _=>simp at h
 | binOp op t x y t'=>
   simp only at h
   obtain⟨v,h1,h2,h⟩:=PF (D:=D) (t':=t') (dst:=dst) (ty:=ty) (pos:=pos) (aft:=aft) (gd:=gd) hΘ h
   exact done h1 (h2 _) h
 | call c=>
   obtain⟨cl,as,ts⟩:=c
   cases cl with
   | value f=>simp at h
   | invoke a b=>simp at h
   | builtin b=>
     cases b with
     | len=>
       simp only at h
       split at h
       ·rename_i x t e1 e2
        split at h
        ·rename_i ti hti
         split at h
         ·rename_i e he
          obtain⟨el,g1,g2,_⟩:=(hΘ _ _ hti).el e he
          split at h
          ·rename_i a hx
           have ha:=ok x
           rw [hx] at ha
           obtain⟨n,h1,h⟩:=Lx ha h
           refine done ?_ ?_ h
           ·simp only [ao,e1,e2,g1,Option.isSome_some,if_true,ba,hx]
            show (su a.av).map _=_
            rw [h1]
            rfl
           ·trivial
          ·cases h
         ·cases h
        ·cases h
       ·cases h
     | max=>
       simp only at h
       split at h
       ·rename_i x y e1
        obtain⟨k,a,b,h1,h2,h⟩:=ni h
        refine done ?_ (V.ok_sc _ _) h
        simp only [ao,e1,List.map_cons,List.map_nil,ba,h1,h2]
        rfl
       ·cases h
     | min=>
       simp only at h
       split at h
       ·rename_i x y e1
        obtain⟨k,a,b,h1,h2,h⟩:=ni h
        refine done ?_ (V.ok_sc _ _) h
        simp only [ao,e1,List.map_cons,List.map_nil,ba,h1,h2]
        rfl
       ·cases h
     | _=>simp at h
 | convert s d x=>
   simp only at h
   split at h
   ·rename_i si di hs hd
    split at h
    ·rename_i k' hk
     split at h
     ·rename_i k n hx
      refine done ?_ (V.ok_sc _ _) h
      have hud:=(hΘ _ _ hd).int _ hk
      obtain⟨ds,hus⟩: ∃ ds,P.underlying s=some ds:=by
       have:=(hΘ _ _ hs).ag
       unfold DL at this
       cases hu:P.underlying s with
       | none=>rw [hu] at this; cases this
       | some ds=>exact⟨ds,rfl⟩
      have hxv:rL (opd S.st x)=some (.int k n):=by rw [ba,hx]; rfl
      simp only [ao]
      unfold bV
      rw [if_pos (by simp [Op.operands,hxv])]
      have e:bz P (Go.convert s d (.int k n))=some (.int k' (k'.wrap n)):=by
       unfold Go.convert
       simp only [bf,cX hus,cX hud,Option.bind_some]
       cases ds <;> rfl
      have e2:bz P (execOp (fun x=>(rL (opd S.st x)).getD undef) ⟨dst, .convert s d x,ty,pos,aft,gd⟩)=some (.value (.int k' (k'.wrap n))):=by
       show bz P (do pure (Next.value (←Go.convert s d ((rL (opd S.st x)).getD undef))))=_
       rw [hxv]
       simp only [bf,Option.getD_some,e,Option.bind_some,bW]
      rw [e2]
      rfl
     ·cases h
    ·cases h
   ·cases h
 | index t x ix=>
   simp only at h
   split at h
   ·rename_i ti hti
    split at h
    ·rename_i hs
     split at h
     ·rename_i s k i hx hi
      unfold aL at h
      split at h
      ·rename_i h0
       obtain⟨b,hb,h⟩:=Option.bind_eq_some_iff.1 h
       refine done ?_ (V.ok_sc _ _) h
       have hus:P.underlying t=some .string:=by
        have:=(hΘ _ _ hti).str
        rw [hs] at this
        unfold FI at this
        split at this
        ·assumption
        ·cases this
       have hxv:rL (opd S.st x)=some (.string s):=by rw [ba,hx]; rfl
       have hiv:rL (opd S.st ix)=some (.int k i):=by rw [ba,hi]; rfl
       have hxa:opd S.st x= .sc (.string s):=by rw [ba,hx]; rfl
       simp only [ao,hxa]
       unfold bV
       rw [if_pos (by simp [Op.operands,hxv,hiv])]
       have e:bz P (Instr.index t (.string s) (.int k i))=some (.int .u8 b.toNat):=by
        unfold Instr.index
        simp only [bf,asIntOf,bW,Option.bind_some,cX hus]
        rw [if_pos h0,hb]
        rfl
       have e2:bz P (execOp (fun x=>(rL (opd S.st x)).getD undef) ⟨dst, .index t x ix,ty,pos,aft,gd⟩)=some (.value (.int .u8 b.toNat)):=by
        show bz P (do pure (Next.value (←Instr.index t ((rL (opd S.st x)).getD undef) ((rL (opd S.st ix)).getD undef))))=_
        rw [hxv,hiv]
        simp only [bf,Option.getD_some,e,Option.bind_some,bW]
       rw [e2]
       rfl
      ·cases h
     ·cases h
    ·cases h
   ·cases h
 | _=>simp at h
end
end Go.Proofs.YtkcgfceffffmoaaGreat.En
namespace Go.Proofs.YtkcgfceffffmoaaGreat.En
open Go
theorem lD {G:List (Option bU)} {x:Option bU} (r:Nat):cY (G++ [x]) r=if r=G.length then x else cY G r:=by
 unfold cY
 rw [dj,dj]
 by_cases h:r=G.length
 ·subst h; simp
 ·rw [if_neg h]
  rcases Nat.lt_or_ge r G.length with h' | h'
  ·rw [List.getElem?_append_left h']
  ·rw [List.getElem?_eq_none (by simp; omega),List.getElem?_eq_none h']
theorem yc {G:List (Option bU)} (l:List bU) (r:Nat):cY (G++l.map some) r=if G.length≤r then l[r - G.length]? else cY G r:=by
 unfold cY
 rw [dj,dj]
 by_cases h:G.length≤r
 ·rw [if_pos h,List.getElem?_append_right h,List.getElem?_map]
  cases l[r - G.length]? <;> rfl
 ·rw [if_neg h,List.getElem?_append_left (by omega)]
theorem ut {G:List (Option bU)} {r:Nat} (h:G.length≤r):cY G r=none:=by
 unfold cY
 rw [dj,List.getElem?_eq_none h]
 rfl
theorem uu {G:List (Option bU)} {r:Nat} {tr:bU} (h:cY G r=some tr):r < G.length:=by
 rcases Nat.lt_or_ge r G.length with h' | h'
 ·exact h'
 ·rw [ut h'] at h; cases h
theorem oJ {G:List (Option bU)} {x:Option bU} (q r:Nat) (hq:q < G.length∨x=none):cY (cS G q x) r=if r=q then x else cY G r:=by
 unfold cY
 rw [dj,dj,eK,List.getElem?_set]
 by_cases h:q=r
 ·subst h
  simp only [if_true]
  rcases hq with hq | rfl
  ·rw [if_pos hq]; rfl
  ·split <;> rfl
 ·rw [if_neg h,if_neg (fun e=>h e.symm)]
theorem fV.app (G:List (Option bU)) (x:Option bU):fV G (G++ [x]):=⟨by simp,fun r tr hr h=>by
 rw [lD,if_neg (by omega)] at h
 exact⟨tr,h,rfl⟩⟩
theorem fV.apps (G:List (Option bU)) (l:List bU):fV G (G++l.map some):=⟨by simp,fun r tr hr h=>by
 rw [yc,if_neg (by omega)] at h
 exact⟨tr,h,rfl⟩⟩
theorem fV.gone (G:List (Option bU)) (q:Nat):fV G (cS G q none):=⟨by rw [eK]; simp,fun r tr hr h=>by
 rw [oJ q r (.inr rfl)] at h
 split at h
 ·cases h
 ·exact⟨tr,h,rfl⟩⟩
theorem fV.put {G:List (Option bU)} {q:Nat} {tr tr':bU} (h:cY G q=some tr) (hl:tr'.l.length=tr.l.length):fV G (cS G q (some tr')):=⟨by rw [eK]; simp,fun r t hr h'=>by
 rw [oJ q r (.inl (uu h))] at h'
 split at h'
 ·rename_i hq
  subst hq
  cases h'
  exact⟨tr,h,hl.symm⟩
 ·exact⟨t,h',rfl⟩⟩
theorem TS.ok_gh {S:TS} (hS:S.ok) {G:List (Option bU)} (hG:fV S.gh G): ({ S with gh:=G }:TS).ok:=
 ⟨fun x hx=>V.ok_mono hG (hS.env x hx),fun cs hcs c hc=>Cl.ok_mono hG (hS.bx cs hcs c hc)⟩
theorem Gc (S:TS) (x:bU): ({ S with gh:=S.gh++ [some x] }:TS).st= { S.st with gh:=bQ S.st.gh S.gh.length (some x.tree),ng:=S.gh.length+1 } :=by
 unfold TS.st
 simp only [List.length_append,List.length_singleton]
 congr 1
 funext r
 rw [lD]
 unfold bQ
 split <;> rfl
theorem wE (S:TS) (q:Nat): ({ S with gh:=cS S.gh q none }:TS).st= { S.st with gh:=bQ S.st.gh q none } :=by
 unfold TS.st
 simp only
 have : (cS S.gh q none).length=S.gh.length:=by rw [eK]; simp
 rw [this]
 congr 1
 funext r
 rw [oJ q r (.inr rfl)]
 unfold bQ
 split <;> rfl
theorem yd (S:TS) {q:Nat} (x:bU) (hq:q < S.gh.length): ({ S with gh:=cS S.gh q (some x) }:TS).st= { S.st with gh:=bQ S.st.gh q (some x.tree) } :=by
 unfold TS.st
 simp only
 have : (cS S.gh q (some x)).length=S.gh.length:=by rw [eK]; simp
 rw [this]
 congr 1
 funext r
 rw [oJ q r (.inl hq)]
 unfold bQ
 split <;> rfl
theorem Kx (S:TS) (cs:List Cl): ({ S with bx:=S.bx++ [cs] }:TS).st= { S.st with bx:=bQ S.st.bx S.bx.length (some (cs.map Cl.av)),nb:=S.bx.length+1 } :=by
 unfold TS.st
 simp only [List.length_append,List.length_singleton]
 congr 1
 funext n
 unfold bQ
 simp only [dj]
 by_cases h:n=S.bx.length
 ·subst h; simp
 ·rw [if_neg h]
  rcases Nat.lt_or_ge n S.bx.length with h' | h'
  ·rw [List.getElem?_append_left h']
  ·rw [List.getElem?_eq_none (by simp; omega),List.getElem?_eq_none h']
theorem Mu (S:TS) {b:Nat} (cs:List Cl) (hb:b < S.bx.length): ({ S with bx:=cS S.bx b cs }:TS).st= { S.st with bx:=bQ S.st.bx b (some (cs.map Cl.av)) } :=by
 unfold TS.st
 have : (cS S.bx b cs).length=S.bx.length:=by rw [eK]; simp
 simp only
 rw [this]
 congr 1
 funext n
 unfold bQ
 simp only [dj]
 rw [eK,List.getElem?_set]
 by_cases h:b=n
 ·subst h; simp [hb]
 ·rw [if_neg h,if_neg (fun e=>h e.symm)]
theorem NZ (t:Ty): (t.zvs.map cC).map Cl.av=t.zvs.map DM:=by
 cases t with
 | st n=>cases n <;> rfl
 | _=>rfl
theorem N0 (G:List (Option bU)) (t:Ty): ∀ c∈t.zvs.map cC,c.ok G:=fun c hc=>by
 obtain⟨v,_,rfl⟩:=List.mem_map.1 hc
 exact Lw _ _
def th (P:Program) (g:FuncId) (args:List V1) (b:Bool) (res:V) (out:List bU):Prop:=
 ∃ (t:Ty) (x:t.D) (as:List V1),args=Lu t x::as∧rT P g ((Pz t x 0).av::as.map V1.av) ((qP (t.flat x)).map bU.tree) (bif b then (qP (t.flat x)).length else 0) res.av (out.map bU.tree)
structure zG (P:Program) (f:Nat) (args:List V1) (res:V) (out:List bU):Prop where
 fn:f < gC→xR P f (args.map V1.av) [] res.av (out.map bU.tree)
 io: ∀ g,f=uI g→g < gC→th P g args true res out
 mv: ∀ g,f=B8 g→th P g args false res out
theorem N1 (g:Nat): ¬ uI g < gC:=Nat.not_lt.2 (Nat.le_add_left gC g)
theorem LA (g:Nat): ¬ B8 g < gC:=Nat.not_lt.2 (Nat.le_trans (Nat.le_add_left gC gC) (Nat.le_add_left Fa g))
theorem N2 {g g':Nat} (hg:g < gC):uI g≠B8 g':=fun h=>by
 have h1:uI g < Fa:=Nat.add_lt_add_right hg gC
 rw [h] at h1
 exact Nat.not_lt.2 (Nat.le_add_left Fa g') h1
theorem zG.of_fn {P:Program} {f:Nat} {args:List V1} {res:V} {out:List bU} (h:xR P f (args.map V1.av) [] res.av (out.map bU.tree)) (hf:f < gC):zG P f args res out:=
 ⟨fun _=>h,fun g e _=>absurd (e ▸ hf) (N1 g),fun g e=>absurd (e ▸ hf) (LA g)⟩
theorem zG.of_io {P:Program} {g:Nat} {args:List V1} {res:V} {out:List bU} (h:th P g args true res out) (hg:g < gC):zG P (uI g) args res out:=
 ⟨fun h'=>absurd h' (N1 g),fun g' e _=>by rw [←Nat.add_right_cancel (e:g+gC=g'+gC)]; exact h,fun g' e=>absurd e (N2 hg)⟩
theorem zG.of_mv {P:Program} {g:Nat} {args:List V1} {res:V} {out:List bU} (h:th P g args false res out):zG P (B8 g) args res out:=
 ⟨fun h'=>absurd h' (LA g),fun g' e hg=>absurd e.symm (N2 hg),fun g' e=>by rw [←Nat.add_right_cancel (e:g+Fa=g'+Fa)]; exact h⟩
theorem th.get {P:Program} {g:FuncId} {el:Ty} {l:List el.D} {as:List V1} {b:Bool} {res:V} {out:List bU} (h:th P g (.cl (.c (.ls el l))::as) b res out):rT P g (.own ⟨0,[]⟩ el.width 0 l.length::as.map V1.av) [.sl el.width (l.map el.row)] (bif b then 1 else 0) res.av (out.map bU.tree):=by
 obtain⟨t,x,as',he,h⟩:=h
 simp only [List.cons.injEq] at he
 obtain⟨he,rfl⟩:=he
 cases t with
 | ls el'=>
   have he':V1.cl (.c (.ls el l))= .cl (.c (.ls el' x)):=he
   cases he'
   exact h
 | st n=>cases n <;> cases he
 | _=>cases he
theorem th.getA {P:Program} {g:FuncId} {ys:List C} {as:List V1} {res:V} {out:List bU} (h:th P g (.agg (ys.map .c)::as) true res out):rT P g (.agg ((vz ys 0).map Cl.av)::as.map V1.av) ((qP ys).map bU.tree) (qP ys).length res.av (out.map bU.tree):=by
 obtain⟨t,x,as',he,h⟩:=h
 simp only [List.cons.injEq] at he
 obtain⟨he,rfl⟩:=he
 cases t with
 | st n=>
   have he':V1.agg (ys.map Cl.c)= .agg ((n.flat x).map Cl.c):=he
   simp only [V1.agg.injEq] at he'
   have :ys=n.flat x:=by
    have hi: ∀ (l m:List C),l.map Cl.c=m.map Cl.c→l=m:=by
     intro l
     induction l with
     | nil=>intro m hm; cases m with | nil=>rfl | cons a m=>cases hm
     | cons a l ih=>
       intro m hm
       cases m with
       | nil=>cases hm
       | cons b m=>
         simp only [List.map_cons,List.cons.injEq,Cl.c.injEq] at hm
         rw [hm.1,ih m hm.2]
    exact hi _ _ he'
   subst this
   exact h
 | _=>cases he
def aw (P:Program) (Y:xZ):Prop:= ∀ f args ρ κ r,Y f args ρ κ=some r→ ∃ res out,zG P f args res out∧res.ok (out.map some)∧κ res out=some r
section
variable {ρ:Type} {P:Program} {Θ:oI} {S:TS}
theorem Gd {α β:Type} {f:α→(β→Option ρ)→Option ρ} {R:α→β→Prop} (hf: ∀ a κ r,f a κ=some r→ ∃ b,R a b∧κ b=some r):
  ∀ (l:List α) (κ:List β→Option ρ) (r:ρ),B9 f l κ=some r→ ∃ bs,l.length=bs.length∧(∀ (k:Nat) (a:α) (b:β),l[k]? =some a→bs[k]? =some b→R a b)∧κ bs=some r:=by
 intro l
 induction l with
 | nil=>intro κ r h; exact⟨[],rfl,fun k a b ha=>by simp at ha,h⟩
 | cons a l ih=>
   intro κ r h
   obtain⟨b,h1,h⟩:=hf a _ r h
   obtain⟨bs,h2,h3,h⟩:=ih _ r h
   refine⟨b::bs,by simp [h2],fun k x y hx hy=> ?_,h⟩
   cases k with
   | zero=>simp at hx hy; subst hx hy; exact h1
   | succ k=>exact h3 k x y (by simpa using hx) (by simpa using hy)
theorem N3 {α β γ:Type} {f:α→γ} {g:β→γ} {l:List α} {bs:List β} (h1:l.length=bs.length) (h2: ∀ (k:Nat) (a:α) (b:β),l[k]? =some a→bs[k]? =some b→f a=g b):l.map f=bs.map g:=by
 apply List.ext_getElem?
 intro k
 rw [List.getElem?_map,List.getElem?_map]
 cases ha:l[k]? with
 | none=>
   rw [List.getElem?_eq_none_iff] at ha
   rw [List.getElem?_eq_none (by omega)]
   rfl
 | some a=>
   have:=(List.getElem?_eq_some_iff.1 ha).1
   rw [List.getElem?_eq_getElem (by omega:k < bs.length)]
   simp only [Option.map_some]
   rw [h2 k a _ ha (List.getElem?_eq_getElem (by omega))]
theorem tj {p:bS} {sz lo len:Nat} {t:Ty} {l:List t.D} (hc: (Cl.own p sz lo len true).ok S.gh) (h:p.l= [] →cY S.gh p.r=some ⟨t,l,none⟩):p.l= [] ∧lo=0∧len=l.length:=by
 obtain⟨_,h2⟩:=hc
 obtain⟨a,b,c⟩:=h2 rfl
 exact⟨a,b,c _ (h a)⟩
theorem Cd (hS:S.ok) {et:Option Ty} {c:Cl} (hc:c.ok S.gh) {κ:Cl→Option ρ} {r:ρ} (h:Ms S et c κ=some r): ∃ c',(∀ sz,(∀ t,et=some t→sz=t.width)→dh S.st sz c.av=c'.av)∧κ c'=some r:=by
 unfold Ms at h
 split at h
 ·rename_i x
  exact⟨_,fun sz _=>by cases x <;> rfl,h⟩
 ·split at h
  ·rename_i t
   exact⟨_,fun sz hsz=>by rw [hsz t rfl]; rfl,h⟩
  ·cases h
 ·rename_i p sz lo len
  obtain⟨t,l,h1,h2,h⟩:=ek h
  obtain⟨h3,h⟩:=am h
  have h3:t.width=sz:=Nat.eq_of_beq_eq_true h3
  obtain⟨h4,h5,h6⟩:=tj hc h2
  refine⟨_,fun sz' _=> ?_,h⟩
  simp only [Cl.av,dh,←h3,j8 h1,h5,h6,Nat.zero_add,List.length_map,Nat.le_refl,if_true,List.drop_zero,C.av]
  rw [List.take_of_length_le (by simp)]
 ·rename_i p sz lo len
  obtain⟨t,l,h1,h2,h⟩:=ek h
  obtain⟨h3,h⟩:=am h
  have h3:t.width=sz:=Nat.eq_of_beq_eq_true h3
  obtain⟨h4,h⟩:=c8 h
  refine⟨_,fun sz' _=> ?_,h⟩
  simp only [Cl.av,dh,←h3,j8 h1,List.length_map,h4,if_true,C.av]
  simp [List.map_take,List.map_drop]
 ·exact⟨_,fun _ _=>rfl,h⟩
 ·rename_i p sz i j
  obtain⟨t,l,h1,h2,h⟩:=ek h
  obtain⟨h3,h⟩:=am h
  have h3:t.width=sz:=Nat.eq_of_beq_eq_true h3
  obtain⟨x,hx,h⟩:=Option.bind_eq_some_iff.1 h
  refine⟨_,fun sz' _=> ?_,h⟩
  simp only [Cl.av,dh,←h3,j8 h1]
  have e1: (l.map t.row).getD i [] =t.row x:=by simp [List.getD_eq_getElem?_getD,hx]
  rw [e1,t.row_flat,List.map_drop]
 ·rename_i b j
  split at h
  ·rename_i cs hcs
   obtain⟨bs,h1,h2,h⟩:=Gd (R:=fun (c:Cl) (x:C)=>c.ok S.gh→T.ofAV S.st 0 c.av=x.tree) (fun c κ r h=>by
    split at h
    ·rename_i x
     exact⟨x,fun _=>by cases x <;> rfl,h⟩
    ·rename_i p sz lo len
     obtain⟨t,l,h1,h2,h⟩:=ek h
     obtain⟨h3,h⟩:=am h
     have h3:t.width=sz:=Nat.eq_of_beq_eq_true h3
     refine⟨_,fun hc=> ?_,h⟩
     obtain⟨h4,h5,h6⟩:=tj hc h2
     simp only [Cl.av,T.ofAV,←h3,j8 h1,h5,h6,Nat.zero_add,List.length_map,Nat.le_refl,if_true,List.drop_zero,C.tree]
     rw [List.take_of_length_le (by simp)]
    ·cases h) _ _ _ h
   refine⟨_,fun sz _=> ?_,h⟩
   simp only [Cl.av,dh,TS.st,hcs,Option.map_some]
   rw [←List.map_drop,List.map_map]
   congr 1
   refine N3 h1 (fun k a b ha hb=>h2 k a b ha hb ?_)
   rw [dj] at hcs
   exact hS.bx cs (List.mem_of_getElem? hcs) a (List.mem_of_mem_drop (List.mem_of_getElem? ha))
  ·cases h
 ·exact⟨_,fun _ _=>rfl,h⟩
theorem PG (hS:S.ok): ∀ (ets:List (Option Ty)) (cs:List Cl) (κ:List Cl→Option ρ) (r:ρ),(∀ c∈cs,c.ok S.gh)→Pv S ets cs κ=some r→
  ∃ cs',ets.length=cs.length∧List.zipWith (dh S.st) (ets.map fun | some e=>e.width | none=>0) (cs.map Cl.av)=cs'.map Cl.av∧κ cs'=some r:=by
 intro ets
 induction ets with
 | nil=>
   intro cs κ r hcs h
   cases cs with
   | nil=>exact⟨[],rfl,rfl,h⟩
   | cons c cs=>cases h
 | cons et ets ih=>
   intro cs κ r hcs h
   cases cs with
   | nil=>cases h
   | cons c cs=>
     unfold Pv at h
     obtain⟨c',h1,h⟩:=Cd hS (hcs c List.mem_cons_self) h
     obtain⟨cs',h2,h3,h⟩:=ih cs _ r (fun x hx=>hcs x (List.mem_cons_of_mem _ hx)) h
     refine⟨c'::cs',by simp [h2],?_,h⟩
     simp only [List.map_cons,List.zipWith_cons_cons,h3]
     rw [h1]
     intro t ht
     subst ht
     rfl
theorem N4 (hΘ:eb P Θ) (hS:S.ok) {t:TypeId} {v:V} (hv:v.ok S.gh) {κ:V1→Option ρ} {r:ρ} (h:Sy Θ S t v κ=some r): ∃ v1:V1,iL S.st (n0 P 9 t) v.av=v1.av∧κ v1=some r:=by
 unfold Sy at h
 split at h
 ·cases h
 ·rename_i f cs
  obtain⟨bs,h1,h2,h⟩:=Gd (R:=fun (c c':Cl)=>c.ok S.gh→dh S.st 0 c.av=c'.av) (fun c κ r h=>by
   by_cases hc:c.ok S.gh
   ·obtain⟨c',h1,h⟩:=Cd hS hc h
    exact⟨c',fun _=>h1 0 (fun t ht=>by cases ht),h⟩
   ·have : ∃ c',κ c'=some r:=by
     unfold Ms at h
     split at h
     ·exact⟨_,h⟩
     ·cases h
     ·obtain⟨t,l,_,_,h⟩:=ek h; exact⟨_,(am h).2⟩
     ·obtain⟨t,l,_,_,h⟩:=ek h; exact⟨_,(c8 (am h).2).2⟩
     ·exact⟨_,h⟩
     ·obtain⟨t,l,_,_,h⟩:=ek h; obtain⟨x,_,h⟩:=Option.bind_eq_some_iff.1 (am h).2; exact⟨_,h⟩
     ·split at h
      ·obtain⟨bs,_,_,h⟩:=Gd (R:=fun _ _=>True) (fun c κ r h=>by
        split at h
        ·exact⟨_,trivial,h⟩
        ·obtain⟨t,l,_,_,h⟩:=ek h; exact⟨_,trivial,(am h).2⟩
        ·cases h) _ _ _ h
       exact⟨_,h⟩
      ·cases h
     ·exact⟨_,h⟩
    obtain⟨c',h⟩:=this
    exact⟨c',fun hc'=>absurd hc' hc,h⟩) _ _ _ h
  refine⟨_,?_,h⟩
  simp only [V.av,V1.av,iL,List.map_map]
  congr 1
  exact N3 h1 (fun k a b ha hb=>h2 k a b ha hb (hv a (List.mem_of_getElem? ha)))
 ·rename_i cs
  split at h
  ·rename_i ti hti
   obtain⟨cs',h1,h2,h⟩:=PG hS _ _ _ _ hv h
   refine⟨_,?_,h⟩
   have e: (ti.ty.csh.map fun | some e=>e.width | none=>0)=ti.ty.shs:=rfl
   simp only [V.av,V1.av,iL,(hΘ _ _ hti).sh]
   rw [if_pos (by rw [←e]; simpa using h1),←e,h2]
  ·cases h
 ·rename_i c
  have cd: ∀ (szs:List Nat),iL S.st szs (V.v (.cl c)).av=dh S.st (szs.headD 0) c.av:=by
   intro szs
   cases c with
   | c x=>cases x <;> rfl
   | _=>rfl
  split at h
  ·rename_i ti hti
   obtain⟨c',h1,h⟩:=Cd hS hv h
   refine⟨_,?_,h⟩
   rw [cd]
   refine h1 _ (fun t ht=> ?_)
   rw [(hΘ _ _ hti).sh]
   unfold Ty.shs
   cases hc:ti.ty.csh with
   | nil=>rw [hc] at ht; cases ht
   | cons a l=>
     rw [hc] at ht
     simp only [List.headD_cons] at ht
     subst ht
     rfl
  ·obtain⟨c',h1,h⟩:=Cd hS hv h
   exact⟨_,by rw [cd]; exact h1 _ (fun t ht=>by cases ht),h⟩
theorem rj (hΘ:eb P Θ) (hS:S.ok): ∀ (ts:List TypeId) (as:List Operand) (κ:List V1→Option ρ) (r:ρ),ri Θ S ts as κ=some r→
  ∃ vs:List V1,List.zipWith (fun t a=>iL S.st (n0 P 9 t) (opd S.st a)) ts as=vs.map V1.av∧κ vs=some r:=by
 intro ts
 induction ts with
 | nil=>
   intro as κ r h
   cases as with
   | nil=>exact⟨[],rfl,h⟩
   | cons a as=>cases h
 | cons t ts ih=>
   intro as κ r h
   cases as with
   | nil=>cases h
   | cons a as=>
     unfold ri at h
     obtain⟨v,h1,h⟩:=N4 hΘ hS (ko hS a) h
     obtain⟨vs,h2,h⟩:=ih as _ r h
     exact⟨v::vs,by rw [List.zipWith_cons_cons,h2,ba,h1,List.map_cons],h⟩
end
end Go.Proofs.YtkcgfceffffmoaaGreat.En
namespace Go.Proofs.YtkcgfceffffmoaaGreat.En
open Go
open Classical in
noncomputable def Mv (d:Option Tmp) (g:FuncId) (args:List AV) (res:AV×List T):qk:=fun d' g' a' gs'=>if d'=d∧g'=g∧a'=args∧gs'= [] then some res else none
theorem Ce {P:Program} {d:Option Tmp} {g:FuncId} {args:List AV} {res:AV} {out:List T} (h:xR P g args [] res out):ne P (Mv d g args (res,out)):=by
 intro d' g' a' gs' r' o' h'
 unfold Mv at h'
 split at h'
 ·rename_i hc
  obtain⟨rfl,rfl,rfl,rfl⟩:=hc
  simp only [Option.some.injEq,Prod.mk.injEq] at h'
  obtain⟨rfl,rfl⟩:=h'
  exact h
 ·cases h'
theorem LB (d:Option Tmp) (g:FuncId) (args:List AV) (res:AV×List T):Mv d g args res d g args [] =some res:=by
 unfold Mv
 rw [if_pos ⟨rfl,rfl,rfl,rfl⟩]
def J3:qk:=fun _ _ _ _=>none
theorem jS {P:Program}:ne P J3:=fun _ _ _ _ _ _ h=>by cases h
theorem Mw (n:Nat) (c:Cl): (F7 n c).av=n5 n c.av:=by
 cases c with
 | c x=>cases x <;> rfl
 | _=>rfl
theorem Cf (n:Nat) (v:V1): (uo n v).av=lu n v.av:=by
 cases v with
 | cl c=>cases c with
   | c x=>cases x <;> rfl
   | _=>rfl
 | agg cs=>
   simp only [uo,V1.av,lu,List.map_map]
   congr 1
   exact List.map_congr_left fun c _=>Mw n c
 | fn f cs=>rfl
theorem ye (n:Nat) (v:V): (rV n v).av=mJ n v.av:=by
 cases v with
 | v x=>
   have :mJ n x.av=lu n x.av:=by
    cases x with
    | cl c=>cases c with
      | c x=>cases x <;> rfl
      | _=>rfl
    | _=>rfl
   show (uo n x).av=mJ n x.av
   rw [this,Cf]
 | tup l=>
   simp only [rV,V.av,mJ,List.map_map]
   congr 1
   exact List.map_congr_left fun c _=>Cf n c
theorem Fe {G:List (Option bU)} {out:List bU} {c:Cl} (h:c.ok (out.map some)): (F7 G.length c).ok (G++out.map some):=by
 cases c with
 | own p sz lo len w=>
   obtain⟨h1,h2⟩:=h
   refine⟨by simp at h1 ⊢; omega,fun hw=> ?_⟩
   obtain⟨a,b,c⟩:=h2 hw
   refine⟨a,b,fun tr htr=>c tr ?_⟩
   rw [yc,if_pos (by simp)] at htr
   simp only [Nat.add_sub_cancel] at htr
   unfold cY
   rw [dj,List.getElem?_map,htr]
   rfl
 | c x=>cases x <;> trivial
 | _=>trivial
theorem Cg {G:List (Option bU)} {out:List bU} {v:V1} (h:v.ok (out.map some)): (uo G.length v).ok (G++out.map some):=by
 cases v with
 | cl c=>exact Fe h
 | agg cs=>
   intro c hc
   obtain⟨x,hx,rfl⟩:=List.mem_map.1 hc
   exact Fe (h x hx)
 | fn f cs=>trivial
theorem yf {G:List (Option bU)} {out:List bU} {v:V} (h:v.ok (out.map some)): (rV G.length v).ok (G++out.map some):=by
 cases v with
 | v x=>exact Cg h
 | tup l=>
   intro c hc
   obtain⟨x,hx,rfl⟩:=List.mem_map.1 hc
   exact Cg (h x hx)
theorem vA (S:TS) (v:AV) (out:List bU): ({ S with gh:=S.gh++out.map some }:TS).st=(m8 S.st (v,out.map bU.tree)).2:=by
 unfold TS.st m8
 simp only [List.length_append,List.length_map]
 congr 1
 funext r
 rw [yc]
 by_cases h:S.gh.length≤r
 ·rw [if_pos h]
  by_cases h2:r < S.gh.length+out.length
  ·rw [if_pos ⟨h,h2⟩,List.getElem?_map]
  ·rw [if_neg (fun hh=>h2 hh.2),List.getElem?_eq_none (by omega),ut h]
 ·rw [if_neg h,if_neg (fun hh=>h hh.1)]
section
variable {ρ:Type} {P:Program} {Θ:oI} {S:TS} {Y:xZ}
theorem wF (hS:S.ok): ∀ (caps:List Cl) (κ':List Cl→Option ρ) (r:ρ),(∀ c∈caps,c.ok S.gh)→B9 (Ms S none) caps κ'=some r→ ∃ cs,(caps.map Cl.av).map (dh S.st 0)=cs.map Cl.av∧κ' cs=some r:=by
 intro caps
 induction caps with
 | nil=>intro κ' r _ h; exact⟨[],rfl,h⟩
 | cons c caps ih=>
   intro κ' r hc h
   unfold B9 at h
   obtain⟨c',g1,h⟩:=Cd hS (hc c List.mem_cons_self) h
   obtain⟨cs,g2,h⟩:=ih _ r (fun x hx=>hc x (List.mem_cons_of_mem _ hx)) h
   exact⟨c'::cs,by rw [List.map_cons,List.map_cons,g2,g1 0 (fun t ht=>by cases ht),List.map_cons],h⟩
theorem N5 (hΘ:eb P Θ) (hY:aw P Y) (hS:S.ok) {f:Operand} {ts:Array TypeId} {as:Array Operand} {κ:V→TS→Option ρ} {r:ρ} (h:Lr Θ Y S f ts.toList as.toList κ=some r) {dst:Option Tmp} {ty:TypeId} {pos:String} {aft:Array Edge} {gd:Option (Nat×Bool)}:
  ∃ D v S',ne P D∧gQ D P S.st ⟨dst, .call { callee:= .value f,args:=as,argTypes:=ts },ty,pos,aft,gd⟩=some (V.av v,TS.st S')∧S'.ok∧v.ok S'.gh∧κ v S'=some r:=by
 have fin: ∀ (g:FuncId) (caps:List AV) (vs:List V1),g < gC→callee S.st f=some (g,caps)→args P S.st ts as caps=vs.map V1.av→Y g vs ρ (fun res out=>κ (rV S.gh.length res) { S with gh:=S.gh++out.map some })=some r→
   ∃ D v S',ne P D∧gQ D P S.st ⟨dst, .call { callee:= .value f,args:=as,argTypes:=ts },ty,pos,aft,gd⟩=some (V.av v,TS.st S')∧S'.ok∧v.ok S'.gh∧κ v S'=some r:=by
  intro g caps vs hg h1 h2 h3
  obtain⟨res,out,h4,h5,h6⟩:=hY _ _ _ _ _ h3
  have h4:=h4.fn hg
  refine⟨Mv dst g (vs.map V1.av) (res.av,out.map bU.tree),_,_,Ce h4,?_,TS.ok_gh hS (fV.apps _ _),yf h5,h6⟩
  simp only [gQ,h1,Option.bind_some,h2]
  rw [LB]
  simp only [Option.map_some]
  rw [vA S res.av out,ye]
  rfl
 unfold Lr at h
 split at h
 ·rename_i g x y hf
  obtain⟨hg,h⟩:=am h
  have hg:g < gC:=Nat.le_of_ble_eq_true hg
  obtain⟨vs,h1,h⟩:=rj hΘ hS _ _ _ _ h
  refine fin g [] vs hg ?_ ?_ h
  ·unfold callee
   rw [ba,hf]
   rfl
  ·unfold args
   simp only [List.map_nil,List.append_nil]
   exact h1
 ·rename_i g caps hf
  obtain⟨hg,h⟩:=am h
  have hg:g < gC:=Nat.le_of_ble_eq_true hg
  obtain⟨vs,h1,h⟩:=rj hΘ hS _ _ _ _ h
  have hcaps: ∀ c∈caps,c.ok S.gh:=by
   have:=ko hS f
   rw [hf] at this
   exact this
  obtain⟨cs,h2,h⟩:=wF hS _ _ _ hcaps h
  refine fin g (caps.map Cl.av) (vs++cs.map .cl) hg ?_ ?_ h
  ·unfold callee
   rw [ba,hf]
   rfl
  ·unfold args
   rw [h1,h2,List.map_append,List.map_map]
   rfl
 ·cases h
theorem eN {t t':Ty} {l:List t.D} {l':List t'.D} (h:te t t' l=some l'): ∃ e:t=t',e ▸ l=l':=by
 unfold te at h
 split at h
 ·rename_i e
  exact⟨e,Option.some.inj h⟩
 ·cases h
theorem Mx {t:Ty} (h:t.flatB=true) (x:t.D): (t.row x).all T.flat=true:=by
 cases t with
 | st n=>cases n <;> first | rfl | cases h
 | ls t=>cases h
 | _=>rfl
theorem yg (t:Ty): (t.shs.all (· ==0))=t.flatB:=by
 cases t with
 | st n=>cases n <;> rfl
 | ls t=>
   show ((t.width==0)&&true)=false
   have:=t.width_pos
   cases hw:t.width with
   | zero=>omega
   | succ n=>rfl
 | _=>rfl
theorem uv {t:Ty} (h:t.flatB=true) (l:List t.D): (l.map t.row).all (fun r=>r.all T.flat)=true:=by
 rw [List.all_eq_true]
 intro x hx
 obtain⟨y,_,rfl⟩:=List.mem_map.1 hx
 exact Mx h y
theorem PH (hS:S.ok) {el:Ty} {v:Cl} (hv:v.ok S.gh) {κ:List el.D→TS→Option ρ} {r:ρ} (h:NP S el v κ=some r):
  ∃ more S',lw S.st el.width el.flatB v.av=some (more.map el.row,S'.st)∧S'.ok∧fV S.gh S'.gh∧S'.gh.length=S.gh.length∧S'.fz=S.fz∧κ more S'=some r:=by
 unfold NP at h
 split at h
 ·exact⟨[],S,rfl,hS,fV.refl _,rfl,rfl,h⟩
 ·rename_i t l
  obtain⟨h1,h⟩:=am h
  split at h
  ·rename_i l' hl
   obtain⟨e,hl⟩:=eN hl
   subst e
   simp only at hl
   subst hl
   refine⟨l,S,?_,hS,fV.refl _,rfl,rfl,h⟩
   simp only [Cl.av,C.av,lw]
   rw [if_pos ⟨trivial,uv h1 l⟩]
  ·cases h
 ·rename_i p sz lo len w
  obtain⟨h0,h⟩:=am h
  have h0:el.width=sz:=Nat.eq_of_beq_eq_true h0
  cases hfl:el.flatB with
  | true=>
    rw [hfl] at h
    simp only [cond_true] at h
    obtain⟨t,l,h1,h2,h⟩:=ek h
    split at h
    ·rename_i l' hl
     obtain⟨e,hl⟩:=eN hl
     subst e
     simp only at hl
     subst hl
     have src: ∀ (lo len:Nat),lo+len≤l.length→lw S.st t.width true (.own p sz lo len)=some (((l.drop lo).take len).map t.row,S.st):=by
      intro lo len hle
      simp only [lw]
      rw [if_pos h0.symm,j8 h1]
      simp only [Option.bind_some,Bool.true_eq_false,false_and,if_false,List.length_map]
      rw [if_pos ⟨hle,by rw [←List.map_drop,←List.map_take]; exact uv hfl _⟩]
      simp [List.map_take,List.map_drop]
     cases w with
     | true=>
       obtain⟨e1,e2,e3⟩:=tj hv h2
       refine⟨l,S,?_,hS,fV.refl _,rfl,rfl,h⟩
       have:=src lo len (by omega)
       rw [e2,e3,List.drop_zero,List.take_length] at this
       simp only [Cl.av]
       rw [e2,e3]
       exact this
     | false=>
       simp only [cond_false] at h
       obtain⟨h3,h⟩:=c8 h
       exact⟨_,S,src lo len h3,hS,fV.refl _,rfl,rfl,h⟩
    ·cases h
  | false=>
    rw [hfl] at h
    simp only [cond_false] at h
    split at h
    ·rename_i hp
     obtain⟨h3,h6⟩:=am h
     clear h
     simp only [Bool.and_eq_true] at h3
     obtain⟨hw,h4⟩:=h3
     have h4:S.fz≤p.r:=Nat.le_of_ble_eq_true h4
     subst hw
     obtain⟨t,l,h1,h2,h⟩:=ek h6
     split at h
     ·rename_i l' hl
      obtain⟨e,hl⟩:=eN hl
      subst e
      simp only at hl
      subst hl
      obtain⟨e1,e2,e3⟩:=tj hv h2
      refine⟨l,_,?_,TS.ok_gh hS (fV.gone _ _),fV.gone _ _,by simp [eK],rfl,h⟩
      simp only [Cl.av,lw]
      rw [if_pos h0.symm,j8 h1]
      simp only [Option.bind_some,List.length_map]
      rw [if_pos ⟨trivial,hp,e2,e3,h4⟩,wE]
     ·cases h
    ·cases h
 ·cases h
end
end Go.Proofs.YtkcgfceffffmoaaGreat.En
namespace Go.Proofs.YtkcgfceffffmoaaGreat.En
open Go
theorem Ky (t:Ty):t.zvs.length=t.width:=by
 cases t with
 | st n=>cases n <;> rfl
 | _=>rfl
theorem Ch (t:Ty):t.shs.length=t.width:=by
 cases t with
 | st n=>cases n <;> rfl
 | _=>rfl
theorem Ge {P:Program} {el:TypeId} {e:Ty} (h1:P.cellsOf el=e.width) (h2:n0 P 9 el=e.shs) (h3:xN P el=some e.zvs):DN P el=some (List.zipWith zc e.shs e.zvs):=by
 unfold DN
 rw [h3]
 simp only [Option.bind_some]
 rw [if_pos ⟨by rw [h1,Ky],by rw [h2,h1,Ch]⟩,h2]
section
variable {ρ:Type} {P:Program} {Θ:oI} {S:TS}
theorem N6 (hS:S.ok) {el:Ty} {v:Cl} (hv:v.ok S.gh) {more:List el.D} {κ:List el.D→TS→Option ρ} {r:ρ} (h:Ij S el v more κ=some r):
  ∃ l S',ki S.st v.av el.width (more.map el.row)=some (.own ⟨S.gh.length,[]⟩ el.width 0 l.length,{ S'.st with gh:=bQ S'.st.gh S.gh.length (some (.sl el.width (l.map el.row))),ng:=S.gh.length+1 })∧
    S'.ok∧fV S.gh S'.gh∧S'.gh.length=S.gh.length∧κ l S'=some r:=by
 unfold Ij at h
 split at h
 ·refine⟨more,S,?_,hS,fV.refl _,rfl,h⟩
  simp only [Cl.av,ki,List.length_map]
  rfl
 ·rename_i p sz lo len w
  obtain⟨h0,h'⟩:=am h
  clear h
  simp only [Bool.and_eq_true] at h0
  have hfz:S.fz≤p.r:=Nat.le_of_ble_eq_true h0.1
  have hsz:el.width=sz:=Nat.eq_of_beq_eq_true h0.2
  split at h'
  ·rename_i hp
   obtain⟨t,l,h1,h2,h⟩:=ek h'
   split at h
   ·rename_i l' hl
    obtain⟨e,hl⟩:=eN hl
    subst e
    simp only at hl
    subst hl
    have fin: ∀ (len:Nat),¬ l.length < len→ki S.st (.own p sz 0 len) t.width (more.map t.row)=some (.own ⟨S.gh.length,[]⟩ t.width 0 (l.take len++more).length,{ ({ S with gh:=cS S.gh p.r none }:TS).st with gh:=bQ ({ S with gh:=cS S.gh p.r none }:TS).st.gh S.gh.length (some (.sl t.width ((l.take len++more).map t.row))),ng:=S.gh.length+1 }):=by
     intro len hlen
     simp only [ki]
     rw [if_pos ⟨hsz.symm,trivial,hfz⟩,j8 h1]
     simp only [Option.bind_some,List.length_map]
     rw [if_neg hlen,if_pos hp,wE]
     have e1: (l.take len++more).length=len+more.length:=by simp; omega
     rw [e1,List.map_append,List.map_take]
     rfl
    cases w with
    | true=>
      obtain⟨e1,e2,e3⟩:=tj hv h2
      refine⟨_,_,?_,TS.ok_gh hS (fV.gone _ _),fV.gone _ _,by simp [eK],h⟩
      have:=fin l.length (by omega)
      rw [List.take_length] at this
      simp only [Cl.av]
      rw [e2,e3]
      exact this
    | false=>
      simp only [cond_false] at h
      obtain⟨h3,h⟩:=c8 h
      obtain⟨h4,h⟩:=ya h
      refine⟨_,_,?_,TS.ok_gh hS (fV.gone _ _),fV.gone _ _,by simp [eK],h⟩
      simp only [Cl.av]
      rw [h3]
      exact fin len h4
   ·cases h
  ·rename_i i j hp
   split at h'
   ·rename_i tr htr
    split at h'
    ·rename_i hh
     obtain⟨t,l,h1,h2,h⟩:=ek h'
     split at h
     ·rename_i l' hl
      obtain⟨e,hl⟩:=eN hl
      subst e
      simp only at hl
      subst hl
      obtain⟨h3,h⟩:=c8 h
      obtain⟨h4,h⟩:=ya h
      have hg:=bU.look htr
      have hput:fV S.gh (cS S.gh p.r (some (bU.mk tr.t tr.l (some (i,j))))):=fV.put hg rfl
      refine⟨_,{ S with gh:=cS S.gh p.r (some (bU.mk tr.t tr.l (some (i,j)))) },?_,TS.ok_gh hS hput,hput,by simp [eK],h⟩
      simp only [Cl.av,ki]
      rw [if_pos ⟨hsz.symm,h3,hfz⟩,j8 h1]
      simp only [Option.bind_some,List.length_map]
      rw [if_neg h4,if_neg (by rw [hp]; simp),yd _ _ (uu hg)]
      have e1: (l.take len++more).length=len+more.length:=by simp; omega
      rw [e1,List.map_append,List.map_take]
      have e2:S.st.setAt p .dd= { S.st with gh:=bQ S.st.gh p.r (some (bU.tree ⟨tr.t,tr.l,some (i,j)⟩)) } :=by
       unfold St.setAt
       congr 2
       show ((cY S.gh p.r).map bU.tree).map _=_
       rw [hg,hp]
       obtain⟨t0,l0,hole⟩:=tr
       simp only at hh
       subst hh
       rfl
      rw [e2]
      rfl
     ·cases h
    ·cases h'
   ·cases h'
  ·cases h'
 ·cases h
theorem PI (hΘ:eb P Θ) (hS:S.ok) {t:TypeId} {s x:Operand} {κ:V→TS→Option ρ} {r:ρ} (h:Pw Θ S t (S.opd s) (S.opd x) κ=some r) {dst:Option Tmp} {ty:TypeId} {pos:String} {aft:Array Edge} {gd:Option (Nat×Bool)} {D:qk}:
  ∃ v S',gQ D P S.st ⟨dst, .call { callee:= .builtin .append,args:= #[s,x],argTypes:= #[t,t] },ty,pos,aft,gd⟩=some (V.av v,TS.st S')∧S'.ok∧v.ok S'.gh∧κ v S'=some r:=by
 unfold Pw at h
 split at h
 ·rename_i ti hti
  split at h
  ·rename_i el sv xv he hs hx
   obtain⟨elT',g1,g2,g3,g4,g5,g6⟩:=(hΘ _ _ hti).el el he
   have hsv:=ko hS s
   rw [hs] at hsv
   have hxv:=ko hS x
   rw [hx] at hxv
   obtain⟨more,S1,h1,k1,k2,k3,k4,h⟩:=PH hS (show xv.ok S.gh from hxv) h
   obtain⟨l,S2,h2,m1,m2,m3,h⟩:=N6 k1 (Cl.ok_mono k2 (show sv.ok S.gh from hsv)) h
   obtain⟨hb,h⟩:=c8 h
   have hgl:fV S1.gh (S2.gh++ [some ⟨el,l,none⟩]):=m2.trans (fV.app _ _)
   refine⟨_,_,?_,TS.ok_gh m1 (fV.app _ _),?_,h⟩
   ·simp only [gQ]
    rw [if_pos trivial,g1]
    simp only [Option.bind_some,g2,g5,yg,ba,hs,hx]
    show (lw S.st el.width el.flatB xv.av).bind _=_
    rw [h1]
    simp only [Option.bind_some]
    show (ki S1.st sv.av el.width _).bind _=_
    rw [h2]
    simp only [Option.bind_some]
    have hlen:l.length≤2 ^ 40:=Nat.le_trans (Nat.le_mul_of_pos_right _ g4) hb
    rw [if_pos ⟨by rw [g3]; exact hb,hlen,el.width_pos,by rw [Ge g2 g5 g6]; rfl⟩]
    rw [Gc,m3]
    rfl
   ·refine⟨by simp,fun _=>⟨rfl,rfl,fun tr htr=> ?_⟩⟩
    rw [lD,if_pos rfl] at htr
    cases htr
    rfl
  ·cases h
 ·cases h
end
end Go.Proofs.YtkcgfceffffmoaaGreat.En
namespace Go.Proofs.YtkcgfceffffmoaaGreat.En
open Go
theorem PJ (a b:Nat): (a==b)=Nat.beq a b:=by
 rw [Bool.eq_iff_iff,beq_iff_eq]
 exact⟨fun h=>by rw [h]; exact Nat.beq_refl _,fun h=>Nat.eq_of_beq_eq_true h⟩
theorem N7 (a b:Nat): (a==b)=Nat.beq b a:=by
 rw [Bool.eq_iff_iff,beq_iff_eq]
 exact⟨fun h=>by rw [h]; exact Nat.beq_refl _,fun h=>(Nat.eq_of_beq_eq_true h).symm⟩
theorem Ci (r i j pr i' j':Nat) (l:List (Nat×Nat)):under ⟨r,[(i,j)]⟩ ⟨pr,(i',j')::l⟩=(Nat.beq pr r&&Nat.beq j j'):=by
 simp only [under,zt,Bool.and_true]
 rw [N7,PJ]
theorem Cj (r i j pr:Nat):under ⟨r,[(i,j)]⟩ ⟨pr,[]⟩=false:=by simp [under,zt]
theorem wG (r i j:Nat) (c:Cl): (pe r j c).av=q8 ⟨r,[(i,j)]⟩ c.av:=by
 cases c with
 | own p sz lo len w=>
   obtain⟨pr,pl⟩:=p
   cases pl with
   | nil=>simp only [pe,Cl.av,q8,Cj]; rfl
   | cons a l=>
     obtain⟨i',j'⟩:=a
     simp only [pe,Cl.av,q8,Ci]
     cases (Nat.beq pr r&&Nat.beq j j') <;> rfl
 | ptrT p sz a b=>
   obtain⟨pr,pl⟩:=p
   cases pl with
   | nil=>simp only [pe,Cl.av,q8,Cj]; rfl
   | cons a' l=>
     obtain⟨i',j'⟩:=a'
     simp only [pe,Cl.av,q8,Ci]
     cases (Nat.beq pr r&&Nat.beq j j') <;> rfl
 | c x=>cases x <;> rfl
 | _=>rfl
theorem Ff (r i j:Nat) (v:V1): (qN r j v).av=wq ⟨r,[(i,j)]⟩ v.av:=by
 cases v with
 | cl c=>
   have :wq ⟨r,[(i,j)]⟩ (V1.cl c).av=q8 ⟨r,[(i,j)]⟩ c.av:=by
    cases c with
    | c x=>cases x <;> rfl
    | _=>rfl
   rw [this]
   exact wG r i j c
 | agg cs=>
   simp only [qN,V1.av,wq,List.map_map]
   congr 1
   exact List.map_congr_left fun c _=>wG r i j c
 | fn f cs=>
   simp only [qN,V1.av,wq,List.map_map]
   congr 1
   exact List.map_congr_left fun c _=>wG r i j c
theorem N8 (r i j:Nat) (v:V): (Fb r j v).av=kill ⟨r,[(i,j)]⟩ v.av:=by
 cases v with
 | v x=>
   have :kill ⟨r,[(i,j)]⟩ (V.v x).av=wq ⟨r,[(i,j)]⟩ x.av:=by
    cases x with
    | cl c=>cases c with
      | c x=>cases x <;> rfl
      | _=>rfl
    | _=>rfl
   rw [this]
   exact Ff r i j x
 | tup l=>
   simp only [Fb,V.av,kill,List.map_map]
   congr 1
   exact List.map_congr_left fun c _=>Ff r i j c
theorem Iu (f:V→V) (hf:f V.dead=V.dead): ∀ (l:List (Nat×V)) (t:Nat),f7 (l.map fun x=>(x.1,f x.2)) t=f (f7 l t)
 | [],t=>hf.symm
 | (u,v)::l,t=>by
   simp only [List.map_cons,f7]
   cases Nat.beq u t with
   | true=>rfl
   | false=>exact Iu f hf l t
theorem PK (S:TS) (r i j:Nat): (S.kill r j).st=S.st.killU ⟨r,[(i,j)]⟩:=by
 unfold TS.kill TS.st St.killU
 simp only [List.length_map]
 congr 1
 ·funext t
  rw [Iu _ rfl]
  exact N8 r i j _
 ·funext n
  rw [dj,dj,List.getElem?_map]
  cases S.bx[n]? with
  | none=>rfl
  | some cs=>
    simp only [Option.map_some,List.map_map]
    congr 1
    exact List.map_congr_left fun c _=>wG r i j c
theorem wH {G:List (Option bU)} {r j:Nat} {c:Cl} (h:c.ok G): (pe r j c).ok G:=by
 cases c with
 | own p sz lo len w=>
   simp only [pe]
   split
   ·cases (Nat.beq p.r r&&Nat.beq j _) <;> first | exact h | trivial
   ·exact h
 | ptrT p sz a b=>
   simp only [pe]
   split
   ·cases (Nat.beq p.r r&&Nat.beq j _) <;> first | exact h | trivial
   ·exact h
 | _=>exact h
theorem Fg {G:List (Option bU)} {r j:Nat} {v:V1} (h:v.ok G): (qN r j v).ok G:=by
 cases v with
 | cl c=>exact wH h
 | agg cs=>
   intro c hc
   obtain⟨x,hx,rfl⟩:=List.mem_map.1 hc
   exact wH (h x hx)
 | fn f cs=>
   intro c hc
   obtain⟨x,hx,rfl⟩:=List.mem_map.1 hc
   exact wH (h x hx)
theorem LC {S:TS} (hS:S.ok) (r j:Nat): (S.kill r j).ok:=by
 refine⟨fun x hx=> ?_,fun cs hcs c hc=> ?_⟩
 ·obtain⟨y,hy,rfl⟩:=List.mem_map.1 hx
  have:=hS.env y hy
  obtain⟨t,v⟩:=y
  cases v with
  | v x=>exact Fg this
  | tup l=>
    intro c hc
    obtain⟨z,hz,rfl⟩:=List.mem_map.1 hc
    exact Fg (this z hz)
 ·obtain⟨y,hy,rfl⟩:=List.mem_map.1 hcs
  obtain⟨z,hz,rfl⟩:=List.mem_map.1 hc
  exact wH (hS.bx y hy z hz)
def TS.with (S:TS) (no N w:Nat) (R:List (List T)):St:= { S.st with gh:=bQ S.st.gh no (some (.sl w R)),ng:=N }
theorem Fh (S:TS) (r i j no N w:Nat) (R:List (List T)): (S.with no N w R).killU ⟨r,[(i,j)]⟩=(S.kill r j).with no N w R:=by
 unfold TS.with
 rw [PK S r i j]
 rfl
theorem LD {α:Type} (f:Nat→α) (t:Nat) (x y:α):bQ (bQ f t x) t y=bQ f t y:=by
 funext u
 unfold bQ
 split <;> rfl
theorem Iv {α:Type} (f:Nat→α) (t:Nat) (x:α):bQ f t x t=x:=by unfold bQ; rw [if_pos rfl]
theorem N9 {α:Type} (f:Nat→α) {t u:Nat} (h:t≠u) (x y:α):bQ (bQ f t x) u y=bQ (bQ f u y) t x:=by
 funext v
 unfold bQ
 by_cases h1:v=u
 ·subst h1; rw [if_pos rfl,if_neg (fun e=>h e.symm)]; rw [if_pos rfl]
 ·rw [if_neg h1]
  by_cases h2:v=t
  ·rw [if_pos h2,if_pos h2]
  ·rw [if_neg h2,if_neg h2,if_neg h1]
structure PL (S S1:TS) (no:Nat):Prop where
 ok:S1.ok
 gle:fV S.gh S1.gh
 len:S1.gh.length=S.gh.length
 fz:S1.fz=S.fz
 nt:S1.nt=S.nt
 no:cY S1.gh no=cY S.gh no
def J4:Option Ty→Nat | some e=>e.width | none=>0
def So (X:St) (no i j:Nat) (c:AV):Option Ty→Option St
 | none=>some X
 | some t=>BA X ⟨no,[]⟩ i j t.width c
def Oa (R:List (List T)) (i j:Nat) (x:C):Option Ty→List (List T)
 | none=>R
 | some _=>R.set i ((R.getD i []).set j x.tree)
theorem Ob {S S1:TS} (hS:S.ok) {no j:Nat} (i N w:Nat) {et:Option Ty} {c:Cl} {x:C} (hc:c.ok S.gh) (h:gD S no j et c=some (x,S1)) (R:List (List T)):
  PL S S1 no∧c≠ .dead∧(et=none→T.ofSc c.av=x.tree)∧So (S.with no N w R) no i j c.av et=some (S1.with no N w (Oa R i j x et)):=by
 cases c with
 | c y=>
   cases y with
   | sc v=>
     cases et with
     | none=>
       simp only [gD,Option.some.injEq,Prod.mk.injEq] at h
       obtain⟨rfl,rfl⟩:=h
       exact⟨⟨hS,fV.refl _,rfl,rfl,rfl,rfl⟩,(fun h=>by cases h),fun _=>rfl,rfl⟩
     | some t=>simp [gD] at h
   | ls t l=>cases et <;> simp [gD] at h
 | em=>
   cases et with
   | none=>simp [gD] at h
   | some t=>
     simp only [gD,Option.some.injEq,Prod.mk.injEq] at h
     obtain⟨rfl,rfl⟩:=h
     refine⟨⟨LC hS _ _,fV.refl _,rfl,rfl,rfl,rfl⟩,(fun h=>by cases h),(fun h=>by cases h),?_⟩
     simp only [So,Cl.av,BA,bS.sub,List.nil_append,Fh,Oa]
     congr 1
     unfold St.setAt TS.with
     simp only
     rw [Iv,LD]
     rfl
 | own p sz lo len wh=>
   obtain⟨pr,pl⟩:=p
   cases wh with
   | false=>cases et <;> simp [gD] at h
   | true=>
     cases et with
     | none=>simp [gD] at h
     | some t=>
       cases pl with
       | cons a l=>simp [gD] at h
       | nil=>
         simp only [gD] at h
         obtain⟨h1,h⟩:=am h
         simp only [Bool.and_eq_true,Bool.not_eq_true'] at h1
         obtain⟨⟨h1,h2⟩,h3⟩:=h1
         have h1:t.width=sz:=Nat.eq_of_beq_eq_true h1
         have h2:S.fz≤pr:=Nat.le_of_ble_eq_true h2
         have h3:pr≠no:=by intro e; rw [e,Nat.beq_refl] at h3; cases h3
         split at h
         ·rename_i tr htr
          split at h
          ·rename_i hh
           obtain⟨h4,h⟩:=am h
           have h4':tr.t.width=sz:=Nat.eq_of_beq_eq_true h4
           simp only [Option.some.injEq,Prod.mk.injEq] at h
           obtain⟨rfl,rfl⟩:=h
           have hg:=bU.look htr
           obtain⟨tt,l,hole⟩:=tr
           simp only at hh h4'
           subst hh
           obtain⟨e1,e2,e3⟩:=tj hc (fun _=>hg)
           refine⟨⟨LC (TS.ok_gh hS (fV.gone _ _)) _ _,fV.gone _ _,by simp [TS.kill,eK],rfl,rfl,?_⟩,(fun h=>by cases h),(fun h=>by cases h),?_⟩
           ·show cY (cS S.gh pr none) no=_
            rw [oJ _ _ (.inr rfl),if_neg (fun e=>h3 e.symm)]
           ·simp only [So,Oa,Cl.av,BA]
            have hrows: (S.with no N w R).rows ⟨pr,[]⟩ sz=some (l.map tt.row):=by
             have : (S.with no N w R).look ⟨pr,[]⟩= .sl tt.width (l.map tt.row):=by
              unfold St.look TS.with
              simp only [bQ]
              rw [if_neg h3]
              show (match (cY S.gh pr).map bU.tree with | some t=>t.go [] | none=> .dd)=_
              rw [hg]
              rfl
             unfold St.rows
             rw [this]
             simp [h4']
            rw [if_pos ⟨trivial,h1.symm,e2,h2,h3⟩,hrows]
            simp only [Option.bind_some,List.length_map]
            rw [if_pos (by omega),e3]
            congr 1
            have e4: (l.map tt.row).take l.length=l.map tt.row:=List.take_of_length_le (by simp)
            rw [e4]
            simp only [bS.sub,List.nil_append,Fh]
            unfold TS.with
            simp only
            rw [Iv,N9 _ (fun e=>h3 e.symm),LD]
            have e5: ({ S with gh:=cS S.gh pr none }:TS).kill no j= { S.kill no j with gh:=cS (S.kill no j).gh pr none } :=rfl
            rw [e5,wE]
            simp only [C.tree,h4']
            rfl
          ·cases h
         ·cases h
 | pro cs=>cases et <;> simp [gD] at h
 | ptrB n j=>cases et <;> simp [gD] at h
 | ptrT p sz a b=>cases et <;> simp [gD] at h
 | dead=>cases et <;> simp [gD] at h
theorem QZ (X:St) (no i j:Nat) (c:AV) (et:Option Ty): (if J4 et=0 then some X else BA X ⟨no,[]⟩ i j (J4 et) c)=So X no i j c et:=by
 cases et with
 | none=>rfl
 | some t=>exact if_neg (by show ¬ t.width=0; have:=t.width_pos; omega)
theorem Oc {R:List (List T)} {i j:Nat} {x:C} {et:Option Ty} {row:List T} (hr:R[i]? =some row) (hj:j < row.length) (h:et=none→row[j]? =some x.tree):Oa R i j x et=R.set i (row.set j x.tree):=by
 cases et with
 | none=>
   have h:=h rfl
   have e1:row.set j x.tree=row:=by
    apply List.ext_getElem?
    intro k
    rw [List.getElem?_set]
    split
    ·rename_i hk; subst hk; first | rw [if_pos hj,h] | rw [h]
    ·rfl
   rw [e1]
   apply List.ext_getElem?
   intro k
   show R[k]? =_
   rw [List.getElem?_set]
   split
   ·rename_i hk; subst hk; rw [if_pos (List.getElem?_eq_some_iff.1 hr).1,hr]
   ·rfl
 | some t=>
   simp only [Oa]
   rw [List.getD_eq_getElem?_getD,hr]
   rfl
theorem Ck (no i N w:Nat): ∀ (ets:List (Option Ty)) (cs:List Cl) (j:Nat) (S S1:TS) (xs:List C) (R:List (List T)) (row:List T),S.ok→(∀ c∈cs,c.ok S.gh)→pf no j S ets cs=some (xs,S1)→R[i]? =some row→
  j+cs.length≤row.length→(∀ (k:Nat) (c:Cl),cs[k]? =some c→row[j+k]? =some (T.ofSc c.av))→
  PL S S1 no∧ets.length=cs.length∧xs.length=cs.length∧(∀ c∈cs,c≠ .dead)∧
   dA (S.with no N w R) ⟨no,[]⟩ i j (ets.map J4) (cs.map Cl.av)=some (S1.with no N w (R.set i (row.take j++xs.map C.tree++row.drop (j+cs.length)))):=by
 intro ets
 induction ets with
 | nil=>
   intro cs j S S1 xs R row hS hcs h hr hl ho
   cases cs with
   | cons c cs=>simp [pf] at h
   | nil=>
     simp only [pf,Option.some.injEq,Prod.mk.injEq] at h
     obtain⟨rfl,rfl⟩:=h
     refine⟨⟨hS,fV.refl _,rfl,rfl,rfl,rfl⟩,rfl,rfl,(fun c hc=>by cases hc),?_⟩
     simp only [List.map_nil,dA,List.append_nil,List.length_nil,Nat.add_zero,List.take_append_drop]
     congr 2
     apply List.ext_getElem?
     intro k
     rw [List.getElem?_set]
     split
     ·rename_i hk; subst hk; rw [if_pos (List.getElem?_eq_some_iff.1 hr).1,hr]
     ·rfl
 | cons et ets ih=>
   intro cs j S S1 xs R row hS hcs h hr hl ho
   cases cs with
   | nil=>simp [pf] at h
   | cons c cs=>
     simp only [pf] at h
     split at h
     ·rename_i x S2 hx
      split at h
      ·rename_i xs' S3 hxs
       simp only [Option.some.injEq,Prod.mk.injEq] at h
       obtain⟨rfl,rfl⟩:=h
       obtain⟨k1,k2,k3,k4⟩:=Ob hS i N w (hcs c List.mem_cons_self) hx R
       have hj:j < row.length:=by simp at hl; omega
       have hput:=Oc (et:=et) hr hj (x:=x) (fun he=>by rw [←k3 he]; exact ho 0 c rfl)
       rw [hput] at k4
       have hi:i < R.length:=(List.getElem?_eq_some_iff.1 hr).1
       obtain⟨m1,m2,m3,m4,m5⟩:=ih cs (j+1) S2 S3 xs' (R.set i (row.set j x.tree)) (row.set j x.tree) k1.ok (fun y hy=>Cl.ok_mono k1.gle (hcs y (List.mem_cons_of_mem _ hy))) hxs (by simp [hi]) (by simp at hl ⊢; omega) (fun k y hy=>by
        rw [List.getElem?_set_ne (by omega),show j+1+k=j+(k+1) by omega]
        exact ho (k+1) y (by simpa using hy))
       refine⟨⟨m1.ok,k1.gle.trans m1.gle,m1.len.trans k1.len,m1.fz.trans k1.fz,m1.nt.trans k1.nt,m1.no.trans k1.no⟩,by simp [m2],by simp [m3],fun y hy=> ?_,?_⟩
       ·rcases List.mem_cons.1 hy with rfl | hy
        ·exact k2
        ·exact m4 y hy
       ·simp only [List.map_cons,dA]
        rw [QZ,k4]
        simp only [Option.bind_some]
        rw [m5,List.set_set]
        congr 3
        have e2: (row.set j x.tree).take (j+1)=row.take j++ [x.tree] :=by
         rw [List.take_set,List.take_add_one,List.getElem?_eq_getElem hj]
         rw [Option.toList_some]
         have hlen: (row.take j).length=j:=by simp; omega
         rw [List.set_append_right _ _ (by omega),hlen,Nat.sub_self]
         rfl
        have e3: (row.set j x.tree).drop (j+1+cs.length)=row.drop (j+(cs.length+1)):=by
         rw [List.drop_set_of_lt (by omega),show j+1+cs.length=j+(cs.length+1) by omega]
        rw [e2,e3]
        simp
      ·cases h
     ·cases h
end Go.Proofs.YtkcgfceffffmoaaGreat.En
