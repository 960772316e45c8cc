import Derived.Test.YtkcgfceffffmoaaGreatZX5
namespace Go.Proofs.YtkcgfceffffmoaaGreat.En
open Go
def C.av:C→AV
 | .sc v=> .sc v
 | .ls t l=> .ro t.width (l.map t.row)
def Cl.av:Cl→AV
 | .c x=>x.av
 | .em=> .em
 | .own p sz lo len _=> .own p sz lo len
 | .pro cs=> .pro (cs.map C.tree)
 | .ptrB n j=> .ptrB n j
 | .ptrT p sz i j=> .ptrT p sz i j
 | .dead=> .dead
def V1.av:V1→AV
 | .cl x=>x.av
 | .agg cs=> .agg (cs.map Cl.av)
 | .fn f cs=> .fn f (cs.map Cl.av)
def V.av:V→AV
 | .v x=>x.av
 | .tup l=> .tup (l.map V1.av)
def b6.tree (x:b6):T:=match x.hole with
 | none=> .sl x.t.width (x.l.map x.t.row)
 | some (i,j)=> .sl x.t.width ((x.l.map x.t.row).set i (((x.l.map x.t.row).getD i []).set j .dd))
def dg (G:List (Option b6)) (r:Nat):Option b6:=(qI G r).getD none
def TS.st (S:TS):St where
 env:=fun t=>(i6 S.env t).av
 bx:=fun n=>(qI S.bx n).map fun cs=>cs.map Cl.av
 gh:=fun r=>(dg S.gh r).map b6.tree
 nb:=S.bx.length
 ng:=S.gh.length
 fz:=S.fz
 orc:=none
 nt:=S.nt
structure Bu where
 f:FuncId→List V1→(ρ:Type)→(V→List b6→Option ρ)→Option ρ
 kd:FuncId→Nat
instance:CoeFun Bu fun _=>FuncId→List V1→(ρ:Type)→(V→List b6→Option ρ)→Option ρ:=⟨Bu.f⟩
def jy:Nat:=1048576
def Ky:Nat:=jy+jy
def oo (g:Nat):Nat:=g+jy
def Hd (g:Nat):Nat:=g+Ky
def Lz (n:Nat):Cl→Cl
 | .own p sz lo len w=> .own ⟨p.r+n,p.l⟩ sz lo len w
 | .c (.sc v)=> .c (.sc v)
 | _=> .dead
def yG (n:Nat):V1→V1
 | .agg cs=> .agg (cs.map (Lz n))
 | .cl c=> .cl (Lz n c)
 | .fn _ _=> .cl .dead
def vE (n:Nat):V→V
 | .tup vs=> .tup (vs.map (yG n))
 | .v x=> .v (yG n x)
def dv {α:Type}:List α→Nat→α→List α
 | [],_,_=> []
 | a::l,n,x=>bif Nat.beq n 0 then x::l else a::dv l (n - 1) x
def xf (t t':Ty) (l:List t.D):Option (List t'.D):=if h:t=t' then some (h ▸ l) else none
def rU (r j:Nat):Cl→Cl
 | .own p sz lo len w=>match p.l with | (_,j')::_=>bif Nat.beq p.r r&&Nat.beq j j' then .dead else .own p sz lo len w | [] => .own p sz lo len w
 | .ptrT p sz a b=>match p.l with | (_,j')::_=>bif Nat.beq p.r r&&Nat.beq j j' then .dead else .ptrT p sz a b | [] => .ptrT p sz a b
 | c=>c
def ul (r j:Nat):V1→V1
 | .cl c=> .cl (rU r j c)
 | .agg cs=> .agg (cs.map (rU r j))
 | .fn f cs=> .fn f (cs.map (rU r j))
def Kz (r j:Nat):V→V
 | .v x=> .v (ul r j x)
 | .tup vs=> .tup (vs.map (ul r j))
def TS.kill (S:TS) (r j:Nat):TS:= { S with env:=S.env.map fun x=>(x.1,Kz r j x.2),bx:=S.bx.map fun cs=>cs.map (rU r j) }
def jz (S:TS) (no j:Nat) (et:Option Ty) (c:Cl):Option (C×TS):=match c,et with
 | .c (.sc v),none=>some (.sc v,S)
 | .em,some t=>some (.ls t [],S.kill no j)
 | .own p sz _ _ true,some t=>match p.l with
   | [] =>bif Nat.beq t.width sz&&Nat.ble S.fz p.r&& !(Nat.beq p.r no) then match qI S.gh p.r with
     | some (some tr)=>match tr.hole with
       | none=>bif Nat.beq tr.t.width sz then some (.ls tr.t tr.l,{ S with gh:=dv S.gh p.r none }.kill no j) else none
       | some _=>none
     | _=>none else none
   | _=>none
 | _,_=>none
def rV (no:Nat):Nat→TS→List (Option Ty)→List Cl→Option (List C×TS)
 | j,S,et::ets,c::cs=>match jz S no j et c with
   | some (x,S1)=>match rV no (j+1) S1 ets cs with
     | some (xs,S2)=>some (x::xs,S2)
     | none=>none
   | none=>none
 | _,S,[],[] =>some ([],S)
 | _,_,_,_=>none
def YB (et:Option Ty) (v:Value):C:=match et with | some t=> .ls t [] | none=> .sc v
def Ty.zcs (t:Ty):List C:=List.zipWith YB t.csh t.zvs
def WF:List Cl→Option (List C)
 | [] =>some []
 | .c (.sc v)::l=>match WF l with | some r=>some (.sc v::r) | none=>none
 | _=>none
section
variable {ρ:Type}
def He {α β:Type} (f:α→(β→Option ρ)→Option ρ):List α→(List β→Option ρ)→Option ρ
 | [],κ=>κ []
 | a::l,κ=>f a fun b=>He f l fun bs=>κ (b::bs)
def PU (Θ:qO) (S:TS) (t:TypeId) (a v:V) (κ:TS→Option ρ):Option ρ:=match o8 Θ t with
 | none=>none
 | some ti=>match v with
   | .tup _=>none
   | .v (.cl .dead)=>none
   | .v (.fn _ _)=>none
   | .v x=>bif Nat.beq x.cells.length ti.ty.width then match a with
     | .v (.cl (.ptrB b j))=>match qI S.bx b with
       | some cs=>bif Nat.ble (j+x.cells.length) cs.length then κ { S with bx:=dv S.bx b (cs.take j++x.cells++cs.drop (j+x.cells.length)) } else none
       | none=>none
     | .v (.cl (.ptrT p sz i j))=>match p.l with
       | [] =>match qI S.gh p.r with
         | some (some tr)=>bif Nat.beq tr.t.width sz&&Nat.ble (j+ti.ty.width) sz&&Nat.beq x.cells.length ti.ty.width then
           bif ti.ty.flatB then
            match tr.hole,WF x.cells with
            | none,some vs=>(tr.l[i]?).bind fun y=>match tr.t.unflat ((tr.t.flat y).take j++vs++(tr.t.flat y).drop (j+ti.ty.width)) with
              | some z=>κ { S with gh:=dv S.gh p.r (some ⟨tr.t,tr.l.set i z,none⟩) }
              | none=>none
            | _,_=>none
           else bif Nat.ble S.fz p.r then match rV p.r j S ti.ty.csh x.cells with
            | some (vs,S1)=>(tr.l[i]?).bind fun y=>match tr.t.unflat ((tr.t.flat y).take j++vs++(tr.t.flat y).drop (j+ti.ty.width)) with
              | some z=>match tr.hole with
                | none=>κ { S1 with gh:=dv S1.gh p.r (some ⟨tr.t,tr.l.set i z,none⟩) }
                | some (i0,j0)=>bif Nat.beq j j0&&Nat.beq ti.ty.width 1 then aq (i=i0) (κ { S1 with gh:=dv S1.gh p.r (some ⟨tr.t,tr.l.set i z,none⟩) }) none else none
              | none=>none
            | none=>none else none
           else none
         | _=>none
       | _=>none
     | _=>none
     else none
def RY (S:TS) (et:Option Ty) (c:Cl) (κ:Cl→Option ρ):Option ρ:=match c with
 | .c x=>κ (.c x)
 | .em=>match et with | some t=>κ (.c (.ls t [])) | none=>none
 | .own p sz _ _ true=>tH S p fun t l=>bif Nat.beq t.width sz then κ (.c (.ls t l)) else none
 | .own p sz lo len false=>tH S p fun t l=>bif Nat.beq t.width sz then aq (lo+len≤l.length) (κ (.c (.ls t ((l.drop lo).take len)))) none else none
 | .pro cs=>κ (.pro cs)
 | .ptrT p sz i j=>tH S p fun t l=>bif Nat.beq t.width sz then (l[i]?).bind fun x=>κ (.pro ((t.flat x).drop j)) else none
 | .ptrB b j=>match qI S.bx b with
   | some cs=>He (fun c κ=>match c with
     | .c x=>κ x
     | .own p sz _ _ true=>tH S p fun t l=>bif Nat.beq t.width sz then κ (.ls t l) else none
     | _=>none) (cs.drop j) fun cs=>κ (.pro cs)
   | none=>none
 | .dead=>κ .dead
def Vd (S:TS):List (Option Ty)→List Cl→(List Cl→Option ρ)→Option ρ
 | et::ets,c::cs,κ=>RY S et c fun c'=>Vd S ets cs fun cs'=>κ (c'::cs')
 | [],[],κ=>κ []
 | _,_,_=>none
def Ym (Θ:qO) (S:TS) (t:TypeId) (v:V) (κ:V1→Option ρ):Option ρ:=match v with
 | .tup _=>none
 | .v (.fn f cs)=>He (RY S none) cs fun cs'=>κ (.fn f cs')
 | .v (.agg cs)=>match o8 Θ t with | some ti=>Vd S ti.ty.csh cs fun cs'=>κ (.agg cs') | none=>none
 | .v (.cl c)=>match o8 Θ t with | some ti=>RY S (ti.ty.csh.headD none) c fun c'=>κ (.cl c') | none=>RY S none c fun c'=>κ (.cl c')
def uN (Θ:qO) (S:TS):List TypeId→List Operand→(List V1→Option ρ)→Option ρ
 | t::ts,a::as,κ=>Ym Θ S t (S.opd a) fun v=>uN Θ S ts as fun vs=>κ (v::vs)
 | [],[],κ=>κ []
 | _,_,_=>none
def QW (Θ:qO) (Y:Bu) (S:TS) (f:Operand) (ts:List TypeId) (as:List Operand) (κ:V→TS→Option ρ):Option ρ:=match S.opd f with
 | .v (.cl (.c (.sc (.func (.func g) _ _))))=>bif Nat.blt g jy then uN Θ S ts as fun vs=>Y g vs ρ fun res out=>κ (vE S.gh.length res) { S with gh:=S.gh++out.map some } else none
 | .v (.fn g caps)=>bif Nat.blt g jy then uN Θ S ts as fun vs=>He (RY S none) caps fun cs=>Y g (vs++cs.map .cl) ρ fun res out=>κ (vE S.gh.length res) { S with gh:=S.gh++out.map some } else none
 | _=>none
def Tw (S:TS) (el:Ty) (v:Cl) (κ:List el.D→TS→Option ρ):Option ρ:=match v with
 | .em=>κ [] S
 | .c (.ls t l)=>bif el.flatB then match xf t el l with | some l=>κ l S | none=>none else none
 | .own p sz lo len w=>bif Nat.beq el.width sz then (bif el.flatB then tH S p fun t l=>match xf t el l with
   | some l=>bif w then κ l S else aq (lo+len≤l.length) (κ ((l.drop lo).take len) S) none
   | none=>none
   else match p.l with
   | [] =>bif w&&Nat.ble S.fz p.r then tH S p fun t l=>match xf t el l with | some l=>κ l { S with gh:=dv S.gh p.r none } | none=>none else none
   | _=>none) else none
 | _=>none
def NF (S:TS) (el:Ty) (v:Cl) (more:List el.D) (κ:List el.D→TS→Option ρ):Option ρ:=match v with
 | .em=>κ more S
 | .own p sz lo len w=>bif Nat.ble S.fz p.r&&Nat.beq el.width sz then match p.l with
   | [] =>tH S p fun t l=>match xf t el l with
     | some l=>bif w then κ (l++more) { S with gh:=dv S.gh p.r none }
       else aq (lo=0) (aq (l.length < len) none (κ (l.take len++more) { S with gh:=dv S.gh p.r none })) none
     | none=>none
   | [(i,j)] =>match qI S.gh p.r with
     | some (some tr)=>match tr.hole with
       | none=>tH S p fun t l=>match xf t el l with
         | some l=>aq (lo=0) (aq (l.length < len) none (κ (l.take len++more) { S with gh:=dv S.gh p.r (some ⟨tr.t,tr.l,some (i,j)⟩) })) none
         | none=>none
       | some _=>none
     | _=>none
   | _=>none else none
 | _=>none
def Ve (Θ:qO) (S:TS) (t:TypeId) (s x:V) (κ:V→TS→Option ρ):Option ρ:=match o8 Θ t with
 | some ti=>match ti.ty,s,x with
   | .ls el, .v (.cl s), .v (.cl x)=>Tw S el x fun more S1=>NF S1 el s more fun l S2=>
     aq (l.length*ti.el≤2 ^ 40) (κ (.v (.cl (.own ⟨S2.gh.length,[]⟩ el.width 0 l.length true))) { S2 with gh:=S2.gh++ [some ⟨el,l,none⟩] }) none
   | _,_,_=>none
 | none=>none
def Xt:List Nat→List Nat→Bool
 | [],[] =>true
 | a::l,b::m=>bif Nat.beq a b then Xt l m else false
 | _,_=>false
def um (el:Ty):TS→List V→Option (List el.D×TS)
 | S,[] =>some ([],S)
 | S, .v x::r=>match rV S.gh.length 0 S el.csh x.cells with
   | some (vs,S1)=>match el.unflat vs,um el S1 r with
     | some y,some (ys,S2)=>some (y::ys,S2)
     | _,_=>none
   | none=>none
 | _,_=>none
def Bv (Θ:qO) (Y:Bu) (S:TS) (o:Oper) (κ:V→TS→Option ρ):Option ρ:=
 let e:=S.opd
 match o.op with
 | .alloc t=>match o8 Θ t with | some ti=>κ (.v (.cl (.ptrB S.bx.length 0))) { S with bx:=S.bx++ [ti.ty.zvs.map cC] } | none=>none
 | .box _ x=>match e x with
   | .v (.cl .dead)=>none
   | .v (.cl c)=>κ (.v (.cl (.ptrB S.bx.length 0))) { S with bx:=S.bx++ [[c]] }
   | .v (.agg cs)=>κ (.v (.cl (.ptrB S.bx.length 0))) { S with bx:=S.bx++ [cs] }
   | _=>none
 | .store t a x=>PU Θ S t (e a) (e x) fun S'=>κ V.dead S'
 | .makeSlice t l c=>match o8 Θ t with
   | some ti=>match ti.ty with
     | .ls el=>RV (e l) fun n=>RV (e c) fun m=>match el.unflat el.zcs with
       | some z=>aq (0≤n∧n=m∧n*ti.el≤2 ^ 40) (κ (.v (.cl (.own ⟨S.gh.length,[]⟩ el.width 0 n.toNat true))) { S with gh:=S.gh++ [some ⟨el,List.replicate n.toNat z,none⟩] }) none
       | none=>none
     | _=>none
   | none=>none
 | .buildSlice t len parts=>match o8 Θ t with
   | some ti=>match ti.ty with
     | .ls el=>bif Nat.ble (len*el.width) 1048576&&Xt (parts.toList.map (·.1)) (List.range len) then (match um el S (parts.toList.map fun x=>e x.2) with
       | some (l,S1)=>κ (.v (.cl (.own ⟨S1.gh.length,[]⟩ el.width 0 l.length true))) { S1 with gh:=S1.gh++ [some ⟨el,l,none⟩] }
       | none=>none) else none
     | _=>none
   | none=>none
 | .call { callee:= .builtin .append,args:=as,argTypes:=ts } =>match as.toList,ts.toList with
   | [s,x],[t,t'] =>bif Nat.beq t t' then Ve Θ S t (e s) (e x) κ else none
   | _,_=>none
 | .call { callee:= .value f,args:=as,argTypes:=ts } =>QW Θ Y S f ts.toList as.toList κ
 | _=>Hc Θ S o κ
def xg (S:TS) (d:Option Tmp) (v:V) (κ:TS→Option ρ):Option ρ:=match d with
 | some t=>bif Nat.blt t S.nt then κ { S with env:=(t,v)::S.env } else none
 | none=>κ S
def QX (S:TS) (all:List Oper) (o:Oper) (κ:Bool→TS→Option ρ):Option ρ:=match o.guard with
 | none=>κ true S
 | some (j,want)=>match qI all j with
   | some oj=>match oj.dst with
     | some d=>match i6 S.env d with
       | .tup [] =>κ false S
       | _=>NB S (.tmp d) fun b S1=>κ (b==want) S1
     | none=>none
   | none=>none
noncomputable def Tx {α:Type} (x y:α) (z:α):α:=open Classical in if x=y then x else z
def Tz {α β:Type} (l:List α) (x y:β):β:=match l with | [] =>x | _::_=>y
def Gw (o:Oper):Option (TypeId×Operand):=match o.op with
 | .binOp .eql t x (.const (.slice none 0 0)) _=>(match o.guard with | none=>some (t,x) | some _=>none)
 | _=>none
def Xu (Θ:qO) (t:TypeId):Bool:=match o8 Θ t with | some ti=>(match ti.ty with | .ls _=>true | _=>false) | none=>false
def NG (Y:Bu) (S:TS) (o:Oper):Option (Nat×FuncId×List Cl×Nat×Nat×List TypeId×List Operand):=match o.op with
 | .call { callee:= .value f,args:=as,argTypes:=ts } =>(match o.guard with
   | some _=>none
   | none=>match as.toList,ts.toList with
     | x::xs,_::us=>(match S.opd x with
       | .v (.cl (.own ⟨r,[]⟩ sz _ _ true))=>(match S.opd f with
         | .v (.cl (.c (.sc (.func (.func g) _ _))))=>bif Nat.blt g jy&& !Nat.beq (Y.kd g) 0 then some (Y.kd g,g,[],r,sz,us,xs) else none
         | .v (.fn g caps)=>bif Nat.blt g jy&& !Nat.beq (Y.kd g) 0 then some (Y.kd g,g,caps,r,sz,us,xs) else none
         | _=>none)
       | _=>none)
     | _,_=>none)
 | _=>none
def PV:V→Bool
 | .v (.cl (.c (.sc _)))=>true
 | .tup [] =>true
 | _=>false
def TA (Θ:qO) (Y:Bu) (S:TS) (k:Nat) (g:FuncId) (caps:List Cl) (r sz:Nat) (us:List TypeId) (xs:List Operand) (dst:Option Tmp) (κ:TS→Option ρ):Option ρ:=match dg S.gh r with
 | some ⟨el,l,none⟩=>bif Nat.beq sz el.width then uN Θ { S with gh:=dv S.gh r none } us xs fun vs=>He (RY { S with gh:=dv S.gh r none } none) caps fun cs=>
   bif Nat.beq k 1 then Y (oo g) (.cl (.c (.ls el l)):: (vs++cs.map .cl)) ρ fun res out=>(match out with
    | [⟨t,l',none⟩] =>bif decide (t=el)&&PV res then aq (l'.length=l.length) (xg { S with gh:=dv S.gh r (some ⟨t,l',none⟩) } dst res κ) none else none
    | _=>none)
   else bif Nat.ble S.fz r then Y (Hd g) (.cl (.c (.ls el l)):: (vs++cs.map .cl)) ρ fun res out=>xg { S with gh:=dv S.gh r none++out.map some } dst (vE S.gh.length res) κ
   else none else none
 | _=>none
inductive PW where
 | nest (r i j sz lo len:Nat)
 | agg (cs:List Cl)
def LA:V→Option PW
 | .v (.cl (.own ⟨r,[(i,j)]⟩ sz lo len _))=>some (.nest r i j sz lo len)
 | .v (.agg cs)=>some (.agg cs)
 | _=>none
def Hf (Y:Bu) (S:TS) (o:Oper):Option (FuncId×List Cl×PW×List TypeId×List Operand):=match o.op with
 | .call { callee:= .value f,args:=as,argTypes:=ts } =>(match o.guard with
   | some _=>none
   | none=>match as.toList,ts.toList with
     | x::xs,_::us=>(match LA (S.opd x) with
       | some a=>(match S.opd f with
         | .v (.cl (.c (.sc (.func (.func g) _ _))))=>bif Nat.blt g jy&&Nat.beq (Y.kd g) 1 then some (g,[],a,us,xs) else none
         | .v (.fn g caps)=>bif Nat.blt g jy&&Nat.beq (Y.kd g) 1 then some (g,caps,a,us,xs) else none
         | _=>none)
       | none=>none)
     | _,_=>none)
 | _=>none
def yH (S:TS):List Cl→Option (List C×List Nat)
 | [] =>some ([],[])
 | .c (.sc v)::cs=>(match yH S cs with | some (xs,L)=>some (.sc v::xs,L) | none=>none)
 | .own ⟨r,[]⟩ sz _ _ true::cs=>(match dg S.gh r with
   | some ⟨el,l,none⟩=>bif Nat.beq sz el.width then (match yH S cs with | some (xs,L)=>some (.ls el l::xs,r::L) | none=>none) else none
   | _=>none)
 | _=>none
def TB (G:List (Option b6)) (L:List Nat):List (Option b6):=L.foldl (fun G r=>dv G r none) G
def Hg (S:TS):List Nat→List b6→(TS→Option ρ)→Option ρ
 | [],[],κ=>κ S
 | r::L,⟨t,l',none⟩::out,κ=>(match dg S.gh r with
   | some ⟨el,l,none⟩=>bif decide (t=el) then aq (l'.length=l.length) (Hg { S with gh:=dv S.gh r (some ⟨t,l',none⟩) } L out κ) none else none
   | _=>none)
 | _,_,_=>none
def LB (Θ:qO) (Y:Bu) (S:TS) (g:FuncId) (caps:List Cl) (a:PW) (us:List TypeId) (xs:List Operand) (dst:Option Tmp) (κ:TS→Option ρ):Option ρ:=match a with
 | .agg cs=>(match yH S cs with
   | some (ys,L)=>bif Ws L then uN Θ { S with gh:=TB S.gh L } us xs fun vs=>He (RY { S with gh:=TB S.gh L } none) caps fun ks=>
     Y (oo g) (.agg (ys.map .c):: (vs++ks.map .cl)) ρ fun res out=>bif PV res then Hg S L out fun S3=>xg S3 dst res κ else none else none
   | none=>none)
 | .nest r i j sz lo len=>(match dg S.gh r with
   | some ⟨t,l,none⟩=>(l[i]?).bind fun y=>(match qI (t.flat y) j with
     | some (.ls el v)=>bif Nat.beq sz el.width then aq (lo=0∧len=v.length) (uN Θ { S with gh:=dv S.gh r (some ⟨t,l,some (i,j)⟩) } us xs fun vs=>He (RY { S with gh:=dv S.gh r (some ⟨t,l,some (i,j)⟩) } none) caps fun ks=>
       Y (oo g) (.cl (.c (.ls el v)):: (vs++ks.map .cl)) ρ fun res out=>(match out with
         | [⟨t',v',none⟩] =>bif decide (t'=el)&&PV res then aq (v'.length=v.length) (match t.unflat (dv (t.flat y) j (.ls t' v')) with
           | some z=>xg { S with gh:=dv S.gh r (some ⟨t,l.set i z,none⟩) } dst res κ
           | none=>none) none else none
         | _=>none)) none else none
     | _=>none)
   | _=>none)
def LC (S:TS) (o:Oper):Option (TypeId×Nat×Nat×Nat×Nat):=match o.op with
 | .call { callee:= .builtin .clear,args:=as,argTypes:=ts } =>(match o.guard with
   | some _=>none
   | none=>match as.toList,ts.toList with
     | [x],[t] =>(match S.opd x with
       | .v (.cl (.own ⟨r,[]⟩ sz lo len _))=>some (t,r,sz,lo,len)
       | _=>none)
     | _,_=>none)
 | _=>none
def PX (Θ:qO) (S:TS) (t:TypeId) (r sz lo len:Nat) (dst:Option Tmp) (κ:TS→Option ρ):Option ρ:=match o8 Θ t with
 | some ti=>match dg S.gh r with
   | some ⟨el,l,none⟩=>bif decide (ti.ty= .ls el)&&Nat.beq el.width 1&&Nat.beq sz 1&&el.flatB then (match el.unflat el.zcs with
     | some z=>aq (lo+len≤l.length) (xg { S with gh:=dv S.gh r (some ⟨el,l.take lo++List.replicate len z++l.drop (lo+len),none⟩) } dst (.tup []) κ) none
     | none=>none) else none
   | _=>none
 | none=>none
def NH (b:Bool):V:= .v (.cl (.c (.sc (.bool b))))
noncomputable def Fs (Θ:qO) (Y:Bu) (all:List Oper):List Oper→TS→(TS→Option ρ)→Option ρ
 | [],S,κ=>κ S
 | o::os,S,κ=>match Gw o with
   | some (t,x)=>bif Xu Θ t then (match S.opd x with
     | .v (.cl (.c (.ls _ l)))=>Tz l (Tx (xg S o.dst (NH true) fun S3=>Fs Θ Y all os S3 κ) (xg S o.dst (NH false) fun S3=>Fs Θ Y all os S3 κ) none) (xg S o.dst (NH false) fun S3=>Fs Θ Y all os S3 κ)
     | _=>none) else none
   | none=>match LC S o with
   | some (t,r,sz,lo,len)=>PX Θ S t r sz lo len o.dst fun S3=>Fs Θ Y all os S3 κ
   | none=>match NG Y S o with
   | some (k,g,caps,r,sz,us,xs)=>TA Θ Y S k g caps r sz us xs o.dst fun S3=>Fs Θ Y all os S3 κ
   | none=>match Hf Y S o with
   | some (g,caps,a,us,xs)=>LB Θ Y S g caps a us xs o.dst fun S3=>Fs Θ Y all os S3 κ
   | none=>QX S all o fun b S1=>bif b then Bv Θ Y S1 o fun v S2=>xg S2 o.dst v fun S3=>Fs Θ Y all os S3 κ else xg S1 o.dst (V.tup []) fun S3=>Fs Θ Y all os S3 κ
def gone:Nat→List (Option b6)→List (Option b6)→List Nat
 | n,some _::l,none::m=>n::gone (n+1) l m
 | n,_::l,_::m=>gone (n+1) l m
 | _,_,_=> []
def TC (l:List (Option b6)):List T:=l.map fun x=>match x with | some tr=>tr.tree | none=> .dd
def Dh (S S':TS):i5:=⟨S.gh.length,TC (S'.gh.drop S.gh.length),gone 0 S.gh S'.gh⟩
def Wi (d:Nat) (o:Oper):Bool:=match o.dst with | some d'=> !(Nat.beq d d') | none=>true
def Xv (o:Oper) (os:List Oper):Bool:=match o.dst with | some d=>os.all (Wi d) | none=>false
def Ya (Θ:qO) (t:TypeId):Bool:=match o8 Θ t with
 | some ti=>(match ti.ty with | .ls _=>true | _=>false)
 | none=>false
def Xw (Θ:qO) (o:Oper):Bool:=match o.op with
 | .buildSlice t _ _=>Ya Θ t
 | .call { callee:= .builtin .append,args:=_,argTypes:=ts } =>(match ts.toList with | t::_=>Ya Θ t | [] =>false)
 | _=>true
def TD:V→Bool
 | .v (.cl (.own p _ _ _ _))=>(match p.l with | [] =>true | _=>false)
 | _=>true
def Wj (S:TS) (o:Oper):Bool:=match o.op with
 | .call { callee:= .builtin .append,args:=as,argTypes:=_ } =>(match as.toList with | s::_=>TD (S.opd s) | [] =>true)
 | _=>true
def TE (Θ:qO):List Oper→TS→(TS→Option ρ)→Option ρ
 | [],S,κ=>κ S
 | o::os,S,κ=>match o.op with
   | .alloc t=>match o8 Θ t with | some ti=>TE Θ os { S with bx:=S.bx++ [ti.ty.zvs.map cC] } κ | none=>none
   | _=>TE Θ os S κ
def NI (Θ:qO) (Y:Bu) (all:List Oper):List Oper→TS→List i5→(TS→List i5→Option ρ)→Option ρ
 | [],S,ms,κ=>κ S ms
 | o::os,S,ms,κ=>bif aH o then NI Θ Y all os S (ms++ [⟨S.gh.length,[],[]⟩]) κ else bif dL o then (bif o.guard.isNone then xg S o.dst (V.v (.cl (.ptrB (S.bx.length - 1 - dw os) 0))) fun S3=>NI Θ Y all os S3 (ms++ [⟨S.gh.length,[],[]⟩]) κ else none) else
    QX S all o fun b S1=>bif b then
     (bif ku o then (bif Xv o os&&Xw Θ o&&Wj S1 o then Bv Θ Y S1 o fun v S2=>xg S2 o.dst v fun S3=>NI Θ Y all os S3 (ms++ [Dh S1 S2]) κ else none)
     else Hc Θ S1 o fun v S2=>xg S2 o.dst v fun S3=>NI Θ Y all os S3 (ms++ [⟨S1.gh.length,[],[]⟩]) κ)
     else xg S1 o.dst (V.tup []) fun S3=>NI Θ Y all os S3 (ms++ [⟨S1.gh.length,[],[]⟩]) κ
def TF (Θ:qO) (Y:Bu):List Oper→TS→(TS→Option ρ)→Option ρ
 | [],S,κ=>κ S
 | o::os,S,κ=>bif aH o then (bif o.guard.isNone&&o.dst.isNone then Bv Θ Y S o fun _ S1=>TF Θ Y os S1 κ else none) else TF Θ Y os S κ
def TG (Θ:qO) (t:TypeId):Bool:=match o8 Θ t with | some ti=>ti.ty.flatB | none=>false
def WG (Θ:qO) (Y:Bu) (ops:List Oper) (S:TS) (κ:TS→Option ρ):Option ρ:=
 TE Θ ops S fun S0=>NI Θ Y ops ops S0 [] fun SV ms=>bif Px (TG Θ) ops (lO ops) S0.st ms SV.st then TF Θ Y ops SV κ else none
def ce:Code→Nat
 | .region id _ _=>id
 | .seq a _=>ce a
 | .block _ c=>ce c
 | .loop c=>ce c
 | _=>0
abbrev qJ:=Nat→TS→(ρ:Type)→(X→TS→Option ρ)→Option ρ
noncomputable def ev (Θ:qO) (Y:Bu) (Λ:qJ):Code→TS→(X→TS→Option ρ)→Option ρ
 | .skip,S,κ=>κ .nor S
 | .region _ ops false,S,κ=>Fs Θ Y ops.toList ops.toList S (κ .nor)
 | .region _ ops true,S,κ=>WG Θ Y ops.toList S (κ .nor)
 | .seq a b,S,κ=>ev Θ Y Λ a S fun x S1=>match x with | .nor=>ev Θ Y Λ b S1 κ | x=>κ x S1
 | .cond c a b,S,κ=>NB S c fun t S1=>bif t then ev Θ Y Λ a S1 κ else ev Θ Y Λ b S1 κ
 | .block id c,S,κ=>ev Θ Y Λ c S fun x S1=>match x with | .ext i=>bif Nat.beq i id then κ .nor S1 else κ (.ext i) S1 | x=>κ x S1
 | .loop c,S,κ=>Λ (ce c) S ρ κ
 | .exit id,S,κ=>κ (.ext id) S
 | .ret,S,κ=>κ .ret S
 | _,_,_=>none
def Vf (S:TS) (gs:List b6) (et:Option Ty) (c:Cl) (κ:Cl→List b6→TS→Option ρ):Option ρ:=match c,et with
 | .c (.sc v),_=>κ (.c (.sc v)) gs S
 | .em,some t=>κ (.own ⟨gs.length,[]⟩ t.width 0 0 true) (gs++ [⟨t,[],none⟩]) S
 | .own p sz lo len w,some t'=>match p.l with
   | [] =>bif Nat.ble S.fz p.r&&Nat.beq t'.width sz then tH S p fun t l=>bif Nat.beq t.width sz then
     (bif w then κ (.own ⟨gs.length,[]⟩ sz 0 l.length true) (gs++ [⟨t,l,none⟩]) { S with gh:=dv S.gh p.r none }
     else aq (lo=0∧len≤l.length) (κ (.own ⟨gs.length,[]⟩ sz 0 (l.take len).length true) (gs++ [⟨t,l.take len,none⟩]) { S with gh:=dv S.gh p.r none }) none) else none
     else none
   | _=>none
 | _,_=>none
def QY:TS→List b6→List (Option Ty)→List Cl→(List Cl→List b6→TS→Option ρ)→Option ρ
 | S,gs,et::ets,c::cs,κ=>Vf S gs et c fun c' gs' S'=>QY S' gs' ets cs fun cs' gs'' S''=>κ (c'::cs') gs'' S''
 | S,gs,[],[],κ=>κ [] gs S
 | _,_,_,_,_=>none
def WH (Θ:qO) (S:TS) (gs:List b6) (t:TypeId) (v:V) (κ:V1→List b6→TS→Option ρ):Option ρ:=match o8 Θ t with
 | none=>none
 | some ti=>match v with
   | .v (.agg cs)=>QY S gs ti.ty.csh cs fun cs' gs' S'=>κ (.agg cs') gs' S'
   | .v (.cl c)=>Vf S gs (ti.ty.csh.headD none) c fun c' gs' S'=>κ (.cl c') gs' S'
   | _=>none
def uO (Θ:qO):TS→List b6→List (TypeId×V)→(List V1→List b6→Option ρ)→Option ρ
 | _,gs,[],κ=>κ [] gs
 | S,gs,(t,v)::r,κ=>WH Θ S gs t v fun v' gs' S'=>uO Θ S' gs' r fun vs gs''=>κ (v'::vs) gs''
def Ft (Θ:qO) (S:TS):List ResultVar→List TypeId→(List (TypeId×V)→Option ρ)→Option ρ
 | .tmp a::rs,t::ts,κ=>Ft Θ S rs ts fun l=>κ ((t,i6 S.env a)::l)
 | .cell a t'::rs,t::ts,κ=>NC Θ S t' (i6 S.env a) fun v=>Ft Θ S rs ts fun l=>κ ((t,v)::l)
 | [],[],κ=>κ []
 | _,_,_=>none
def yZ:List V1→V
 | [v] => .v v
 | vs=> .tup vs
def mW:Nat→List V1→List (Nat×V)
 | _,[] => []
 | n,v::l=>(n, .v v)::mW (n+1) l
noncomputable def Yn (Θ:qO) (Y:Bu) (Λ:qJ) (fn:Func) (args:List V1) (κ:V→List b6→Option ρ):Option ρ:=match fn.body with
 | none=>none
 | some c=>ev Θ Y Λ c { env:=mW 0 args,bx:= [],gh:= [],fz:=0,nt:=args.length+(fn.ntmps - args.length) } fun x S=>match x with
   | .ext _=>none
   | _=>Ft Θ S fn.results.toList fn.resultTypes.toList fun rs=>uO Θ S [] rs fun vs gs=>κ (yZ vs) gs
def LD:List Cl→Option (List C)
 | [] =>some []
 | .c x::l=>match LD l with | some r=>some (x::r) | none=>none
 | _=>none
def un (t:Ty) (a:V1) (κ:t.D→Option ρ):Option ρ:=match a with
 | .agg cs=>bif t.ag then (match LD cs with
   | some xs=>(match t.unflat xs with | some x=>κ x | none=>none)
   | none=>none) else none
 | .cl (.c y)=>bif t.ag then none else (match t.unflat [y] with | some x=>κ x | none=>none)
 | _=>none
def wQ:List C→Nat→List Cl
 | [],_=> []
 | .sc v::r,n=> .c (.sc v)::wQ r n
 | .ls t l::r,n=> .own ⟨n,[]⟩ t.width 0 l.length true::wQ r (n+1)
def oq:List C→List b6
 | [] => []
 | .sc _::r=>oq r
 | .ls t l::r=>⟨t,l,none⟩::oq r
def Hh (t:Ty) (x:t.D) (n:Nat):V1:=bif t.ag then .agg (wQ (t.flat x) n) else match wQ (t.flat x) n with | [c] => .cl c | _=> .cl .dead
def zw:Nat→List ((t:Ty)×t.D)→List V1
 | _,[] => []
 | n,⟨t,x⟩::r=>Hh t x n::zw (n+(oq (t.flat x)).length) r
def zx:List ((t:Ty)×t.D)→List b6
 | [] => []
 | ⟨t,x⟩::r=>oq (t.flat x)++zx r
def ret (l:List ((t:Ty)×t.D)) (κ:V→List b6→Option ρ):Option ρ:=κ (yZ (zw 0 l)) (zx l)
end
abbrev bm:=List V1→(ρ:Type)→(V→List b6→Option ρ)→Option ρ
def WI:List (Nat×bm)→FuncId→List V1→(ρ:Type)→(V→List b6→Option ρ)→Option ρ
 | [],_,_,_,_=>none
 | (g,e)::l,f,as,ρ,κ=>bif Nat.beq g f then e as ρ κ else WI l f as ρ κ
def WJ:List (Nat×bm)→Nat→Bool
 | [],_=>false
 | (g,_)::l,f=>bif Nat.beq g f then true else WJ l f
def aL (l:List (Nat×bm)):Bu:=⟨WI l,fun g=>bif WJ l (oo g) then 1 else bif WJ l (Hd g) then 2 else 0⟩
noncomputable def Vg {ρ:Type} (Θ:qO) (Y:Bu) (Λ:qJ) (fn:Func) (m:Nat) (el:Ty) (l:List el.D) (args:List V1) (κ:V→List b6→Option ρ):Option ρ:=match fn.body with
 | none=>none
 | some c=>ev Θ Y Λ c { env:=mW 0 (.cl (.own ⟨0,[]⟩ el.width 0 l.length true)::args),bx:= [],gh:= [some ⟨el,l,none⟩],fz:=m,nt:=(args.length+1)+(fn.ntmps - (args.length+1)) } fun x S=>match x with
   | .ext _=>none
   | _=>Ft Θ S fn.results.toList fn.resultTypes.toList fun rs=>bif Nat.beq m 0 then uO Θ S [] rs fun vs gs=>κ (yZ vs) gs else match dg S.gh 0 with
     | some ⟨t,l',none⟩=>uO Θ S [⟨t,l',none⟩] rs fun vs gs=>κ (yZ vs) gs
     | _=>none
def yI (S:TS):Nat→Nat→Option (List b6)
 | _,0=>some []
 | r,n+1=>(match dg S.gh r with
   | some ⟨t,l,none⟩=>(match yI S (r+1) n with | some ts=>some (⟨t,l,none⟩::ts) | none=>none)
   | _=>none)
noncomputable def WK {ρ:Type} (Θ:qO) (Y:Bu) (Λ:qJ) (fn:Func) (t:Ty) (x:t.D) (args:List V1) (κ:V→List b6→Option ρ):Option ρ:=match fn.body with
 | none=>none
 | some c=>ev Θ Y Λ c { env:=mW 0 (Hh t x 0::args),bx:= [],gh:=(oq (t.flat x)).map some,fz:=(oq (t.flat x)).length,nt:=(args.length+1)+(fn.ntmps - (args.length+1)) } fun y S=>match y with
   | .ext _=>none
   | _=>Ft Θ S fn.results.toList fn.resultTypes.toList fun rs=>match yI S 0 (oq (t.flat x)).length with
     | some gs=>uO Θ S gs rs fun vs gs'=>κ (yZ vs) gs'
     | none=>none
def QZ (t:Ty) (x:t.D):V1:=bif t.ag then .agg ((t.flat x).map .c) else match (t.flat x).map Cl.c with | [c] => .cl c | _=> .cl .dead
end Go.Proofs.YtkcgfceffffmoaaGreat.En
namespace Go.Proofs.YtkcgfceffffmoaaGreat.En
open Go
theorem dN {α:Type}: ∀ (l:List α) (n:Nat),qI l n=l[n]?
 | [],n=>by simp [qI]
 | a::l,0=>by simp [qI]
 | a::l,n+1=>by show qI l n=_; rw [dN l]; simp
theorem fZ {α:Type}: ∀ (l:List α) (n:Nat) (x:α),dv l n x=l.set n x
 | [],n,x=>by simp [dv]
 | a::l,0,x=>by simp [dv]
 | a::l,n+1,x=>by show a::dv l n x=_; rw [fZ l]; simp
theorem NJ: ∀ {l:List (Nat×V)} {t:Nat},i6 l t=V.dead∨(t,i6 l t)∈l
 | [],t=> .inl rfl
 | (u,v)::l,t=>by
   simp only [i6]
   cases h:Nat.beq u t with
   | true=>
     have :u=t:=Nat.eq_of_beq_eq_true h
     subst this
     exact .inr (List.mem_cons_self)
   | false=>
     rcases NJ (l:=l) (t:=t) with h' | h'
     ·exact .inl h'
     ·exact .inr (List.mem_cons_of_mem _ h')
def Cl.ok (G:List (Option b6)):Cl→Prop
 | .own p _ lo len w=>p.r < G.length∧(w=true→p.l= [] ∧lo=0∧ ∀ tr,dg G p.r=some tr→len=tr.l.length)
 | .ptrT p _ _ _=>p.r < G.length
 | _=>True
def V1.ok (G:List (Option b6)):V1→Prop
 | .cl c=>c.ok G
 | .agg cs=> ∀ c∈cs,c.ok G
 | .fn _ cs=> ∀ c∈cs,c.ok G
def V.ok (G:List (Option b6)):V→Prop
 | .v x=>x.ok G
 | .tup l=> ∀ x∈l,x.ok G
structure TS.ok (S:TS):Prop where
 env: ∀ x∈S.env,x.2.ok S.gh
 bx: ∀ cs∈S.bx,∀ c∈cs,c.ok S.gh
def iR (G G':List (Option b6)):Prop:=G.length≤G'.length∧ ∀ r tr',r < G.length→dg G' r=some tr'→ ∃ tr,dg G r=some tr∧tr.l.length=tr'.l.length
theorem iR.refl (G:List (Option b6)):iR G G:=⟨Nat.le_refl _,fun _ tr _ h=>⟨tr,h,rfl⟩⟩
theorem iR.trans {G H K:List (Option b6)} (h:iR G H) (k:iR H K):iR G K:=⟨Nat.le_trans h.1 k.1,fun r tr hr hK=>by
 obtain⟨t1,h1,h2⟩:=k.2 r tr (Nat.lt_of_lt_of_le hr h.1) hK
 obtain⟨t2,h3,h4⟩:=h.2 r t1 hr h1
 exact⟨t2,h3,h4.trans h2⟩⟩
theorem Cl.ok_mono {G G':List (Option b6)} (h:iR G G') {c:Cl} (hc:c.ok G):c.ok G':=by
 cases c with
 | own p sz lo len w=>
   obtain⟨h1,h2⟩:=hc
   refine⟨Nat.lt_of_lt_of_le h1 h.1,fun hw=> ?_⟩
   obtain⟨a,b,c⟩:=h2 hw
   refine⟨a,b,fun tr htr=> ?_⟩
   obtain⟨tr0,k1,k2⟩:=h.2 _ tr h1 htr
   rw [c tr0 k1,k2]
 | ptrT p sz i j=>exact Nat.lt_of_lt_of_le hc h.1
 | _=>trivial
theorem V1.ok_mono {G G':List (Option b6)} (h:iR G G') {v:V1} (hv:v.ok G):v.ok G':=by
 cases v with
 | cl c=>exact Cl.ok_mono h hv
 | agg cs=>exact fun c hc=>Cl.ok_mono h (hv c hc)
 | fn f cs=>exact fun c hc=>Cl.ok_mono h (hv c hc)
theorem V.ok_mono {G G':List (Option b6)} (h:iR G G') {v:V} (hv:v.ok G):v.ok G':=by
 cases v with
 | v x=>exact V1.ok_mono h hv
 | tup l=>exact fun x hx=>V1.ok_mono h (hv x hx)
theorem V.ok_dead (G:List (Option b6)):V.dead.ok G:=trivial
theorem V.ok_sc (G:List (Option b6)) (v:Value): (V.sc v).ok G:=trivial
theorem Gx {S:TS} (hS:S.ok) (t:Nat): (i6 S.env t).ok S.gh:=by
 rcases NJ (l:=S.env) (t:=t) with h | h
 ·rw [h]; trivial
 ·exact hS.env _ h
theorem rX (v:Value): (cC v).av=Gr v:=by
 unfold cC Gr
 cases h:sg v with
 | true=>rfl
 | false=>
   simp only [cond_false,Bool.false_eq_true,if_false]
   split
   ·rfl
   ·split
    ·exact absurd rfl ‹_›
    ·rfl
theorem Xx (v:Value): (cV v).av=Jc v:=by
 cases v with
 | agg cs=>
   simp only [cV,Jc]
   cases h:cs.toList.all Value.oneCell' with
   | true=>
     simp only [cond_true,if_true]
     simp only [V.av,V1.av,List.map_map]
     congr 1
     exact List.map_congr_left fun x _=>rX x
   | false=>rfl
 | bool b=>exact rX (.bool b)
 | int k n=>exact rX (.int k n)
 | float k n=>exact rX (.float k n)
 | complex k n m=>exact rX (.complex k n m)
 | string x=>exact rX (.string x)
 | pointer x=>exact rX (.pointer x)
 | slice x y z=>exact rX (.slice x y z)
 | map x=>exact rX (.map x)
 | chan x=>exact rX (.chan x)
 | func x y z=>exact rX (.func x y z)
 | nilFunc=>exact rX .nilFunc
 | iface x y=>exact rX (.iface x y)
 | nilIface=>exact rX .nilIface
 | tuple x=>exact rX (.tuple x)
theorem Q0 (G:List (Option b6)) (v:Value): (cC v).ok G:=by
 unfold cC
 cases sg v with
 | true=>trivial
 | false=>simp only [cond_false]; split <;> trivial
theorem Xy (G:List (Option b6)) (v:Value): (cV v).ok G:=by
 unfold cV
 split
 ·rename_i cs
  cases cs.toList.all Value.oneCell' with
  | true=>intro c hc; simp only [List.mem_map] at hc; obtain⟨x,_,rfl⟩:=hc; exact Q0 _ _
  | false=>trivial
 ·exact Q0 _ _
theorem bk {S:TS} (x:Operand):opd S.st x=(S.opd x).av:=by
 cases x with
 | tmp t=>rfl
 | const v=>exact (Xx v).symm
 | func f=>rfl
 | global g=>rfl
theorem mX {S:TS} (hS:S.ok) (x:Operand): (S.opd x).ok S.gh:=by
 cases x with
 | tmp t=>exact Gx hS t
 | const v=>exact Xy _ _
 | func f=>trivial
 | global g=>trivial
section
variable {ρ:Type}
theorem Vh {α:Type} {b:Bool} {x y:Option α} {r:α} (h:br b x y=some r): (b=true∧x=some r)∨(b=false∧y=some r):=by
 cases b with
 | true=>exact .inl ⟨rfl,h⟩
 | false=>exact .inr ⟨rfl,h⟩
theorem dF {α:Type} {c:Prop} [Decidable c] {x:Option α} {r:α} (h:aq c x none=some r):c∧x=some r:=by
 unfold aq at h
 split at h
 ·exact⟨‹_›,h⟩
 ·cases h
theorem Di {α:Type} {c:Prop} [Decidable c] {x:Option α} {r:α} (h:aq c none x=some r): ¬ c∧x=some r:=by
 unfold aq at h
 split at h
 ·cases h
 ·exact⟨‹_›,h⟩
theorem au {α:Type} {c:Bool} {x:Option α} {r:α} (h: (bif c then x else none)=some r):c=true∧x=some r:=by
 cases c with
 | true=>exact⟨rfl,h⟩
 | false=>cases h
theorem NK {S:TS} {t:Nat} {b:Bool} (h:i6 S.env t=V.sc (.bool b)): ({ S with env:=(t,V.sc (.bool b))::S.env }:TS).st=S.st:=by
 unfold TS.st
 simp only
 congr 1
 funext u
 simp only [i6]
 cases hb:Nat.beq t u with
 | true=>
   have :t=u:=Nat.eq_of_beq_eq_true hb
   subst this
   rw [h]
   rfl
 | false=>rfl
theorem NL {S:TS} (hS:S.ok) (t:Nat) (b:Bool): ({ S with env:=(t,V.sc (.bool b))::S.env }:TS).ok:=
 ⟨fun x hx=>by
  simp only [List.mem_cons] at hx
  rcases hx with rfl | hx
  ·trivial
  ·exact hS.env x hx,hS.bx⟩
theorem Hi {S:TS} (hS:S.ok) {x:Operand} {κ:Bool→TS→Option ρ} {r:ρ} (h:NB S x κ=some r):
  ∃ b S',opd S.st x= .sc (.bool b)∧S'.st=S.st∧S'.ok∧S'.gh=S.gh∧κ b S'=some r:=by
 unfold NB at h
 split at h
 ·rename_i t
  split at h
  ·rename_i b hb
   rcases Vh h with ⟨rfl,h⟩ | ⟨rfl,h⟩
   ·exact⟨true,_,by show (i6 S.env t).av=_; rw [hb]; rfl,NK hb,NL hS _ _,rfl,h⟩
   ·exact⟨false,_,by show (i6 S.env t).av=_; rw [hb]; rfl,NK hb,NL hS _ _,rfl,h⟩
  ·cases h
 ·rename_i b
  exact⟨b,S,rfl,rfl,hS,rfl,h⟩
 ·cases h
theorem Gy {v:V} {κ:Int→Option ρ} {r:ρ} (h:RV v κ=some r): ∃ n,La v.av=some n∧κ n=some r:=by
 unfold RV at h
 split at h
 ·exact⟨_,rfl,h⟩
 ·cases h
theorem b6.look {G:List (Option b6)} {r:Nat} {tr:b6} (h:qI G r=some (some tr)):dg G r=some tr:=by
 unfold dg
 rw [h]
 rfl
theorem fu {S:TS} {p:ck} {κ: (t:Ty)→List t.D→Option ρ} {r:ρ} (h:tH S p κ=some r):
  ∃ (t:Ty) (l:List t.D),S.st.look p= .sl t.width (l.map t.row)∧(p.l= [] →dg S.gh p.r=some ⟨t,l,none⟩)∧κ t l=some r:=by
 unfold tH at h
 split at h
 ·rename_i tr htr
  have hg:=b6.look htr
  split at h
  ·rename_i hh
   obtain⟨t,l,hole⟩:=tr
   simp only at hh
   subst hh
   split at h
   ·rename_i hp
    refine⟨t,l,?_,fun _=>hg,h⟩
    unfold St.look
    have :S.st.gh p.r=some (.sl t.width (l.map t.row)):=by show (dg S.gh p.r).map b6.tree=_; rw [hg]; rfl
    rw [this,hp]
    rfl
   ·rename_i i j hp
    simp only [Option.bind_eq_some_iff] at h
    obtain⟨x,hx,h⟩:=h
    split at h
    ·rename_i t' l' hj
     refine⟨t',l',?_,(fun h0=>by rw [hp] at h0; cases h0),h⟩
     unfold St.look
     have :S.st.gh p.r=some (.sl t.width (l.map t.row)):=by show (dg S.gh p.r).map b6.tree=_; rw [hg]; rfl
     rw [this,hp]
     simp only [T.go,T.cell]
     have e1: (l.map t.row).getD i [] =t.row x:=by simp [List.getD_eq_getElem?_getD,hx]
     rw [e1,t.row_flat]
     rw [dN] at hj
     simp [List.getD_eq_getElem?_getD,hj,C.tree]
    ·cases h
   ·cases h
  ·cases h
 ·cases h
end
end Go.Proofs.YtkcgfceffffmoaaGreat.En
namespace Go.Proofs.YtkcgfceffffmoaaGreat.En
open Go
def Ty.shs (t:Ty):List Nat:=t.csh.map fun | some e=>e.width | none=>0
structure TI.ok (P:Program) (t:TypeId) (ti:TI):Prop where
 ag:Jb P t=some ti.ty.ag
 cells:P.cellsOf t=ti.ty.width
 sh:qK P 9 t=ti.ty.shs
 ze:C5 P t=some ti.ty.zvs
 fd: ∀ k,SY P t k=qI ti.fds k
 pl:ti.ty.ag=true→Xm P t=some (ti.fds.map fun x=>(x.1,x.2.1))
 el: ∀ e,ti.ty= .ls e→ ∃ el,Bf P t=some el∧P.cellsOf el=e.width∧P.bytesOf el=ti.el∧0 < ti.el∧qK P 9 el=e.shs∧C5 P el=some e.zvs
 bool:ti.ty= .b→P.underlying t=some .bool
 gu:ti.ty.ag=true→ti.ty.flatB=true→P.eqGuardType P.depth t=false
 eq:ti.ty.ag=true→ ∀ (a b:List Cl) (r:Bool) (xs ys:List Value),mG ti.ty.zvs a=true→mG ti.ty.zvs b=true→yF a b=some r→a=xs.map (fun x=> .c (.sc x))→b=ys.map (fun x=> .c (.sc x))→bN P (Op.equal t (.agg xs.toArray) (.agg ys.toArray))=some r
 str:K9 P t=(match ti.ty with | .s=>true | _=>false)
 int: ∀ k,ti.ty= .i k→P.underlying t=some (.int k)
def eC (P:Program) (Θ:qO):Prop:= ∀ t ti,o8 Θ t=some ti→ti.ok P t
theorem Ty.width_pos (t:Ty):0 < t.width:=by
 cases t with
 | st n=>cases n <;> decide
 | _=>exact Nat.one_pos
theorem C.ro_tree (c:C):T.ro c.tree=c.av:=by cases c <;> rfl
theorem C.own_tree (p:ck) (i m:Nat) (c:C):S5 p i m c.tree=(PS p i m c).av:=by
 cases c with
 | sc v=>rfl
 | ls t l=>simp [S5,C.tree,PS,Cl.av]
theorem Dj {α β:Type} (f:Nat→α→β): ∀ (j:Nat) (l:List α) (k:Nat),(Dg f j l)[k]? =(l[k]?).map (f (j+k))
 | j,[],k=>by simp [Dg]
 | j,a::l,0=>by simp [Dg]
 | j,a::l,k+1=>by simp only [Dg,List.getElem?_cons_succ]; rw [Dj f (j+1) l k]; congr 2; omega
section
variable {ρ:Type} {P:Program} {Θ:qO} {S:TS}
theorem my {p:ck} {sz:Nat} {rows:List (List T)} (h:S.st.look p= .sl sz rows):S.st.rows p sz=some rows:=by
 unfold St.rows
 rw [h]
 simp
theorem RZ (hS:S.ok) {n:Nat} {v:Cl} (hv:v.ok S.gh) {κ:List Cl→Option ρ} {r:ρ} (h:PT S n v κ=some r):
  ∃ cs:List Cl,db S.st n v.av=some (cs.map Cl.av)∧(∀ c∈cs,c.ok S.gh)∧κ cs=some r:=by
 unfold PT at h
 split at h
 ·rename_i b j
  split at h
  ·rename_i cs hcs
   obtain⟨h1,h⟩:=au h
   have h1:j+n≤cs.length:=Nat.le_of_ble_eq_true h1
   refine⟨_,?_,fun c hc=> ?_,h⟩
   ·simp only [Cl.av,db,TS.st,hcs,Option.map_some,Option.bind_some,List.length_map]
    rw [if_pos h1]
    simp [List.map_take,List.map_drop]
   ·rw [dN] at hcs
    exact hS.bx cs (List.mem_of_getElem? hcs) c (List.mem_of_mem_drop (List.mem_of_mem_take hc))
  ·cases h
 ·rename_i cells
  obtain⟨h1,h⟩:=au h
  have h1:n≤cells.length:=Nat.le_of_ble_eq_true h1
  refine⟨_,?_,fun c hc=> ?_,h⟩
  ·simp only [Cl.av,db,List.length_map]
   rw [if_pos h1]
   congr 1
   rw [←List.map_take,List.map_map,List.map_map]
   exact List.map_congr_left fun c _=>C.ro_tree c
  ·obtain⟨x,_,rfl⟩:=List.mem_map.1 hc
   trivial
 ·rename_i p sz i j
  obtain⟨t,l,h1,_,h5⟩:=fu h
  obtain⟨h2,h6⟩:=au h5
  clear h h5
  simp only [Bool.and_eq_true] at h2
  have h3:t.width=sz:=Nat.eq_of_beq_eq_true h2.1
  have h4:j+n≤sz:=Nat.le_of_ble_eq_true h2.2
  subst h3
  obtain⟨x,hx,h⟩:=Option.bind_eq_some_iff.1 h6
  have hil:i < l.length:=(List.getElem?_eq_some_iff.1 hx).1
  have hfl: (t.flat x).length=t.width:=t.flat_length x
  refine⟨_,?_,fun c hc=> ?_,h⟩
  ·have e1: (l.map t.row).getD i [] =t.row x:=by simp [List.getD_eq_getElem?_getD,hx]
   simp only [Cl.av,db,my h1]
   rw [e1,if_pos ⟨by simpa using hil,by rw [t.row_length]; exact h4⟩]
   congr 1
   apply List.ext_getElem?
   intro k
   rw [List.getElem?_map,List.getElem?_map,Dj]
   by_cases hk:k < n
   ·have hjk:j+k < (t.flat x).length:=by omega
    rw [List.getElem?_range hk,List.getElem?_take,if_pos hk,List.getElem?_drop,List.getElem?_eq_getElem hjk]
    simp only [Option.map_some]
    rw [t.row_flat,List.getD_eq_getElem?_getD,List.getElem?_map,List.getElem?_eq_getElem hjk]
    simp only [Option.map_some,Option.getD_some]
    rw [C.own_tree]
   ·rw [List.getElem?_take,if_neg hk,List.getElem?_eq_none (by simp; omega)]
    rfl
  ·obtain⟨k,hk⟩:=List.getElem?_of_mem hc
   rw [Dj] at hk
   simp only [Option.map_eq_some_iff] at hk
   obtain⟨y,_,rfl⟩:=hk
   cases y with
   | sc v=>trivial
   | ls t' l'=>exact⟨hv,fun h=>by cases h⟩
 ·cases h
theorem TH {G:List (Option b6)} {ag:Bool} {cs:List Cl} (hcs: ∀ c∈cs,c.ok G) {κ:V→Option ρ} {r:ρ} (h:X9 ag cs κ=some r): ∃ v,Wc ag (cs.map Cl.av)=some v.av∧v.ok G∧κ v=some r:=by
 unfold X9 at h
 cases ag with
 | true=>refine⟨_,rfl,?_,h⟩; exact hcs
 | false=>
   simp only [cond_false] at h
   split at h
   ·rename_i c
    refine⟨_,rfl,?_,h⟩; exact hcs c (by simp)
   ·cases h
theorem NM (hΘ:eC P Θ) (hS:S.ok) {t:TypeId} {v:V} (hv:v.ok S.gh) {κ:V→Option ρ} {r:ρ} (h:NC Θ S t v κ=some r):
  ∃ u,load P S.st t v.av=some u.av∧u.ok S.gh∧κ u=some r:=by
 unfold NC at h
 split at h
 ·rename_i ti hti
  have hok:=hΘ _ _ hti
  split at h
  ·rename_i a
   obtain⟨cs,h1,h2,h⟩:=RZ hS hv h
   obtain⟨u,h3,h4,h⟩:=TH h2 h
   refine⟨u,?_,h4,h⟩
   unfold load
   rw [hok.ag,hok.cells]
   simp only [Option.bind_some,V.av,V1.av,h1]
   exact h3
  ·cases h
 ·cases h
theorem Vi {n:Nat} {i:Int} {v:Cl} (hv:v.ok S.gh) {κ:Cl→Option ρ} {r:ρ} (h:WC n i S v κ=some r): ∃ c,Bh n i v.av=some c.av∧c.ok S.gh∧κ c=some r:=by
 unfold WC at h
 split at h
 ·rename_i t l
  obtain⟨h1,h⟩:=au h
  have h1:t.width=n:=Nat.eq_of_beq_eq_true h1
  obtain⟨h2,h⟩:=dF h
  obtain⟨x,hx,h⟩:=Option.bind_eq_some_iff.1 h
  have hil:=(List.getElem?_eq_some_iff.1 hx).1
  refine⟨_,?_,?_,h⟩
  rotate_left
  ·trivial
  simp only [Cl.av,C.av,Bh,List.length_map]
  rw [if_pos ⟨h2,by omega,h1⟩]
  congr 1
  simp [List.getD_eq_getElem?_getD,hx,t.row_flat]
 ·rename_i p sz lo len
  obtain⟨h1,h⟩:=au h
  have h1:sz=n:=Nat.eq_of_beq_eq_true h1
  obtain⟨t,l,h2,h3,h⟩:=fu h
  obtain⟨h4,h⟩:=dF h
  obtain⟨h5,h6⟩:=hv
  obtain⟨h7,h8,h9⟩:=h6 rfl
  have h10:=h9 _ (h3 h7)
  simp only at h10
  refine⟨_,?_,?_,h⟩
  rotate_left
  ·exact h5
  simp only [Cl.av,Bh]
  rw [if_pos ⟨h4.1,by omega,h1⟩,h8,Nat.zero_add]
 ·rename_i p sz lo len
  obtain⟨h1,h⟩:=au h
  have h1:sz=n:=Nat.eq_of_beq_eq_true h1
  obtain⟨h4,h⟩:=dF h
  refine⟨_,?_,?_,h⟩
  rotate_left
  ·exact hv.1
  simp only [Cl.av,Bh]
  rw [if_pos ⟨h4.1,h4.2,h1⟩]
 ·cases h
theorem Q1 {v:Cl} (hv:v.ok S.gh) {κ:Int→Option ρ} {r:ρ} (h:Vc S v κ=some r): ∃ n,wc v.av=some n∧κ n=some r:=by
 unfold Vc at h
 split at h
 ·exact⟨_,by simp [Cl.av,C.av,wc],h⟩
 ·obtain⟨t,l,h2,h3,h⟩:=fu h
  obtain⟨h5,h6⟩:=hv
  obtain⟨h7,h8,h9⟩:=h6 rfl
  have h10:=h9 _ (h3 h7)
  simp only at h10
  exact⟨_,by simp [Cl.av,wc,h10],h⟩
 ·exact⟨_,rfl,h⟩
 ·exact⟨_,rfl,h⟩
 ·cases h
theorem Vj {n:Nat} {lo hi:Int} {v:Cl} (hv:v.ok S.gh) {κ:Cl→Option ρ} {r:ρ} (h:WD n lo hi v κ=some r): ∃ c,Wd n lo hi v.av=some c.av∧c.ok S.gh∧κ c=some r:=by
 unfold WD at h
 split at h
 ·obtain⟨h1,h⟩:=dF h
  exact⟨.em,by simp [Cl.av,Wd,h1],trivial,h⟩
 ·rename_i t l
  obtain⟨h1,h⟩:=au h
  have h1:t.width=n:=Nat.eq_of_beq_eq_true h1
  obtain⟨h2,h⟩:=dF h
  refine⟨_,?_,?_,h⟩
  rotate_left
  ·trivial
  simp only [Cl.av,C.av,Wd,List.length_map]
  rw [if_pos ⟨h1,h2⟩]
  simp [List.map_take,List.map_drop]
 ·rename_i p sz l len w
  obtain⟨h1,h⟩:=au h
  have h1:sz=n:=Nat.eq_of_beq_eq_true h1
  obtain⟨h2,h⟩:=dF h
  refine⟨_,?_,?_,h⟩
  rotate_left
  ·exact⟨hv.1,fun h=>by cases h⟩
  simp only [Cl.av,Wd]
  rw [if_pos ⟨h1,h2⟩]
 ·cases h
theorem KA {d:Int} {x:Option Operand} {κ:Int→Option ρ} {r:ρ} (h:Ly S d x κ=some r): ∃ n,mw S.st d x=some n∧κ n=some r:=by
 unfold Ly at h
 split at h
 ·exact⟨_,rfl,h⟩
 ·obtain⟨n,h1,h⟩:=Gy h
  exact⟨n,by simp only [mw,bk]; exact h1,h⟩
theorem Vk {G:List (Option b6)}: ∀ (parts:List (Nat×V)) (pl:List (Nat×Nat×Bool)) (cs cs':List Cl),(∀ c∈cs,c.ok G)→(∀ x∈parts,x.2.ok G)→RX pl cs parts=some cs'→
  UV (pl.map fun x=>(x.1,x.2.1)) (cs.map Cl.av) (parts.map fun x=>(x.1,x.2.av))=some (cs'.map Cl.av)∧ ∀ c∈cs',c.ok G:=by
 intro parts
 induction parts with
 | nil=>
   intro pl cs cs' hcs _ h
   simp only [RX,Option.some.injEq] at h
   subst h
   exact⟨rfl,hcs⟩
 | cons x parts ih=>
   intro pl cs cs' hcs hp h
   obtain⟨k,v⟩:=x
   simp only [RX] at h
   split at h
   ·rename_i off n ag hk
    split at h
    ·rename_i x
     have hx:x.ok G:=hp (k, .v x) (by simp)
     have ce: ∀ (hd: (V.v x).av.isDead=false) (hcell: (V.v x).av.cells=x.cells.map Cl.av) (hcok: ∀ c∈x.cells,c.ok G)
       (h: (bif Nat.beq x.cells.length n&&Nat.ble (off+n) cs.length then RX pl (cs.take off++x.cells++cs.drop (off+n)) parts else none)=some cs'),
       UV (pl.map fun x=>(x.1,x.2.1)) (cs.map Cl.av) (((k,V.v x)::parts).map fun x=>(x.1,x.2.av))=some (cs'.map Cl.av)∧ ∀ c∈cs',c.ok G:=by
      intro hd hcell hcok h
      obtain⟨h1,h⟩:=au h
      simp only [Bool.and_eq_true] at h1
      have h2:x.cells.length=n:=Nat.eq_of_beq_eq_true h1.1
      have h3:off+n≤cs.length:=Nat.le_of_ble_eq_true h1.2
      obtain⟨g1,g2⟩:=ih pl _ cs' (fun c hc=>by
       simp only [List.mem_append] at hc
       rcases hc with (hc | hc) | hc
       ·exact hcs c (List.mem_of_mem_take hc)
       ·exact hcok c hc
       ·exact hcs c (List.mem_of_mem_drop hc)) (fun y hy=>hp y (List.mem_cons_of_mem _ hy)) h
      refine⟨?_,g2⟩
      rw [dN] at hk
      simp only [List.map_cons,UV,List.getElem?_map,hk,Option.map_some]
      rw [if_pos ⟨hd,by rw [hcell]; simpa using h2,by simpa using h3⟩,←g1,hcell]
      simp [List.map_take,List.map_drop]
     cases x with
     | cl c=>cases c with
       | dead=>cases h
       | c y=>cases y <;> exact ce rfl rfl (fun c hc=>by simp only [V1.cells,List.mem_singleton] at hc; subst hc; exact hx) h
       | em=>exact ce rfl rfl (fun c hc=>by simp only [V1.cells,List.mem_singleton] at hc; subst hc; exact hx) h
       | own p sz lo len w=>exact ce rfl rfl (fun c hc=>by simp only [V1.cells,List.mem_singleton] at hc; subst hc; exact hx) h
       | pro cs=>exact ce rfl rfl (fun c hc=>by simp only [V1.cells,List.mem_singleton] at hc; subst hc; exact hx) h
       | ptrB n j=>exact ce rfl rfl (fun c hc=>by simp only [V1.cells,List.mem_singleton] at hc; subst hc; exact hx) h
       | ptrT p sz i j=>exact ce rfl rfl (fun c hc=>by simp only [V1.cells,List.mem_singleton] at hc; subst hc; exact hx) h
     | agg cs2=>exact ce rfl rfl hx h
     | fn f cs2=>cases h
    ·cases h
   ·cases h
end
end Go.Proofs.YtkcgfceffffmoaaGreat.En
namespace Go.Proofs.YtkcgfceffffmoaaGreat.En
open Go
theorem bq {α β:Type} {P:Program} (s:Sem α) (f:α→Sem β):bN P (s >>=f)=(bN P s).bind fun a=>bN P (f a):=by
 show bN P (s.bind f)=_
 induction s with
 | pure a=>rfl
 | program k ih=>exact ih P
 | _=>rfl
theorem co {α:Type} {P:Program} (a:α):bN P (pure a)=some a:=rfl
theorem yJ: ∀ {zs:List Value} {a:List Cl},mG zs a=true→ ∃ xs:List Value,a=xs.map (fun x=>Cl.c (.sc x))
 | [],[],_=>⟨[],rfl⟩
 | .int k n::zs,a,h=>by
   unfold mG at h
   split at h
   ·rename_i heq
    cases heq
   ·rename_i k1 n1 zs1 k2 n2 cs h1
    have hd:=h
    cases hk:decide (k1=k2) with
    | false=>rw [hk] at h; cases h
    | true=>
      rw [hk] at h
      obtain⟨xs,hx⟩:=yJ (zs:=zs1) (a:=cs) h
      exact⟨.int k2 n2::xs,by rw [hx]; rfl⟩
   ·rename_i b1 zs1 b2 cs h1
    cases h1
   ·cases h
 | .bool b::zs,a,h=>by
   unfold mG at h
   split at h
   ·rename_i heq
    cases heq
   ·rename_i h1
    cases h1
   ·rename_i b1 zs1 b2 cs h1
    obtain⟨xs,hx⟩:=yJ (zs:=zs1) (a:=cs) h
    exact⟨.bool b2::xs,by rw [hx]; rfl⟩
   ·cases h
 | .float _ _::_,_,h=>by simp [mG] at h
 | .complex _ _ _::_,_,h=>by simp [mG] at h
 | .string _::_,_,h=>by simp [mG] at h
 | .pointer _::_,_,h=>by simp [mG] at h
 | .slice _ _ _::_,_,h=>by simp [mG] at h
 | .map _::_,_,h=>by simp [mG] at h
 | .chan _::_,_,h=>by simp [mG] at h
 | .func _ _ _::_,_,h=>by simp [mG] at h
 | .nilFunc::_,_,h=>by simp [mG] at h
 | .iface _ _::_,_,h=>by simp [mG] at h
 | .nilIface::_,_,h=>by simp [mG] at h
 | .agg _::_,_,h=>by simp [mG] at h
 | .tuple _::_,_,h=>by simp [mG] at h
 | [],_::_,h=>by simp [mG] at h
theorem Q2 (f:AV→Option Value) (hf: ∀ v,f (.sc v)=some v): ∀ xs:List Value,((xs.map fun x=>Cl.c (.sc x)).map Cl.av).mapM f=some xs
 | [] =>rfl
 | x::xs=>by
   simp only [List.map_cons,List.mapM_cons,Q2 f hf xs]
   show (f (.sc x)).bind _=_
   rw [hf]
   rfl
theorem Q3 (xs:List Value):vv (V.v (.agg (xs.map fun x=>Cl.c (.sc x)))).av=some (.agg xs.toArray):=by
 simp only [V.av,V1.av,vv]
 rw [Q2 _ (fun _=>rfl)]
 rfl
theorem dx {P:Program} {t:TypeId} {d:TypeDesc} (h:P.underlying t=some d):bN P (underlying t)=some d:=by
 simp only [underlying,bq,program,bN,Option.bind_some,h]
 rfl
section
variable {ρ:Type} {P:Program} {Θ:qO} {S:TS}
theorem TJ (hΘ:eC P Θ) {t:TypeId} {x y:V} {κ:Bool→Option ρ} {r:ρ} (h:Xl Θ t x y κ=some r):
  ∃ b,κ b=some r∧((∃ k a c,x.av= .sc (.int k a)∧y.av= .sc (.int k c)∧b=(a==c))∨
    ((∀ k a k' c,¬ (x.av= .sc (.int k a)∧y.av= .sc (.int k' c)))∧ ∃ xv yv,vv x.av=some xv∧vv y.av=some yv∧(∀ op xo yo,bN P (eqGuard op t xo yo xv yv)=some ())∧bN P (binOp .eql t xv yv)=some (.bool b)∧bN P (binOp .neq t xv yv)=some (.bool (!b)))):=by
 unfold Xl at h
 split at h
 ·rename_i k a k' c
  split at h
  ·rename_i hk
   subst hk
   exact⟨_,h, .inl ⟨k,a,c,rfl,rfl,rfl⟩⟩
  ·cases h
 ·rename_i a c
  split at h
  ·rename_i ti hti
   split at h
   ·rename_i hb
    have hu:=(hΘ _ _ hti).bool hb
    have hE:bN P (Op.equal t (.bool a) (.bool c))=some (a==c):=by
     show bN P (Op.equalIn (9999+1) t (.bool a) (.bool c))=_
     rw [Op.equalIn]
     simp only [bq,dx hu,Option.bind_some,co]
    refine⟨_,h, .inr ⟨fun k a k' c hc=>by simp [V.av,V1.av,Cl.av,C.av] at hc, .bool a, .bool c,rfl,rfl,fun op xo yo=> ?_,?_,?_⟩⟩
    ·cases op <;> simp [eqGuard,co] <;> rfl
    ·simp only [binOp,bq,hE,Option.bind_some,co]
    ·simp only [binOp,bq,hE,Option.bind_some,co]
   ·cases h
  ·cases h
 ·rename_i a c
  split at h
  ·rename_i ti hti
   obtain⟨h1,h'⟩:=au h
   simp only [Bool.and_eq_true] at h1
   obtain⟨⟨⟨h1,hfl⟩,h2⟩,h3⟩:=h1
   split at h'
   ·rename_i b hb
    obtain⟨xs,hx⟩:=yJ h2
    obtain⟨ys,hy⟩:=yJ h3
    have hok:=hΘ _ _ hti
    have hE:=hok.eq h1 a c b xs ys h2 h3 hb hx hy
    have hg:=hok.gu h1 hfl
    refine⟨_,h', .inr ⟨fun k a k' c hc=>by simp [V.av,V1.av] at hc, .agg xs.toArray, .agg ys.toArray,by rw [hx]; exact Q3 xs,by rw [hy]; exact Q3 ys,fun op xo yo=> ?_,?_,?_⟩⟩
    ·cases op <;> simp [eqGuard,bq,co,program,bN,hg]
    ·simp only [binOp,bq,hE,Option.bind_some,co]
    ·simp only [binOp,bq,hE,Option.bind_some,co]
   ·cases h'
  ·cases h
 ·cases h
theorem pN {f:IntKind→Int→Int→Option ρ} {x y:V} {r:ρ} (h:V.ints f x y=some r): ∃ k a b,x.av= .sc (.int k a)∧y.av= .sc (.int k b)∧f k a b=some r:=by
 unfold V.ints at h
 split at h
 ·split at h
  ·rename_i k a k' b hk
   subst hk
   exact⟨k,a,b,rfl,rfl,h⟩
  ·cases h
 ·cases h
theorem Vl (hΘ:eC P Θ) {D:tD} {op:BinOp} {t t':TypeId} {x y:Operand} {κ:V→Option ρ} {r:ρ} (h:WE Θ op t (S.opd x) (S.opd y) κ=some r) {dst:Option Tmp} {ty:TypeId} {pos:String} {aft:Array Edge} {gd:Option (Nat×Bool)}:
  ∃ v:V,aB D P S.st ⟨dst, .binOp op t x y t',ty,pos,aft,gd⟩=some v.av∧(∀ G,v.ok G)∧κ v=some r:=by
 have eqs: ∀ (b:Bool) (xv yv:Value),vv (opd S.st x)=some xv→vv (opd S.st y)=some yv→bN P (eqGuard op t x y xv yv)=some ()→bN P (binOp op t xv yv)=some (.bool b)→
   cn P S.st ⟨dst, .binOp op t x y t',ty,pos,aft,gd⟩=some (.sc (.bool b)):=by
  intro b xv yv h1 h2 h3 h4
  unfold cn
  rw [if_pos (by simp [Op.operands,h1,h2])]
  simp only [execOp,h1,h2,Option.getD_some,bq,h3,h4,Option.bind_some,co,X6,sg,if_true]
 cases op with
 | lss=>obtain⟨k,a,b,h1,h2,h3⟩:=pN h; exact⟨_,by simp only [aB,bk,h1,h2,if_true]; rfl,fun G=>V.ok_sc G _,h3⟩
 | leq=>obtain⟨k,a,b,h1,h2,h3⟩:=pN h; exact⟨_,by simp only [aB,bk,h1,h2,if_true]; rfl,fun G=>V.ok_sc G _,h3⟩
 | gtr=>obtain⟨k,a,b,h1,h2,h3⟩:=pN h; exact⟨_,by simp only [aB,bk,h1,h2,if_true]; rfl,fun G=>V.ok_sc G _,h3⟩
 | geq=>obtain⟨k,a,b,h1,h2,h3⟩:=pN h; exact⟨_,by simp only [aB,bk,h1,h2,if_true]; rfl,fun G=>V.ok_sc G _,h3⟩
 | add=>obtain⟨k,a,b,h1,h2,h3⟩:=pN h; exact⟨_,by simp only [aB,bk,h1,h2,if_true]; rfl,fun G=>V.ok_sc G _,h3⟩
 | sub=>obtain⟨k,a,b,h1,h2,h3⟩:=pN h; exact⟨_,by simp only [aB,bk,h1,h2,if_true]; rfl,fun G=>V.ok_sc G _,h3⟩
 | mul=>obtain⟨k,a,b,h1,h2,h3⟩:=pN h; exact⟨_,by simp only [aB,bk,h1,h2,if_true]; rfl,fun G=>V.ok_sc G _,h3⟩
 | eql=>
   have h':Xl Θ t (S.opd x) (S.opd y) (fun r=>κ (V.sc (.bool r)))=some r:=h
   obtain⟨b,h1,h2⟩:=TJ hΘ h'
   refine⟨_,?_,fun G=>V.ok_sc G _,h1⟩
   rcases h2 with ⟨k,a,c,e1,e2,rfl⟩ | ⟨hn,xv,yv,e1,e2,e3,e4,e5⟩
   ·simp only [aB,bk,e1,e2,if_true]; rfl
   ·simp only [aB]
    split
    ·rename_i k a k' c g1 g2
     exact absurd ⟨by rw [←bk]; exact g1,by rw [←bk]; exact g2⟩ (hn k a k' c)
    ·exact eqs b xv yv (by rw [bk]; exact e1) (by rw [bk]; exact e2) (e3 _ _ _) e4
 | neq=>
   have h':Xl Θ t (S.opd x) (S.opd y) (fun r=>κ (V.sc (.bool (!r))))=some r:=h
   obtain⟨b,h1,h2⟩:=TJ hΘ h'
   refine⟨_,?_,fun G=>V.ok_sc G _,h1⟩
   rcases h2 with ⟨k,a,c,e1,e2,rfl⟩ | ⟨hn,xv,yv,e1,e2,e3,e4,e5⟩
   ·simp only [aB,bk,e1,e2,if_true]; rfl
   ·simp only [aB]
    split
    ·rename_i k a k' c g1 g2
     exact absurd ⟨by rw [←bk]; exact g1,by rw [←bk]; exact g2⟩ (hn k a k' c)
    ·exact eqs (!b) xv yv (by rw [bk]; exact e1) (by rw [bk]; exact e2) (e3 _ _ _) e5
 | quo=>
   have h':V.ints (fun k a b=>if b=0 then none else κ (V.sc (.int k (k.wrap (a.tdiv b))))) (S.opd x) (S.opd y)=some r:=h
   obtain⟨k,a,b,h1,h2,h3⟩:=pN h'
   split at h3
   ·cases h3
   ·rename_i hb
    refine⟨_,?_,fun G=>V.ok_sc G _,h3⟩
    have hx:vv (opd S.st x)=some (.int k a):=by rw [bk,h1]; rfl
    have hy:vv (opd S.st y)=some (.int k b):=by rw [bk,h2]; rfl
    simp only [aB]
    unfold cn
    rw [if_pos (by simp [Op.operands,hx,hy])]
    have e:bN P (binOp .quo t (.int k a) (.int k b))=some (.int k (k.wrap (a.tdiv b))):=by
     simp only [binOp,ne_eq,not_true,if_false,Op.intDiv,if_neg hb,co]
    have e2:bN P (execOp (fun x=>(vv (opd S.st x)).getD undef) ⟨dst, .binOp .quo t x y t',ty,pos,aft,gd⟩)=some (.value (.int k (k.wrap (a.tdiv b)))):=by
     show bN P (do pure (Next.value (←(do eqGuard .quo t x y ((vv (opd S.st x)).getD undef) ((vv (opd S.st y)).getD undef); binOp .quo t ((vv (opd S.st x)).getD undef) ((vv (opd S.st y)).getD undef)))))=_
     rw [hx,hy]
     have g:bN P (eqGuard .quo t x y (.int k a) (.int k b))=some ():=rfl
     simp only [bq,Option.getD_some,g,e,Option.bind_some,co]
    rw [e2]
    rfl
 | rem=>
   have h':V.ints (fun k a b=>if b=0 then none else κ (V.sc (.int k (a.tmod b)))) (S.opd x) (S.opd y)=some r:=h
   obtain⟨k,a,b,h1,h2,h3⟩:=pN h'
   split at h3
   ·cases h3
   ·rename_i hb
    refine⟨_,?_,fun G=>V.ok_sc G _,h3⟩
    have hx:vv (opd S.st x)=some (.int k a):=by rw [bk,h1]; rfl
    have hy:vv (opd S.st y)=some (.int k b):=by rw [bk,h2]; rfl
    simp only [aB]
    unfold cn
    rw [if_pos (by simp [Op.operands,hx,hy])]
    have e:bN P (binOp .rem t (.int k a) (.int k b))=some (.int k (a.tmod b)):=by
     simp only [binOp,ne_eq,not_true,if_false,Op.intDiv,if_neg hb,co]
    have e2:bN P (execOp (fun x=>(vv (opd S.st x)).getD undef) ⟨dst, .binOp .rem t x y t',ty,pos,aft,gd⟩)=some (.value (.int k (a.tmod b))):=by
     show bN P (do pure (Next.value (←(do eqGuard .rem t x y ((vv (opd S.st x)).getD undef) ((vv (opd S.st y)).getD undef); binOp .rem t ((vv (opd S.st x)).getD undef) ((vv (opd S.st y)).getD undef)))))=_
     rw [hx,hy]
     have g:bN P (eqGuard .rem t x y (.int k a) (.int k b))=some ():=rfl
     simp only [bq,Option.getD_some,g,e,Option.bind_some,co]
    rw [e2]
    rfl
 | _=>simp [WE] at h
end
end Go.Proofs.YtkcgfceffffmoaaGreat.En
namespace Go.Proofs.YtkcgfceffffmoaaGreat.En
open Go
theorem NN {G:List (Option b6)}: ∀ (l:List V) (cs:List Cl),(∀ v∈l,v.ok G)→NE l=some cs→l.map V.av=cs.map Cl.av∧ ∀ c∈cs,c.ok G
 | [],cs,_,h=>by
   simp only [NE,Option.some.injEq] at h
   subst h
   exact⟨rfl,fun c hc=>by cases hc⟩
 | v::l,cs,hl,h=>by
   unfold NE at h
   split at h
   ·rename_i heq; cases heq
   ·rename_i c l' heq
    cases heq
    split at h
    ·rename_i r hr
     simp only [Option.some.injEq] at h
     subst h
     obtain⟨h1,h2⟩:=NN l r (fun v hv=>hl v (List.mem_cons_of_mem _ hv)) hr
     refine⟨by simp only [List.map_cons,h1]; rfl,fun x hx=> ?_⟩
     rcases List.mem_cons.1 hx with rfl | hx
     ·exact hl _ List.mem_cons_self
     ·exact h2 x hx
    ·cases h
   ·cases h
section
variable {ρ:Type} {P:Program} {Θ:qO} {S:TS} {D:tD}
theorem KB (hΘ:eC P Θ) (hS:S.ok) {o:Oper} {κ:V→TS→Option ρ} {r:ρ} (h:Hc Θ S o κ=some r):
  ∃ v S',aB D P S.st o=some v.av∧S'.st=S.st∧S'.ok∧S'.gh=S.gh∧v.ok S.gh∧κ v S'=some r:=by
 have ok: ∀ x,(S.opd x).ok S.gh:=fun x=>mX hS x
 have done: ∀ {v:V},aB D P S.st o=some v.av→v.ok S.gh→κ v S=some r→ ∃ v S',aB D P S.st o=some v.av∧S'.st=S.st∧S'.ok∧S'.gh=S.gh∧v.ok S.gh∧κ v S'=some r:=fun h1 h2 h3=>⟨_,S,h1,rfl,hS,rfl,h2,h3⟩
 obtain⟨dst,op,ty,pos,aft,gd⟩:=o
 unfold Hc at h
 cases op with
 | move x=>exact done (by simp only [aB,bk]) (ok x) h
 | assign x=>exact done (by simp only [aB,bk]) (ok x) h
 | pick c a b=>
   simp only at h
   obtain⟨t,S1,h1,h2,h3,h4,h⟩:=Hi hS h
   cases t with
   | true=>exact⟨_,S1,by simp only [aB,h1,if_true]; rw [←h2,bk],h2,h3,h4,by rw [←h4]; exact mX h3 _,h⟩
   | false=>exact⟨_,S1,by simp only [aB,h1,Bool.false_eq_true,if_false]; rw [←h2,bk],h2,h3,h4,by rw [←h4]; exact mX h3 _,h⟩
 | load t a=>
   simp only at h
   obtain⟨u,h1,h2,h⟩:=NM hΘ hS (ok a) h
   exact done (by simp only [aB,bk]; exact h1) h2 h
 | nilCheck x=>
   simp only at h
   split at h <;> rename_i hx
   ·exact done (by simp only [aB,bk,hx]; rfl) (by rw [←hx]; exact ok x) h
   ·exact done (by simp only [aB,bk,hx]; rfl) (by rw [←hx]; exact ok x) h
   ·exact done (by simp only [aB,bk,hx]; rfl) (by rw [←hx]; exact ok x) h
   ·exact done (by simp only [aB,bk,hx]; rfl) (by rw [←hx]; exact ok x) h
   ·exact done (by simp only [aB,bk,hx]; rfl) (by rw [←hx]; exact ok x) h
   ·cases h
 | fieldAddr t x k=>
   simp only at h
   split at h
   ·rename_i ti hti
    split at h
    ·rename_i off n ag hk
     have hfd:=(hΘ _ _ hti).fd k
     rw [hk] at hfd
     cases hn:Nat.beq n 0 with
     | true=>rw [hn] at h; cases h
     | false=>
       rw [hn] at h
       have hn': ¬ n=0:=by intro h0; subst h0; cases hn
       simp only [cond_false] at h
       split at h <;> rename_i hx
       ·refine done ?_ ?_ h
        ·simp only [aB,hfd,Option.bind_some,bk,hx]
         rw [if_neg hn']
         rfl
        ·trivial
       ·refine done ?_ ?_ h
        ·simp only [aB,hfd,Option.bind_some,bk,hx]
         rw [if_neg hn']
         rfl
        ·have:=ok x
         rw [hx] at this
         exact this
       ·refine done ?_ ?_ h
        ·simp only [aB,hfd,Option.bind_some,bk,hx]
         rw [if_neg hn']
         simp [V.av,V1.av,Cl.av,List.map_drop]
        ·trivial
       ·cases h
    ·cases h
   ·cases h
 | field t x k=>
   simp only at h
   split at h
   ·rename_i ti hti
    split at h
    ·rename_i off n ag hk
     have hfd:=(hΘ _ _ hti).fd k
     rw [hk] at hfd
     split at h
     ·rename_i cs hx
      obtain⟨h1,h⟩:=au h
      simp only [Bool.and_eq_true] at h1
      have h2:off+n≤cs.length:=Nat.le_of_ble_eq_true h1.1
      have h3:0 < n:=Nat.le_of_ble_eq_true h1.2
      have hcs:=ok x
      rw [hx] at hcs
      obtain⟨v,h4,h5,h⟩:=TH (G:=S.gh) (fun c hc=>hcs c (List.mem_of_mem_drop (List.mem_of_mem_take hc))) h
      refine done ?_ h5 h
      simp only [aB,hfd,Option.bind_some,bk,hx,V.av,V1.av,List.length_map]
      rw [if_pos ⟨h2,h3⟩,←List.map_drop,←List.map_take]
      exact h4
     ·cases h
    ·cases h
   ·cases h
 | indexAddr t x ix=>
   simp only at h
   split at h
   ·rename_i ti hti
    split at h
    ·rename_i e he
     obtain⟨el,g1,g2,_⟩:=(hΘ _ _ hti).el e he
     obtain⟨i,h1,h⟩:=Gy h
     split at h
     ·rename_i a hx
      have ha:=ok x
      rw [hx] at ha
      obtain⟨c,h2,h3,h⟩:=Vi ha h
      refine done ?_ ?_ h
      ·simp only [aB,g1,Option.bind_some,bk,h1,hx,g2]
       exact h2
      ·exact h3
     ·cases h
    ·cases h
   ·cases h
 | build t parts=>
   simp only at h
   split at h
   ·rename_i ti hti
    obtain⟨h1,h⟩:=au h
    split at h
    ·rename_i cs hcs
     have hok:=hΘ _ _ hti
     obtain⟨g1,g2⟩:=Vk (G:=S.gh) _ _ _ _ (fun c hc=>by
      obtain⟨v,_,rfl⟩:=List.mem_map.1 hc
      exact Q0 _ _) (fun y hy=>by
      obtain⟨z,_,rfl⟩:=List.mem_map.1 hy
      exact ok z.2) hcs
     refine done ?_ ?_ h
     ·simp only [aB,hok.pl h1,hok.ze,Option.bind_some]
      have e1:ti.ty.zvs.map Gr=(ti.ty.zvs.map cC).map Cl.av:=by
       rw [List.map_map]
       exact List.map_congr_left fun v _=>(rX v).symm
      have e2:parts.toList.map (fun x=>(x.1,opd S.st x.2))=(parts.toList.map fun x=>(x.1,S.opd x.2)).map fun x=>(x.1,x.2.av):=by
       rw [List.map_map]
       exact List.map_congr_left fun x _=>by simp [bk]
      rw [e1,e2,g1]
      rfl
     ·exact g2
    ·cases h
   ·cases h
 | slice t x lo hi mx=>
   cases mx with
   | some m=>simp at h
   | none=>
     simp only at h
     split at h
     ·rename_i ti hti
      split at h
      ·rename_i e he
       obtain⟨el,g1,g2,_⟩:=(hΘ _ _ hti).el e he
       split at h
       ·rename_i a hx
        have ha:=ok x
        rw [hx] at ha
        obtain⟨n,h1,h⟩:=Q1 ha h
        obtain⟨l,h2,h⟩:=KA h
        obtain⟨m,h3,h⟩:=KA h
        obtain⟨c,h4,h5,h⟩:=Vj ha h
        refine done ?_ ?_ h
        ·simp only [aB,bk,hx]
         split
         ·rename_i s hs
          have hs':a.av= .sc (.string s):=hs
          rw [hs'] at h1
          cases h1
         ·show (Bf P t).bind _=_
          rw [g1]
          simp only [Option.bind_some]
          show (wc a.av).bind _=_
          rw [h1]
          simp only [Option.bind_some,h2,h3,g2]
          exact h4
        ·exact h5
       ·cases h
      ·cases h
     ·cases h
 | extract x k=>
   simp only at h
   split at h
   ·rename_i vs hx
    split at h
    ·rename_i v hv
     have hvs:=ok x
     rw [hx] at hvs
     rw [dN] at hv
     refine done ?_ ?_ h
     ·simp only [aB,bk,hx,V.av,List.getElem?_map,hv,Option.map_some]
     ·exact hvs v (List.mem_of_getElem? hv)
    ·cases h
   ·cases h
 | makeFunc fn first caps=>
   cases fn with
   | func f=>
     simp only at h
     obtain⟨h1,h⟩:=au h
     split at h
     ·rename_i cs hcs
      obtain⟨g1,g2⟩:=NN (G:=S.gh) _ _ (fun v hv=>by
       obtain⟨y,_,rfl⟩:=List.mem_map.1 hv
       exact ok y) hcs
      refine done ?_ ?_ h
      ·simp only [aB,h1,if_true]
       have e:caps.toList.map (opd S.st)=(caps.toList.map S.opd).map V.av:=by
        rw [List.map_map]
        exact List.map_congr_left fun x _=>bk x
       rw [e,g1]
       rfl
      ·exact g2
     ·cases h
   | _=>simp at h
 | unOp op t x=>
   cases op with
   | not=>
     simp only at h
     split at h
     ·rename_i b hx
      refine done ?_ ?_ h
      ·simp only [aB,bk,hx]; rfl
      ·trivial
     ·cases h
   | _=>simp at h
 | binOp op t x y t'=>
   simp only at h
   obtain⟨v,h1,h2,h⟩:=Vl (D:=D) (t':=t') (dst:=dst) (ty:=ty) (pos:=pos) (aft:=aft) (gd:=gd) hΘ h
   exact done h1 (h2 _) h
 | call c=>
   obtain⟨cl,as,ts⟩:=c
   cases cl with
   | value f=>simp at h
   | invoke a b=>simp at h
   | builtin b=>
     cases b with
     | len=>
       simp only at h
       split at h
       ·rename_i x t e1 e2
        split at h
        ·rename_i ti hti
         split at h
         ·rename_i e he
          obtain⟨el,g1,g2,_⟩:=(hΘ _ _ hti).el e he
          split at h
          ·rename_i a hx
           have ha:=ok x
           rw [hx] at ha
           obtain⟨n,h1,h⟩:=Q1 ha h
           refine done ?_ ?_ h
           ·simp only [aB,e1,e2,g1,Option.isSome_some,if_true,bk,hx]
            show (wc a.av).map _=_
            rw [h1]
            rfl
           ·trivial
          ·cases h
         ·cases h
        ·cases h
       ·cases h
     | max=>
       simp only at h
       split at h
       ·rename_i x y e1
        obtain⟨k,a,b,h1,h2,h⟩:=pN h
        refine done ?_ (V.ok_sc _ _) h
        simp only [aB,e1,List.map_cons,List.map_nil,bk,h1,h2]
        rfl
       ·cases h
     | min=>
       simp only at h
       split at h
       ·rename_i x y e1
        obtain⟨k,a,b,h1,h2,h⟩:=pN h
        refine done ?_ (V.ok_sc _ _) h
        simp only [aB,e1,List.map_cons,List.map_nil,bk,h1,h2]
        rfl
       ·cases h
     | _=>simp at h
 | convert s d x=>
   simp only at h
   split at h
   ·rename_i si di hs hd
    split at h
    ·rename_i k' hk
     split at h
     ·rename_i k n hx
      refine done ?_ (V.ok_sc _ _) h
      have hud:=(hΘ _ _ hd).int _ hk
      obtain⟨ds,hus⟩: ∃ ds,P.underlying s=some ds:=by
       have:=(hΘ _ _ hs).ag
       unfold Jb at this
       cases hu:P.underlying s with
       | none=>rw [hu] at this; cases this
       | some ds=>exact⟨ds,rfl⟩
      have hxv:vv (opd S.st x)=some (.int k n):=by rw [bk,hx]; rfl
      simp only [aB]
      unfold cn
      rw [if_pos (by simp [Op.operands,hxv])]
      have e:bN P (Go.convert s d (.int k n))=some (.int k' (k'.wrap n)):=by
       unfold Go.convert
       simp only [bq,dx hus,dx hud,Option.bind_some]
       cases ds <;> rfl
      have e2:bN P (execOp (fun x=>(vv (opd S.st x)).getD undef) ⟨dst, .convert s d x,ty,pos,aft,gd⟩)=some (.value (.int k' (k'.wrap n))):=by
       show bN P (do pure (Next.value (←Go.convert s d ((vv (opd S.st x)).getD undef))))=_
       rw [hxv]
       simp only [bq,Option.getD_some,e,Option.bind_some,co]
      rw [e2]
      rfl
     ·cases h
    ·cases h
   ·cases h
 | index t x ix=>
   simp only at h
   split at h
   ·rename_i ti hti
    split at h
    ·rename_i hs
     split at h
     ·rename_i s k i hx hi
      unfold aq at h
      split at h
      ·rename_i h0
       obtain⟨b,hb,h⟩:=Option.bind_eq_some_iff.1 h
       refine done ?_ (V.ok_sc _ _) h
       have hus:P.underlying t=some .string:=by
        have:=(hΘ _ _ hti).str
        rw [hs] at this
        unfold K9 at this
        split at this
        ·assumption
        ·cases this
       have hxv:vv (opd S.st x)=some (.string s):=by rw [bk,hx]; rfl
       have hiv:vv (opd S.st ix)=some (.int k i):=by rw [bk,hi]; rfl
       have hxa:opd S.st x= .sc (.string s):=by rw [bk,hx]; rfl
       simp only [aB,hxa]
       unfold cn
       rw [if_pos (by simp [Op.operands,hxv,hiv])]
       have e:bN P (Instr.index t (.string s) (.int k i))=some (.int .u8 b.toNat):=by
        unfold Instr.index
        simp only [bq,asIntOf,co,Option.bind_some,dx hus]
        rw [if_pos h0,hb]
        rfl
       have e2:bN P (execOp (fun x=>(vv (opd S.st x)).getD undef) ⟨dst, .index t x ix,ty,pos,aft,gd⟩)=some (.value (.int .u8 b.toNat)):=by
        show bN P (do pure (Next.value (←Instr.index t ((vv (opd S.st x)).getD undef) ((vv (opd S.st ix)).getD undef))))=_
        rw [hxv,hiv]
        simp only [bq,Option.getD_some,e,Option.bind_some,co]
       rw [e2]
       rfl
      ·cases h
     ·cases h
    ·cases h
   ·cases h
 | _=>simp at h
end
end Go.Proofs.YtkcgfceffffmoaaGreat.En
namespace Go.Proofs.YtkcgfceffffmoaaGreat.En
open Go
theorem ow {G:List (Option b6)} {x:Option b6} (r:Nat):dg (G++ [x]) r=if r=G.length then x else dg G r:=by
 unfold dg
 rw [dN,dN]
 by_cases h:r=G.length
 ·subst h; simp
 ·rw [if_neg h]
  rcases Nat.lt_or_ge r G.length with h' | h'
  ·rw [List.getElem?_append_left h']
  ·rw [List.getElem?_eq_none (by simp; omega),List.getElem?_eq_none h']
theorem Dk {G:List (Option b6)} (l:List b6) (r:Nat):dg (G++l.map some) r=if G.length≤r then l[r - G.length]? else dg G r:=by
 unfold dg
 rw [dN,dN]
 by_cases h:G.length≤r
 ·rw [if_pos h,List.getElem?_append_right h,List.getElem?_map]
  cases l[r - G.length]? <;> rfl
 ·rw [if_neg h,List.getElem?_append_left (by omega)]
theorem yK {G:List (Option b6)} {r:Nat} (h:G.length≤r):dg G r=none:=by
 unfold dg
 rw [dN,List.getElem?_eq_none h]
 rfl
theorem vF {G:List (Option b6)} {r:Nat} {tr:b6} (h:dg G r=some tr):r < G.length:=by
 rcases Nat.lt_or_ge r G.length with h' | h'
 ·exact h'
 ·rw [yK h'] at h; cases h
theorem rq {G:List (Option b6)} {x:Option b6} (q r:Nat) (hq:q < G.length∨x=none):dg (dv G q x) r=if r=q then x else dg G r:=by
 unfold dg
 rw [dN,dN,fZ,List.getElem?_set]
 by_cases h:q=r
 ·subst h
  simp only [if_true]
  rcases hq with hq | rfl
  ·rw [if_pos hq]; rfl
  ·split <;> rfl
 ·rw [if_neg h,if_neg (fun e=>h e.symm)]
theorem iR.app (G:List (Option b6)) (x:Option b6):iR G (G++ [x]):=⟨by simp,fun r tr hr h=>by
 rw [ow,if_neg (by omega)] at h
 exact⟨tr,h,rfl⟩⟩
theorem iR.apps (G:List (Option b6)) (l:List b6):iR G (G++l.map some):=⟨by simp,fun r tr hr h=>by
 rw [Dk,if_neg (by omega)] at h
 exact⟨tr,h,rfl⟩⟩
theorem iR.gone (G:List (Option b6)) (q:Nat):iR G (dv G q none):=⟨by rw [fZ]; simp,fun r tr hr h=>by
 rw [rq q r (.inr rfl)] at h
 split at h
 ·cases h
 ·exact⟨tr,h,rfl⟩⟩
theorem iR.put {G:List (Option b6)} {q:Nat} {tr tr':b6} (h:dg G q=some tr) (hl:tr'.l.length=tr.l.length):iR G (dv G q (some tr')):=⟨by rw [fZ]; simp,fun r t hr h'=>by
 rw [rq q r (.inl (vF h))] at h'
 split at h'
 ·rename_i hq
  subst hq
  cases h'
  exact⟨tr,h,hl.symm⟩
 ·exact⟨t,h',rfl⟩⟩
theorem TS.ok_gh {S:TS} (hS:S.ok) {G:List (Option b6)} (hG:iR S.gh G): ({ S with gh:=G }:TS).ok:=
 ⟨fun x hx=>V.ok_mono hG (hS.env x hx),fun cs hcs c hc=>Cl.ok_mono hG (hS.bx cs hcs c hc)⟩
theorem LF (S:TS) (x:b6): ({ S with gh:=S.gh++ [some x] }:TS).st= { S.st with gh:=cg S.st.gh S.gh.length (some x.tree),ng:=S.gh.length+1 } :=by
 unfold TS.st
 simp only [List.length_append,List.length_singleton]
 congr 1
 funext r
 rw [ow]
 unfold cg
 split <;> rfl
theorem Bw (S:TS) (q:Nat): ({ S with gh:=dv S.gh q none }:TS).st= { S.st with gh:=cg S.st.gh q none } :=by
 unfold TS.st
 simp only
 have : (dv S.gh q none).length=S.gh.length:=by rw [fZ]; simp
 rw [this]
 congr 1
 funext r
 rw [rq q r (.inr rfl)]
 unfold cg
 split <;> rfl
theorem Dl (S:TS) {q:Nat} (x:b6) (hq:q < S.gh.length): ({ S with gh:=dv S.gh q (some x) }:TS).st= { S.st with gh:=cg S.st.gh q (some x.tree) } :=by
 unfold TS.st
 simp only
 have : (dv S.gh q (some x)).length=S.gh.length:=by rw [fZ]; simp
 rw [this]
 congr 1
 funext r
 rw [rq q r (.inl hq)]
 unfold cg
 split <;> rfl
theorem PY (S:TS) (cs:List Cl): ({ S with bx:=S.bx++ [cs] }:TS).st= { S.st with bx:=cg S.st.bx S.bx.length (some (cs.map Cl.av)),nb:=S.bx.length+1 } :=by
 unfold TS.st
 simp only [List.length_append,List.length_singleton]
 congr 1
 funext n
 unfold cg
 simp only [dN]
 by_cases h:n=S.bx.length
 ·subst h; simp
 ·rw [if_neg h]
  rcases Nat.lt_or_ge n S.bx.length with h' | h'
  ·rw [List.getElem?_append_left h']
  ·rw [List.getElem?_eq_none (by simp; omega),List.getElem?_eq_none h']
theorem R0 (S:TS) {b:Nat} (cs:List Cl) (hb:b < S.bx.length): ({ S with bx:=dv S.bx b cs }:TS).st= { S.st with bx:=cg S.st.bx b (some (cs.map Cl.av)) } :=by
 unfold TS.st
 have : (dv S.bx b cs).length=S.bx.length:=by rw [fZ]; simp
 simp only
 rw [this]
 congr 1
 funext n
 unfold cg
 simp only [dN]
 rw [fZ,List.getElem?_set]
 by_cases h:b=n
 ·subst h; simp [hb]
 ·rw [if_neg h,if_neg (fun e=>h e.symm)]
theorem TK (t:Ty): (t.zvs.map cC).map Cl.av=t.zvs.map Jc:=by
 cases t with
 | st n=>cases n <;> rfl
 | _=>rfl
theorem TL (G:List (Option b6)) (t:Ty): ∀ c∈t.zvs.map cC,c.ok G:=fun c hc=>by
 obtain⟨v,_,rfl⟩:=List.mem_map.1 hc
 exact Q0 _ _
def xh (P:Program) (g:FuncId) (args:List V1) (b:Bool) (res:V) (out:List b6):Prop:=
 ∃ (t:Ty) (x:t.D) (as:List V1),args=QZ t x::as∧uj P g ((Hh t x 0).av::as.map V1.av) ((oq (t.flat x)).map b6.tree) (bif b then (oq (t.flat x)).length else 0) res.av (out.map b6.tree)
structure EK (P:Program) (f:Nat) (args:List V1) (res:V) (out:List b6):Prop where
 fn:f < jy→C9 P f (args.map V1.av) [] res.av (out.map b6.tree)
 io: ∀ g,f=oo g→g < jy→xh P g args true res out
 mv: ∀ g,f=Hd g→xh P g args false res out
theorem TM (g:Nat): ¬ oo g < jy:=Nat.not_lt.2 (Nat.le_add_left jy g)
theorem Q4 (g:Nat): ¬ Hd g < jy:=Nat.not_lt.2 (Nat.le_trans (Nat.le_add_left jy jy) (Nat.le_add_left Ky g))
theorem TN {g g':Nat} (hg:g < jy):oo g≠Hd g':=fun h=>by
 have h1:oo g < Ky:=Nat.add_lt_add_right hg jy
 rw [h] at h1
 exact Nat.not_lt.2 (Nat.le_add_left Ky g') h1
theorem EK.of_fn {P:Program} {f:Nat} {args:List V1} {res:V} {out:List b6} (h:C9 P f (args.map V1.av) [] res.av (out.map b6.tree)) (hf:f < jy):EK P f args res out:=
 ⟨fun _=>h,fun g e _=>absurd (e ▸ hf) (TM g),fun g e=>absurd (e ▸ hf) (Q4 g)⟩
theorem EK.of_io {P:Program} {g:Nat} {args:List V1} {res:V} {out:List b6} (h:xh P g args true res out) (hg:g < jy):EK P (oo g) args res out:=
 ⟨fun h'=>absurd h' (TM g),fun g' e _=>by rw [←Nat.add_right_cancel (e:g+jy=g'+jy)]; exact h,fun g' e=>absurd e (TN hg)⟩
theorem EK.of_mv {P:Program} {g:Nat} {args:List V1} {res:V} {out:List b6} (h:xh P g args false res out):EK P (Hd g) args res out:=
 ⟨fun h'=>absurd h' (Q4 g),fun g' e hg=>absurd e.symm (TN hg),fun g' e=>by rw [←Nat.add_right_cancel (e:g+Ky=g'+Ky)]; exact h⟩
theorem xh.get {P:Program} {g:FuncId} {el:Ty} {l:List el.D} {as:List V1} {b:Bool} {res:V} {out:List b6} (h:xh P g (.cl (.c (.ls el l))::as) b res out):uj P g (.own ⟨0,[]⟩ el.width 0 l.length::as.map V1.av) [.sl el.width (l.map el.row)] (bif b then 1 else 0) res.av (out.map b6.tree):=by
 obtain⟨t,x,as',he,h⟩:=h
 simp only [List.cons.injEq] at he
 obtain⟨he,rfl⟩:=he
 cases t with
 | ls el'=>
   have he':V1.cl (.c (.ls el l))= .cl (.c (.ls el' x)):=he
   cases he'
   exact h
 | st n=>cases n <;> cases he
 | _=>cases he
theorem xh.getA {P:Program} {g:FuncId} {ys:List C} {as:List V1} {res:V} {out:List b6} (h:xh P g (.agg (ys.map .c)::as) true res out):uj P g (.agg ((wQ ys 0).map Cl.av)::as.map V1.av) ((oq ys).map b6.tree) (oq ys).length res.av (out.map b6.tree):=by
 obtain⟨t,x,as',he,h⟩:=h
 simp only [List.cons.injEq] at he
 obtain⟨he,rfl⟩:=he
 cases t with
 | st n=>
   have he':V1.agg (ys.map Cl.c)= .agg ((n.flat x).map Cl.c):=he
   simp only [V1.agg.injEq] at he'
   have :ys=n.flat x:=by
    have hi: ∀ (l m:List C),l.map Cl.c=m.map Cl.c→l=m:=by
     intro l
     induction l with
     | nil=>intro m hm; cases m with | nil=>rfl | cons a m=>cases hm
     | cons a l ih=>
       intro m hm
       cases m with
       | nil=>cases hm
       | cons b m=>
         simp only [List.map_cons,List.cons.injEq,Cl.c.injEq] at hm
         rw [hm.1,ih m hm.2]
    exact hi _ _ he'
   subst this
   exact h
 | _=>cases he
def ar (P:Program) (Y:Bu):Prop:= ∀ f args ρ κ r,Y f args ρ κ=some r→ ∃ res out,EK P f args res out∧res.ok (out.map some)∧κ res out=some r
section
variable {ρ:Type} {P:Program} {Θ:qO} {S:TS}
theorem LG {α β:Type} {f:α→(β→Option ρ)→Option ρ} {R:α→β→Prop} (hf: ∀ a κ r,f a κ=some r→ ∃ b,R a b∧κ b=some r):
  ∀ (l:List α) (κ:List β→Option ρ) (r:ρ),He f l κ=some r→ ∃ bs,l.length=bs.length∧(∀ (k:Nat) (a:α) (b:β),l[k]? =some a→bs[k]? =some b→R a b)∧κ bs=some r:=by
 intro l
 induction l with
 | nil=>intro κ r h; exact⟨[],rfl,fun k a b ha=>by simp at ha,h⟩
 | cons a l ih=>
   intro κ r h
   obtain⟨b,h1,h⟩:=hf a _ r h
   obtain⟨bs,h2,h3,h⟩:=ih _ r h
   refine⟨b::bs,by simp [h2],fun k x y hx hy=> ?_,h⟩
   cases k with
   | zero=>simp at hx hy; subst hx hy; exact h1
   | succ k=>exact h3 k x y (by simpa using hx) (by simpa using hy)
theorem TO {α β γ:Type} {f:α→γ} {g:β→γ} {l:List α} {bs:List β} (h1:l.length=bs.length) (h2: ∀ (k:Nat) (a:α) (b:β),l[k]? =some a→bs[k]? =some b→f a=g b):l.map f=bs.map g:=by
 apply List.ext_getElem?
 intro k
 rw [List.getElem?_map,List.getElem?_map]
 cases ha:l[k]? with
 | none=>
   rw [List.getElem?_eq_none_iff] at ha
   rw [List.getElem?_eq_none (by omega)]
   rfl
 | some a=>
   have:=(List.getElem?_eq_some_iff.1 ha).1
   rw [List.getElem?_eq_getElem (by omega:k < bs.length)]
   simp only [Option.map_some]
   rw [h2 k a _ ha (List.getElem?_eq_getElem (by omega))]
theorem xi {p:ck} {sz lo len:Nat} {t:Ty} {l:List t.D} (hc: (Cl.own p sz lo len true).ok S.gh) (h:p.l= [] →dg S.gh p.r=some ⟨t,l,none⟩):p.l= [] ∧lo=0∧len=l.length:=by
 obtain⟨_,h2⟩:=hc
 obtain⟨a,b,c⟩:=h2 rfl
 exact⟨a,b,c _ (h a)⟩
theorem Hj (hS:S.ok) {et:Option Ty} {c:Cl} (hc:c.ok S.gh) {κ:Cl→Option ρ} {r:ρ} (h:RY S et c κ=some r): ∃ c',(∀ sz,(∀ t,et=some t→sz=t.width)→dT S.st sz c.av=c'.av)∧κ c'=some r:=by
 unfold RY at h
 split at h
 ·rename_i x
  exact⟨_,fun sz _=>by cases x <;> rfl,h⟩
 ·split at h
  ·rename_i t
   exact⟨_,fun sz hsz=>by rw [hsz t rfl]; rfl,h⟩
  ·cases h
 ·rename_i p sz lo len
  obtain⟨t,l,h1,h2,h⟩:=fu h
  obtain⟨h3,h⟩:=au h
  have h3:t.width=sz:=Nat.eq_of_beq_eq_true h3
  obtain⟨h4,h5,h6⟩:=xi hc h2
  refine⟨_,fun sz' _=> ?_,h⟩
  simp only [Cl.av,dT,←h3,my h1,h5,h6,Nat.zero_add,List.length_map,Nat.le_refl,if_true,List.drop_zero,C.av]
  rw [List.take_of_length_le (by simp)]
 ·rename_i p sz lo len
  obtain⟨t,l,h1,h2,h⟩:=fu h
  obtain⟨h3,h⟩:=au h
  have h3:t.width=sz:=Nat.eq_of_beq_eq_true h3
  obtain⟨h4,h⟩:=dF h
  refine⟨_,fun sz' _=> ?_,h⟩
  simp only [Cl.av,dT,←h3,my h1,List.length_map,h4,if_true,C.av]
  simp [List.map_take,List.map_drop]
 ·exact⟨_,fun _ _=>rfl,h⟩
 ·rename_i p sz i j
  obtain⟨t,l,h1,h2,h⟩:=fu h
  obtain⟨h3,h⟩:=au h
  have h3:t.width=sz:=Nat.eq_of_beq_eq_true h3
  obtain⟨x,hx,h⟩:=Option.bind_eq_some_iff.1 h
  refine⟨_,fun sz' _=> ?_,h⟩
  simp only [Cl.av,dT,←h3,my h1]
  have e1: (l.map t.row).getD i [] =t.row x:=by simp [List.getD_eq_getElem?_getD,hx]
  rw [e1,t.row_flat,List.map_drop]
 ·rename_i b j
  split at h
  ·rename_i cs hcs
   obtain⟨bs,h1,h2,h⟩:=LG (R:=fun (c:Cl) (x:C)=>c.ok S.gh→T.ofAV S.st 0 c.av=x.tree) (fun c κ r h=>by
    split at h
    ·rename_i x
     exact⟨x,fun _=>by cases x <;> rfl,h⟩
    ·rename_i p sz lo len
     obtain⟨t,l,h1,h2,h⟩:=fu h
     obtain⟨h3,h⟩:=au h
     have h3:t.width=sz:=Nat.eq_of_beq_eq_true h3
     refine⟨_,fun hc=> ?_,h⟩
     obtain⟨h4,h5,h6⟩:=xi hc h2
     simp only [Cl.av,T.ofAV,←h3,my h1,h5,h6,Nat.zero_add,List.length_map,Nat.le_refl,if_true,List.drop_zero,C.tree]
     rw [List.take_of_length_le (by simp)]
    ·cases h) _ _ _ h
   refine⟨_,fun sz _=> ?_,h⟩
   simp only [Cl.av,dT,TS.st,hcs,Option.map_some]
   rw [←List.map_drop,List.map_map]
   congr 1
   refine TO h1 (fun k a b ha hb=>h2 k a b ha hb ?_)
   rw [dN] at hcs
   exact hS.bx cs (List.mem_of_getElem? hcs) a (List.mem_of_mem_drop (List.mem_of_getElem? ha))
  ·cases h
 ·exact⟨_,fun _ _=>rfl,h⟩
theorem Vm (hS:S.ok): ∀ (ets:List (Option Ty)) (cs:List Cl) (κ:List Cl→Option ρ) (r:ρ),(∀ c∈cs,c.ok S.gh)→Vd S ets cs κ=some r→
  ∃ cs',ets.length=cs.length∧List.zipWith (dT S.st) (ets.map fun | some e=>e.width | none=>0) (cs.map Cl.av)=cs'.map Cl.av∧κ cs'=some r:=by
 intro ets
 induction ets with
 | nil=>
   intro cs κ r hcs h
   cases cs with
   | nil=>exact⟨[],rfl,rfl,h⟩
   | cons c cs=>cases h
 | cons et ets ih=>
   intro cs κ r hcs h
   cases cs with
   | nil=>cases h
   | cons c cs=>
     unfold Vd at h
     obtain⟨c',h1,h⟩:=Hj hS (hcs c List.mem_cons_self) h
     obtain⟨cs',h2,h3,h⟩:=ih cs _ r (fun x hx=>hcs x (List.mem_cons_of_mem _ hx)) h
     refine⟨c'::cs',by simp [h2],?_,h⟩
     simp only [List.map_cons,List.zipWith_cons_cons,h3]
     rw [h1]
     intro t ht
     subst ht
     rfl
theorem TP (hΘ:eC P Θ) (hS:S.ok) {t:TypeId} {v:V} (hv:v.ok S.gh) {κ:V1→Option ρ} {r:ρ} (h:Ym Θ S t v κ=some r): ∃ v1:V1,kC S.st (qK P 9 t) v.av=v1.av∧κ v1=some r:=by
 unfold Ym at h
 split at h
 ·cases h
 ·rename_i f cs
  obtain⟨bs,h1,h2,h⟩:=LG (R:=fun (c c':Cl)=>c.ok S.gh→dT S.st 0 c.av=c'.av) (fun c κ r h=>by
   by_cases hc:c.ok S.gh
   ·obtain⟨c',h1,h⟩:=Hj hS hc h
    exact⟨c',fun _=>h1 0 (fun t ht=>by cases ht),h⟩
   ·have : ∃ c',κ c'=some r:=by
     unfold RY at h
     split at h
     ·exact⟨_,h⟩
     ·cases h
     ·obtain⟨t,l,_,_,h⟩:=fu h; exact⟨_,(au h).2⟩
     ·obtain⟨t,l,_,_,h⟩:=fu h; exact⟨_,(dF (au h).2).2⟩
     ·exact⟨_,h⟩
     ·obtain⟨t,l,_,_,h⟩:=fu h; obtain⟨x,_,h⟩:=Option.bind_eq_some_iff.1 (au h).2; exact⟨_,h⟩
     ·split at h
      ·obtain⟨bs,_,_,h⟩:=LG (R:=fun _ _=>True) (fun c κ r h=>by
        split at h
        ·exact⟨_,trivial,h⟩
        ·obtain⟨t,l,_,_,h⟩:=fu h; exact⟨_,trivial,(au h).2⟩
        ·cases h) _ _ _ h
       exact⟨_,h⟩
      ·cases h
     ·exact⟨_,h⟩
    obtain⟨c',h⟩:=this
    exact⟨c',fun hc'=>absurd hc' hc,h⟩) _ _ _ h
  refine⟨_,?_,h⟩
  simp only [V.av,V1.av,kC,List.map_map]
  congr 1
  exact TO h1 (fun k a b ha hb=>h2 k a b ha hb (hv a (List.mem_of_getElem? ha)))
 ·rename_i cs
  split at h
  ·rename_i ti hti
   obtain⟨cs',h1,h2,h⟩:=Vm hS _ _ _ _ hv h
   refine⟨_,?_,h⟩
   have e: (ti.ty.csh.map fun | some e=>e.width | none=>0)=ti.ty.shs:=rfl
   simp only [V.av,V1.av,kC,(hΘ _ _ hti).sh]
   rw [if_pos (by rw [←e]; simpa using h1),←e,h2]
  ·cases h
 ·rename_i c
  have ce: ∀ (szs:List Nat),kC S.st szs (V.v (.cl c)).av=dT S.st (szs.headD 0) c.av:=by
   intro szs
   cases c with
   | c x=>cases x <;> rfl
   | _=>rfl
  split at h
  ·rename_i ti hti
   obtain⟨c',h1,h⟩:=Hj hS hv h
   refine⟨_,?_,h⟩
   rw [ce]
   refine h1 _ (fun t ht=> ?_)
   rw [(hΘ _ _ hti).sh]
   unfold Ty.shs
   cases hc:ti.ty.csh with
   | nil=>rw [hc] at ht; cases ht
   | cons a l=>
     rw [hc] at ht
     simp only [List.headD_cons] at ht
     subst ht
     rfl
  ·obtain⟨c',h1,h⟩:=Hj hS hv h
   exact⟨_,by rw [ce]; exact h1 _ (fun t ht=>by cases ht),h⟩
theorem uP (hΘ:eC P Θ) (hS:S.ok): ∀ (ts:List TypeId) (as:List Operand) (κ:List V1→Option ρ) (r:ρ),uN Θ S ts as κ=some r→
  ∃ vs:List V1,List.zipWith (fun t a=>kC S.st (qK P 9 t) (opd S.st a)) ts as=vs.map V1.av∧κ vs=some r:=by
 intro ts
 induction ts with
 | nil=>
   intro as κ r h
   cases as with
   | nil=>exact⟨[],rfl,h⟩
   | cons a as=>cases h
 | cons t ts ih=>
   intro as κ r h
   cases as with
   | nil=>cases h
   | cons a as=>
     unfold uN at h
     obtain⟨v,h1,h⟩:=TP hΘ hS (mX hS a) h
     obtain⟨vs,h2,h⟩:=ih as _ r h
     exact⟨v::vs,by rw [List.zipWith_cons_cons,h2,bk,h1,List.map_cons],h⟩
end
end Go.Proofs.YtkcgfceffffmoaaGreat.En
namespace Go.Proofs.YtkcgfceffffmoaaGreat.En
open Go
open Classical in
noncomputable def R1 (d:Option Tmp) (g:FuncId) (args:List AV) (res:AV×List T):tD:=fun d' g' a' gs'=>if d'=d∧g'=g∧a'=args∧gs'= [] then some res else none
theorem Hk {P:Program} {d:Option Tmp} {g:FuncId} {args:List AV} {res:AV} {out:List T} (h:C9 P g args [] res out):pL P (R1 d g args (res,out)):=by
 intro d' g' a' gs' r' o' h'
 unfold R1 at h'
 split at h'
 ·rename_i hc
  obtain⟨rfl,rfl,rfl,rfl⟩:=hc
  simp only [Option.some.injEq,Prod.mk.injEq] at h'
  obtain⟨rfl,rfl⟩:=h'
  exact h
 ·cases h'
theorem Q5 (d:Option Tmp) (g:FuncId) (args:List AV) (res:AV×List T):R1 d g args res d g args [] =some res:=by
 unfold R1
 rw [if_pos ⟨rfl,rfl,rfl,rfl⟩]
def Pv:tD:=fun _ _ _ _=>none
theorem md {P:Program}:pL P Pv:=fun _ _ _ _ _ _ h=>by cases h
theorem R2 (n:Nat) (c:Cl): (Lz n c).av=qL n c.av:=by
 cases c with
 | c x=>cases x <;> rfl
 | _=>rfl
theorem Hl (n:Nat) (v:V1): (yG n v).av=oh n v.av:=by
 cases v with
 | cl c=>cases c with
   | c x=>cases x <;> rfl
   | _=>rfl
 | agg cs=>
   simp only [yG,V1.av,oh,List.map_map]
   congr 1
   exact List.map_congr_left fun c _=>R2 n c
 | fn f cs=>rfl
theorem Dm (n:Nat) (v:V): (vE n v).av=pq n v.av:=by
 cases v with
 | v x=>
   have :pq n x.av=oh n x.av:=by
    cases x with
    | cl c=>cases c with
      | c x=>cases x <;> rfl
      | _=>rfl
    | _=>rfl
   show (yG n x).av=pq n x.av
   rw [this,Hl]
 | tup l=>
   simp only [vE,V.av,pq,List.map_map]
   congr 1
   exact List.map_congr_left fun c _=>Hl n c
theorem KC {G:List (Option b6)} {out:List b6} {c:Cl} (h:c.ok (out.map some)): (Lz G.length c).ok (G++out.map some):=by
 cases c with
 | own p sz lo len w=>
   obtain⟨h1,h2⟩:=h
   refine⟨by simp at h1 ⊢; omega,fun hw=> ?_⟩
   obtain⟨a,b,c⟩:=h2 hw
   refine⟨a,b,fun tr htr=>c tr ?_⟩
   rw [Dk,if_pos (by simp)] at htr
   simp only [Nat.add_sub_cancel] at htr
   unfold dg
   rw [dN,List.getElem?_map,htr]
   rfl
 | c x=>cases x <;> trivial
 | _=>trivial
theorem Hm {G:List (Option b6)} {out:List b6} {v:V1} (h:v.ok (out.map some)): (yG G.length v).ok (G++out.map some):=by
 cases v with
 | cl c=>exact KC h
 | agg cs=>
   intro c hc
   obtain⟨x,hx,rfl⟩:=List.mem_map.1 hc
   exact KC (h x hx)
 | fn f cs=>trivial
theorem Dn {G:List (Option b6)} {out:List b6} {v:V} (h:v.ok (out.map some)): (vE G.length v).ok (G++out.map some):=by
 cases v with
 | v x=>exact Hm h
 | tup l=>
   intro c hc
   obtain⟨x,hx,rfl⟩:=List.mem_map.1 hc
   exact Hm (h x hx)
theorem Ar (S:TS) (v:AV) (out:List b6): ({ S with gh:=S.gh++out.map some }:TS).st=(pH S.st (v,out.map b6.tree)).2:=by
 unfold TS.st pH
 simp only [List.length_append,List.length_map]
 congr 1
 funext r
 rw [Dk]
 by_cases h:S.gh.length≤r
 ·rw [if_pos h]
  by_cases h2:r < S.gh.length+out.length
  ·rw [if_pos ⟨h,h2⟩,List.getElem?_map]
  ·rw [if_neg (fun hh=>h2 hh.2),List.getElem?_eq_none (by omega),yK h]
 ·rw [if_neg h,if_neg (fun hh=>h hh.1)]
section
variable {ρ:Type} {P:Program} {Θ:qO} {S:TS} {Y:Bu}
theorem Bx (hS:S.ok): ∀ (caps:List Cl) (κ':List Cl→Option ρ) (r:ρ),(∀ c∈caps,c.ok S.gh)→He (RY S none) caps κ'=some r→ ∃ cs,(caps.map Cl.av).map (dT S.st 0)=cs.map Cl.av∧κ' cs=some r:=by
 intro caps
 induction caps with
 | nil=>intro κ' r _ h; exact⟨[],rfl,h⟩
 | cons c caps ih=>
   intro κ' r hc h
   unfold He at h
   obtain⟨c',g1,h⟩:=Hj hS (hc c List.mem_cons_self) h
   obtain⟨cs,g2,h⟩:=ih _ r (fun x hx=>hc x (List.mem_cons_of_mem _ hx)) h
   exact⟨c'::cs,by rw [List.map_cons,List.map_cons,g2,g1 0 (fun t ht=>by cases ht),List.map_cons],h⟩
theorem TQ (hΘ:eC P Θ) (hY:ar P Y) (hS:S.ok) {f:Operand} {ts:Array TypeId} {as:Array Operand} {κ:V→TS→Option ρ} {r:ρ} (h:QW Θ Y S f ts.toList as.toList κ=some r) {dst:Option Tmp} {ty:TypeId} {pos:String} {aft:Array Edge} {gd:Option (Nat×Bool)}:
  ∃ D v S',pL P D∧kw D P S.st ⟨dst, .call { callee:= .value f,args:=as,argTypes:=ts },ty,pos,aft,gd⟩=some (V.av v,TS.st S')∧S'.ok∧v.ok S'.gh∧κ v S'=some r:=by
 have fin: ∀ (g:FuncId) (caps:List AV) (vs:List V1),g < jy→callee S.st f=some (g,caps)→args P S.st ts as caps=vs.map V1.av→Y g vs ρ (fun res out=>κ (vE S.gh.length res) { S with gh:=S.gh++out.map some })=some r→
   ∃ D v S',pL P D∧kw D P S.st ⟨dst, .call { callee:= .value f,args:=as,argTypes:=ts },ty,pos,aft,gd⟩=some (V.av v,TS.st S')∧S'.ok∧v.ok S'.gh∧κ v S'=some r:=by
  intro g caps vs hg h1 h2 h3
  obtain⟨res,out,h4,h5,h6⟩:=hY _ _ _ _ _ h3
  have h4:=h4.fn hg
  refine⟨R1 dst g (vs.map V1.av) (res.av,out.map b6.tree),_,_,Hk h4,?_,TS.ok_gh hS (iR.apps _ _),Dn h5,h6⟩
  simp only [kw,h1,Option.bind_some,h2]
  rw [Q5]
  simp only [Option.map_some]
  rw [Ar S res.av out,Dm]
  rfl
 unfold QW at h
 split at h
 ·rename_i g x y hf
  obtain⟨hg,h⟩:=au h
  have hg:g < jy:=Nat.le_of_ble_eq_true hg
  obtain⟨vs,h1,h⟩:=uP hΘ hS _ _ _ _ h
  refine fin g [] vs hg ?_ ?_ h
  ·unfold callee
   rw [bk,hf]
   rfl
  ·unfold args
   simp only [List.map_nil,List.append_nil]
   exact h1
 ·rename_i g caps hf
  obtain⟨hg,h⟩:=au h
  have hg:g < jy:=Nat.le_of_ble_eq_true hg
  obtain⟨vs,h1,h⟩:=uP hΘ hS _ _ _ _ h
  have hcaps: ∀ c∈caps,c.ok S.gh:=by
   have:=mX hS f
   rw [hf] at this
   exact this
  obtain⟨cs,h2,h⟩:=Bx hS _ _ _ hcaps h
  refine fin g (caps.map Cl.av) (vs++cs.map .cl) hg ?_ ?_ h
  ·unfold callee
   rw [bk,hf]
   rfl
  ·unfold args
   rw [h1,h2,List.map_append,List.map_map]
   rfl
 ·cases h
theorem gb {t t':Ty} {l:List t.D} {l':List t'.D} (h:xf t t' l=some l'): ∃ e:t=t',e ▸ l=l':=by
 unfold xf at h
 split at h
 ·rename_i e
  exact⟨e,Option.some.inj h⟩
 ·cases h
theorem R3 {t:Ty} (h:t.flatB=true) (x:t.D): (t.row x).all T.flat=true:=by
 cases t with
 | st n=>cases n <;> first | rfl | cases h
 | ls t=>cases h
 | _=>rfl
theorem Dp (t:Ty): (t.shs.all (· ==0))=t.flatB:=by
 cases t with
 | st n=>cases n <;> rfl
 | ls t=>
   show ((t.width==0)&&true)=false
   have:=t.width_pos
   cases hw:t.width with
   | zero=>omega
   | succ n=>rfl
 | _=>rfl
theorem yL {t:Ty} (h:t.flatB=true) (l:List t.D): (l.map t.row).all (fun r=>r.all T.flat)=true:=by
 rw [List.all_eq_true]
 intro x hx
 obtain⟨y,_,rfl⟩:=List.mem_map.1 hx
 exact R3 h y
theorem Vn (hS:S.ok) {el:Ty} {v:Cl} (hv:v.ok S.gh) {κ:List el.D→TS→Option ρ} {r:ρ} (h:Tw S el v κ=some r):
  ∃ more S',ol S.st el.width el.flatB v.av=some (more.map el.row,S'.st)∧S'.ok∧iR S.gh S'.gh∧S'.gh.length=S.gh.length∧S'.fz=S.fz∧κ more S'=some r:=by
 unfold Tw at h
 split at h
 ·exact⟨[],S,rfl,hS,iR.refl _,rfl,rfl,h⟩
 ·rename_i t l
  obtain⟨h1,h⟩:=au h
  split at h
  ·rename_i l' hl
   obtain⟨e,hl⟩:=gb hl
   subst e
   simp only at hl
   subst hl
   refine⟨l,S,?_,hS,iR.refl _,rfl,rfl,h⟩
   simp only [Cl.av,C.av,ol]
   rw [if_pos ⟨trivial,yL h1 l⟩]
  ·cases h
 ·rename_i p sz lo len w
  obtain⟨h0,h⟩:=au h
  have h0:el.width=sz:=Nat.eq_of_beq_eq_true h0
  cases hfl:el.flatB with
  | true=>
    rw [hfl] at h
    simp only [cond_true] at h
    obtain⟨t,l,h1,h2,h⟩:=fu h
    split at h
    ·rename_i l' hl
     obtain⟨e,hl⟩:=gb hl
     subst e
     simp only at hl
     subst hl
     have src: ∀ (lo len:Nat),lo+len≤l.length→ol S.st t.width true (.own p sz lo len)=some (((l.drop lo).take len).map t.row,S.st):=by
      intro lo len hle
      simp only [ol]
      rw [if_pos h0.symm,my h1]
      simp only [Option.bind_some,Bool.true_eq_false,false_and,if_false,List.length_map]
      rw [if_pos ⟨hle,by rw [←List.map_drop,←List.map_take]; exact yL hfl _⟩]
      simp [List.map_take,List.map_drop]
     cases w with
     | true=>
       obtain⟨e1,e2,e3⟩:=xi hv h2
       refine⟨l,S,?_,hS,iR.refl _,rfl,rfl,h⟩
       have:=src lo len (by omega)
       rw [e2,e3,List.drop_zero,List.take_length] at this
       simp only [Cl.av]
       rw [e2,e3]
       exact this
     | false=>
       simp only [cond_false] at h
       obtain⟨h3,h⟩:=dF h
       exact⟨_,S,src lo len h3,hS,iR.refl _,rfl,rfl,h⟩
    ·cases h
  | false=>
    rw [hfl] at h
    simp only [cond_false] at h
    split at h
    ·rename_i hp
     obtain⟨h3,h6⟩:=au h
     clear h
     simp only [Bool.and_eq_true] at h3
     obtain⟨hw,h4⟩:=h3
     have h4:S.fz≤p.r:=Nat.le_of_ble_eq_true h4
     subst hw
     obtain⟨t,l,h1,h2,h⟩:=fu h6
     split at h
     ·rename_i l' hl
      obtain⟨e,hl⟩:=gb hl
      subst e
      simp only at hl
      subst hl
      obtain⟨e1,e2,e3⟩:=xi hv h2
      refine⟨l,_,?_,TS.ok_gh hS (iR.gone _ _),iR.gone _ _,by simp [fZ],rfl,h⟩
      simp only [Cl.av,ol]
      rw [if_pos h0.symm,my h1]
      simp only [Option.bind_some,List.length_map]
      rw [if_pos ⟨trivial,hp,e2,e3,h4⟩,Bw]
     ·cases h
    ·cases h
 ·cases h
end
end Go.Proofs.YtkcgfceffffmoaaGreat.En
namespace Go.Proofs.YtkcgfceffffmoaaGreat.En
open Go
theorem PZ (t:Ty):t.zvs.length=t.width:=by
 cases t with
 | st n=>cases n <;> rfl
 | _=>rfl
theorem Hn (t:Ty):t.shs.length=t.width:=by
 cases t with
 | st n=>cases n <;> rfl
 | _=>rfl
theorem LH {P:Program} {el:TypeId} {e:Ty} (h1:P.cellsOf el=e.width) (h2:qK P 9 el=e.shs) (h3:C5 P el=some e.zvs):Jd P el=some (List.zipWith zc e.shs e.zvs):=by
 unfold Jd
 rw [h3]
 simp only [Option.bind_some]
 rw [if_pos ⟨by rw [h1,PZ],by rw [h2,h1,Hn]⟩,h2]
section
variable {ρ:Type} {P:Program} {Θ:qO} {S:TS}
theorem TR (hS:S.ok) {el:Ty} {v:Cl} (hv:v.ok S.gh) {more:List el.D} {κ:List el.D→TS→Option ρ} {r:ρ} (h:NF S el v more κ=some r):
  ∃ l S',mN S.st v.av el.width (more.map el.row)=some (.own ⟨S.gh.length,[]⟩ el.width 0 l.length,{ S'.st with gh:=cg S'.st.gh S.gh.length (some (.sl el.width (l.map el.row))),ng:=S.gh.length+1 })∧
    S'.ok∧iR S.gh S'.gh∧S'.gh.length=S.gh.length∧κ l S'=some r:=by
 unfold NF at h
 split at h
 ·refine⟨more,S,?_,hS,iR.refl _,rfl,h⟩
  simp only [Cl.av,mN,List.length_map]
  rfl
 ·rename_i p sz lo len w
  obtain⟨h0,h'⟩:=au h
  clear h
  simp only [Bool.and_eq_true] at h0
  have hfz:S.fz≤p.r:=Nat.le_of_ble_eq_true h0.1
  have hsz:el.width=sz:=Nat.eq_of_beq_eq_true h0.2
  split at h'
  ·rename_i hp
   obtain⟨t,l,h1,h2,h⟩:=fu h'
   split at h
   ·rename_i l' hl
    obtain⟨e,hl⟩:=gb hl
    subst e
    simp only at hl
    subst hl
    have fin: ∀ (len:Nat),¬ l.length < len→mN S.st (.own p sz 0 len) t.width (more.map t.row)=some (.own ⟨S.gh.length,[]⟩ t.width 0 (l.take len++more).length,{ ({ S with gh:=dv S.gh p.r none }:TS).st with gh:=cg ({ S with gh:=dv S.gh p.r none }:TS).st.gh S.gh.length (some (.sl t.width ((l.take len++more).map t.row))),ng:=S.gh.length+1 }):=by
     intro len hlen
     simp only [mN]
     rw [if_pos ⟨hsz.symm,trivial,hfz⟩,my h1]
     simp only [Option.bind_some,List.length_map]
     rw [if_neg hlen,if_pos hp,Bw]
     have e1: (l.take len++more).length=len+more.length:=by simp; omega
     rw [e1,List.map_append,List.map_take]
     rfl
    cases w with
    | true=>
      obtain⟨e1,e2,e3⟩:=xi hv h2
      refine⟨_,_,?_,TS.ok_gh hS (iR.gone _ _),iR.gone _ _,by simp [fZ],h⟩
      have:=fin l.length (by omega)
      rw [List.take_length] at this
      simp only [Cl.av]
      rw [e2,e3]
      exact this
    | false=>
      simp only [cond_false] at h
      obtain⟨h3,h⟩:=dF h
      obtain⟨h4,h⟩:=Di h
      refine⟨_,_,?_,TS.ok_gh hS (iR.gone _ _),iR.gone _ _,by simp [fZ],h⟩
      simp only [Cl.av]
      rw [h3]
      exact fin len h4
   ·cases h
  ·rename_i i j hp
   split at h'
   ·rename_i tr htr
    split at h'
    ·rename_i hh
     obtain⟨t,l,h1,h2,h⟩:=fu h'
     split at h
     ·rename_i l' hl
      obtain⟨e,hl⟩:=gb hl
      subst e
      simp only at hl
      subst hl
      obtain⟨h3,h⟩:=dF h
      obtain⟨h4,h⟩:=Di h
      have hg:=b6.look htr
      have hput:iR S.gh (dv S.gh p.r (some (b6.mk tr.t tr.l (some (i,j))))):=iR.put hg rfl
      refine⟨_,{ S with gh:=dv S.gh p.r (some (b6.mk tr.t tr.l (some (i,j)))) },?_,TS.ok_gh hS hput,hput,by simp [fZ],h⟩
      simp only [Cl.av,mN]
      rw [if_pos ⟨hsz.symm,h3,hfz⟩,my h1]
      simp only [Option.bind_some,List.length_map]
      rw [if_neg h4,if_neg (by rw [hp]; simp),Dl _ _ (vF hg)]
      have e1: (l.take len++more).length=len+more.length:=by simp; omega
      rw [e1,List.map_append,List.map_take]
      have e2:S.st.setAt p .dd= { S.st with gh:=cg S.st.gh p.r (some (b6.tree ⟨tr.t,tr.l,some (i,j)⟩)) } :=by
       unfold St.setAt
       congr 2
       show ((dg S.gh p.r).map b6.tree).map _=_
       rw [hg,hp]
       obtain⟨t0,l0,hole⟩:=tr
       simp only at hh
       subst hh
       rfl
      rw [e2]
      rfl
     ·cases h
    ·cases h'
   ·cases h'
  ·cases h'
 ·cases h
theorem Vo (hΘ:eC P Θ) (hS:S.ok) {t:TypeId} {s x:Operand} {κ:V→TS→Option ρ} {r:ρ} (h:Ve Θ S t (S.opd s) (S.opd x) κ=some r) {dst:Option Tmp} {ty:TypeId} {pos:String} {aft:Array Edge} {gd:Option (Nat×Bool)} {D:tD}:
  ∃ v S',kw D P S.st ⟨dst, .call { callee:= .builtin .append,args:= #[s,x],argTypes:= #[t,t] },ty,pos,aft,gd⟩=some (V.av v,TS.st S')∧S'.ok∧v.ok S'.gh∧κ v S'=some r:=by
 unfold Ve at h
 split at h
 ·rename_i ti hti
  split at h
  ·rename_i el sv xv he hs hx
   obtain⟨elT',g1,g2,g3,g4,g5,g6⟩:=(hΘ _ _ hti).el el he
   have hsv:=mX hS s
   rw [hs] at hsv
   have hxv:=mX hS x
   rw [hx] at hxv
   obtain⟨more,S1,h1,k1,k2,k3,k4,h⟩:=Vn hS (show xv.ok S.gh from hxv) h
   obtain⟨l,S2,h2,m1,m2,m3,h⟩:=TR k1 (Cl.ok_mono k2 (show sv.ok S.gh from hsv)) h
   obtain⟨hb,h⟩:=dF h
   have hgl:iR S1.gh (S2.gh++ [some ⟨el,l,none⟩]):=m2.trans (iR.app _ _)
   refine⟨_,_,?_,TS.ok_gh m1 (iR.app _ _),?_,h⟩
   ·simp only [kw]
    rw [if_pos trivial,g1]
    simp only [Option.bind_some,g2,g5,Dp,bk,hs,hx]
    show (ol S.st el.width el.flatB xv.av).bind _=_
    rw [h1]
    simp only [Option.bind_some]
    show (mN S1.st sv.av el.width _).bind _=_
    rw [h2]
    simp only [Option.bind_some]
    have hlen:l.length≤2 ^ 40:=Nat.le_trans (Nat.le_mul_of_pos_right _ g4) hb
    rw [if_pos ⟨by rw [g3]; exact hb,hlen,el.width_pos,by rw [LH g2 g5 g6]; rfl⟩]
    rw [LF,m3]
    rfl
   ·refine⟨by simp,fun _=>⟨rfl,rfl,fun tr htr=> ?_⟩⟩
    rw [ow,if_pos rfl] at htr
    cases htr
    rfl
  ·cases h
 ·cases h
end
end Go.Proofs.YtkcgfceffffmoaaGreat.En
namespace Go.Proofs.YtkcgfceffffmoaaGreat.En
open Go
theorem Vp (a b:Nat): (a==b)=Nat.beq a b:=by
 rw [Bool.eq_iff_iff,beq_iff_eq]
 exact⟨fun h=>by rw [h]; exact Nat.beq_refl _,fun h=>Nat.eq_of_beq_eq_true h⟩
theorem TT (a b:Nat): (a==b)=Nat.beq b a:=by
 rw [Bool.eq_iff_iff,beq_iff_eq]
 exact⟨fun h=>by rw [h]; exact Nat.beq_refl _,fun h=>(Nat.eq_of_beq_eq_true h).symm⟩
theorem Ho (r i j pr i' j':Nat) (l:List (Nat×Nat)):under ⟨r,[(i,j)]⟩ ⟨pr,(i',j')::l⟩=(Nat.beq pr r&&Nat.beq j j'):=by
 simp only [under,Ey,Bool.and_true]
 rw [TT,Vp]
theorem Hp (r i j pr:Nat):under ⟨r,[(i,j)]⟩ ⟨pr,[]⟩=false:=by simp [under,Ey]
theorem Bz (r i j:Nat) (c:Cl): (rU r j c).av=uG ⟨r,[(i,j)]⟩ c.av:=by
 cases c with
 | own p sz lo len w=>
   obtain⟨pr,pl⟩:=p
   cases pl with
   | nil=>simp only [rU,Cl.av,uG,Hp]; rfl
   | cons a l=>
     obtain⟨i',j'⟩:=a
     simp only [rU,Cl.av,uG,Ho]
     cases (Nat.beq pr r&&Nat.beq j j') <;> rfl
 | ptrT p sz a b=>
   obtain⟨pr,pl⟩:=p
   cases pl with
   | nil=>simp only [rU,Cl.av,uG,Hp]; rfl
   | cons a' l=>
     obtain⟨i',j'⟩:=a'
     simp only [rU,Cl.av,uG,Ho]
     cases (Nat.beq pr r&&Nat.beq j j') <;> rfl
 | c x=>cases x <;> rfl
 | _=>rfl
theorem KD (r i j:Nat) (v:V1): (ul r j v).av=Bg ⟨r,[(i,j)]⟩ v.av:=by
 cases v with
 | cl c=>
   have :Bg ⟨r,[(i,j)]⟩ (V1.cl c).av=uG ⟨r,[(i,j)]⟩ c.av:=by
    cases c with
    | c x=>cases x <;> rfl
    | _=>rfl
   rw [this]
   exact Bz r i j c
 | agg cs=>
   simp only [ul,V1.av,Bg,List.map_map]
   congr 1
   exact List.map_congr_left fun c _=>Bz r i j c
 | fn f cs=>
   simp only [ul,V1.av,Bg,List.map_map]
   congr 1
   exact List.map_congr_left fun c _=>Bz r i j c
theorem TU (r i j:Nat) (v:V): (Kz r j v).av=kill ⟨r,[(i,j)]⟩ v.av:=by
 cases v with
 | v x=>
   have :kill ⟨r,[(i,j)]⟩ (V.v x).av=Bg ⟨r,[(i,j)]⟩ x.av:=by
    cases x with
    | cl c=>cases c with
      | c x=>cases x <;> rfl
      | _=>rfl
    | _=>rfl
   rw [this]
   exact KD r i j x
 | tup l=>
   simp only [Kz,V.av,kill,List.map_map]
   congr 1
   exact List.map_congr_left fun c _=>KD r i j c
theorem NP (f:V→V) (hf:f V.dead=V.dead): ∀ (l:List (Nat×V)) (t:Nat),i6 (l.map fun x=>(x.1,f x.2)) t=f (i6 l t)
 | [],t=>hf.symm
 | (u,v)::l,t=>by
   simp only [List.map_cons,i6]
   cases Nat.beq u t with
   | true=>rfl
   | false=>exact NP f hf l t
theorem Vq (S:TS) (r i j:Nat): (S.kill r j).st=S.st.killU ⟨r,[(i,j)]⟩:=by
 unfold TS.kill TS.st St.killU
 simp only [List.length_map]
 congr 1
 ·funext t
  rw [NP _ rfl]
  exact TU r i j _
 ·funext n
  rw [dN,dN,List.getElem?_map]
  cases S.bx[n]? with
  | none=>rfl
  | some cs=>
    simp only [Option.map_some,List.map_map]
    congr 1
    exact List.map_congr_left fun c _=>Bz r i j c
theorem BA {G:List (Option b6)} {r j:Nat} {c:Cl} (h:c.ok G): (rU r j c).ok G:=by
 cases c with
 | own p sz lo len w=>
   simp only [rU]
   split
   ·cases (Nat.beq p.r r&&Nat.beq j _) <;> first | exact h | trivial
   ·exact h
 | ptrT p sz a b=>
   simp only [rU]
   split
   ·cases (Nat.beq p.r r&&Nat.beq j _) <;> first | exact h | trivial
   ·exact h
 | _=>exact h
theorem KE {G:List (Option b6)} {r j:Nat} {v:V1} (h:v.ok G): (ul r j v).ok G:=by
 cases v with
 | cl c=>exact BA h
 | agg cs=>
   intro c hc
   obtain⟨x,hx,rfl⟩:=List.mem_map.1 hc
   exact BA (h x hx)
 | fn f cs=>
   intro c hc
   obtain⟨x,hx,rfl⟩:=List.mem_map.1 hc
   exact BA (h x hx)
theorem Q6 {S:TS} (hS:S.ok) (r j:Nat): (S.kill r j).ok:=by
 refine⟨fun x hx=> ?_,fun cs hcs c hc=> ?_⟩
 ·obtain⟨y,hy,rfl⟩:=List.mem_map.1 hx
  have:=hS.env y hy
  obtain⟨t,v⟩:=y
  cases v with
  | v x=>exact KE this
  | tup l=>
    intro c hc
    obtain⟨z,hz,rfl⟩:=List.mem_map.1 hc
    exact KE (this z hz)
 ·obtain⟨y,hy,rfl⟩:=List.mem_map.1 hcs
  obtain⟨z,hz,rfl⟩:=List.mem_map.1 hc
  exact BA (hS.bx y hy z hz)
def TS.with (S:TS) (no N w:Nat) (R:List (List T)):St:= { S.st with gh:=cg S.st.gh no (some (.sl w R)),ng:=N }
theorem KF (S:TS) (r i j no N w:Nat) (R:List (List T)): (S.with no N w R).killU ⟨r,[(i,j)]⟩=(S.kill r j).with no N w R:=by
 unfold TS.with
 rw [Vq S r i j]
 rfl
theorem Q7 {α:Type} (f:Nat→α) (t:Nat) (x y:α):cg (cg f t x) t y=cg f t y:=by
 funext u
 unfold cg
 split <;> rfl
theorem NQ {α:Type} (f:Nat→α) (t:Nat) (x:α):cg f t x t=x:=by unfold cg; rw [if_pos rfl]
theorem TV {α:Type} (f:Nat→α) {t u:Nat} (h:t≠u) (x y:α):cg (cg f t x) u y=cg (cg f u y) t x:=by
 funext v
 unfold cg
 by_cases h1:v=u
 ·subst h1; rw [if_pos rfl,if_neg (fun e=>h e.symm)]; rw [if_pos rfl]
 ·rw [if_neg h1]
  by_cases h2:v=t
  ·rw [if_pos h2,if_pos h2]
  ·rw [if_neg h2,if_neg h2,if_neg h1]
structure Vr (S S1:TS) (no:Nat):Prop where
 ok:S1.ok
 gle:iR S.gh S1.gh
 len:S1.gh.length=S.gh.length
 fz:S1.fz=S.fz
 nt:S1.nt=S.nt
 no:dg S1.gh no=dg S.gh no
def Pw:Option Ty→Nat | some e=>e.width | none=>0
def Yb (X:St) (no i j:Nat) (c:AV):Option Ty→Option St
 | none=>some X
 | some t=>GG X ⟨no,[]⟩ i j t.width c
def TW (R:List (List T)) (i j:Nat) (x:C):Option Ty→List (List T)
 | none=>R
 | some _=>R.set i ((R.getD i []).set j x.tree)
theorem TX {S S1:TS} (hS:S.ok) {no j:Nat} (i N w:Nat) {et:Option Ty} {c:Cl} {x:C} (hc:c.ok S.gh) (h:jz S no j et c=some (x,S1)) (R:List (List T)):
  Vr S S1 no∧c≠ .dead∧(et=none→T.ofSc c.av=x.tree)∧Yb (S.with no N w R) no i j c.av et=some (S1.with no N w (TW R i j x et)):=by
 cases c with
 | c y=>
   cases y with
   | sc v=>
     cases et with
     | none=>
       simp only [jz,Option.some.injEq,Prod.mk.injEq] at h
       obtain⟨rfl,rfl⟩:=h
       exact⟨⟨hS,iR.refl _,rfl,rfl,rfl,rfl⟩,(fun h=>by cases h),fun _=>rfl,rfl⟩
     | some t=>simp [jz] at h
   | ls t l=>cases et <;> simp [jz] at h
 | em=>
   cases et with
   | none=>simp [jz] at h
   | some t=>
     simp only [jz,Option.some.injEq,Prod.mk.injEq] at h
     obtain⟨rfl,rfl⟩:=h
     refine⟨⟨Q6 hS _ _,iR.refl _,rfl,rfl,rfl,rfl⟩,(fun h=>by cases h),(fun h=>by cases h),?_⟩
     simp only [Yb,Cl.av,GG,ck.sub,List.nil_append,KF,TW]
     congr 1
     unfold St.setAt TS.with
     simp only
     rw [NQ,Q7]
     rfl
 | own p sz lo len wh=>
   obtain⟨pr,pl⟩:=p
   cases wh with
   | false=>cases et <;> simp [jz] at h
   | true=>
     cases et with
     | none=>simp [jz] at h
     | some t=>
       cases pl with
       | cons a l=>simp [jz] at h
       | nil=>
         simp only [jz] at h
         obtain⟨h1,h⟩:=au h
         simp only [Bool.and_eq_true,Bool.not_eq_true'] at h1
         obtain⟨⟨h1,h2⟩,h3⟩:=h1
         have h1:t.width=sz:=Nat.eq_of_beq_eq_true h1
         have h2:S.fz≤pr:=Nat.le_of_ble_eq_true h2
         have h3:pr≠no:=by intro e; rw [e,Nat.beq_refl] at h3; cases h3
         split at h
         ·rename_i tr htr
          split at h
          ·rename_i hh
           obtain⟨h4,h⟩:=au h
           have h4':tr.t.width=sz:=Nat.eq_of_beq_eq_true h4
           simp only [Option.some.injEq,Prod.mk.injEq] at h
           obtain⟨rfl,rfl⟩:=h
           have hg:=b6.look htr
           obtain⟨tt,l,hole⟩:=tr
           simp only at hh h4'
           subst hh
           obtain⟨e1,e2,e3⟩:=xi hc (fun _=>hg)
           refine⟨⟨Q6 (TS.ok_gh hS (iR.gone _ _)) _ _,iR.gone _ _,by simp [TS.kill,fZ],rfl,rfl,?_⟩,(fun h=>by cases h),(fun h=>by cases h),?_⟩
           ·show dg (dv S.gh pr none) no=_
            rw [rq _ _ (.inr rfl),if_neg (fun e=>h3 e.symm)]
           ·simp only [Yb,TW,Cl.av,GG]
            have hrows: (S.with no N w R).rows ⟨pr,[]⟩ sz=some (l.map tt.row):=by
             have : (S.with no N w R).look ⟨pr,[]⟩= .sl tt.width (l.map tt.row):=by
              unfold St.look TS.with
              simp only [cg]
              rw [if_neg h3]
              show (match (dg S.gh pr).map b6.tree with | some t=>t.go [] | none=> .dd)=_
              rw [hg]
              rfl
             unfold St.rows
             rw [this]
             simp [h4']
            rw [if_pos ⟨trivial,h1.symm,e2,h2,h3⟩,hrows]
            simp only [Option.bind_some,List.length_map]
            rw [if_pos (by omega),e3]
            congr 1
            have e4: (l.map tt.row).take l.length=l.map tt.row:=List.take_of_length_le (by simp)
            rw [e4]
            simp only [ck.sub,List.nil_append,KF]
            unfold TS.with
            simp only
            rw [NQ,TV _ (fun e=>h3 e.symm),Q7]
            have e5: ({ S with gh:=dv S.gh pr none }:TS).kill no j= { S.kill no j with gh:=dv (S.kill no j).gh pr none } :=rfl
            rw [e5,Bw]
            simp only [C.tree,h4']
            rfl
          ·cases h
         ·cases h
 | pro cs=>cases et <;> simp [jz] at h
 | ptrB n j=>cases et <;> simp [jz] at h
 | ptrT p sz a b=>cases et <;> simp [jz] at h
 | dead=>cases et <;> simp [jz] at h
theorem WL (X:St) (no i j:Nat) (c:AV) (et:Option Ty): (if Pw et=0 then some X else GG X ⟨no,[]⟩ i j (Pw et) c)=Yb X no i j c et:=by
 cases et with
 | none=>rfl
 | some t=>exact if_neg (by show ¬ t.width=0; have:=t.width_pos; omega)
theorem TY {R:List (List T)} {i j:Nat} {x:C} {et:Option Ty} {row:List T} (hr:R[i]? =some row) (hj:j < row.length) (h:et=none→row[j]? =some x.tree):TW R i j x et=R.set i (row.set j x.tree):=by
 cases et with
 | none=>
   have h:=h rfl
   have e1:row.set j x.tree=row:=by
    apply List.ext_getElem?
    intro k
    rw [List.getElem?_set]
    split
    ·rename_i hk; subst hk; first | rw [if_pos hj,h] | rw [h]
    ·rfl
   rw [e1]
   apply List.ext_getElem?
   intro k
   show R[k]? =_
   rw [List.getElem?_set]
   split
   ·rename_i hk; subst hk; rw [if_pos (List.getElem?_eq_some_iff.1 hr).1,hr]
   ·rfl
 | some t=>
   simp only [TW]
   rw [List.getD_eq_getElem?_getD,hr]
   rfl
theorem Hq (no i N w:Nat): ∀ (ets:List (Option Ty)) (cs:List Cl) (j:Nat) (S S1:TS) (xs:List C) (R:List (List T)) (row:List T),S.ok→(∀ c∈cs,c.ok S.gh)→rV no j S ets cs=some (xs,S1)→R[i]? =some row→
  j+cs.length≤row.length→(∀ (k:Nat) (c:Cl),cs[k]? =some c→row[j+k]? =some (T.ofSc c.av))→
  Vr S S1 no∧ets.length=cs.length∧xs.length=cs.length∧(∀ c∈cs,c≠ .dead)∧
   eu (S.with no N w R) ⟨no,[]⟩ i j (ets.map Pw) (cs.map Cl.av)=some (S1.with no N w (R.set i (row.take j++xs.map C.tree++row.drop (j+cs.length)))):=by
 intro ets
 induction ets with
 | nil=>
   intro cs j S S1 xs R row hS hcs h hr hl ho
   cases cs with
   | cons c cs=>simp [rV] at h
   | nil=>
     simp only [rV,Option.some.injEq,Prod.mk.injEq] at h
     obtain⟨rfl,rfl⟩:=h
     refine⟨⟨hS,iR.refl _,rfl,rfl,rfl,rfl⟩,rfl,rfl,(fun c hc=>by cases hc),?_⟩
     simp only [List.map_nil,eu,List.append_nil,List.length_nil,Nat.add_zero,List.take_append_drop]
     congr 2
     apply List.ext_getElem?
     intro k
     rw [List.getElem?_set]
     split
     ·rename_i hk; subst hk; rw [if_pos (List.getElem?_eq_some_iff.1 hr).1,hr]
     ·rfl
 | cons et ets ih=>
   intro cs j S S1 xs R row hS hcs h hr hl ho
   cases cs with
   | nil=>simp [rV] at h
   | cons c cs=>
     simp only [rV] at h
     split at h
     ·rename_i x S2 hx
      split at h
      ·rename_i xs' S3 hxs
       simp only [Option.some.injEq,Prod.mk.injEq] at h
       obtain⟨rfl,rfl⟩:=h
       obtain⟨k1,k2,k3,k4⟩:=TX hS i N w (hcs c List.mem_cons_self) hx R
       have hj:j < row.length:=by simp at hl; omega
       have hput:=TY (et:=et) hr hj (x:=x) (fun he=>by rw [←k3 he]; exact ho 0 c rfl)
       rw [hput] at k4
       have hi:i < R.length:=(List.getElem?_eq_some_iff.1 hr).1
       obtain⟨m1,m2,m3,m4,m5⟩:=ih cs (j+1) S2 S3 xs' (R.set i (row.set j x.tree)) (row.set j x.tree) k1.ok (fun y hy=>Cl.ok_mono k1.gle (hcs y (List.mem_cons_of_mem _ hy))) hxs (by simp [hi]) (by simp at hl ⊢; omega) (fun k y hy=>by
        rw [List.getElem?_set_ne (by omega),show j+1+k=j+(k+1) by omega]
        exact ho (k+1) y (by simpa using hy))
       refine⟨⟨m1.ok,k1.gle.trans m1.gle,m1.len.trans k1.len,m1.fz.trans k1.fz,m1.nt.trans k1.nt,m1.no.trans k1.no⟩,by simp [m2],by simp [m3],fun y hy=> ?_,?_⟩
       ·rcases List.mem_cons.1 hy with rfl | hy
        ·exact k2
        ·exact m4 y hy
       ·simp only [List.map_cons,eu]
        rw [WL,k4]
        simp only [Option.bind_some]
        rw [m5,List.set_set]
        congr 3
        have e2: (row.set j x.tree).take (j+1)=row.take j++ [x.tree] :=by
         rw [List.take_set,List.take_add_one,List.getElem?_eq_getElem hj]
         rw [Option.toList_some]
         have hlen: (row.take j).length=j:=by simp; omega
         rw [List.set_append_right _ _ (by omega),hlen,Nat.sub_self]
         rfl
        have e3: (row.set j x.tree).drop (j+1+cs.length)=row.drop (j+(cs.length+1)):=by
         rw [List.drop_set_of_lt (by omega),show j+1+cs.length=j+(cs.length+1) by omega]
        rw [e2,e3]
        simp
      ·cases h
     ·cases h
end Go.Proofs.YtkcgfceffffmoaaGreat.En
