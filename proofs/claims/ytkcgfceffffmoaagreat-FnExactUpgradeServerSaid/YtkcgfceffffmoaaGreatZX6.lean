import Derived.Test.YtkcgfceffffmoaaGreatZX5
namespace Go.Proofs.YtkcgfceffffmoaaGreat.En
open Go
def C.av:C→AV
 | .sc v=> .sc v
 | .ls t l=> .ro t.width (l.map t.row)
def Cl.av:Cl→AV
 | .c x=>x.av
 | .em=> .em
 | .own p sz lo len _=> .own p sz lo len
 | .pro cs=> .pro (cs.map C.tree)
 | .ptrB n j=> .ptrB n j
 | .ptrT p sz i j=> .ptrT p sz i j
 | .dead=> .dead
def V1.av:V1→AV
 | .cl x=>x.av
 | .agg cs=> .agg (cs.map Cl.av)
 | .fn f cs=> .fn f (cs.map Cl.av)
def V.av:V→AV
 | .v x=>x.av
 | .tup l=> .tup (l.map V1.av)
def bJ.tree (x:bJ):T:=match x.hole with
 | none=> .sl x.t.width (x.l.map x.t.row)
 | some (i,j)=> .sl x.t.width ((x.l.map x.t.row).set i (((x.l.map x.t.row).getD i []).set j .dd))
def cJ (G:List (Option bJ)) (r:Nat):Option bJ:=(o6 G r).getD none
def TS.st (S:TS):St where
 env:=fun t=>(gX S.env t).av
 bx:=fun n=>(o6 S.bx n).map fun cs=>cs.map Cl.av
 gh:=fun r=>(cJ S.gh r).map bJ.tree
 nb:=S.bx.length
 ng:=S.gh.length
 fz:=S.fz
 orc:=none
 nt:=S.nt
structure zm where
 f:FuncId→List V1→(ρ:Type)→(V→List bJ→Option ρ)→Option ρ
 kd:FuncId→Nat
instance:CoeFun zm fun _=>FuncId→List V1→(ρ:Type)→(V→List bJ→Option ρ)→Option ρ:=⟨zm.f⟩
def iw:Nat:=1048576
def Ic:Nat:=iw+iw
def mB (g:Nat):Nat:=g+iw
def E6 (g:Nat):Nat:=g+Ic
def Jm (n:Nat):Cl→Cl
 | .own p sz lo len w=> .own ⟨p.r+n,p.l⟩ sz lo len w
 | .c (.sc v)=> .c (.sc v)
 | _=> .dead
def wA (n:Nat):V1→V1
 | .agg cs=> .agg (cs.map (Jm n))
 | .cl c=> .cl (Jm n c)
 | .fn _ _=> .cl .dead
def tP (n:Nat):V→V
 | .tup vs=> .tup (vs.map (wA n))
 | .v x=> .v (wA n x)
def cS {α:Type}:List α→Nat→α→List α
 | [],_,_=> []
 | a::l,n,x=>bif Nat.beq n 0 then x::l else a::cS l (n - 1) x
def vh (t t':Ty) (l:List t.D):Option (List t'.D):=if h:t=t' then some (h ▸ l) else none
def qe (r j:Nat):Cl→Cl
 | .own p sz lo len w=>match p.l with | (_,j')::_=>bif Nat.beq p.r r&&Nat.beq j j' then .dead else .own p sz lo len w | [] => .own p sz lo len w
 | .ptrT p sz a b=>match p.l with | (_,j')::_=>bif Nat.beq p.r r&&Nat.beq j j' then .dead else .ptrT p sz a b | [] => .ptrT p sz a b
 | c=>c
def su (r j:Nat):V1→V1
 | .cl c=> .cl (qe r j c)
 | .agg cs=> .agg (cs.map (qe r j))
 | .fn f cs=> .fn f (cs.map (qe r j))
def Ie (r j:Nat):V→V
 | .v x=> .v (su r j x)
 | .tup vs=> .tup (vs.map (su r j))
def TS.kill (S:TS) (r j:Nat):TS:= { S with env:=S.env.map fun x=>(x.1,Ie r j x.2),bx:=S.bx.map fun cs=>cs.map (qe r j) }
def iy (S:TS) (no j:Nat) (et:Option Ty) (c:Cl):Option (C×TS):=match c,et with
 | .c (.sc v),none=>some (.sc v,S)
 | .em,some t=>some (.ls t [],S.kill no j)
 | .own p sz _ _ true,some t=>match p.l with
   | [] =>bif Nat.beq t.width sz&&Nat.ble S.fz p.r&& !(Nat.beq p.r no) then match o6 S.gh p.r with
     | some (some tr)=>match tr.hole with
       | none=>bif Nat.beq tr.t.width sz then some (.ls tr.t tr.l,{ S with gh:=cS S.gh p.r none }.kill no j) else none
       | some _=>none
     | _=>none else none
   | _=>none
 | _,_=>none
def qf (no:Nat):Nat→TS→List (Option Ty)→List Cl→Option (List C×TS)
 | j,S,et::ets,c::cs=>match iy S no j et c with
   | some (x,S1)=>match qf no (j+1) S1 ets cs with
     | some (xs,S2)=>some (x::xs,S2)
     | none=>none
   | none=>none
 | _,S,[],[] =>some ([],S)
 | _,_,_,_=>none
def Wq (et:Option Ty) (v:Value):C:=match et with | some t=> .ls t [] | none=> .sc v
def Ty.zcs (t:Ty):List C:=List.zipWith Wq t.csh t.zvs
def Ut:List Cl→Option (List C)
 | [] =>some []
 | .c (.sc v)::l=>match Ut l with | some r=>some (.sc v::r) | none=>none
 | _=>none
section
variable {ρ:Type}
def E7 {α β:Type} (f:α→(β→Option ρ)→Option ρ):List α→(List β→Option ρ)→Option ρ
 | [],κ=>κ []
 | a::l,κ=>f a fun b=>E7 f l fun bs=>κ (b::bs)
def ND (Θ:pc) (S:TS) (t:TypeId) (a v:V) (κ:TS→Option ρ):Option ρ:=match nx Θ t with
 | none=>none
 | some ti=>match v with
   | .tup _=>none
   | .v (.cl .dead)=>none
   | .v (.fn _ _)=>none
   | .v x=>bif Nat.beq x.cells.length ti.ty.width then match a with
     | .v (.cl (.ptrB b j))=>match o6 S.bx b with
       | some cs=>bif Nat.ble (j+x.cells.length) cs.length then κ { S with bx:=cS S.bx b (cs.take j++x.cells++cs.drop (j+x.cells.length)) } else none
       | none=>none
     | .v (.cl (.ptrT p sz i j))=>match p.l with
       | [] =>match o6 S.gh p.r with
         | some (some tr)=>bif Nat.beq tr.t.width sz&&Nat.ble (j+ti.ty.width) sz&&Nat.beq x.cells.length ti.ty.width then
           bif ti.ty.flatB then
            match tr.hole,Ut x.cells with
            | none,some vs=>(tr.l[i]?).bind fun y=>match tr.t.unflat ((tr.t.flat y).take j++vs++(tr.t.flat y).drop (j+ti.ty.width)) with
              | some z=>κ { S with gh:=cS S.gh p.r (some ⟨tr.t,tr.l.set i z,none⟩) }
              | none=>none
            | _,_=>none
           else bif Nat.ble S.fz p.r then match qf p.r j S ti.ty.csh x.cells with
            | some (vs,S1)=>(tr.l[i]?).bind fun y=>match tr.t.unflat ((tr.t.flat y).take j++vs++(tr.t.flat y).drop (j+ti.ty.width)) with
              | some z=>match tr.hole with
                | none=>κ { S1 with gh:=cS S1.gh p.r (some ⟨tr.t,tr.l.set i z,none⟩) }
                | some (i0,j0)=>bif Nat.beq j j0&&Nat.beq ti.ty.width 1 then ap (i=i0) (κ { S1 with gh:=cS S1.gh p.r (some ⟨tr.t,tr.l.set i z,none⟩) }) none else none
              | none=>none
            | none=>none else none
           else none
         | _=>none
       | _=>none
     | _=>none
     else none
def PL (S:TS) (et:Option Ty) (c:Cl) (κ:Cl→Option ρ):Option ρ:=match c with
 | .c x=>κ (.c x)
 | .em=>match et with | some t=>κ (.c (.ls t [])) | none=>none
 | .own p sz _ _ true=>rI S p fun t l=>bif Nat.beq t.width sz then κ (.c (.ls t l)) else none
 | .own p sz lo len false=>rI S p fun t l=>bif Nat.beq t.width sz then ap (lo+len≤l.length) (κ (.c (.ls t ((l.drop lo).take len)))) none else none
 | .pro cs=>κ (.pro cs)
 | .ptrT p sz i j=>rI S p fun t l=>bif Nat.beq t.width sz then (l[i]?).bind fun x=>κ (.pro ((t.flat x).drop j)) else none
 | .ptrB b j=>match o6 S.bx b with
   | some cs=>E7 (fun c κ=>match c with
     | .c x=>κ x
     | .own p sz _ _ true=>rI S p fun t l=>bif Nat.beq t.width sz then κ (.ls t l) else none
     | _=>none) (cs.drop j) fun cs=>κ (.pro cs)
   | none=>none
 | .dead=>κ .dead
def SU (S:TS):List (Option Ty)→List Cl→(List Cl→Option ρ)→Option ρ
 | et::ets,c::cs,κ=>PL S et c fun c'=>SU S ets cs fun cs'=>κ (c'::cs')
 | [],[],κ=>κ []
 | _,_,_=>none
def Wc (Θ:pc) (S:TS) (t:TypeId) (v:V) (κ:V1→Option ρ):Option ρ:=match v with
 | .tup _=>none
 | .v (.fn f cs)=>E7 (PL S none) cs fun cs'=>κ (.fn f cs')
 | .v (.agg cs)=>match nx Θ t with | some ti=>SU S ti.ty.csh cs fun cs'=>κ (.agg cs') | none=>none
 | .v (.cl c)=>match nx Θ t with | some ti=>PL S (ti.ty.csh.headD none) c fun c'=>κ (.cl c') | none=>PL S none c fun c'=>κ (.cl c')
def sT (Θ:pc) (S:TS):List TypeId→List Operand→(List V1→Option ρ)→Option ρ
 | t::ts,a::as,κ=>Wc Θ S t (S.opd a) fun v=>sT Θ S ts as fun vs=>κ (v::vs)
 | [],[],κ=>κ []
 | _,_,_=>none
def OK (Θ:pc) (Y:zm) (S:TS) (f:Operand) (ts:List TypeId) (as:List Operand) (κ:V→TS→Option ρ):Option ρ:=match S.opd f with
 | .v (.cl (.c (.sc (.func (.func g) _ _))))=>bif Nat.blt g iw then sT Θ S ts as fun vs=>Y g vs ρ fun res out=>κ (tP S.gh.length res) { S with gh:=S.gh++out.map some } else none
 | .v (.fn g caps)=>bif Nat.blt g iw then sT Θ S ts as fun vs=>E7 (PL S none) caps fun cs=>Y g (vs++cs.map .cl) ρ fun res out=>κ (tP S.gh.length res) { S with gh:=S.gh++out.map some } else none
 | _=>none
def Q5 (S:TS) (el:Ty) (v:Cl) (κ:List el.D→TS→Option ρ):Option ρ:=match v with
 | .em=>κ [] S
 | .c (.ls t l)=>bif el.flatB then match vh t el l with | some l=>κ l S | none=>none else none
 | .own p sz lo len w=>bif Nat.beq el.width sz then (bif el.flatB then rI S p fun t l=>match vh t el l with
   | some l=>bif w then κ l S else ap (lo+len≤l.length) (κ ((l.drop lo).take len) S) none
   | none=>none
   else match p.l with
   | [] =>bif w&&Nat.ble S.fz p.r then rI S p fun t l=>match vh t el l with | some l=>κ l { S with gh:=cS S.gh p.r none } | none=>none else none
   | _=>none) else none
 | _=>none
def Lm (S:TS) (el:Ty) (v:Cl) (more:List el.D) (κ:List el.D→TS→Option ρ):Option ρ:=match v with
 | .em=>κ more S
 | .own p sz lo len w=>bif Nat.ble S.fz p.r&&Nat.beq el.width sz then match p.l with
   | [] =>rI S p fun t l=>match vh t el l with
     | some l=>bif w then κ (l++more) { S with gh:=cS S.gh p.r none }
       else ap (lo=0) (ap (l.length < len) none (κ (l.take len++more) { S with gh:=cS S.gh p.r none })) none
     | none=>none
   | [(i,j)] =>match o6 S.gh p.r with
     | some (some tr)=>match tr.hole with
       | none=>rI S p fun t l=>match vh t el l with
         | some l=>ap (lo=0) (ap (l.length < len) none (κ (l.take len++more) { S with gh:=cS S.gh p.r (some ⟨tr.t,tr.l,some (i,j)⟩) })) none
         | none=>none
       | some _=>none
     | _=>none
   | _=>none else none
 | _=>none
def SW (Θ:pc) (S:TS) (t:TypeId) (s x:V) (κ:V→TS→Option ρ):Option ρ:=match nx Θ t with
 | some ti=>match ti.ty,s,x with
   | .ls el, .v (.cl s), .v (.cl x)=>Q5 S el x fun more S1=>Lm S1 el s more fun l S2=>
     ap (l.length*ti.el≤2 ^ 40) (κ (.v (.cl (.own ⟨S2.gh.length,[]⟩ el.width 0 l.length true))) { S2 with gh:=S2.gh++ [some ⟨el,l,none⟩] }) none
   | _,_,_=>none
 | none=>none
def Vg:List Nat→List Nat→Bool
 | [],[] =>true
 | a::l,b::m=>bif Nat.beq a b then Vg l m else false
 | _,_=>false
def sw (el:Ty):TS→List V→Option (List el.D×TS)
 | S,[] =>some ([],S)
 | S, .v x::r=>match qf S.gh.length 0 S el.csh x.cells with
   | some (vs,S1)=>match el.unflat vs,sw el S1 r with
     | some y,some (ys,S2)=>some (y::ys,S2)
     | _,_=>none
   | none=>none
 | _,_=>none
def zn (Θ:pc) (Y:zm) (S:TS) (o:Oper) (κ:V→TS→Option ρ):Option ρ:=
 let e:=S.opd
 match o.op with
 | .alloc t=>match nx Θ t with | some ti=>κ (.v (.cl (.ptrB S.bx.length 0))) { S with bx:=S.bx++ [ti.ty.zvs.map cC] } | none=>none
 | .box _ x=>match e x with
   | .v (.cl .dead)=>none
   | .v (.cl c)=>κ (.v (.cl (.ptrB S.bx.length 0))) { S with bx:=S.bx++ [[c]] }
   | .v (.agg cs)=>κ (.v (.cl (.ptrB S.bx.length 0))) { S with bx:=S.bx++ [cs] }
   | _=>none
 | .store t a x=>ND Θ S t (e a) (e x) fun S'=>κ V.dead S'
 | .makeSlice t l c=>match nx Θ t with
   | some ti=>match ti.ty with
     | .ls el=>PJ (e l) fun n=>PJ (e c) fun m=>match el.unflat el.zcs with
       | some z=>ap (0≤n∧n=m∧n*ti.el≤2 ^ 40) (κ (.v (.cl (.own ⟨S.gh.length,[]⟩ el.width 0 n.toNat true))) { S with gh:=S.gh++ [some ⟨el,List.replicate n.toNat z,none⟩] }) none
       | none=>none
     | _=>none
   | none=>none
 | .buildSlice t len parts=>match nx Θ t with
   | some ti=>match ti.ty with
     | .ls el=>bif Nat.ble (len*el.width) 1048576&&Vg (parts.toList.map (·.1)) (List.range len) then (match sw el S (parts.toList.map fun x=>e x.2) with
       | some (l,S1)=>κ (.v (.cl (.own ⟨S1.gh.length,[]⟩ el.width 0 l.length true))) { S1 with gh:=S1.gh++ [some ⟨el,l,none⟩] }
       | none=>none) else none
     | _=>none
   | none=>none
 | .call { callee:= .builtin .append,args:=as,argTypes:=ts } =>match as.toList,ts.toList with
   | [s,x],[t,t'] =>bif Nat.beq t t' then SW Θ S t (e s) (e x) κ else none
   | _,_=>none
 | .call { callee:= .value f,args:=as,argTypes:=ts } =>OK Θ Y S f ts.toList as.toList κ
 | _=>E5 Θ S o κ
def vi (S:TS) (d:Option Tmp) (v:V) (κ:TS→Option ρ):Option ρ:=match d with
 | some t=>bif Nat.blt t S.nt then κ { S with env:=(t,v)::S.env } else none
 | none=>κ S
def OL (S:TS) (all:List Oper) (o:Oper) (κ:Bool→TS→Option ρ):Option ρ:=match o.guard with
 | none=>κ true S
 | some (j,want)=>match o6 all j with
   | some oj=>match oj.dst with
     | some d=>match gX S.env d with
       | .tup [] =>κ false S
       | _=>Li S (.tmp d) fun b S1=>κ (b==want) S1
     | none=>none
   | none=>none
noncomputable def Q6 {α:Type} (x y:α) (z:α):α:=open Classical in if x=y then x else z
def Q7 {α β:Type} (l:List α) (x y:β):β:=match l with | [] =>x | _::_=>y
def Em (o:Oper):Option (TypeId×Operand):=match o.op with
 | .binOp .eql t x (.const (.slice none 0 0)) _=>(match o.guard with | none=>some (t,x) | some _=>none)
 | _=>none
def Vh (Θ:pc) (t:TypeId):Bool:=match nx Θ t with | some ti=>(match ti.ty with | .ls _=>true | _=>false) | none=>false
def Ln (Y:zm) (S:TS) (o:Oper):Option (Nat×FuncId×List Cl×Nat×Nat×List TypeId×List Operand):=match o.op with
 | .call { callee:= .value f,args:=as,argTypes:=ts } =>(match o.guard with
   | some _=>none
   | none=>match as.toList,ts.toList with
     | x::xs,_::us=>(match S.opd x with
       | .v (.cl (.own ⟨r,[]⟩ sz _ _ true))=>(match S.opd f with
         | .v (.cl (.c (.sc (.func (.func g) _ _))))=>bif Nat.blt g iw&& !Nat.beq (Y.kd g) 0 then some (Y.kd g,g,[],r,sz,us,xs) else none
         | .v (.fn g caps)=>bif Nat.blt g iw&& !Nat.beq (Y.kd g) 0 then some (Y.kd g,g,caps,r,sz,us,xs) else none
         | _=>none)
       | _=>none)
     | _,_=>none)
 | _=>none
def NE:V→Bool
 | .v (.cl (.c (.sc _)))=>true
 | .tup [] =>true
 | _=>false
def Q8 (Θ:pc) (Y:zm) (S:TS) (k:Nat) (g:FuncId) (caps:List Cl) (r sz:Nat) (us:List TypeId) (xs:List Operand) (dst:Option Tmp) (κ:TS→Option ρ):Option ρ:=match cJ S.gh r with
 | some ⟨el,l,none⟩=>bif Nat.beq sz el.width then sT Θ { S with gh:=cS S.gh r none } us xs fun vs=>E7 (PL { S with gh:=cS S.gh r none } none) caps fun cs=>
   bif Nat.beq k 1 then Y (mB g) (.cl (.c (.ls el l)):: (vs++cs.map .cl)) ρ fun res out=>(match out with
    | [⟨t,l',none⟩] =>bif decide (t=el)&&NE res then ap (l'.length=l.length) (vi { S with gh:=cS S.gh r (some ⟨t,l',none⟩) } dst res κ) none else none
    | _=>none)
   else bif Nat.ble S.fz r then Y (E6 g) (.cl (.c (.ls el l)):: (vs++cs.map .cl)) ρ fun res out=>vi { S with gh:=cS S.gh r none++out.map some } dst (tP S.gh.length res) κ
   else none else none
 | _=>none
inductive NF where
 | nest (r i j sz lo len:Nat)
 | agg (cs:List Cl)
def Jn:V→Option NF
 | .v (.cl (.own ⟨r,[(i,j)]⟩ sz lo len _))=>some (.nest r i j sz lo len)
 | .v (.agg cs)=>some (.agg cs)
 | _=>none
def E8 (Y:zm) (S:TS) (o:Oper):Option (FuncId×List Cl×NF×List TypeId×List Operand):=match o.op with
 | .call { callee:= .value f,args:=as,argTypes:=ts } =>(match o.guard with
   | some _=>none
   | none=>match as.toList,ts.toList with
     | x::xs,_::us=>(match Jn (S.opd x) with
       | some a=>(match S.opd f with
         | .v (.cl (.c (.sc (.func (.func g) _ _))))=>bif Nat.blt g iw&&Nat.beq (Y.kd g) 1 then some (g,[],a,us,xs) else none
         | .v (.fn g caps)=>bif Nat.blt g iw&&Nat.beq (Y.kd g) 1 then some (g,caps,a,us,xs) else none
         | _=>none)
       | none=>none)
     | _,_=>none)
 | _=>none
def wB (S:TS):List Cl→Option (List C×List Nat)
 | [] =>some ([],[])
 | .c (.sc v)::cs=>(match wB S cs with | some (xs,L)=>some (.sc v::xs,L) | none=>none)
 | .own ⟨r,[]⟩ sz _ _ true::cs=>(match cJ S.gh r with
   | some ⟨el,l,none⟩=>bif Nat.beq sz el.width then (match wB S cs with | some (xs,L)=>some (.ls el l::xs,r::L) | none=>none) else none
   | _=>none)
 | _=>none
def Q9 (G:List (Option bJ)) (L:List Nat):List (Option bJ):=L.foldl (fun G r=>cS G r none) G
def E9 (S:TS):List Nat→List bJ→(TS→Option ρ)→Option ρ
 | [],[],κ=>κ S
 | r::L,⟨t,l',none⟩::out,κ=>(match cJ S.gh r with
   | some ⟨el,l,none⟩=>bif decide (t=el) then ap (l'.length=l.length) (E9 { S with gh:=cS S.gh r (some ⟨t,l',none⟩) } L out κ) none else none
   | _=>none)
 | _,_,_=>none
def Jo (Θ:pc) (Y:zm) (S:TS) (g:FuncId) (caps:List Cl) (a:NF) (us:List TypeId) (xs:List Operand) (dst:Option Tmp) (κ:TS→Option ρ):Option ρ:=match a with
 | .agg cs=>(match wB S cs with
   | some (ys,L)=>bif Ug L then sT Θ { S with gh:=Q9 S.gh L } us xs fun vs=>E7 (PL { S with gh:=Q9 S.gh L } none) caps fun ks=>
     Y (mB g) (.agg (ys.map .c):: (vs++ks.map .cl)) ρ fun res out=>bif NE res then E9 S L out fun S3=>vi S3 dst res κ else none else none
   | none=>none)
 | .nest r i j sz lo len=>(match cJ S.gh r with
   | some ⟨t,l,none⟩=>(l[i]?).bind fun y=>(match o6 (t.flat y) j with
     | some (.ls el v)=>bif Nat.beq sz el.width then ap (lo=0∧len=v.length) (sT Θ { S with gh:=cS S.gh r (some ⟨t,l,some (i,j)⟩) } us xs fun vs=>E7 (PL { S with gh:=cS S.gh r (some ⟨t,l,some (i,j)⟩) } none) caps fun ks=>
       Y (mB g) (.cl (.c (.ls el v)):: (vs++ks.map .cl)) ρ fun res out=>(match out with
         | [⟨t',v',none⟩] =>bif decide (t'=el)&&NE res then ap (v'.length=v.length) (match t.unflat (cS (t.flat y) j (.ls t' v')) with
           | some z=>vi { S with gh:=cS S.gh r (some ⟨t,l.set i z,none⟩) } dst res κ
           | none=>none) none else none
         | _=>none)) none else none
     | _=>none)
   | _=>none)
def Jp (S:TS) (o:Oper):Option (TypeId×Nat×Nat×Nat×Nat):=match o.op with
 | .call { callee:= .builtin .clear,args:=as,argTypes:=ts } =>(match o.guard with
   | some _=>none
   | none=>match as.toList,ts.toList with
     | [x],[t] =>(match S.opd x with
       | .v (.cl (.own ⟨r,[]⟩ sz lo len _))=>some (t,r,sz,lo,len)
       | _=>none)
     | _,_=>none)
 | _=>none
def NG (Θ:pc) (S:TS) (t:TypeId) (r sz lo len:Nat) (dst:Option Tmp) (κ:TS→Option ρ):Option ρ:=match nx Θ t with
 | some ti=>match cJ S.gh r with
   | some ⟨el,l,none⟩=>bif decide (ti.ty= .ls el)&&Nat.beq el.width 1&&Nat.beq sz 1&&el.flatB then (match el.unflat el.zcs with
     | some z=>ap (lo+len≤l.length) (vi { S with gh:=cS S.gh r (some ⟨el,l.take lo++List.replicate len z++l.drop (lo+len),none⟩) } dst (.tup []) κ) none
     | none=>none) else none
   | _=>none
 | none=>none
def Lo (b:Bool):V:= .v (.cl (.c (.sc (.bool b))))
noncomputable def De (Θ:pc) (Y:zm) (all:List Oper):List Oper→TS→(TS→Option ρ)→Option ρ
 | [],S,κ=>κ S
 | o::os,S,κ=>match Em o with
   | some (t,x)=>bif Vh Θ t then (match S.opd x with
     | .v (.cl (.c (.ls _ l)))=>Q7 l (Q6 (vi S o.dst (Lo true) fun S3=>De Θ Y all os S3 κ) (vi S o.dst (Lo false) fun S3=>De Θ Y all os S3 κ) none) (vi S o.dst (Lo false) fun S3=>De Θ Y all os S3 κ)
     | _=>none) else none
   | none=>match Jp S o with
   | some (t,r,sz,lo,len)=>NG Θ S t r sz lo len o.dst fun S3=>De Θ Y all os S3 κ
   | none=>match Ln Y S o with
   | some (k,g,caps,r,sz,us,xs)=>Q8 Θ Y S k g caps r sz us xs o.dst fun S3=>De Θ Y all os S3 κ
   | none=>match E8 Y S o with
   | some (g,caps,a,us,xs)=>Jo Θ Y S g caps a us xs o.dst fun S3=>De Θ Y all os S3 κ
   | none=>OL S all o fun b S1=>bif b then zn Θ Y S1 o fun v S2=>vi S2 o.dst v fun S3=>De Θ Y all os S3 κ else vi S1 o.dst (V.tup []) fun S3=>De Θ Y all os S3 κ
def gone:Nat→List (Option bJ)→List (Option bJ)→List Nat
 | n,some _::l,none::m=>n::gone (n+1) l m
 | n,_::l,_::m=>gone (n+1) l m
 | _,_,_=> []
def Ra (l:List (Option bJ)):List T:=l.map fun x=>match x with | some tr=>tr.tree | none=> .dd
def Bb (S S':TS):gW:=⟨S.gh.length,Ra (S'.gh.drop S.gh.length),gone 0 S.gh S'.gh⟩
def T6 (d:Nat) (o:Oper):Bool:=match o.dst with | some d'=> !(Nat.beq d d') | none=>true
def Vi (o:Oper) (os:List Oper):Bool:=match o.dst with | some d=>os.all (T6 d) | none=>false
def VZ (Θ:pc) (t:TypeId):Bool:=match nx Θ t with
 | some ti=>(match ti.ty with | .ls _=>true | _=>false)
 | none=>false
def Vj (Θ:pc) (o:Oper):Bool:=match o.op with
 | .buildSlice t _ _=>VZ Θ t
 | .call { callee:= .builtin .append,args:=_,argTypes:=ts } =>(match ts.toList with | t::_=>VZ Θ t | [] =>false)
 | _=>true
def Rb:V→Bool
 | .v (.cl (.own p _ _ _ _))=>(match p.l with | [] =>true | _=>false)
 | _=>true
def T7 (S:TS) (o:Oper):Bool:=match o.op with
 | .call { callee:= .builtin .append,args:=as,argTypes:=_ } =>(match as.toList with | s::_=>Rb (S.opd s) | [] =>true)
 | _=>true
def Rc (Θ:pc):List Oper→TS→(TS→Option ρ)→Option ρ
 | [],S,κ=>κ S
 | o::os,S,κ=>match o.op with
   | .alloc t=>match nx Θ t with | some ti=>Rc Θ os { S with bx:=S.bx++ [ti.ty.zvs.map cC] } κ | none=>none
   | _=>Rc Θ os S κ
def Lp (Θ:pc) (Y:zm) (all:List Oper):List Oper→TS→List gW→(TS→List gW→Option ρ)→Option ρ
 | [],S,ms,κ=>κ S ms
 | o::os,S,ms,κ=>bif az o then Lp Θ Y all os S (ms++ [⟨S.gh.length,[],[]⟩]) κ else bif dh o then (bif o.guard.isNone then vi S o.dst (V.v (.cl (.ptrB (S.bx.length - 1 - cU os) 0))) fun S3=>Lp Θ Y all os S3 (ms++ [⟨S.gh.length,[],[]⟩]) κ else none) else
    OL S all o fun b S1=>bif b then
     (bif jq o then (bif Vi o os&&Vj Θ o&&T7 S1 o then zn Θ Y S1 o fun v S2=>vi S2 o.dst v fun S3=>Lp Θ Y all os S3 (ms++ [Bb S1 S2]) κ else none)
     else E5 Θ S1 o fun v S2=>vi S2 o.dst v fun S3=>Lp Θ Y all os S3 (ms++ [⟨S1.gh.length,[],[]⟩]) κ)
     else vi S1 o.dst (V.tup []) fun S3=>Lp Θ Y all os S3 (ms++ [⟨S1.gh.length,[],[]⟩]) κ
def Rd (Θ:pc) (Y:zm):List Oper→TS→(TS→Option ρ)→Option ρ
 | [],S,κ=>κ S
 | o::os,S,κ=>bif az o then (bif o.guard.isNone&&o.dst.isNone then zn Θ Y S o fun _ S1=>Rd Θ Y os S1 κ else none) else Rd Θ Y os S κ
def Re (Θ:pc) (t:TypeId):Bool:=match nx Θ t with | some ti=>ti.ty.flatB | none=>false
def Uu (Θ:pc) (Y:zm) (ops:List Oper) (S:TS) (κ:TS→Option ρ):Option ρ:=
 Rc Θ ops S fun S0=>Lp Θ Y ops ops S0 [] fun SV ms=>bif Nf (Re Θ) ops (kv ops) S0.st ms SV.st then Rd Θ Y ops SV κ else none
def ca:Code→Nat
 | .region id _ _=>id
 | .seq a _=>ca a
 | .block _ c=>ca c
 | .loop c=>ca c
 | _=>0
abbrev o7:=Nat→TS→(ρ:Type)→(X→TS→Option ρ)→Option ρ
noncomputable def ei (Θ:pc) (Y:zm) (Λ:o7):Code→TS→(X→TS→Option ρ)→Option ρ
 | .skip,S,κ=>κ .nor S
 | .region _ ops false,S,κ=>De Θ Y ops.toList ops.toList S (κ .nor)
 | .region _ ops true,S,κ=>Uu Θ Y ops.toList S (κ .nor)
 | .seq a b,S,κ=>ei Θ Y Λ a S fun x S1=>match x with | .nor=>ei Θ Y Λ b S1 κ | x=>κ x S1
 | .cond c a b,S,κ=>Li S c fun t S1=>bif t then ei Θ Y Λ a S1 κ else ei Θ Y Λ b S1 κ
 | .block id c,S,κ=>ei Θ Y Λ c S fun x S1=>match x with | .ext i=>bif Nat.beq i id then κ .nor S1 else κ (.ext i) S1 | x=>κ x S1
 | .loop c,S,κ=>Λ (ca c) S ρ κ
 | .exit id,S,κ=>κ (.ext id) S
 | .ret,S,κ=>κ .ret S
 | _,_,_=>none
def SX (S:TS) (gs:List bJ) (et:Option Ty) (c:Cl) (κ:Cl→List bJ→TS→Option ρ):Option ρ:=match c,et with
 | .c (.sc v),_=>κ (.c (.sc v)) gs S
 | .em,some t=>κ (.own ⟨gs.length,[]⟩ t.width 0 0 true) (gs++ [⟨t,[],none⟩]) S
 | .own p sz lo len w,some t'=>match p.l with
   | [] =>bif Nat.ble S.fz p.r&&Nat.beq t'.width sz then rI S p fun t l=>bif Nat.beq t.width sz then
     (bif w then κ (.own ⟨gs.length,[]⟩ sz 0 l.length true) (gs++ [⟨t,l,none⟩]) { S with gh:=cS S.gh p.r none }
     else ap (lo=0∧len≤l.length) (κ (.own ⟨gs.length,[]⟩ sz 0 (l.take len).length true) (gs++ [⟨t,l.take len,none⟩]) { S with gh:=cS S.gh p.r none }) none) else none
     else none
   | _=>none
 | _,_=>none
def OM:TS→List bJ→List (Option Ty)→List Cl→(List Cl→List bJ→TS→Option ρ)→Option ρ
 | S,gs,et::ets,c::cs,κ=>SX S gs et c fun c' gs' S'=>OM S' gs' ets cs fun cs' gs'' S''=>κ (c'::cs') gs'' S''
 | S,gs,[],[],κ=>κ [] gs S
 | _,_,_,_,_=>none
def Uv (Θ:pc) (S:TS) (gs:List bJ) (t:TypeId) (v:V) (κ:V1→List bJ→TS→Option ρ):Option ρ:=match nx Θ t with
 | none=>none
 | some ti=>match v with
   | .v (.agg cs)=>OM S gs ti.ty.csh cs fun cs' gs' S'=>κ (.agg cs') gs' S'
   | .v (.cl c)=>SX S gs (ti.ty.csh.headD none) c fun c' gs' S'=>κ (.cl c') gs' S'
   | _=>none
def sU (Θ:pc):TS→List bJ→List (TypeId×V)→(List V1→List bJ→Option ρ)→Option ρ
 | _,gs,[],κ=>κ [] gs
 | S,gs,(t,v)::r,κ=>Uv Θ S gs t v fun v' gs' S'=>sU Θ S' gs' r fun vs gs''=>κ (v'::vs) gs''
def Df (Θ:pc) (S:TS):List ResultVar→List TypeId→(List (TypeId×V)→Option ρ)→Option ρ
 | .tmp a::rs,t::ts,κ=>Df Θ S rs ts fun l=>κ ((t,gX S.env a)::l)
 | .cell a t'::rs,t::ts,κ=>Lj Θ S t' (gX S.env a) fun v=>Df Θ S rs ts fun l=>κ ((t,v)::l)
 | [],[],κ=>κ []
 | _,_,_=>none
def wU:List V1→V
 | [v] => .v v
 | vs=> .tup vs
def ln:Nat→List V1→List (Nat×V)
 | _,[] => []
 | n,v::l=>(n, .v v)::ln (n+1) l
noncomputable def Wd (Θ:pc) (Y:zm) (Λ:o7) (fn:Func) (args:List V1) (κ:V→List bJ→Option ρ):Option ρ:=match fn.body with
 | none=>none
 | some c=>ei Θ Y Λ c { env:=ln 0 args,bx:= [],gh:= [],fz:=0,nt:=args.length+(fn.ntmps - args.length) } fun x S=>match x with
   | .ext _=>none
   | _=>Df Θ S fn.results.toList fn.resultTypes.toList fun rs=>sU Θ S [] rs fun vs gs=>κ (wU vs) gs
def Jq:List Cl→Option (List C)
 | [] =>some []
 | .c x::l=>match Jq l with | some r=>some (x::r) | none=>none
 | _=>none
def un (t:Ty) (a:V1) (κ:t.D→Option ρ):Option ρ:=match a with
 | .agg cs=>bif t.ag then (match Jq cs with
   | some xs=>(match t.unflat xs with | some x=>κ x | none=>none)
   | none=>none) else none
 | .cl (.c y)=>bif t.ag then none else (match t.unflat [y] with | some x=>κ x | none=>none)
 | _=>none
def uV:List C→Nat→List Cl
 | [],_=> []
 | .sc v::r,n=> .c (.sc v)::uV r n
 | .ls t l::r,n=> .own ⟨n,[]⟩ t.width 0 l.length true::uV r (n+1)
def mD:List C→List bJ
 | [] => []
 | .sc _::r=>mD r
 | .ls t l::r=>⟨t,l,none⟩::mD r
def Fa (t:Ty) (x:t.D) (n:Nat):V1:=bif t.ag then .agg (uV (t.flat x) n) else match uV (t.flat x) n with | [c] => .cl c | _=> .cl .dead
def xb:Nat→List ((t:Ty)×t.D)→List V1
 | _,[] => []
 | n,⟨t,x⟩::r=>Fa t x n::xb (n+(mD (t.flat x)).length) r
def xd:List ((t:Ty)×t.D)→List bJ
 | [] => []
 | ⟨t,x⟩::r=>mD (t.flat x)++xd r
def ret (l:List ((t:Ty)×t.D)) (κ:V→List bJ→Option ρ):Option ρ:=κ (wU (xb 0 l)) (xd l)
end
abbrev bn:=List V1→(ρ:Type)→(V→List bJ→Option ρ)→Option ρ
def Uw:List (Nat×bn)→FuncId→List V1→(ρ:Type)→(V→List bJ→Option ρ)→Option ρ
 | [],_,_,_,_=>none
 | (g,e)::l,f,as,ρ,κ=>bif Nat.beq g f then e as ρ κ else Uw l f as ρ κ
def Ux:List (Nat×bn)→Nat→Bool
 | [],_=>false
 | (g,_)::l,f=>bif Nat.beq g f then true else Ux l f
def aJ (l:List (Nat×bn)):zm:=⟨Uw l,fun g=>bif Ux l (mB g) then 1 else bif Ux l (E6 g) then 2 else 0⟩
noncomputable def SY {ρ:Type} (Θ:pc) (Y:zm) (Λ:o7) (fn:Func) (m:Nat) (el:Ty) (l:List el.D) (args:List V1) (κ:V→List bJ→Option ρ):Option ρ:=match fn.body with
 | none=>none
 | some c=>ei Θ Y Λ c { env:=ln 0 (.cl (.own ⟨0,[]⟩ el.width 0 l.length true)::args),bx:= [],gh:= [some ⟨el,l,none⟩],fz:=m,nt:=(args.length+1)+(fn.ntmps - (args.length+1)) } fun x S=>match x with
   | .ext _=>none
   | _=>Df Θ S fn.results.toList fn.resultTypes.toList fun rs=>bif Nat.beq m 0 then sU Θ S [] rs fun vs gs=>κ (wU vs) gs else match cJ S.gh 0 with
     | some ⟨t,l',none⟩=>sU Θ S [⟨t,l',none⟩] rs fun vs gs=>κ (wU vs) gs
     | _=>none
def wD (S:TS):Nat→Nat→Option (List bJ)
 | _,0=>some []
 | r,n+1=>(match cJ S.gh r with
   | some ⟨t,l,none⟩=>(match wD S (r+1) n with | some ts=>some (⟨t,l,none⟩::ts) | none=>none)
   | _=>none)
noncomputable def Uy {ρ:Type} (Θ:pc) (Y:zm) (Λ:o7) (fn:Func) (t:Ty) (x:t.D) (args:List V1) (κ:V→List bJ→Option ρ):Option ρ:=match fn.body with
 | none=>none
 | some c=>ei Θ Y Λ c { env:=ln 0 (Fa t x 0::args),bx:= [],gh:=(mD (t.flat x)).map some,fz:=(mD (t.flat x)).length,nt:=(args.length+1)+(fn.ntmps - (args.length+1)) } fun y S=>match y with
   | .ext _=>none
   | _=>Df Θ S fn.results.toList fn.resultTypes.toList fun rs=>match wD S 0 (mD (t.flat x)).length with
     | some gs=>sU Θ S gs rs fun vs gs'=>κ (wU vs) gs'
     | none=>none
def OO (t:Ty) (x:t.D):V1:=bif t.ag then .agg ((t.flat x).map .c) else match (t.flat x).map Cl.c with | [c] => .cl c | _=> .cl .dead
end Go.Proofs.YtkcgfceffffmoaaGreat.En
namespace Go.Proofs.YtkcgfceffffmoaaGreat.En
open Go
theorem dk {α:Type}: ∀ (l:List α) (n:Nat),o6 l n=l[n]?
 | [],n=>by simp [o6]
 | a::l,0=>by simp [o6]
 | a::l,n+1=>by show o6 l n=_; rw [dk l]; simp
theorem fi {α:Type}: ∀ (l:List α) (n:Nat) (x:α),cS l n x=l.set n x
 | [],n,x=>by simp [cS]
 | a::l,0,x=>by simp [cS]
 | a::l,n+1,x=>by show a::cS l n x=_; rw [fi l]; simp
theorem Lq: ∀ {l:List (Nat×V)} {t:Nat},gX l t=V.dead∨(t,gX l t)∈l
 | [],t=> .inl rfl
 | (u,v)::l,t=>by
   simp only [gX]
   cases h:Nat.beq u t with
   | true=>
     have :u=t:=Nat.eq_of_beq_eq_true h
     subst this
     exact .inr (List.mem_cons_self)
   | false=>
     rcases Lq (l:=l) (t:=t) with h' | h'
     ·exact .inl h'
     ·exact .inr (List.mem_cons_of_mem _ h')
def Cl.ok (G:List (Option bJ)):Cl→Prop
 | .own p _ lo len w=>p.r < G.length∧(w=true→p.l= [] ∧lo=0∧ ∀ tr,cJ G p.r=some tr→len=tr.l.length)
 | .ptrT p _ _ _=>p.r < G.length
 | _=>True
def V1.ok (G:List (Option bJ)):V1→Prop
 | .cl c=>c.ok G
 | .agg cs=> ∀ c∈cs,c.ok G
 | .fn _ cs=> ∀ c∈cs,c.ok G
def V.ok (G:List (Option bJ)):V→Prop
 | .v x=>x.ok G
 | .tup l=> ∀ x∈l,x.ok G
structure TS.ok (S:TS):Prop where
 env: ∀ x∈S.env,x.2.ok S.gh
 bx: ∀ cs∈S.bx,∀ c∈cs,c.ok S.gh
def gK (G G':List (Option bJ)):Prop:=G.length≤G'.length∧ ∀ r tr',r < G.length→cJ G' r=some tr'→ ∃ tr,cJ G r=some tr∧tr.l.length=tr'.l.length
theorem gK.refl (G:List (Option bJ)):gK G G:=⟨Nat.le_refl _,fun _ tr _ h=>⟨tr,h,rfl⟩⟩
theorem gK.trans {G H K:List (Option bJ)} (h:gK G H) (k:gK H K):gK G K:=⟨Nat.le_trans h.1 k.1,fun r tr hr hK=>by
 obtain⟨t1,h1,h2⟩:=k.2 r tr (Nat.lt_of_lt_of_le hr h.1) hK
 obtain⟨t2,h3,h4⟩:=h.2 r t1 hr h1
 exact⟨t2,h3,h4.trans h2⟩⟩
theorem Cl.ok_mono {G G':List (Option bJ)} (h:gK G G') {c:Cl} (hc:c.ok G):c.ok G':=by
 cases c with
 | own p sz lo len w=>
   obtain⟨h1,h2⟩:=hc
   refine⟨Nat.lt_of_lt_of_le h1 h.1,fun hw=> ?_⟩
   obtain⟨a,b,c⟩:=h2 hw
   refine⟨a,b,fun tr htr=> ?_⟩
   obtain⟨tr0,k1,k2⟩:=h.2 _ tr h1 htr
   rw [c tr0 k1,k2]
 | ptrT p sz i j=>exact Nat.lt_of_lt_of_le hc h.1
 | _=>trivial
theorem V1.ok_mono {G G':List (Option bJ)} (h:gK G G') {v:V1} (hv:v.ok G):v.ok G':=by
 cases v with
 | cl c=>exact Cl.ok_mono h hv
 | agg cs=>exact fun c hc=>Cl.ok_mono h (hv c hc)
 | fn f cs=>exact fun c hc=>Cl.ok_mono h (hv c hc)
theorem V.ok_mono {G G':List (Option bJ)} (h:gK G G') {v:V} (hv:v.ok G):v.ok G':=by
 cases v with
 | v x=>exact V1.ok_mono h hv
 | tup l=>exact fun x hx=>V1.ok_mono h (hv x hx)
theorem V.ok_dead (G:List (Option bJ)):V.dead.ok G:=trivial
theorem V.ok_sc (G:List (Option bJ)) (v:Value): (V.sc v).ok G:=trivial
theorem Eo {S:TS} (hS:S.ok) (t:Nat): (gX S.env t).ok S.gh:=by
 rcases Lq (l:=S.env) (t:=t) with h | h
 ·rw [h]; trivial
 ·exact hS.env _ h
theorem qg (v:Value): (cC v).av=Eh v:=by
 unfold cC Eh
 cases h:qp v with
 | true=>rfl
 | false=>
   simp only [cond_false,Bool.false_eq_true,if_false]
   split
   ·rfl
   ·split
    ·exact absurd rfl ‹_›
    ·rfl
theorem Vk (v:Value): (cV v).av=GS v:=by
 cases v with
 | agg cs=>
   simp only [cV,GS]
   cases h:cs.toList.all Value.oneCell' with
   | true=>
     simp only [cond_true,if_true]
     simp only [V.av,V1.av,List.map_map]
     congr 1
     exact List.map_congr_left fun x _=>qg x
   | false=>rfl
 | bool b=>exact qg (.bool b)
 | int k n=>exact qg (.int k n)
 | float k n=>exact qg (.float k n)
 | complex k n m=>exact qg (.complex k n m)
 | string x=>exact qg (.string x)
 | pointer x=>exact qg (.pointer x)
 | slice x y z=>exact qg (.slice x y z)
 | map x=>exact qg (.map x)
 | chan x=>exact qg (.chan x)
 | func x y z=>exact qg (.func x y z)
 | nilFunc=>exact qg .nilFunc
 | iface x y=>exact qg (.iface x y)
 | nilIface=>exact qg .nilIface
 | tuple x=>exact qg (.tuple x)
theorem OP (G:List (Option bJ)) (v:Value): (cC v).ok G:=by
 unfold cC
 cases qp v with
 | true=>trivial
 | false=>simp only [cond_false]; split <;> trivial
theorem Vl (G:List (Option bJ)) (v:Value): (cV v).ok G:=by
 unfold cV
 split
 ·rename_i cs
  cases cs.toList.all Value.oneCell' with
  | true=>intro c hc; simp only [List.mem_map] at hc; obtain⟨x,_,rfl⟩:=hc; exact OP _ _
  | false=>trivial
 ·exact OP _ _
theorem bc {S:TS} (x:Operand):opd S.st x=(S.opd x).av:=by
 cases x with
 | tmp t=>rfl
 | const v=>exact (Vk v).symm
 | func f=>rfl
 | global g=>rfl
theorem lp {S:TS} (hS:S.ok) (x:Operand): (S.opd x).ok S.gh:=by
 cases x with
 | tmp t=>exact Eo hS t
 | const v=>exact Vl _ _
 | func f=>trivial
 | global g=>trivial
section
variable {ρ:Type}
theorem SZ {α:Type} {b:Bool} {x y:Option α} {r:α} (h:br b x y=some r): (b=true∧x=some r)∨(b=false∧y=some r):=by
 cases b with
 | true=>exact .inl ⟨rfl,h⟩
 | false=>exact .inr ⟨rfl,h⟩
theorem da {α:Type} {c:Prop} [Decidable c] {x:Option α} {r:α} (h:ap c x none=some r):c∧x=some r:=by
 unfold ap at h
 split at h
 ·exact⟨‹_›,h⟩
 ·cases h
theorem Bc {α:Type} {c:Prop} [Decidable c] {x:Option α} {r:α} (h:ap c none x=some r): ¬ c∧x=some r:=by
 unfold ap at h
 split at h
 ·cases h
 ·exact⟨‹_›,h⟩
theorem ar {α:Type} {c:Bool} {x:Option α} {r:α} (h: (bif c then x else none)=some r):c=true∧x=some r:=by
 cases c with
 | true=>exact⟨rfl,h⟩
 | false=>cases h
theorem Lr {S:TS} {t:Nat} {b:Bool} (h:gX S.env t=V.sc (.bool b)): ({ S with env:=(t,V.sc (.bool b))::S.env }:TS).st=S.st:=by
 unfold TS.st
 simp only
 congr 1
 funext u
 simp only [gX]
 cases hb:Nat.beq t u with
 | true=>
   have :t=u:=Nat.eq_of_beq_eq_true hb
   subst this
   rw [h]
   rfl
 | false=>rfl
theorem Ls {S:TS} (hS:S.ok) (t:Nat) (b:Bool): ({ S with env:=(t,V.sc (.bool b))::S.env }:TS).ok:=
 ⟨fun x hx=>by
  simp only [List.mem_cons] at hx
  rcases hx with rfl | hx
  ·trivial
  ·exact hS.env x hx,hS.bx⟩
theorem Fb {S:TS} (hS:S.ok) {x:Operand} {κ:Bool→TS→Option ρ} {r:ρ} (h:Li S x κ=some r):
  ∃ b S',opd S.st x= .sc (.bool b)∧S'.st=S.st∧S'.ok∧S'.gh=S.gh∧κ b S'=some r:=by
 unfold Li at h
 split at h
 ·rename_i t
  split at h
  ·rename_i b hb
   rcases SZ h with ⟨rfl,h⟩ | ⟨rfl,h⟩
   ·exact⟨true,_,by show (gX S.env t).av=_; rw [hb]; rfl,Lr hb,Ls hS _ _,rfl,h⟩
   ·exact⟨false,_,by show (gX S.env t).av=_; rw [hb]; rfl,Lr hb,Ls hS _ _,rfl,h⟩
  ·cases h
 ·rename_i b
  exact⟨b,S,rfl,rfl,hS,rfl,h⟩
 ·cases h
theorem Ep {v:V} {κ:Int→Option ρ} {r:ρ} (h:PJ v κ=some r): ∃ n,IY v.av=some n∧κ n=some r:=by
 unfold PJ at h
 split at h
 ·exact⟨_,rfl,h⟩
 ·cases h
theorem bJ.look {G:List (Option bJ)} {r:Nat} {tr:bJ} (h:o6 G r=some (some tr)):cJ G r=some tr:=by
 unfold cJ
 rw [h]
 rfl
theorem eC {S:TS} {p:bQ} {κ: (t:Ty)→List t.D→Option ρ} {r:ρ} (h:rI S p κ=some r):
  ∃ (t:Ty) (l:List t.D),S.st.look p= .sl t.width (l.map t.row)∧(p.l= [] →cJ S.gh p.r=some ⟨t,l,none⟩)∧κ t l=some r:=by
 unfold rI at h
 split at h
 ·rename_i tr htr
  have hg:=bJ.look htr
  split at h
  ·rename_i hh
   obtain⟨t,l,hole⟩:=tr
   simp only at hh
   subst hh
   split at h
   ·rename_i hp
    refine⟨t,l,?_,fun _=>hg,h⟩
    unfold St.look
    have :S.st.gh p.r=some (.sl t.width (l.map t.row)):=by show (cJ S.gh p.r).map bJ.tree=_; rw [hg]; rfl
    rw [this,hp]
    rfl
   ·rename_i i j hp
    simp only [Option.bind_eq_some_iff] at h
    obtain⟨x,hx,h⟩:=h
    split at h
    ·rename_i t' l' hj
     refine⟨t',l',?_,(fun h0=>by rw [hp] at h0; cases h0),h⟩
     unfold St.look
     have :S.st.gh p.r=some (.sl t.width (l.map t.row)):=by show (cJ S.gh p.r).map bJ.tree=_; rw [hg]; rfl
     rw [this,hp]
     simp only [T.go,T.cell]
     have e1: (l.map t.row).getD i [] =t.row x:=by simp [List.getD_eq_getElem?_getD,hx]
     rw [e1,t.row_flat]
     rw [dk] at hj
     simp [List.getD_eq_getElem?_getD,hj,C.tree]
    ·cases h
   ·cases h
  ·cases h
 ·cases h
end
end Go.Proofs.YtkcgfceffffmoaaGreat.En
namespace Go.Proofs.YtkcgfceffffmoaaGreat.En
open Go
def Ty.shs (t:Ty):List Nat:=t.csh.map fun | some e=>e.width | none=>0
structure TI.ok (P:Program) (t:TypeId) (ti:TI):Prop where
 ag:GR P t=some ti.ty.ag
 cells:P.cellsOf t=ti.ty.width
 sh:o8 P 9 t=ti.ty.shs
 ze:AZ P t=some ti.ty.zvs
 fd: ∀ k,QD P t k=o6 ti.fds k
 pl:ti.ty.ag=true→Va P t=some (ti.fds.map fun x=>(x.1,x.2.1))
 el: ∀ e,ti.ty= .ls e→ ∃ el,yX P t=some el∧P.cellsOf el=e.width∧P.bytesOf el=ti.el∧0 < ti.el∧o8 P 9 el=e.shs∧AZ P el=some e.zvs
 bool:ti.ty= .b→P.underlying t=some .bool
 gu:ti.ty.ag=true→ti.ty.flatB=true→P.eqGuardType P.depth t=false
 eq:ti.ty.ag=true→ ∀ (a b:List Cl) (r:Bool) (xs ys:List Value),lc ti.ty.zvs a=true→lc ti.ty.zvs b=true→wz a b=some r→a=xs.map (fun x=> .c (.sc x))→b=ys.map (fun x=> .c (.sc x))→bz P (Op.equal t (.agg xs.toArray) (.agg ys.toArray))=some r
 str:IX P t=(match ti.ty with | .s=>true | _=>false)
 int: ∀ k,ti.ty= .i k→P.underlying t=some (.int k)
def dM (P:Program) (Θ:pc):Prop:= ∀ t ti,nx Θ t=some ti→ti.ok P t
theorem Ty.width_pos (t:Ty):0 < t.width:=by
 cases t with
 | st n=>cases n <;> decide
 | _=>exact Nat.one_pos
theorem C.ro_tree (c:C):T.ro c.tree=c.av:=by cases c <;> rfl
theorem C.own_tree (p:bQ) (i m:Nat) (c:C):QG p i m c.tree=(NB p i m c).av:=by
 cases c with
 | sc v=>rfl
 | ls t l=>simp [QG,C.tree,NB,Cl.av]
theorem Bd {α β:Type} (f:Nat→α→β): ∀ (j:Nat) (l:List α) (k:Nat),(Ba f j l)[k]? =(l[k]?).map (f (j+k))
 | j,[],k=>by simp [Ba]
 | j,a::l,0=>by simp [Ba]
 | j,a::l,k+1=>by simp only [Ba,List.getElem?_cons_succ]; rw [Bd f (j+1) l k]; congr 2; omega
section
variable {ρ:Type} {P:Program} {Θ:pc} {S:TS}
theorem kX {p:bQ} {sz:Nat} {rows:List (List T)} (h:S.st.look p= .sl sz rows):S.st.rows p sz=some rows:=by
 unfold St.rows
 rw [h]
 simp
theorem PM (hS:S.ok) {n:Nat} {v:Cl} (hv:v.ok S.gh) {κ:List Cl→Option ρ} {r:ρ} (h:NC S n v κ=some r):
  ∃ cs:List Cl,cF S.st n v.av=some (cs.map Cl.av)∧(∀ c∈cs,c.ok S.gh)∧κ cs=some r:=by
 unfold NC at h
 split at h
 ·rename_i b j
  split at h
  ·rename_i cs hcs
   obtain⟨h1,h⟩:=ar h
   have h1:j+n≤cs.length:=Nat.le_of_ble_eq_true h1
   refine⟨_,?_,fun c hc=> ?_,h⟩
   ·simp only [Cl.av,cF,TS.st,hcs,Option.map_some,Option.bind_some,List.length_map]
    rw [if_pos h1]
    simp [List.map_take,List.map_drop]
   ·rw [dk] at hcs
    exact hS.bx cs (List.mem_of_getElem? hcs) c (List.mem_of_mem_drop (List.mem_of_mem_take hc))
  ·cases h
 ·rename_i cells
  obtain⟨h1,h⟩:=ar h
  have h1:n≤cells.length:=Nat.le_of_ble_eq_true h1
  refine⟨_,?_,fun c hc=> ?_,h⟩
  ·simp only [Cl.av,cF,List.length_map]
   rw [if_pos h1]
   congr 1
   rw [←List.map_take,List.map_map,List.map_map]
   exact List.map_congr_left fun c _=>C.ro_tree c
  ·obtain⟨x,_,rfl⟩:=List.mem_map.1 hc
   trivial
 ·rename_i p sz i j
  obtain⟨t,l,h1,_,h5⟩:=eC h
  obtain⟨h2,h6⟩:=ar h5
  clear h h5
  simp only [Bool.and_eq_true] at h2
  have h3:t.width=sz:=Nat.eq_of_beq_eq_true h2.1
  have h4:j+n≤sz:=Nat.le_of_ble_eq_true h2.2
  subst h3
  obtain⟨x,hx,h⟩:=Option.bind_eq_some_iff.1 h6
  have hil:i < l.length:=(List.getElem?_eq_some_iff.1 hx).1
  have hfl: (t.flat x).length=t.width:=t.flat_length x
  refine⟨_,?_,fun c hc=> ?_,h⟩
  ·have e1: (l.map t.row).getD i [] =t.row x:=by simp [List.getD_eq_getElem?_getD,hx]
   simp only [Cl.av,cF,kX h1]
   rw [e1,if_pos ⟨by simpa using hil,by rw [t.row_length]; exact h4⟩]
   congr 1
   apply List.ext_getElem?
   intro k
   rw [List.getElem?_map,List.getElem?_map,Bd]
   by_cases hk:k < n
   ·have hjk:j+k < (t.flat x).length:=by omega
    rw [List.getElem?_range hk,List.getElem?_take,if_pos hk,List.getElem?_drop,List.getElem?_eq_getElem hjk]
    simp only [Option.map_some]
    rw [t.row_flat,List.getD_eq_getElem?_getD,List.getElem?_map,List.getElem?_eq_getElem hjk]
    simp only [Option.map_some,Option.getD_some]
    rw [C.own_tree]
   ·rw [List.getElem?_take,if_neg hk,List.getElem?_eq_none (by simp; omega)]
    rfl
  ·obtain⟨k,hk⟩:=List.getElem?_of_mem hc
   rw [Bd] at hk
   simp only [Option.map_eq_some_iff] at hk
   obtain⟨y,_,rfl⟩:=hk
   cases y with
   | sc v=>trivial
   | ls t' l'=>exact⟨hv,fun h=>by cases h⟩
 ·cases h
theorem Rf {G:List (Option bJ)} {ag:Bool} {cs:List Cl} (hcs: ∀ c∈cs,c.ok G) {κ:V→Option ρ} {r:ρ} (h:VY ag cs κ=some r): ∃ v,T0 ag (cs.map Cl.av)=some v.av∧v.ok G∧κ v=some r:=by
 unfold VY at h
 cases ag with
 | true=>refine⟨_,rfl,?_,h⟩; exact hcs
 | false=>
   simp only [cond_false] at h
   split at h
   ·rename_i c
    refine⟨_,rfl,?_,h⟩; exact hcs c (by simp)
   ·cases h
theorem Lt (hΘ:dM P Θ) (hS:S.ok) {t:TypeId} {v:V} (hv:v.ok S.gh) {κ:V→Option ρ} {r:ρ} (h:Lj Θ S t v κ=some r):
  ∃ u,load P S.st t v.av=some u.av∧u.ok S.gh∧κ u=some r:=by
 unfold Lj at h
 split at h
 ·rename_i ti hti
  have hok:=hΘ _ _ hti
  split at h
  ·rename_i a
   obtain⟨cs,h1,h2,h⟩:=PM hS hv h
   obtain⟨u,h3,h4,h⟩:=Rf h2 h
   refine⟨u,?_,h4,h⟩
   unfold load
   rw [hok.ag,hok.cells]
   simp only [Option.bind_some,V.av,V1.av,h1]
   exact h3
  ·cases h
 ·cases h
theorem S4 {n:Nat} {i:Int} {v:Cl} (hv:v.ok S.gh) {κ:Cl→Option ρ} {r:ρ} (h:Uq n i S v κ=some r): ∃ c,yZ n i v.av=some c.av∧c.ok S.gh∧κ c=some r:=by
 unfold Uq at h
 split at h
 ·rename_i t l
  obtain⟨h1,h⟩:=ar h
  have h1:t.width=n:=Nat.eq_of_beq_eq_true h1
  obtain⟨h2,h⟩:=da h
  obtain⟨x,hx,h⟩:=Option.bind_eq_some_iff.1 h
  have hil:=(List.getElem?_eq_some_iff.1 hx).1
  refine⟨_,?_,?_,h⟩
  rotate_left
  ·trivial
  simp only [Cl.av,C.av,yZ,List.length_map]
  rw [if_pos ⟨h2,by omega,h1⟩]
  congr 1
  simp [List.getD_eq_getElem?_getD,hx,t.row_flat]
 ·rename_i p sz lo len
  obtain⟨h1,h⟩:=ar h
  have h1:sz=n:=Nat.eq_of_beq_eq_true h1
  obtain⟨t,l,h2,h3,h⟩:=eC h
  obtain⟨h4,h⟩:=da h
  obtain⟨h5,h6⟩:=hv
  obtain⟨h7,h8,h9⟩:=h6 rfl
  have h10:=h9 _ (h3 h7)
  simp only at h10
  refine⟨_,?_,?_,h⟩
  rotate_left
  ·exact h5
  simp only [Cl.av,yZ]
  rw [if_pos ⟨h4.1,by omega,h1⟩,h8,Nat.zero_add]
 ·rename_i p sz lo len
  obtain⟨h1,h⟩:=ar h
  have h1:sz=n:=Nat.eq_of_beq_eq_true h1
  obtain⟨h4,h⟩:=da h
  refine⟨_,?_,?_,h⟩
  rotate_left
  ·exact hv.1
  simp only [Cl.av,yZ]
  rw [if_pos ⟨h4.1,h4.2,h1⟩]
 ·cases h
theorem OQ {v:Cl} (hv:v.ok S.gh) {κ:Int→Option ρ} {r:ρ} (h:ST S v κ=some r): ∃ n,ug v.av=some n∧κ n=some r:=by
 unfold ST at h
 split at h
 ·exact⟨_,by simp [Cl.av,C.av,ug],h⟩
 ·obtain⟨t,l,h2,h3,h⟩:=eC h
  obtain⟨h5,h6⟩:=hv
  obtain⟨h7,h8,h9⟩:=h6 rfl
  have h10:=h9 _ (h3 h7)
  simp only at h10
  exact⟨_,by simp [Cl.av,ug,h10],h⟩
 ·exact⟨_,rfl,h⟩
 ·exact⟨_,rfl,h⟩
 ·cases h
theorem S5 {n:Nat} {lo hi:Int} {v:Cl} (hv:v.ok S.gh) {κ:Cl→Option ρ} {r:ρ} (h:Ur n lo hi v κ=some r): ∃ c,T1 n lo hi v.av=some c.av∧c.ok S.gh∧κ c=some r:=by
 unfold Ur at h
 split at h
 ·obtain⟨h1,h⟩:=da h
  exact⟨.em,by simp [Cl.av,T1,h1],trivial,h⟩
 ·rename_i t l
  obtain⟨h1,h⟩:=ar h
  have h1:t.width=n:=Nat.eq_of_beq_eq_true h1
  obtain⟨h2,h⟩:=da h
  refine⟨_,?_,?_,h⟩
  rotate_left
  ·trivial
  simp only [Cl.av,C.av,T1,List.length_map]
  rw [if_pos ⟨h1,h2⟩]
  simp [List.map_take,List.map_drop]
 ·rename_i p sz l len w
  obtain⟨h1,h⟩:=ar h
  have h1:sz=n:=Nat.eq_of_beq_eq_true h1
  obtain⟨h2,h⟩:=da h
  refine⟨_,?_,?_,h⟩
  rotate_left
  ·exact⟨hv.1,fun h=>by cases h⟩
  simp only [Cl.av,T1]
  rw [if_pos ⟨h1,h2⟩]
 ·cases h
theorem Ig {d:Int} {x:Option Operand} {κ:Int→Option ρ} {r:ρ} (h:Jl S d x κ=some r): ∃ n,kW S.st d x=some n∧κ n=some r:=by
 unfold Jl at h
 split at h
 ·exact⟨_,rfl,h⟩
 ·obtain⟨n,h1,h⟩:=Ep h
  exact⟨n,by simp only [kW,bc]; exact h1,h⟩
theorem S6 {G:List (Option bJ)}: ∀ (parts:List (Nat×V)) (pl:List (Nat×Nat×Bool)) (cs cs':List Cl),(∀ c∈cs,c.ok G)→(∀ x∈parts,x.2.ok G)→PK pl cs parts=some cs'→
  SB (pl.map fun x=>(x.1,x.2.1)) (cs.map Cl.av) (parts.map fun x=>(x.1,x.2.av))=some (cs'.map Cl.av)∧ ∀ c∈cs',c.ok G:=by
 intro parts
 induction parts with
 | nil=>
   intro pl cs cs' hcs _ h
   simp only [PK,Option.some.injEq] at h
   subst h
   exact⟨rfl,hcs⟩
 | cons x parts ih=>
   intro pl cs cs' hcs hp h
   obtain⟨k,v⟩:=x
   simp only [PK] at h
   split at h
   ·rename_i off n ag hk
    split at h
    ·rename_i x
     have hx:x.ok G:=hp (k, .v x) (by simp)
     have ca: ∀ (hd: (V.v x).av.isDead=false) (hcell: (V.v x).av.cells=x.cells.map Cl.av) (hcok: ∀ c∈x.cells,c.ok G)
       (h: (bif Nat.beq x.cells.length n&&Nat.ble (off+n) cs.length then PK pl (cs.take off++x.cells++cs.drop (off+n)) parts else none)=some cs'),
       SB (pl.map fun x=>(x.1,x.2.1)) (cs.map Cl.av) (((k,V.v x)::parts).map fun x=>(x.1,x.2.av))=some (cs'.map Cl.av)∧ ∀ c∈cs',c.ok G:=by
      intro hd hcell hcok h
      obtain⟨h1,h⟩:=ar h
      simp only [Bool.and_eq_true] at h1
      have h2:x.cells.length=n:=Nat.eq_of_beq_eq_true h1.1
      have h3:off+n≤cs.length:=Nat.le_of_ble_eq_true h1.2
      obtain⟨g1,g2⟩:=ih pl _ cs' (fun c hc=>by
       simp only [List.mem_append] at hc
       rcases hc with (hc | hc) | hc
       ·exact hcs c (List.mem_of_mem_take hc)
       ·exact hcok c hc
       ·exact hcs c (List.mem_of_mem_drop hc)) (fun y hy=>hp y (List.mem_cons_of_mem _ hy)) h
      refine⟨?_,g2⟩
      rw [dk] at hk
      simp only [List.map_cons,SB,List.getElem?_map,hk,Option.map_some]
      rw [if_pos ⟨hd,by rw [hcell]; simpa using h2,by simpa using h3⟩,←g1,hcell]
      simp [List.map_take,List.map_drop]
     cases x with
     | cl c=>cases c with
       | dead=>cases h
       | c y=>cases y <;> exact ca rfl rfl (fun c hc=>by simp only [V1.cells,List.mem_singleton] at hc; subst hc; exact hx) h
       | em=>exact ca rfl rfl (fun c hc=>by simp only [V1.cells,List.mem_singleton] at hc; subst hc; exact hx) h
       | own p sz lo len w=>exact ca rfl rfl (fun c hc=>by simp only [V1.cells,List.mem_singleton] at hc; subst hc; exact hx) h
       | pro cs=>exact ca rfl rfl (fun c hc=>by simp only [V1.cells,List.mem_singleton] at hc; subst hc; exact hx) h
       | ptrB n j=>exact ca rfl rfl (fun c hc=>by simp only [V1.cells,List.mem_singleton] at hc; subst hc; exact hx) h
       | ptrT p sz i j=>exact ca rfl rfl (fun c hc=>by simp only [V1.cells,List.mem_singleton] at hc; subst hc; exact hx) h
     | agg cs2=>exact ca rfl rfl hx h
     | fn f cs2=>cases h
    ·cases h
   ·cases h
end
end Go.Proofs.YtkcgfceffffmoaaGreat.En
namespace Go.Proofs.YtkcgfceffffmoaaGreat.En
open Go
theorem bg {α β:Type} {P:Program} (s:Sem α) (f:α→Sem β):bz P (s >>=f)=(bz P s).bind fun a=>bz P (f a):=by
 show bz P (s.bind f)=_
 induction s with
 | pure a=>rfl
 | program k ih=>exact ih P
 | _=>rfl
theorem bV {α:Type} {P:Program} (a:α):bz P (pure a)=some a:=rfl
theorem wE: ∀ {zs:List Value} {a:List Cl},lc zs a=true→ ∃ xs:List Value,a=xs.map (fun x=>Cl.c (.sc x))
 | [],[],_=>⟨[],rfl⟩
 | .int k n::zs,a,h=>by
   unfold lc at h
   split at h
   ·rename_i heq
    cases heq
   ·rename_i k1 n1 zs1 k2 n2 cs h1
    have hd:=h
    cases hk:decide (k1=k2) with
    | false=>rw [hk] at h; cases h
    | true=>
      rw [hk] at h
      obtain⟨xs,hx⟩:=wE (zs:=zs1) (a:=cs) h
      exact⟨.int k2 n2::xs,by rw [hx]; rfl⟩
   ·rename_i b1 zs1 b2 cs h1
    cases h1
   ·cases h
 | .bool b::zs,a,h=>by
   unfold lc at h
   split at h
   ·rename_i heq
    cases heq
   ·rename_i h1
    cases h1
   ·rename_i b1 zs1 b2 cs h1
    obtain⟨xs,hx⟩:=wE (zs:=zs1) (a:=cs) h
    exact⟨.bool b2::xs,by rw [hx]; rfl⟩
   ·cases h
 | .float _ _::_,_,h=>by simp [lc] at h
 | .complex _ _ _::_,_,h=>by simp [lc] at h
 | .string _::_,_,h=>by simp [lc] at h
 | .pointer _::_,_,h=>by simp [lc] at h
 | .slice _ _ _::_,_,h=>by simp [lc] at h
 | .map _::_,_,h=>by simp [lc] at h
 | .chan _::_,_,h=>by simp [lc] at h
 | .func _ _ _::_,_,h=>by simp [lc] at h
 | .nilFunc::_,_,h=>by simp [lc] at h
 | .iface _ _::_,_,h=>by simp [lc] at h
 | .nilIface::_,_,h=>by simp [lc] at h
 | .agg _::_,_,h=>by simp [lc] at h
 | .tuple _::_,_,h=>by simp [lc] at h
 | [],_::_,h=>by simp [lc] at h
theorem OS (f:AV→Option Value) (hf: ∀ v,f (.sc v)=some v): ∀ xs:List Value,((xs.map fun x=>Cl.c (.sc x)).map Cl.av).mapM f=some xs
 | [] =>rfl
 | x::xs=>by
   simp only [List.map_cons,List.mapM_cons,OS f hf xs]
   show (f (.sc x)).bind _=_
   rw [hf]
   rfl
theorem OT (xs:List Value):tG (V.v (.agg (xs.map fun x=>Cl.c (.sc x)))).av=some (.agg xs.toArray):=by
 simp only [V.av,V1.av,tG]
 rw [OS _ (fun _=>rfl)]
 rfl
theorem cW {P:Program} {t:TypeId} {d:TypeDesc} (h:P.underlying t=some d):bz P (underlying t)=some d:=by
 simp only [underlying,bg,program,bz,Option.bind_some,h]
 rfl
section
variable {ρ:Type} {P:Program} {Θ:pc} {S:TS}
theorem Rg (hΘ:dM P Θ) {t:TypeId} {x y:V} {κ:Bool→Option ρ} {r:ρ} (h:U9 Θ t x y κ=some r):
  ∃ b,κ b=some r∧((∃ k a c,x.av= .sc (.int k a)∧y.av= .sc (.int k c)∧b=(a==c))∨
    ((∀ k a k' c,¬ (x.av= .sc (.int k a)∧y.av= .sc (.int k' c)))∧ ∃ xv yv,tG x.av=some xv∧tG y.av=some yv∧(∀ op xo yo,bz P (eqGuard op t xo yo xv yv)=some ())∧bz P (binOp .eql t xv yv)=some (.bool b)∧bz P (binOp .neq t xv yv)=some (.bool (!b)))):=by
 unfold U9 at h
 split at h
 ·rename_i k a k' c
  split at h
  ·rename_i hk
   subst hk
   exact⟨_,h, .inl ⟨k,a,c,rfl,rfl,rfl⟩⟩
  ·cases h
 ·rename_i a c
  split at h
  ·rename_i ti hti
   split at h
   ·rename_i hb
    have hu:=(hΘ _ _ hti).bool hb
    have hE:bz P (Op.equal t (.bool a) (.bool c))=some (a==c):=by
     show bz P (Op.equalIn (9999+1) t (.bool a) (.bool c))=_
     rw [Op.equalIn]
     simp only [bg,cW hu,Option.bind_some,bV]
    refine⟨_,h, .inr ⟨fun k a k' c hc=>by simp [V.av,V1.av,Cl.av,C.av] at hc, .bool a, .bool c,rfl,rfl,fun op xo yo=> ?_,?_,?_⟩⟩
    ·cases op <;> simp [eqGuard,bV] <;> rfl
    ·simp only [binOp,bg,hE,Option.bind_some,bV]
    ·simp only [binOp,bg,hE,Option.bind_some,bV]
   ·cases h
  ·cases h
 ·rename_i a c
  split at h
  ·rename_i ti hti
   obtain⟨h1,h'⟩:=ar h
   simp only [Bool.and_eq_true] at h1
   obtain⟨⟨⟨h1,hfl⟩,h2⟩,h3⟩:=h1
   split at h'
   ·rename_i b hb
    obtain⟨xs,hx⟩:=wE h2
    obtain⟨ys,hy⟩:=wE h3
    have hok:=hΘ _ _ hti
    have hE:=hok.eq h1 a c b xs ys h2 h3 hb hx hy
    have hg:=hok.gu h1 hfl
    refine⟨_,h', .inr ⟨fun k a k' c hc=>by simp [V.av,V1.av] at hc, .agg xs.toArray, .agg ys.toArray,by rw [hx]; exact OT xs,by rw [hy]; exact OT ys,fun op xo yo=> ?_,?_,?_⟩⟩
    ·cases op <;> simp [eqGuard,bg,bV,program,bz,hg]
    ·simp only [binOp,bg,hE,Option.bind_some,bV]
    ·simp only [binOp,bg,hE,Option.bind_some,bV]
   ·cases h'
  ·cases h
 ·cases h
theorem od {f:IntKind→Int→Int→Option ρ} {x y:V} {r:ρ} (h:V.ints f x y=some r): ∃ k a b,x.av= .sc (.int k a)∧y.av= .sc (.int k b)∧f k a b=some r:=by
 unfold V.ints at h
 split at h
 ·split at h
  ·rename_i k a k' b hk
   subst hk
   exact⟨k,a,b,rfl,rfl,h⟩
  ·cases h
 ·cases h
theorem S7 (hΘ:dM P Θ) {D:rE} {op:BinOp} {t t':TypeId} {x y:Operand} {κ:V→Option ρ} {r:ρ} (h:Us Θ op t (S.opd x) (S.opd y) κ=some r) {dst:Option Tmp} {ty:TypeId} {pos:String} {aft:Array Edge} {gd:Option (Nat×Bool)}:
  ∃ v:V,ax D P S.st ⟨dst, .binOp op t x y t',ty,pos,aft,gd⟩=some v.av∧(∀ G,v.ok G)∧κ v=some r:=by
 have eqs: ∀ (b:Bool) (xv yv:Value),tG (opd S.st x)=some xv→tG (opd S.st y)=some yv→bz P (eqGuard op t x y xv yv)=some ()→bz P (binOp op t xv yv)=some (.bool b)→
   bU P S.st ⟨dst, .binOp op t x y t',ty,pos,aft,gd⟩=some (.sc (.bool b)):=by
  intro b xv yv h1 h2 h3 h4
  unfold bU
  rw [if_pos (by simp [Op.operands,h1,h2])]
  simp only [execOp,h1,h2,Option.getD_some,bg,h3,h4,Option.bind_some,bV,VV,qp,if_true]
 cases op with
 | lss=>obtain⟨k,a,b,h1,h2,h3⟩:=od h; exact⟨_,by simp only [ax,bc,h1,h2,if_true]; rfl,fun G=>V.ok_sc G _,h3⟩
 | leq=>obtain⟨k,a,b,h1,h2,h3⟩:=od h; exact⟨_,by simp only [ax,bc,h1,h2,if_true]; rfl,fun G=>V.ok_sc G _,h3⟩
 | gtr=>obtain⟨k,a,b,h1,h2,h3⟩:=od h; exact⟨_,by simp only [ax,bc,h1,h2,if_true]; rfl,fun G=>V.ok_sc G _,h3⟩
 | geq=>obtain⟨k,a,b,h1,h2,h3⟩:=od h; exact⟨_,by simp only [ax,bc,h1,h2,if_true]; rfl,fun G=>V.ok_sc G _,h3⟩
 | add=>obtain⟨k,a,b,h1,h2,h3⟩:=od h; exact⟨_,by simp only [ax,bc,h1,h2,if_true]; rfl,fun G=>V.ok_sc G _,h3⟩
 | sub=>obtain⟨k,a,b,h1,h2,h3⟩:=od h; exact⟨_,by simp only [ax,bc,h1,h2,if_true]; rfl,fun G=>V.ok_sc G _,h3⟩
 | mul=>obtain⟨k,a,b,h1,h2,h3⟩:=od h; exact⟨_,by simp only [ax,bc,h1,h2,if_true]; rfl,fun G=>V.ok_sc G _,h3⟩
 | eql=>
   have h':U9 Θ t (S.opd x) (S.opd y) (fun r=>κ (V.sc (.bool r)))=some r:=h
   obtain⟨b,h1,h2⟩:=Rg hΘ h'
   refine⟨_,?_,fun G=>V.ok_sc G _,h1⟩
   rcases h2 with ⟨k,a,c,e1,e2,rfl⟩ | ⟨hn,xv,yv,e1,e2,e3,e4,e5⟩
   ·simp only [ax,bc,e1,e2,if_true]; rfl
   ·simp only [ax]
    split
    ·rename_i k a k' c g1 g2
     exact absurd ⟨by rw [←bc]; exact g1,by rw [←bc]; exact g2⟩ (hn k a k' c)
    ·exact eqs b xv yv (by rw [bc]; exact e1) (by rw [bc]; exact e2) (e3 _ _ _) e4
 | neq=>
   have h':U9 Θ t (S.opd x) (S.opd y) (fun r=>κ (V.sc (.bool (!r))))=some r:=h
   obtain⟨b,h1,h2⟩:=Rg hΘ h'
   refine⟨_,?_,fun G=>V.ok_sc G _,h1⟩
   rcases h2 with ⟨k,a,c,e1,e2,rfl⟩ | ⟨hn,xv,yv,e1,e2,e3,e4,e5⟩
   ·simp only [ax,bc,e1,e2,if_true]; rfl
   ·simp only [ax]
    split
    ·rename_i k a k' c g1 g2
     exact absurd ⟨by rw [←bc]; exact g1,by rw [←bc]; exact g2⟩ (hn k a k' c)
    ·exact eqs (!b) xv yv (by rw [bc]; exact e1) (by rw [bc]; exact e2) (e3 _ _ _) e5
 | quo=>
   have h':V.ints (fun k a b=>if b=0 then none else κ (V.sc (.int k (k.wrap (a.tdiv b))))) (S.opd x) (S.opd y)=some r:=h
   obtain⟨k,a,b,h1,h2,h3⟩:=od h'
   split at h3
   ·cases h3
   ·rename_i hb
    refine⟨_,?_,fun G=>V.ok_sc G _,h3⟩
    have hx:tG (opd S.st x)=some (.int k a):=by rw [bc,h1]; rfl
    have hy:tG (opd S.st y)=some (.int k b):=by rw [bc,h2]; rfl
    simp only [ax]
    unfold bU
    rw [if_pos (by simp [Op.operands,hx,hy])]
    have e:bz P (binOp .quo t (.int k a) (.int k b))=some (.int k (k.wrap (a.tdiv b))):=by
     simp only [binOp,ne_eq,not_true,if_false,Op.intDiv,if_neg hb,bV]
    have e2:bz P (execOp (fun x=>(tG (opd S.st x)).getD undef) ⟨dst, .binOp .quo t x y t',ty,pos,aft,gd⟩)=some (.value (.int k (k.wrap (a.tdiv b)))):=by
     show bz P (do pure (Next.value (←(do eqGuard .quo t x y ((tG (opd S.st x)).getD undef) ((tG (opd S.st y)).getD undef); binOp .quo t ((tG (opd S.st x)).getD undef) ((tG (opd S.st y)).getD undef)))))=_
     rw [hx,hy]
     have g:bz P (eqGuard .quo t x y (.int k a) (.int k b))=some ():=rfl
     simp only [bg,Option.getD_some,g,e,Option.bind_some,bV]
    rw [e2]
    rfl
 | rem=>
   have h':V.ints (fun k a b=>if b=0 then none else κ (V.sc (.int k (a.tmod b)))) (S.opd x) (S.opd y)=some r:=h
   obtain⟨k,a,b,h1,h2,h3⟩:=od h'
   split at h3
   ·cases h3
   ·rename_i hb
    refine⟨_,?_,fun G=>V.ok_sc G _,h3⟩
    have hx:tG (opd S.st x)=some (.int k a):=by rw [bc,h1]; rfl
    have hy:tG (opd S.st y)=some (.int k b):=by rw [bc,h2]; rfl
    simp only [ax]
    unfold bU
    rw [if_pos (by simp [Op.operands,hx,hy])]
    have e:bz P (binOp .rem t (.int k a) (.int k b))=some (.int k (a.tmod b)):=by
     simp only [binOp,ne_eq,not_true,if_false,Op.intDiv,if_neg hb,bV]
    have e2:bz P (execOp (fun x=>(tG (opd S.st x)).getD undef) ⟨dst, .binOp .rem t x y t',ty,pos,aft,gd⟩)=some (.value (.int k (a.tmod b))):=by
     show bz P (do pure (Next.value (←(do eqGuard .rem t x y ((tG (opd S.st x)).getD undef) ((tG (opd S.st y)).getD undef); binOp .rem t ((tG (opd S.st x)).getD undef) ((tG (opd S.st y)).getD undef)))))=_
     rw [hx,hy]
     have g:bz P (eqGuard .rem t x y (.int k a) (.int k b))=some ():=rfl
     simp only [bg,Option.getD_some,g,e,Option.bind_some,bV]
    rw [e2]
    rfl
 | _=>simp [Us] at h
end
end Go.Proofs.YtkcgfceffffmoaaGreat.En
namespace Go.Proofs.YtkcgfceffffmoaaGreat.En
open Go
theorem Lu {G:List (Option bJ)}: ∀ (l:List V) (cs:List Cl),(∀ v∈l,v.ok G)→Ll l=some cs→l.map V.av=cs.map Cl.av∧ ∀ c∈cs,c.ok G
 | [],cs,_,h=>by
   simp only [Ll,Option.some.injEq] at h
   subst h
   exact⟨rfl,fun c hc=>by cases hc⟩
 | v::l,cs,hl,h=>by
   unfold Ll at h
   split at h
   ·rename_i heq; cases heq
   ·rename_i c l' heq
    cases heq
    split at h
    ·rename_i r hr
     simp only [Option.some.injEq] at h
     subst h
     obtain⟨h1,h2⟩:=Lu l r (fun v hv=>hl v (List.mem_cons_of_mem _ hv)) hr
     refine⟨by simp only [List.map_cons,h1]; rfl,fun x hx=> ?_⟩
     rcases List.mem_cons.1 hx with rfl | hx
     ·exact hl _ List.mem_cons_self
     ·exact h2 x hx
    ·cases h
   ·cases h
section
variable {ρ:Type} {P:Program} {Θ:pc} {S:TS} {D:rE}
theorem Ih (hΘ:dM P Θ) (hS:S.ok) {o:Oper} {κ:V→TS→Option ρ} {r:ρ} (h:E5 Θ S o κ=some r):
  ∃ v S',ax D P S.st o=some v.av∧S'.st=S.st∧S'.ok∧S'.gh=S.gh∧v.ok S.gh∧κ v S'=some r:=by
 have ok: ∀ x,(S.opd x).ok S.gh:=fun x=>lp hS x
 have done: ∀ {v:V},ax D P S.st o=some v.av→v.ok S.gh→κ v S=some r→ ∃ v S',ax D P S.st o=some v.av∧S'.st=S.st∧S'.ok∧S'.gh=S.gh∧v.ok S.gh∧κ v S'=some r:=fun h1 h2 h3=>⟨_,S,h1,rfl,hS,rfl,h2,h3⟩
 obtain⟨dst,op,ty,pos,aft,gd⟩:=o
 unfold E5 at h
 cases op with
 | move x=>exact done (by simp only [ax,bc]) (ok x) h
 | assign x=>exact done (by simp only [ax,bc]) (ok x) h
 | pick c a b=>
   simp only at h
   obtain⟨t,S1,h1,h2,h3,h4,h⟩:=Fb hS h
   cases t with
   | true=>exact⟨_,S1,by simp only [ax,h1,if_true]; rw [←h2,bc],h2,h3,h4,by rw [←h4]; exact lp h3 _,h⟩
   | false=>exact⟨_,S1,by simp only [ax,h1,Bool.false_eq_true,if_false]; rw [←h2,bc],h2,h3,h4,by rw [←h4]; exact lp h3 _,h⟩
 | load t a=>
   simp only at h
   obtain⟨u,h1,h2,h⟩:=Lt hΘ hS (ok a) h
   exact done (by simp only [ax,bc]; exact h1) h2 h
 | nilCheck x=>
   simp only at h
   split at h <;> rename_i hx
   ·exact done (by simp only [ax,bc,hx]; rfl) (by rw [←hx]; exact ok x) h
   ·exact done (by simp only [ax,bc,hx]; rfl) (by rw [←hx]; exact ok x) h
   ·exact done (by simp only [ax,bc,hx]; rfl) (by rw [←hx]; exact ok x) h
   ·exact done (by simp only [ax,bc,hx]; rfl) (by rw [←hx]; exact ok x) h
   ·exact done (by simp only [ax,bc,hx]; rfl) (by rw [←hx]; exact ok x) h
   ·cases h
 | fieldAddr t x k=>
   simp only at h
   split at h
   ·rename_i ti hti
    split at h
    ·rename_i off n ag hk
     have hfd:=(hΘ _ _ hti).fd k
     rw [hk] at hfd
     cases hn:Nat.beq n 0 with
     | true=>rw [hn] at h; cases h
     | false=>
       rw [hn] at h
       have hn': ¬ n=0:=by intro h0; subst h0; cases hn
       simp only [cond_false] at h
       split at h <;> rename_i hx
       ·refine done ?_ ?_ h
        ·simp only [ax,hfd,Option.bind_some,bc,hx]
         rw [if_neg hn']
         rfl
        ·trivial
       ·refine done ?_ ?_ h
        ·simp only [ax,hfd,Option.bind_some,bc,hx]
         rw [if_neg hn']
         rfl
        ·have:=ok x
         rw [hx] at this
         exact this
       ·refine done ?_ ?_ h
        ·simp only [ax,hfd,Option.bind_some,bc,hx]
         rw [if_neg hn']
         simp [V.av,V1.av,Cl.av,List.map_drop]
        ·trivial
       ·cases h
    ·cases h
   ·cases h
 | field t x k=>
   simp only at h
   split at h
   ·rename_i ti hti
    split at h
    ·rename_i off n ag hk
     have hfd:=(hΘ _ _ hti).fd k
     rw [hk] at hfd
     split at h
     ·rename_i cs hx
      obtain⟨h1,h⟩:=ar h
      simp only [Bool.and_eq_true] at h1
      have h2:off+n≤cs.length:=Nat.le_of_ble_eq_true h1.1
      have h3:0 < n:=Nat.le_of_ble_eq_true h1.2
      have hcs:=ok x
      rw [hx] at hcs
      obtain⟨v,h4,h5,h⟩:=Rf (G:=S.gh) (fun c hc=>hcs c (List.mem_of_mem_drop (List.mem_of_mem_take hc))) h
      refine done ?_ h5 h
      simp only [ax,hfd,Option.bind_some,bc,hx,V.av,V1.av,List.length_map]
      rw [if_pos ⟨h2,h3⟩,←List.map_drop,←List.map_take]
      exact h4
     ·cases h
    ·cases h
   ·cases h
 | indexAddr t x ix=>
   simp only at h
   split at h
   ·rename_i ti hti
    split at h
    ·rename_i e he
     obtain⟨el,g1,g2,_⟩:=(hΘ _ _ hti).el e he
     obtain⟨i,h1,h⟩:=Ep h
     split at h
     ·rename_i a hx
      have ha:=ok x
      rw [hx] at ha
      obtain⟨c,h2,h3,h⟩:=S4 ha h
      refine done ?_ ?_ h
      ·simp only [ax,g1,Option.bind_some,bc,h1,hx,g2]
       exact h2
      ·exact h3
     ·cases h
    ·cases h
   ·cases h
 | build t parts=>
   simp only at h
   split at h
   ·rename_i ti hti
    obtain⟨h1,h⟩:=ar h
    split at h
    ·rename_i cs hcs
     have hok:=hΘ _ _ hti
     obtain⟨g1,g2⟩:=S6 (G:=S.gh) _ _ _ _ (fun c hc=>by
      obtain⟨v,_,rfl⟩:=List.mem_map.1 hc
      exact OP _ _) (fun y hy=>by
      obtain⟨z,_,rfl⟩:=List.mem_map.1 hy
      exact ok z.2) hcs
     refine done ?_ ?_ h
     ·simp only [ax,hok.pl h1,hok.ze,Option.bind_some]
      have e1:ti.ty.zvs.map Eh=(ti.ty.zvs.map cC).map Cl.av:=by
       rw [List.map_map]
       exact List.map_congr_left fun v _=>(qg v).symm
      have e2:parts.toList.map (fun x=>(x.1,opd S.st x.2))=(parts.toList.map fun x=>(x.1,S.opd x.2)).map fun x=>(x.1,x.2.av):=by
       rw [List.map_map]
       exact List.map_congr_left fun x _=>by simp [bc]
      rw [e1,e2,g1]
      rfl
     ·exact g2
    ·cases h
   ·cases h
 | slice t x lo hi mx=>
   cases mx with
   | some m=>simp at h
   | none=>
     simp only at h
     split at h
     ·rename_i ti hti
      split at h
      ·rename_i e he
       obtain⟨el,g1,g2,_⟩:=(hΘ _ _ hti).el e he
       split at h
       ·rename_i a hx
        have ha:=ok x
        rw [hx] at ha
        obtain⟨n,h1,h⟩:=OQ ha h
        obtain⟨l,h2,h⟩:=Ig h
        obtain⟨m,h3,h⟩:=Ig h
        obtain⟨c,h4,h5,h⟩:=S5 ha h
        refine done ?_ ?_ h
        ·simp only [ax,bc,hx]
         split
         ·rename_i s hs
          have hs':a.av= .sc (.string s):=hs
          rw [hs'] at h1
          cases h1
         ·show (yX P t).bind _=_
          rw [g1]
          simp only [Option.bind_some]
          show (ug a.av).bind _=_
          rw [h1]
          simp only [Option.bind_some,h2,h3,g2]
          exact h4
        ·exact h5
       ·cases h
      ·cases h
     ·cases h
 | extract x k=>
   simp only at h
   split at h
   ·rename_i vs hx
    split at h
    ·rename_i v hv
     have hvs:=ok x
     rw [hx] at hvs
     rw [dk] at hv
     refine done ?_ ?_ h
     ·simp only [ax,bc,hx,V.av,List.getElem?_map,hv,Option.map_some]
     ·exact hvs v (List.mem_of_getElem? hv)
    ·cases h
   ·cases h
 | makeFunc fn first caps=>
   cases fn with
   | func f=>
     simp only at h
     obtain⟨h1,h⟩:=ar h
     split at h
     ·rename_i cs hcs
      obtain⟨g1,g2⟩:=Lu (G:=S.gh) _ _ (fun v hv=>by
       obtain⟨y,_,rfl⟩:=List.mem_map.1 hv
       exact ok y) hcs
      refine done ?_ ?_ h
      ·simp only [ax,h1,if_true]
       have e:caps.toList.map (opd S.st)=(caps.toList.map S.opd).map V.av:=by
        rw [List.map_map]
        exact List.map_congr_left fun x _=>bc x
       rw [e,g1]
       rfl
      ·exact g2
     ·cases h
   | _=>simp at h
 | unOp op t x=>
   cases op with
   | not=>
     simp only at h
     split at h
     ·rename_i b hx
      refine done ?_ ?_ h
      ·simp only [ax,bc,hx]; rfl
      ·trivial
     ·cases h
   | _=>simp at h
 | binOp op t x y t'=>
   simp only at h
   obtain⟨v,h1,h2,h⟩:=S7 (D:=D) (t':=t') (dst:=dst) (ty:=ty) (pos:=pos) (aft:=aft) (gd:=gd) hΘ h
   exact done h1 (h2 _) h
 | call c=>
   obtain⟨cl,as,ts⟩:=c
   cases cl with
   | value f=>simp at h
   | invoke a b=>simp at h
   | builtin b=>
     cases b with
     | len=>
       simp only at h
       split at h
       ·rename_i x t e1 e2
        split at h
        ·rename_i ti hti
         split at h
         ·rename_i e he
          obtain⟨el,g1,g2,_⟩:=(hΘ _ _ hti).el e he
          split at h
          ·rename_i a hx
           have ha:=ok x
           rw [hx] at ha
           obtain⟨n,h1,h⟩:=OQ ha h
           refine done ?_ ?_ h
           ·simp only [ax,e1,e2,g1,Option.isSome_some,if_true,bc,hx]
            show (ug a.av).map _=_
            rw [h1]
            rfl
           ·trivial
          ·cases h
         ·cases h
        ·cases h
       ·cases h
     | max=>
       simp only at h
       split at h
       ·rename_i x y e1
        obtain⟨k,a,b,h1,h2,h⟩:=od h
        refine done ?_ (V.ok_sc _ _) h
        simp only [ax,e1,List.map_cons,List.map_nil,bc,h1,h2]
        rfl
       ·cases h
     | min=>
       simp only at h
       split at h
       ·rename_i x y e1
        obtain⟨k,a,b,h1,h2,h⟩:=od h
        refine done ?_ (V.ok_sc _ _) h
        simp only [ax,e1,List.map_cons,List.map_nil,bc,h1,h2]
        rfl
       ·cases h
     | _=>simp at h
 | convert s d x=>
   simp only at h
   split at h
   ·rename_i si di hs hd
    split at h
    ·rename_i k' hk
     split at h
     ·rename_i k n hx
      refine done ?_ (V.ok_sc _ _) h
      have hud:=(hΘ _ _ hd).int _ hk
      obtain⟨ds,hus⟩: ∃ ds,P.underlying s=some ds:=by
       have:=(hΘ _ _ hs).ag
       unfold GR at this
       cases hu:P.underlying s with
       | none=>rw [hu] at this; cases this
       | some ds=>exact⟨ds,rfl⟩
      have hxv:tG (opd S.st x)=some (.int k n):=by rw [bc,hx]; rfl
      simp only [ax]
      unfold bU
      rw [if_pos (by simp [Op.operands,hxv])]
      have e:bz P (Go.convert s d (.int k n))=some (.int k' (k'.wrap n)):=by
       unfold Go.convert
       simp only [bg,cW hus,cW hud,Option.bind_some]
       cases ds <;> rfl
      have e2:bz P (execOp (fun x=>(tG (opd S.st x)).getD undef) ⟨dst, .convert s d x,ty,pos,aft,gd⟩)=some (.value (.int k' (k'.wrap n))):=by
       show bz P (do pure (Next.value (←Go.convert s d ((tG (opd S.st x)).getD undef))))=_
       rw [hxv]
       simp only [bg,Option.getD_some,e,Option.bind_some,bV]
      rw [e2]
      rfl
     ·cases h
    ·cases h
   ·cases h
 | index t x ix=>
   simp only at h
   split at h
   ·rename_i ti hti
    split at h
    ·rename_i hs
     split at h
     ·rename_i s k i hx hi
      unfold ap at h
      split at h
      ·rename_i h0
       obtain⟨b,hb,h⟩:=Option.bind_eq_some_iff.1 h
       refine done ?_ (V.ok_sc _ _) h
       have hus:P.underlying t=some .string:=by
        have:=(hΘ _ _ hti).str
        rw [hs] at this
        unfold IX at this
        split at this
        ·assumption
        ·cases this
       have hxv:tG (opd S.st x)=some (.string s):=by rw [bc,hx]; rfl
       have hiv:tG (opd S.st ix)=some (.int k i):=by rw [bc,hi]; rfl
       have hxa:opd S.st x= .sc (.string s):=by rw [bc,hx]; rfl
       simp only [ax,hxa]
       unfold bU
       rw [if_pos (by simp [Op.operands,hxv,hiv])]
       have e:bz P (Instr.index t (.string s) (.int k i))=some (.int .u8 b.toNat):=by
        unfold Instr.index
        simp only [bg,asIntOf,bV,Option.bind_some,cW hus]
        rw [if_pos h0,hb]
        rfl
       have e2:bz P (execOp (fun x=>(tG (opd S.st x)).getD undef) ⟨dst, .index t x ix,ty,pos,aft,gd⟩)=some (.value (.int .u8 b.toNat)):=by
        show bz P (do pure (Next.value (←Instr.index t ((tG (opd S.st x)).getD undef) ((tG (opd S.st ix)).getD undef))))=_
        rw [hxv,hiv]
        simp only [bg,Option.getD_some,e,Option.bind_some,bV]
       rw [e2]
       rfl
      ·cases h
     ·cases h
    ·cases h
   ·cases h
 | _=>simp at h
end
end Go.Proofs.YtkcgfceffffmoaaGreat.En
namespace Go.Proofs.YtkcgfceffffmoaaGreat.En
open Go
theorem mJ {G:List (Option bJ)} {x:Option bJ} (r:Nat):cJ (G++ [x]) r=if r=G.length then x else cJ G r:=by
 unfold cJ
 rw [dk,dk]
 by_cases h:r=G.length
 ·subst h; simp
 ·rw [if_neg h]
  rcases Nat.lt_or_ge r G.length with h' | h'
  ·rw [List.getElem?_append_left h']
  ·rw [List.getElem?_eq_none (by simp; omega),List.getElem?_eq_none h']
theorem Be {G:List (Option bJ)} (l:List bJ) (r:Nat):cJ (G++l.map some) r=if G.length≤r then l[r - G.length]? else cJ G r:=by
 unfold cJ
 rw [dk,dk]
 by_cases h:G.length≤r
 ·rw [if_pos h,List.getElem?_append_right h,List.getElem?_map]
  cases l[r - G.length]? <;> rfl
 ·rw [if_neg h,List.getElem?_append_left (by omega)]
theorem wF {G:List (Option bJ)} {r:Nat} (h:G.length≤r):cJ G r=none:=by
 unfold cJ
 rw [dk,List.getElem?_eq_none h]
 rfl
theorem tQ {G:List (Option bJ)} {r:Nat} {tr:bJ} (h:cJ G r=some tr):r < G.length:=by
 rcases Nat.lt_or_ge r G.length with h' | h'
 ·exact h'
 ·rw [wF h'] at h; cases h
theorem pH {G:List (Option bJ)} {x:Option bJ} (q r:Nat) (hq:q < G.length∨x=none):cJ (cS G q x) r=if r=q then x else cJ G r:=by
 unfold cJ
 rw [dk,dk,fi,List.getElem?_set]
 by_cases h:q=r
 ·subst h
  simp only [if_true]
  rcases hq with hq | rfl
  ·rw [if_pos hq]; rfl
  ·split <;> rfl
 ·rw [if_neg h,if_neg (fun e=>h e.symm)]
theorem gK.app (G:List (Option bJ)) (x:Option bJ):gK G (G++ [x]):=⟨by simp,fun r tr hr h=>by
 rw [mJ,if_neg (by omega)] at h
 exact⟨tr,h,rfl⟩⟩
theorem gK.apps (G:List (Option bJ)) (l:List bJ):gK G (G++l.map some):=⟨by simp,fun r tr hr h=>by
 rw [Be,if_neg (by omega)] at h
 exact⟨tr,h,rfl⟩⟩
theorem gK.gone (G:List (Option bJ)) (q:Nat):gK G (cS G q none):=⟨by rw [fi]; simp,fun r tr hr h=>by
 rw [pH q r (.inr rfl)] at h
 split at h
 ·cases h
 ·exact⟨tr,h,rfl⟩⟩
theorem gK.put {G:List (Option bJ)} {q:Nat} {tr tr':bJ} (h:cJ G q=some tr) (hl:tr'.l.length=tr.l.length):gK G (cS G q (some tr')):=⟨by rw [fi]; simp,fun r t hr h'=>by
 rw [pH q r (.inl (tQ h))] at h'
 split at h'
 ·rename_i hq
  subst hq
  cases h'
  exact⟨tr,h,hl.symm⟩
 ·exact⟨t,h',rfl⟩⟩
theorem TS.ok_gh {S:TS} (hS:S.ok) {G:List (Option bJ)} (hG:gK S.gh G): ({ S with gh:=G }:TS).ok:=
 ⟨fun x hx=>V.ok_mono hG (hS.env x hx),fun cs hcs c hc=>Cl.ok_mono hG (hS.bx cs hcs c hc)⟩
theorem Jr (S:TS) (x:bJ): ({ S with gh:=S.gh++ [some x] }:TS).st= { S.st with gh:=bO S.st.gh S.gh.length (some x.tree),ng:=S.gh.length+1 } :=by
 unfold TS.st
 simp only [List.length_append,List.length_singleton]
 congr 1
 funext r
 rw [mJ]
 unfold bO
 split <;> rfl
theorem zo (S:TS) (q:Nat): ({ S with gh:=cS S.gh q none }:TS).st= { S.st with gh:=bO S.st.gh q none } :=by
 unfold TS.st
 simp only
 have : (cS S.gh q none).length=S.gh.length:=by rw [fi]; simp
 rw [this]
 congr 1
 funext r
 rw [pH q r (.inr rfl)]
 unfold bO
 split <;> rfl
theorem Bf (S:TS) {q:Nat} (x:bJ) (hq:q < S.gh.length): ({ S with gh:=cS S.gh q (some x) }:TS).st= { S.st with gh:=bO S.st.gh q (some x.tree) } :=by
 unfold TS.st
 simp only
 have : (cS S.gh q (some x)).length=S.gh.length:=by rw [fi]; simp
 rw [this]
 congr 1
 funext r
 rw [pH q r (.inl hq)]
 unfold bO
 split <;> rfl
theorem NH (S:TS) (cs:List Cl): ({ S with bx:=S.bx++ [cs] }:TS).st= { S.st with bx:=bO S.st.bx S.bx.length (some (cs.map Cl.av)),nb:=S.bx.length+1 } :=by
 unfold TS.st
 simp only [List.length_append,List.length_singleton]
 congr 1
 funext n
 unfold bO
 simp only [dk]
 by_cases h:n=S.bx.length
 ·subst h; simp
 ·rw [if_neg h]
  rcases Nat.lt_or_ge n S.bx.length with h' | h'
  ·rw [List.getElem?_append_left h']
  ·rw [List.getElem?_eq_none (by simp; omega),List.getElem?_eq_none h']
theorem PN (S:TS) {b:Nat} (cs:List Cl) (hb:b < S.bx.length): ({ S with bx:=cS S.bx b cs }:TS).st= { S.st with bx:=bO S.st.bx b (some (cs.map Cl.av)) } :=by
 unfold TS.st
 have : (cS S.bx b cs).length=S.bx.length:=by rw [fi]; simp
 simp only
 rw [this]
 congr 1
 funext n
 unfold bO
 simp only [dk]
 rw [fi,List.getElem?_set]
 by_cases h:b=n
 ·subst h; simp [hb]
 ·rw [if_neg h,if_neg (fun e=>h e.symm)]
theorem Ri (t:Ty): (t.zvs.map cC).map Cl.av=t.zvs.map GS:=by
 cases t with
 | st n=>cases n <;> rfl
 | _=>rfl
theorem Rj (G:List (Option bJ)) (t:Ty): ∀ c∈t.zvs.map cC,c.ok G:=fun c hc=>by
 obtain⟨v,_,rfl⟩:=List.mem_map.1 hc
 exact OP _ _
def vj (P:Program) (g:FuncId) (args:List V1) (b:Bool) (res:V) (out:List bJ):Prop:=
 ∃ (t:Ty) (x:t.D) (as:List V1),args=OO t x::as∧sq P g ((Fa t x 0).av::as.map V1.av) ((mD (t.flat x)).map bJ.tree) (bif b then (mD (t.flat x)).length else 0) res.av (out.map bJ.tree)
structure Cy (P:Program) (f:Nat) (args:List V1) (res:V) (out:List bJ):Prop where
 fn:f < iw→A3 P f (args.map V1.av) [] res.av (out.map bJ.tree)
 io: ∀ g,f=mB g→g < iw→vj P g args true res out
 mv: ∀ g,f=E6 g→vj P g args false res out
theorem Rk (g:Nat): ¬ mB g < iw:=Nat.not_lt.2 (Nat.le_add_left iw g)
theorem OU (g:Nat): ¬ E6 g < iw:=Nat.not_lt.2 (Nat.le_trans (Nat.le_add_left iw iw) (Nat.le_add_left Ic g))
theorem Rl {g g':Nat} (hg:g < iw):mB g≠E6 g':=fun h=>by
 have h1:mB g < Ic:=Nat.add_lt_add_right hg iw
 rw [h] at h1
 exact Nat.not_lt.2 (Nat.le_add_left Ic g') h1
theorem Cy.of_fn {P:Program} {f:Nat} {args:List V1} {res:V} {out:List bJ} (h:A3 P f (args.map V1.av) [] res.av (out.map bJ.tree)) (hf:f < iw):Cy P f args res out:=
 ⟨fun _=>h,fun g e _=>absurd (e ▸ hf) (Rk g),fun g e=>absurd (e ▸ hf) (OU g)⟩
theorem Cy.of_io {P:Program} {g:Nat} {args:List V1} {res:V} {out:List bJ} (h:vj P g args true res out) (hg:g < iw):Cy P (mB g) args res out:=
 ⟨fun h'=>absurd h' (Rk g),fun g' e _=>by rw [←Nat.add_right_cancel (e:g+iw=g'+iw)]; exact h,fun g' e=>absurd e (Rl hg)⟩
theorem Cy.of_mv {P:Program} {g:Nat} {args:List V1} {res:V} {out:List bJ} (h:vj P g args false res out):Cy P (E6 g) args res out:=
 ⟨fun h'=>absurd h' (OU g),fun g' e hg=>absurd e.symm (Rl hg),fun g' e=>by rw [←Nat.add_right_cancel (e:g+Ic=g'+Ic)]; exact h⟩
theorem vj.get {P:Program} {g:FuncId} {el:Ty} {l:List el.D} {as:List V1} {b:Bool} {res:V} {out:List bJ} (h:vj P g (.cl (.c (.ls el l))::as) b res out):sq P g (.own ⟨0,[]⟩ el.width 0 l.length::as.map V1.av) [.sl el.width (l.map el.row)] (bif b then 1 else 0) res.av (out.map bJ.tree):=by
 obtain⟨t,x,as',he,h⟩:=h
 simp only [List.cons.injEq] at he
 obtain⟨he,rfl⟩:=he
 cases t with
 | ls el'=>
   have he':V1.cl (.c (.ls el l))= .cl (.c (.ls el' x)):=he
   cases he'
   exact h
 | st n=>cases n <;> cases he
 | _=>cases he
theorem vj.getA {P:Program} {g:FuncId} {ys:List C} {as:List V1} {res:V} {out:List bJ} (h:vj P g (.agg (ys.map .c)::as) true res out):sq P g (.agg ((uV ys 0).map Cl.av)::as.map V1.av) ((mD ys).map bJ.tree) (mD ys).length res.av (out.map bJ.tree):=by
 obtain⟨t,x,as',he,h⟩:=h
 simp only [List.cons.injEq] at he
 obtain⟨he,rfl⟩:=he
 cases t with
 | st n=>
   have he':V1.agg (ys.map Cl.c)= .agg ((n.flat x).map Cl.c):=he
   simp only [V1.agg.injEq] at he'
   have :ys=n.flat x:=by
    have hi: ∀ (l m:List C),l.map Cl.c=m.map Cl.c→l=m:=by
     intro l
     induction l with
     | nil=>intro m hm; cases m with | nil=>rfl | cons a m=>cases hm
     | cons a l ih=>
       intro m hm
       cases m with
       | nil=>cases hm
       | cons b m=>
         simp only [List.map_cons,List.cons.injEq,Cl.c.injEq] at hm
         rw [hm.1,ih m hm.2]
    exact hi _ _ he'
   subst this
   exact h
 | _=>cases he
def aw (P:Program) (Y:zm):Prop:= ∀ f args ρ κ r,Y f args ρ κ=some r→ ∃ res out,Cy P f args res out∧res.ok (out.map some)∧κ res out=some r
section
variable {ρ:Type} {P:Program} {Θ:pc} {S:TS}
theorem Js {α β:Type} {f:α→(β→Option ρ)→Option ρ} {R:α→β→Prop} (hf: ∀ a κ r,f a κ=some r→ ∃ b,R a b∧κ b=some r):
  ∀ (l:List α) (κ:List β→Option ρ) (r:ρ),E7 f l κ=some r→ ∃ bs,l.length=bs.length∧(∀ (k:Nat) (a:α) (b:β),l[k]? =some a→bs[k]? =some b→R a b)∧κ bs=some r:=by
 intro l
 induction l with
 | nil=>intro κ r h; exact⟨[],rfl,fun k a b ha=>by simp at ha,h⟩
 | cons a l ih=>
   intro κ r h
   obtain⟨b,h1,h⟩:=hf a _ r h
   obtain⟨bs,h2,h3,h⟩:=ih _ r h
   refine⟨b::bs,by simp [h2],fun k x y hx hy=> ?_,h⟩
   cases k with
   | zero=>simp at hx hy; subst hx hy; exact h1
   | succ k=>exact h3 k x y (by simpa using hx) (by simpa using hy)
theorem Rm {α β γ:Type} {f:α→γ} {g:β→γ} {l:List α} {bs:List β} (h1:l.length=bs.length) (h2: ∀ (k:Nat) (a:α) (b:β),l[k]? =some a→bs[k]? =some b→f a=g b):l.map f=bs.map g:=by
 apply List.ext_getElem?
 intro k
 rw [List.getElem?_map,List.getElem?_map]
 cases ha:l[k]? with
 | none=>
   rw [List.getElem?_eq_none_iff] at ha
   rw [List.getElem?_eq_none (by omega)]
   rfl
 | some a=>
   have:=(List.getElem?_eq_some_iff.1 ha).1
   rw [List.getElem?_eq_getElem (by omega:k < bs.length)]
   simp only [Option.map_some]
   rw [h2 k a _ ha (List.getElem?_eq_getElem (by omega))]
theorem vk {p:bQ} {sz lo len:Nat} {t:Ty} {l:List t.D} (hc: (Cl.own p sz lo len true).ok S.gh) (h:p.l= [] →cJ S.gh p.r=some ⟨t,l,none⟩):p.l= [] ∧lo=0∧len=l.length:=by
 obtain⟨_,h2⟩:=hc
 obtain⟨a,b,c⟩:=h2 rfl
 exact⟨a,b,c _ (h a)⟩
theorem Fc (hS:S.ok) {et:Option Ty} {c:Cl} (hc:c.ok S.gh) {κ:Cl→Option ρ} {r:ρ} (h:PL S et c κ=some r): ∃ c',(∀ sz,(∀ t,et=some t→sz=t.width)→dq S.st sz c.av=c'.av)∧κ c'=some r:=by
 unfold PL at h
 split at h
 ·rename_i x
  exact⟨_,fun sz _=>by cases x <;> rfl,h⟩
 ·split at h
  ·rename_i t
   exact⟨_,fun sz hsz=>by rw [hsz t rfl]; rfl,h⟩
  ·cases h
 ·rename_i p sz lo len
  obtain⟨t,l,h1,h2,h⟩:=eC h
  obtain⟨h3,h⟩:=ar h
  have h3:t.width=sz:=Nat.eq_of_beq_eq_true h3
  obtain⟨h4,h5,h6⟩:=vk hc h2
  refine⟨_,fun sz' _=> ?_,h⟩
  simp only [Cl.av,dq,←h3,kX h1,h5,h6,Nat.zero_add,List.length_map,Nat.le_refl,if_true,List.drop_zero,C.av]
  rw [List.take_of_length_le (by simp)]
 ·rename_i p sz lo len
  obtain⟨t,l,h1,h2,h⟩:=eC h
  obtain⟨h3,h⟩:=ar h
  have h3:t.width=sz:=Nat.eq_of_beq_eq_true h3
  obtain⟨h4,h⟩:=da h
  refine⟨_,fun sz' _=> ?_,h⟩
  simp only [Cl.av,dq,←h3,kX h1,List.length_map,h4,if_true,C.av]
  simp [List.map_take,List.map_drop]
 ·exact⟨_,fun _ _=>rfl,h⟩
 ·rename_i p sz i j
  obtain⟨t,l,h1,h2,h⟩:=eC h
  obtain⟨h3,h⟩:=ar h
  have h3:t.width=sz:=Nat.eq_of_beq_eq_true h3
  obtain⟨x,hx,h⟩:=Option.bind_eq_some_iff.1 h
  refine⟨_,fun sz' _=> ?_,h⟩
  simp only [Cl.av,dq,←h3,kX h1]
  have e1: (l.map t.row).getD i [] =t.row x:=by simp [List.getD_eq_getElem?_getD,hx]
  rw [e1,t.row_flat,List.map_drop]
 ·rename_i b j
  split at h
  ·rename_i cs hcs
   obtain⟨bs,h1,h2,h⟩:=Js (R:=fun (c:Cl) (x:C)=>c.ok S.gh→T.ofAV S.st 0 c.av=x.tree) (fun c κ r h=>by
    split at h
    ·rename_i x
     exact⟨x,fun _=>by cases x <;> rfl,h⟩
    ·rename_i p sz lo len
     obtain⟨t,l,h1,h2,h⟩:=eC h
     obtain⟨h3,h⟩:=ar h
     have h3:t.width=sz:=Nat.eq_of_beq_eq_true h3
     refine⟨_,fun hc=> ?_,h⟩
     obtain⟨h4,h5,h6⟩:=vk hc h2
     simp only [Cl.av,T.ofAV,←h3,kX h1,h5,h6,Nat.zero_add,List.length_map,Nat.le_refl,if_true,List.drop_zero,C.tree]
     rw [List.take_of_length_le (by simp)]
    ·cases h) _ _ _ h
   refine⟨_,fun sz _=> ?_,h⟩
   simp only [Cl.av,dq,TS.st,hcs,Option.map_some]
   rw [←List.map_drop,List.map_map]
   congr 1
   refine Rm h1 (fun k a b ha hb=>h2 k a b ha hb ?_)
   rw [dk] at hcs
   exact hS.bx cs (List.mem_of_getElem? hcs) a (List.mem_of_mem_drop (List.mem_of_getElem? ha))
  ·cases h
 ·exact⟨_,fun _ _=>rfl,h⟩
theorem S8 (hS:S.ok): ∀ (ets:List (Option Ty)) (cs:List Cl) (κ:List Cl→Option ρ) (r:ρ),(∀ c∈cs,c.ok S.gh)→SU S ets cs κ=some r→
  ∃ cs',ets.length=cs.length∧List.zipWith (dq S.st) (ets.map fun | some e=>e.width | none=>0) (cs.map Cl.av)=cs'.map Cl.av∧κ cs'=some r:=by
 intro ets
 induction ets with
 | nil=>
   intro cs κ r hcs h
   cases cs with
   | nil=>exact⟨[],rfl,rfl,h⟩
   | cons c cs=>cases h
 | cons et ets ih=>
   intro cs κ r hcs h
   cases cs with
   | nil=>cases h
   | cons c cs=>
     unfold SU at h
     obtain⟨c',h1,h⟩:=Fc hS (hcs c List.mem_cons_self) h
     obtain⟨cs',h2,h3,h⟩:=ih cs _ r (fun x hx=>hcs x (List.mem_cons_of_mem _ hx)) h
     refine⟨c'::cs',by simp [h2],?_,h⟩
     simp only [List.map_cons,List.zipWith_cons_cons,h3]
     rw [h1]
     intro t ht
     subst ht
     rfl
theorem Rn (hΘ:dM P Θ) (hS:S.ok) {t:TypeId} {v:V} (hv:v.ok S.gh) {κ:V1→Option ρ} {r:ρ} (h:Wc Θ S t v κ=some r): ∃ v1:V1,jy S.st (o8 P 9 t) v.av=v1.av∧κ v1=some r:=by
 unfold Wc at h
 split at h
 ·cases h
 ·rename_i f cs
  obtain⟨bs,h1,h2,h⟩:=Js (R:=fun (c c':Cl)=>c.ok S.gh→dq S.st 0 c.av=c'.av) (fun c κ r h=>by
   by_cases hc:c.ok S.gh
   ·obtain⟨c',h1,h⟩:=Fc hS hc h
    exact⟨c',fun _=>h1 0 (fun t ht=>by cases ht),h⟩
   ·have : ∃ c',κ c'=some r:=by
     unfold PL at h
     split at h
     ·exact⟨_,h⟩
     ·cases h
     ·obtain⟨t,l,_,_,h⟩:=eC h; exact⟨_,(ar h).2⟩
     ·obtain⟨t,l,_,_,h⟩:=eC h; exact⟨_,(da (ar h).2).2⟩
     ·exact⟨_,h⟩
     ·obtain⟨t,l,_,_,h⟩:=eC h; obtain⟨x,_,h⟩:=Option.bind_eq_some_iff.1 (ar h).2; exact⟨_,h⟩
     ·split at h
      ·obtain⟨bs,_,_,h⟩:=Js (R:=fun _ _=>True) (fun c κ r h=>by
        split at h
        ·exact⟨_,trivial,h⟩
        ·obtain⟨t,l,_,_,h⟩:=eC h; exact⟨_,trivial,(ar h).2⟩
        ·cases h) _ _ _ h
       exact⟨_,h⟩
      ·cases h
     ·exact⟨_,h⟩
    obtain⟨c',h⟩:=this
    exact⟨c',fun hc'=>absurd hc' hc,h⟩) _ _ _ h
  refine⟨_,?_,h⟩
  simp only [V.av,V1.av,jy,List.map_map]
  congr 1
  exact Rm h1 (fun k a b ha hb=>h2 k a b ha hb (hv a (List.mem_of_getElem? ha)))
 ·rename_i cs
  split at h
  ·rename_i ti hti
   obtain⟨cs',h1,h2,h⟩:=S8 hS _ _ _ _ hv h
   refine⟨_,?_,h⟩
   have e: (ti.ty.csh.map fun | some e=>e.width | none=>0)=ti.ty.shs:=rfl
   simp only [V.av,V1.av,jy,(hΘ _ _ hti).sh]
   rw [if_pos (by rw [←e]; simpa using h1),←e,h2]
  ·cases h
 ·rename_i c
  have ca: ∀ (szs:List Nat),jy S.st szs (V.v (.cl c)).av=dq S.st (szs.headD 0) c.av:=by
   intro szs
   cases c with
   | c x=>cases x <;> rfl
   | _=>rfl
  split at h
  ·rename_i ti hti
   obtain⟨c',h1,h⟩:=Fc hS hv h
   refine⟨_,?_,h⟩
   rw [ca]
   refine h1 _ (fun t ht=> ?_)
   rw [(hΘ _ _ hti).sh]
   unfold Ty.shs
   cases hc:ti.ty.csh with
   | nil=>rw [hc] at ht; cases ht
   | cons a l=>
     rw [hc] at ht
     simp only [List.headD_cons] at ht
     subst ht
     rfl
  ·obtain⟨c',h1,h⟩:=Fc hS hv h
   exact⟨_,by rw [ca]; exact h1 _ (fun t ht=>by cases ht),h⟩
theorem sV (hΘ:dM P Θ) (hS:S.ok): ∀ (ts:List TypeId) (as:List Operand) (κ:List V1→Option ρ) (r:ρ),sT Θ S ts as κ=some r→
  ∃ vs:List V1,List.zipWith (fun t a=>jy S.st (o8 P 9 t) (opd S.st a)) ts as=vs.map V1.av∧κ vs=some r:=by
 intro ts
 induction ts with
 | nil=>
   intro as κ r h
   cases as with
   | nil=>exact⟨[],rfl,h⟩
   | cons a as=>cases h
 | cons t ts ih=>
   intro as κ r h
   cases as with
   | nil=>cases h
   | cons a as=>
     unfold sT at h
     obtain⟨v,h1,h⟩:=Rn hΘ hS (lp hS a) h
     obtain⟨vs,h2,h⟩:=ih as _ r h
     exact⟨v::vs,by rw [List.zipWith_cons_cons,h2,bc,h1,List.map_cons],h⟩
end
end Go.Proofs.YtkcgfceffffmoaaGreat.En
namespace Go.Proofs.YtkcgfceffffmoaaGreat.En
open Go
open Classical in
noncomputable def PO (d:Option Tmp) (g:FuncId) (args:List AV) (res:AV×List T):rE:=fun d' g' a' gs'=>if d'=d∧g'=g∧a'=args∧gs'= [] then some res else none
theorem Fd {P:Program} {d:Option Tmp} {g:FuncId} {args:List AV} {res:AV} {out:List T} (h:A3 P g args [] res out):ob P (PO d g args (res,out)):=by
 intro d' g' a' gs' r' o' h'
 unfold PO at h'
 split at h'
 ·rename_i hc
  obtain⟨rfl,rfl,rfl,rfl⟩:=hc
  simp only [Option.some.injEq,Prod.mk.injEq] at h'
  obtain⟨rfl,rfl⟩:=h'
  exact h
 ·cases h'
theorem OV (d:Option Tmp) (g:FuncId) (args:List AV) (res:AV×List T):PO d g args res d g args [] =some res:=by
 unfold PO
 rw [if_pos ⟨rfl,rfl,rfl,rfl⟩]
def Nb:rE:=fun _ _ _ _=>none
theorem kM {P:Program}:ob P Nb:=fun _ _ _ _ _ _ h=>by cases h
theorem PP (n:Nat) (c:Cl): (Jm n c).av=o9 n c.av:=by
 cases c with
 | c x=>cases x <;> rfl
 | _=>rfl
theorem Fe (n:Nat) (v:V1): (wA n v).av=my n v.av:=by
 cases v with
 | cl c=>cases c with
   | c x=>cases x <;> rfl
   | _=>rfl
 | agg cs=>
   simp only [wA,V1.av,my,List.map_map]
   congr 1
   exact List.map_congr_left fun c _=>PP n c
 | fn f cs=>rfl
theorem Bg (n:Nat) (v:V): (tP n v).av=nP n v.av:=by
 cases v with
 | v x=>
   have :nP n x.av=my n x.av:=by
    cases x with
    | cl c=>cases c with
      | c x=>cases x <;> rfl
      | _=>rfl
    | _=>rfl
   show (wA n x).av=nP n x.av
   rw [this,Fe]
 | tup l=>
   simp only [tP,V.av,nP,List.map_map]
   congr 1
   exact List.map_congr_left fun c _=>Fe n c
theorem Ii {G:List (Option bJ)} {out:List bJ} {c:Cl} (h:c.ok (out.map some)): (Jm G.length c).ok (G++out.map some):=by
 cases c with
 | own p sz lo len w=>
   obtain⟨h1,h2⟩:=h
   refine⟨by simp at h1 ⊢; omega,fun hw=> ?_⟩
   obtain⟨a,b,c⟩:=h2 hw
   refine⟨a,b,fun tr htr=>c tr ?_⟩
   rw [Be,if_pos (by simp)] at htr
   simp only [Nat.add_sub_cancel] at htr
   unfold cJ
   rw [dk,List.getElem?_map,htr]
   rfl
 | c x=>cases x <;> trivial
 | _=>trivial
theorem Ff {G:List (Option bJ)} {out:List bJ} {v:V1} (h:v.ok (out.map some)): (wA G.length v).ok (G++out.map some):=by
 cases v with
 | cl c=>exact Ii h
 | agg cs=>
   intro c hc
   obtain⟨x,hx,rfl⟩:=List.mem_map.1 hc
   exact Ii (h x hx)
 | fn f cs=>trivial
theorem Bh {G:List (Option bJ)} {out:List bJ} {v:V} (h:v.ok (out.map some)): (tP G.length v).ok (G++out.map some):=by
 cases v with
 | v x=>exact Ff h
 | tup l=>
   intro c hc
   obtain⟨x,hx,rfl⟩:=List.mem_map.1 hc
   exact Ff (h x hx)
theorem yb (S:TS) (v:AV) (out:List bJ): ({ S with gh:=S.gh++out.map some }:TS).st=(n7 S.st (v,out.map bJ.tree)).2:=by
 unfold TS.st n7
 simp only [List.length_append,List.length_map]
 congr 1
 funext r
 rw [Be]
 by_cases h:S.gh.length≤r
 ·rw [if_pos h]
  by_cases h2:r < S.gh.length+out.length
  ·rw [if_pos ⟨h,h2⟩,List.getElem?_map]
  ·rw [if_neg (fun hh=>h2 hh.2),List.getElem?_eq_none (by omega),wF h]
 ·rw [if_neg h,if_neg (fun hh=>h hh.1)]
section
variable {ρ:Type} {P:Program} {Θ:pc} {S:TS} {Y:zm}
theorem zp (hS:S.ok): ∀ (caps:List Cl) (κ':List Cl→Option ρ) (r:ρ),(∀ c∈caps,c.ok S.gh)→E7 (PL S none) caps κ'=some r→ ∃ cs,(caps.map Cl.av).map (dq S.st 0)=cs.map Cl.av∧κ' cs=some r:=by
 intro caps
 induction caps with
 | nil=>intro κ' r _ h; exact⟨[],rfl,h⟩
 | cons c caps ih=>
   intro κ' r hc h
   unfold E7 at h
   obtain⟨c',g1,h⟩:=Fc hS (hc c List.mem_cons_self) h
   obtain⟨cs,g2,h⟩:=ih _ r (fun x hx=>hc x (List.mem_cons_of_mem _ hx)) h
   exact⟨c'::cs,by rw [List.map_cons,List.map_cons,g2,g1 0 (fun t ht=>by cases ht),List.map_cons],h⟩
theorem Ro (hΘ:dM P Θ) (hY:aw P Y) (hS:S.ok) {f:Operand} {ts:Array TypeId} {as:Array Operand} {κ:V→TS→Option ρ} {r:ρ} (h:OK Θ Y S f ts.toList as.toList κ=some r) {dst:Option Tmp} {ty:TypeId} {pos:String} {aft:Array Edge} {gd:Option (Nat×Bool)}:
  ∃ D v S',ob P D∧jt D P S.st ⟨dst, .call { callee:= .value f,args:=as,argTypes:=ts },ty,pos,aft,gd⟩=some (V.av v,TS.st S')∧S'.ok∧v.ok S'.gh∧κ v S'=some r:=by
 have fin: ∀ (g:FuncId) (caps:List AV) (vs:List V1),g < iw→callee S.st f=some (g,caps)→args P S.st ts as caps=vs.map V1.av→Y g vs ρ (fun res out=>κ (tP S.gh.length res) { S with gh:=S.gh++out.map some })=some r→
   ∃ D v S',ob P D∧jt D P S.st ⟨dst, .call { callee:= .value f,args:=as,argTypes:=ts },ty,pos,aft,gd⟩=some (V.av v,TS.st S')∧S'.ok∧v.ok S'.gh∧κ v S'=some r:=by
  intro g caps vs hg h1 h2 h3
  obtain⟨res,out,h4,h5,h6⟩:=hY _ _ _ _ _ h3
  have h4:=h4.fn hg
  refine⟨PO dst g (vs.map V1.av) (res.av,out.map bJ.tree),_,_,Fd h4,?_,TS.ok_gh hS (gK.apps _ _),Bh h5,h6⟩
  simp only [jt,h1,Option.bind_some,h2]
  rw [OV]
  simp only [Option.map_some]
  rw [yb S res.av out,Bg]
  rfl
 unfold OK at h
 split at h
 ·rename_i g x y hf
  obtain⟨hg,h⟩:=ar h
  have hg:g < iw:=Nat.le_of_ble_eq_true hg
  obtain⟨vs,h1,h⟩:=sV hΘ hS _ _ _ _ h
  refine fin g [] vs hg ?_ ?_ h
  ·unfold callee
   rw [bc,hf]
   rfl
  ·unfold args
   simp only [List.map_nil,List.append_nil]
   exact h1
 ·rename_i g caps hf
  obtain⟨hg,h⟩:=ar h
  have hg:g < iw:=Nat.le_of_ble_eq_true hg
  obtain⟨vs,h1,h⟩:=sV hΘ hS _ _ _ _ h
  have hcaps: ∀ c∈caps,c.ok S.gh:=by
   have:=lp hS f
   rw [hf] at this
   exact this
  obtain⟨cs,h2,h⟩:=zp hS _ _ _ hcaps h
  refine fin g (caps.map Cl.av) (vs++cs.map .cl) hg ?_ ?_ h
  ·unfold callee
   rw [bc,hf]
   rfl
  ·unfold args
   rw [h1,h2,List.map_append,List.map_map]
   rfl
 ·cases h
theorem fk {t t':Ty} {l:List t.D} {l':List t'.D} (h:vh t t' l=some l'): ∃ e:t=t',e ▸ l=l':=by
 unfold vh at h
 split at h
 ·rename_i e
  exact⟨e,Option.some.inj h⟩
 ·cases h
theorem PQ {t:Ty} (h:t.flatB=true) (x:t.D): (t.row x).all T.flat=true:=by
 cases t with
 | st n=>cases n <;> first | rfl | cases h
 | ls t=>cases h
 | _=>rfl
theorem Bi (t:Ty): (t.shs.all (· ==0))=t.flatB:=by
 cases t with
 | st n=>cases n <;> rfl
 | ls t=>
   show ((t.width==0)&&true)=false
   have:=t.width_pos
   cases hw:t.width with
   | zero=>omega
   | succ n=>rfl
 | _=>rfl
theorem wG {t:Ty} (h:t.flatB=true) (l:List t.D): (l.map t.row).all (fun r=>r.all T.flat)=true:=by
 rw [List.all_eq_true]
 intro x hx
 obtain⟨y,_,rfl⟩:=List.mem_map.1 hx
 exact PQ h y
theorem S9 (hS:S.ok) {el:Ty} {v:Cl} (hv:v.ok S.gh) {κ:List el.D→TS→Option ρ} {r:ρ} (h:Q5 S el v κ=some r):
  ∃ more S',mz S.st el.width el.flatB v.av=some (more.map el.row,S'.st)∧S'.ok∧gK S.gh S'.gh∧S'.gh.length=S.gh.length∧S'.fz=S.fz∧κ more S'=some r:=by
 unfold Q5 at h
 split at h
 ·exact⟨[],S,rfl,hS,gK.refl _,rfl,rfl,h⟩
 ·rename_i t l
  obtain⟨h1,h⟩:=ar h
  split at h
  ·rename_i l' hl
   obtain⟨e,hl⟩:=fk hl
   subst e
   simp only at hl
   subst hl
   refine⟨l,S,?_,hS,gK.refl _,rfl,rfl,h⟩
   simp only [Cl.av,C.av,mz]
   rw [if_pos ⟨trivial,wG h1 l⟩]
  ·cases h
 ·rename_i p sz lo len w
  obtain⟨h0,h⟩:=ar h
  have h0:el.width=sz:=Nat.eq_of_beq_eq_true h0
  cases hfl:el.flatB with
  | true=>
    rw [hfl] at h
    simp only [cond_true] at h
    obtain⟨t,l,h1,h2,h⟩:=eC h
    split at h
    ·rename_i l' hl
     obtain⟨e,hl⟩:=fk hl
     subst e
     simp only at hl
     subst hl
     have src: ∀ (lo len:Nat),lo+len≤l.length→mz S.st t.width true (.own p sz lo len)=some (((l.drop lo).take len).map t.row,S.st):=by
      intro lo len hle
      simp only [mz]
      rw [if_pos h0.symm,kX h1]
      simp only [Option.bind_some,Bool.true_eq_false,false_and,if_false,List.length_map]
      rw [if_pos ⟨hle,by rw [←List.map_drop,←List.map_take]; exact wG hfl _⟩]
      simp [List.map_take,List.map_drop]
     cases w with
     | true=>
       obtain⟨e1,e2,e3⟩:=vk hv h2
       refine⟨l,S,?_,hS,gK.refl _,rfl,rfl,h⟩
       have:=src lo len (by omega)
       rw [e2,e3,List.drop_zero,List.take_length] at this
       simp only [Cl.av]
       rw [e2,e3]
       exact this
     | false=>
       simp only [cond_false] at h
       obtain⟨h3,h⟩:=da h
       exact⟨_,S,src lo len h3,hS,gK.refl _,rfl,rfl,h⟩
    ·cases h
  | false=>
    rw [hfl] at h
    simp only [cond_false] at h
    split at h
    ·rename_i hp
     obtain⟨h3,h6⟩:=ar h
     clear h
     simp only [Bool.and_eq_true] at h3
     obtain⟨hw,h4⟩:=h3
     have h4:S.fz≤p.r:=Nat.le_of_ble_eq_true h4
     subst hw
     obtain⟨t,l,h1,h2,h⟩:=eC h6
     split at h
     ·rename_i l' hl
      obtain⟨e,hl⟩:=fk hl
      subst e
      simp only at hl
      subst hl
      obtain⟨e1,e2,e3⟩:=vk hv h2
      refine⟨l,_,?_,TS.ok_gh hS (gK.gone _ _),gK.gone _ _,by simp [fi],rfl,h⟩
      simp only [Cl.av,mz]
      rw [if_pos h0.symm,kX h1]
      simp only [Option.bind_some,List.length_map]
      rw [if_pos ⟨trivial,hp,e2,e3,h4⟩,zo]
     ·cases h
    ·cases h
 ·cases h
end
end Go.Proofs.YtkcgfceffffmoaaGreat.En
namespace Go.Proofs.YtkcgfceffffmoaaGreat.En
open Go
theorem NI (t:Ty):t.zvs.length=t.width:=by
 cases t with
 | st n=>cases n <;> rfl
 | _=>rfl
theorem Fg (t:Ty):t.shs.length=t.width:=by
 cases t with
 | st n=>cases n <;> rfl
 | _=>rfl
theorem Jt {P:Program} {el:TypeId} {e:Ty} (h1:P.cellsOf el=e.width) (h2:o8 P 9 el=e.shs) (h3:AZ P el=some e.zvs):GU P el=some (List.zipWith zc e.shs e.zvs):=by
 unfold GU
 rw [h3]
 simp only [Option.bind_some]
 rw [if_pos ⟨by rw [h1,NI],by rw [h2,h1,Fg]⟩,h2]
section
variable {ρ:Type} {P:Program} {Θ:pc} {S:TS}
theorem Rp (hS:S.ok) {el:Ty} {v:Cl} (hv:v.ok S.gh) {more:List el.D} {κ:List el.D→TS→Option ρ} {r:ρ} (h:Lm S el v more κ=some r):
  ∃ l S',lg S.st v.av el.width (more.map el.row)=some (.own ⟨S.gh.length,[]⟩ el.width 0 l.length,{ S'.st with gh:=bO S'.st.gh S.gh.length (some (.sl el.width (l.map el.row))),ng:=S.gh.length+1 })∧
    S'.ok∧gK S.gh S'.gh∧S'.gh.length=S.gh.length∧κ l S'=some r:=by
 unfold Lm at h
 split at h
 ·refine⟨more,S,?_,hS,gK.refl _,rfl,h⟩
  simp only [Cl.av,lg,List.length_map]
  rfl
 ·rename_i p sz lo len w
  obtain⟨h0,h'⟩:=ar h
  clear h
  simp only [Bool.and_eq_true] at h0
  have hfz:S.fz≤p.r:=Nat.le_of_ble_eq_true h0.1
  have hsz:el.width=sz:=Nat.eq_of_beq_eq_true h0.2
  split at h'
  ·rename_i hp
   obtain⟨t,l,h1,h2,h⟩:=eC h'
   split at h
   ·rename_i l' hl
    obtain⟨e,hl⟩:=fk hl
    subst e
    simp only at hl
    subst hl
    have fin: ∀ (len:Nat),¬ l.length < len→lg S.st (.own p sz 0 len) t.width (more.map t.row)=some (.own ⟨S.gh.length,[]⟩ t.width 0 (l.take len++more).length,{ ({ S with gh:=cS S.gh p.r none }:TS).st with gh:=bO ({ S with gh:=cS S.gh p.r none }:TS).st.gh S.gh.length (some (.sl t.width ((l.take len++more).map t.row))),ng:=S.gh.length+1 }):=by
     intro len hlen
     simp only [lg]
     rw [if_pos ⟨hsz.symm,trivial,hfz⟩,kX h1]
     simp only [Option.bind_some,List.length_map]
     rw [if_neg hlen,if_pos hp,zo]
     have e1: (l.take len++more).length=len+more.length:=by simp; omega
     rw [e1,List.map_append,List.map_take]
     rfl
    cases w with
    | true=>
      obtain⟨e1,e2,e3⟩:=vk hv h2
      refine⟨_,_,?_,TS.ok_gh hS (gK.gone _ _),gK.gone _ _,by simp [fi],h⟩
      have:=fin l.length (by omega)
      rw [List.take_length] at this
      simp only [Cl.av]
      rw [e2,e3]
      exact this
    | false=>
      simp only [cond_false] at h
      obtain⟨h3,h⟩:=da h
      obtain⟨h4,h⟩:=Bc h
      refine⟨_,_,?_,TS.ok_gh hS (gK.gone _ _),gK.gone _ _,by simp [fi],h⟩
      simp only [Cl.av]
      rw [h3]
      exact fin len h4
   ·cases h
  ·rename_i i j hp
   split at h'
   ·rename_i tr htr
    split at h'
    ·rename_i hh
     obtain⟨t,l,h1,h2,h⟩:=eC h'
     split at h
     ·rename_i l' hl
      obtain⟨e,hl⟩:=fk hl
      subst e
      simp only at hl
      subst hl
      obtain⟨h3,h⟩:=da h
      obtain⟨h4,h⟩:=Bc h
      have hg:=bJ.look htr
      have hput:gK S.gh (cS S.gh p.r (some (bJ.mk tr.t tr.l (some (i,j))))):=gK.put hg rfl
      refine⟨_,{ S with gh:=cS S.gh p.r (some (bJ.mk tr.t tr.l (some (i,j)))) },?_,TS.ok_gh hS hput,hput,by simp [fi],h⟩
      simp only [Cl.av,lg]
      rw [if_pos ⟨hsz.symm,h3,hfz⟩,kX h1]
      simp only [Option.bind_some,List.length_map]
      rw [if_neg h4,if_neg (by rw [hp]; simp),Bf _ _ (tQ hg)]
      have e1: (l.take len++more).length=len+more.length:=by simp; omega
      rw [e1,List.map_append,List.map_take]
      have e2:S.st.setAt p .dd= { S.st with gh:=bO S.st.gh p.r (some (bJ.tree ⟨tr.t,tr.l,some (i,j)⟩)) } :=by
       unfold St.setAt
       congr 2
       show ((cJ S.gh p.r).map bJ.tree).map _=_
       rw [hg,hp]
       obtain⟨t0,l0,hole⟩:=tr
       simp only at hh
       subst hh
       rfl
      rw [e2]
      rfl
     ·cases h
    ·cases h'
   ·cases h'
  ·cases h'
 ·cases h
theorem Ta (hΘ:dM P Θ) (hS:S.ok) {t:TypeId} {s x:Operand} {κ:V→TS→Option ρ} {r:ρ} (h:SW Θ S t (S.opd s) (S.opd x) κ=some r) {dst:Option Tmp} {ty:TypeId} {pos:String} {aft:Array Edge} {gd:Option (Nat×Bool)} {D:rE}:
  ∃ v S',jt D P S.st ⟨dst, .call { callee:= .builtin .append,args:= #[s,x],argTypes:= #[t,t] },ty,pos,aft,gd⟩=some (V.av v,TS.st S')∧S'.ok∧v.ok S'.gh∧κ v S'=some r:=by
 unfold SW at h
 split at h
 ·rename_i ti hti
  split at h
  ·rename_i el sv xv he hs hx
   obtain⟨elT',g1,g2,g3,g4,g5,g6⟩:=(hΘ _ _ hti).el el he
   have hsv:=lp hS s
   rw [hs] at hsv
   have hxv:=lp hS x
   rw [hx] at hxv
   obtain⟨more,S1,h1,k1,k2,k3,k4,h⟩:=S9 hS (show xv.ok S.gh from hxv) h
   obtain⟨l,S2,h2,m1,m2,m3,h⟩:=Rp k1 (Cl.ok_mono k2 (show sv.ok S.gh from hsv)) h
   obtain⟨hb,h⟩:=da h
   have hgl:gK S1.gh (S2.gh++ [some ⟨el,l,none⟩]):=m2.trans (gK.app _ _)
   refine⟨_,_,?_,TS.ok_gh m1 (gK.app _ _),?_,h⟩
   ·simp only [jt]
    rw [if_pos trivial,g1]
    simp only [Option.bind_some,g2,g5,Bi,bc,hs,hx]
    show (mz S.st el.width el.flatB xv.av).bind _=_
    rw [h1]
    simp only [Option.bind_some]
    show (lg S1.st sv.av el.width _).bind _=_
    rw [h2]
    simp only [Option.bind_some]
    have hlen:l.length≤2 ^ 40:=Nat.le_trans (Nat.le_mul_of_pos_right _ g4) hb
    rw [if_pos ⟨by rw [g3]; exact hb,hlen,el.width_pos,by rw [Jt g2 g5 g6]; rfl⟩]
    rw [Jr,m3]
    rfl
   ·refine⟨by simp,fun _=>⟨rfl,rfl,fun tr htr=> ?_⟩⟩
    rw [mJ,if_pos rfl] at htr
    cases htr
    rfl
  ·cases h
 ·cases h
end
end Go.Proofs.YtkcgfceffffmoaaGreat.En
namespace Go.Proofs.YtkcgfceffffmoaaGreat.En
open Go
theorem Tb (a b:Nat): (a==b)=Nat.beq a b:=by
 rw [Bool.eq_iff_iff,beq_iff_eq]
 exact⟨fun h=>by rw [h]; exact Nat.beq_refl _,fun h=>Nat.eq_of_beq_eq_true h⟩
theorem Rq (a b:Nat): (a==b)=Nat.beq b a:=by
 rw [Bool.eq_iff_iff,beq_iff_eq]
 exact⟨fun h=>by rw [h]; exact Nat.beq_refl _,fun h=>(Nat.eq_of_beq_eq_true h).symm⟩
theorem Fh (r i j pr i' j':Nat) (l:List (Nat×Nat)):under ⟨r,[(i,j)]⟩ ⟨pr,(i',j')::l⟩=(Nat.beq pr r&&Nat.beq j j'):=by
 simp only [under,Ck,Bool.and_true]
 rw [Rq,Tb]
theorem Fi (r i j pr:Nat):under ⟨r,[(i,j)]⟩ ⟨pr,[]⟩=false:=by simp [under,Ck]
theorem zq (r i j:Nat) (c:Cl): (qe r j c).av=sM ⟨r,[(i,j)]⟩ c.av:=by
 cases c with
 | own p sz lo len w=>
   obtain⟨pr,pl⟩:=p
   cases pl with
   | nil=>simp only [qe,Cl.av,sM,Fi]; rfl
   | cons a l=>
     obtain⟨i',j'⟩:=a
     simp only [qe,Cl.av,sM,Fh]
     cases (Nat.beq pr r&&Nat.beq j j') <;> rfl
 | ptrT p sz a b=>
   obtain⟨pr,pl⟩:=p
   cases pl with
   | nil=>simp only [qe,Cl.av,sM,Fi]; rfl
   | cons a' l=>
     obtain⟨i',j'⟩:=a'
     simp only [qe,Cl.av,sM,Fh]
     cases (Nat.beq pr r&&Nat.beq j j') <;> rfl
 | c x=>cases x <;> rfl
 | _=>rfl
theorem Ij (r i j:Nat) (v:V1): (su r j v).av=yY ⟨r,[(i,j)]⟩ v.av:=by
 cases v with
 | cl c=>
   have :yY ⟨r,[(i,j)]⟩ (V1.cl c).av=sM ⟨r,[(i,j)]⟩ c.av:=by
    cases c with
    | c x=>cases x <;> rfl
    | _=>rfl
   rw [this]
   exact zq r i j c
 | agg cs=>
   simp only [su,V1.av,yY,List.map_map]
   congr 1
   exact List.map_congr_left fun c _=>zq r i j c
 | fn f cs=>
   simp only [su,V1.av,yY,List.map_map]
   congr 1
   exact List.map_congr_left fun c _=>zq r i j c
theorem Rr (r i j:Nat) (v:V): (Ie r j v).av=kill ⟨r,[(i,j)]⟩ v.av:=by
 cases v with
 | v x=>
   have :kill ⟨r,[(i,j)]⟩ (V.v x).av=yY ⟨r,[(i,j)]⟩ x.av:=by
    cases x with
    | cl c=>cases c with
      | c x=>cases x <;> rfl
      | _=>rfl
    | _=>rfl
   rw [this]
   exact Ij r i j x
 | tup l=>
   simp only [Ie,V.av,kill,List.map_map]
   congr 1
   exact List.map_congr_left fun c _=>Ij r i j c
theorem Lw (f:V→V) (hf:f V.dead=V.dead): ∀ (l:List (Nat×V)) (t:Nat),gX (l.map fun x=>(x.1,f x.2)) t=f (gX l t)
 | [],t=>hf.symm
 | (u,v)::l,t=>by
   simp only [List.map_cons,gX]
   cases Nat.beq u t with
   | true=>rfl
   | false=>exact Lw f hf l t
theorem Tc (S:TS) (r i j:Nat): (S.kill r j).st=S.st.killU ⟨r,[(i,j)]⟩:=by
 unfold TS.kill TS.st St.killU
 simp only [List.length_map]
 congr 1
 ·funext t
  rw [Lw _ rfl]
  exact Rr r i j _
 ·funext n
  rw [dk,dk,List.getElem?_map]
  cases S.bx[n]? with
  | none=>rfl
  | some cs=>
    simp only [Option.map_some,List.map_map]
    congr 1
    exact List.map_congr_left fun c _=>zq r i j c
theorem zt {G:List (Option bJ)} {r j:Nat} {c:Cl} (h:c.ok G): (qe r j c).ok G:=by
 cases c with
 | own p sz lo len w=>
   simp only [qe]
   split
   ·cases (Nat.beq p.r r&&Nat.beq j _) <;> first | exact h | trivial
   ·exact h
 | ptrT p sz a b=>
   simp only [qe]
   split
   ·cases (Nat.beq p.r r&&Nat.beq j _) <;> first | exact h | trivial
   ·exact h
 | _=>exact h
theorem Ik {G:List (Option bJ)} {r j:Nat} {v:V1} (h:v.ok G): (su r j v).ok G:=by
 cases v with
 | cl c=>exact zt h
 | agg cs=>
   intro c hc
   obtain⟨x,hx,rfl⟩:=List.mem_map.1 hc
   exact zt (h x hx)
 | fn f cs=>
   intro c hc
   obtain⟨x,hx,rfl⟩:=List.mem_map.1 hc
   exact zt (h x hx)
theorem OW {S:TS} (hS:S.ok) (r j:Nat): (S.kill r j).ok:=by
 refine⟨fun x hx=> ?_,fun cs hcs c hc=> ?_⟩
 ·obtain⟨y,hy,rfl⟩:=List.mem_map.1 hx
  have:=hS.env y hy
  obtain⟨t,v⟩:=y
  cases v with
  | v x=>exact Ik this
  | tup l=>
    intro c hc
    obtain⟨z,hz,rfl⟩:=List.mem_map.1 hc
    exact Ik (this z hz)
 ·obtain⟨y,hy,rfl⟩:=List.mem_map.1 hcs
  obtain⟨z,hz,rfl⟩:=List.mem_map.1 hc
  exact zt (hS.bx y hy z hz)
def TS.with (S:TS) (no N w:Nat) (R:List (List T)):St:= { S.st with gh:=bO S.st.gh no (some (.sl w R)),ng:=N }
theorem Il (S:TS) (r i j no N w:Nat) (R:List (List T)): (S.with no N w R).killU ⟨r,[(i,j)]⟩=(S.kill r j).with no N w R:=by
 unfold TS.with
 rw [Tc S r i j]
 rfl
theorem OX {α:Type} (f:Nat→α) (t:Nat) (x y:α):bO (bO f t x) t y=bO f t y:=by
 funext u
 unfold bO
 split <;> rfl
theorem Lx {α:Type} (f:Nat→α) (t:Nat) (x:α):bO f t x t=x:=by unfold bO; rw [if_pos rfl]
theorem Rs {α:Type} (f:Nat→α) {t u:Nat} (h:t≠u) (x y:α):bO (bO f t x) u y=bO (bO f u y) t x:=by
 funext v
 unfold bO
 by_cases h1:v=u
 ·subst h1; rw [if_pos rfl,if_neg (fun e=>h e.symm)]; rw [if_pos rfl]
 ·rw [if_neg h1]
  by_cases h2:v=t
  ·rw [if_pos h2,if_pos h2]
  ·rw [if_neg h2,if_neg h2,if_neg h1]
structure Td (S S1:TS) (no:Nat):Prop where
 ok:S1.ok
 gle:gK S.gh S1.gh
 len:S1.gh.length=S.gh.length
 fz:S1.fz=S.fz
 nt:S1.nt=S.nt
 no:cJ S1.gh no=cJ S.gh no
def Nc:Option Ty→Nat | some e=>e.width | none=>0
def V0 (X:St) (no i j:Nat) (c:AV):Option Ty→Option St
 | none=>some X
 | some t=>Ey X ⟨no,[]⟩ i j t.width c
def Rt (R:List (List T)) (i j:Nat) (x:C):Option Ty→List (List T)
 | none=>R
 | some _=>R.set i ((R.getD i []).set j x.tree)
theorem Ru {S S1:TS} (hS:S.ok) {no j:Nat} (i N w:Nat) {et:Option Ty} {c:Cl} {x:C} (hc:c.ok S.gh) (h:iy S no j et c=some (x,S1)) (R:List (List T)):
  Td S S1 no∧c≠ .dead∧(et=none→T.ofSc c.av=x.tree)∧V0 (S.with no N w R) no i j c.av et=some (S1.with no N w (Rt R i j x et)):=by
 cases c with
 | c y=>
   cases y with
   | sc v=>
     cases et with
     | none=>
       simp only [iy,Option.some.injEq,Prod.mk.injEq] at h
       obtain⟨rfl,rfl⟩:=h
       exact⟨⟨hS,gK.refl _,rfl,rfl,rfl,rfl⟩,(fun h=>by cases h),fun _=>rfl,rfl⟩
     | some t=>simp [iy] at h
   | ls t l=>cases et <;> simp [iy] at h
 | em=>
   cases et with
   | none=>simp [iy] at h
   | some t=>
     simp only [iy,Option.some.injEq,Prod.mk.injEq] at h
     obtain⟨rfl,rfl⟩:=h
     refine⟨⟨OW hS _ _,gK.refl _,rfl,rfl,rfl,rfl⟩,(fun h=>by cases h),(fun h=>by cases h),?_⟩
     simp only [V0,Cl.av,Ey,bQ.sub,List.nil_append,Il,Rt]
     congr 1
     unfold St.setAt TS.with
     simp only
     rw [Lx,OX]
     rfl
 | own p sz lo len wh=>
   obtain⟨pr,pl⟩:=p
   cases wh with
   | false=>cases et <;> simp [iy] at h
   | true=>
     cases et with
     | none=>simp [iy] at h
     | some t=>
       cases pl with
       | cons a l=>simp [iy] at h
       | nil=>
         simp only [iy] at h
         obtain⟨h1,h⟩:=ar h
         simp only [Bool.and_eq_true,Bool.not_eq_true'] at h1
         obtain⟨⟨h1,h2⟩,h3⟩:=h1
         have h1:t.width=sz:=Nat.eq_of_beq_eq_true h1
         have h2:S.fz≤pr:=Nat.le_of_ble_eq_true h2
         have h3:pr≠no:=by intro e; rw [e,Nat.beq_refl] at h3; cases h3
         split at h
         ·rename_i tr htr
          split at h
          ·rename_i hh
           obtain⟨h4,h⟩:=ar h
           have h4':tr.t.width=sz:=Nat.eq_of_beq_eq_true h4
           simp only [Option.some.injEq,Prod.mk.injEq] at h
           obtain⟨rfl,rfl⟩:=h
           have hg:=bJ.look htr
           obtain⟨tt,l,hole⟩:=tr
           simp only at hh h4'
           subst hh
           obtain⟨e1,e2,e3⟩:=vk hc (fun _=>hg)
           refine⟨⟨OW (TS.ok_gh hS (gK.gone _ _)) _ _,gK.gone _ _,by simp [TS.kill,fi],rfl,rfl,?_⟩,(fun h=>by cases h),(fun h=>by cases h),?_⟩
           ·show cJ (cS S.gh pr none) no=_
            rw [pH _ _ (.inr rfl),if_neg (fun e=>h3 e.symm)]
           ·simp only [V0,Rt,Cl.av,Ey]
            have hrows: (S.with no N w R).rows ⟨pr,[]⟩ sz=some (l.map tt.row):=by
             have : (S.with no N w R).look ⟨pr,[]⟩= .sl tt.width (l.map tt.row):=by
              unfold St.look TS.with
              simp only [bO]
              rw [if_neg h3]
              show (match (cJ S.gh pr).map bJ.tree with | some t=>t.go [] | none=> .dd)=_
              rw [hg]
              rfl
             unfold St.rows
             rw [this]
             simp [h4']
            rw [if_pos ⟨trivial,h1.symm,e2,h2,h3⟩,hrows]
            simp only [Option.bind_some,List.length_map]
            rw [if_pos (by omega),e3]
            congr 1
            have e4: (l.map tt.row).take l.length=l.map tt.row:=List.take_of_length_le (by simp)
            rw [e4]
            simp only [bQ.sub,List.nil_append,Il]
            unfold TS.with
            simp only
            rw [Lx,Rs _ (fun e=>h3 e.symm),OX]
            have e5: ({ S with gh:=cS S.gh pr none }:TS).kill no j= { S.kill no j with gh:=cS (S.kill no j).gh pr none } :=rfl
            rw [e5,zo]
            simp only [C.tree,h4']
            rfl
          ·cases h
         ·cases h
 | pro cs=>cases et <;> simp [iy] at h
 | ptrB n j=>cases et <;> simp [iy] at h
 | ptrT p sz a b=>cases et <;> simp [iy] at h
 | dead=>cases et <;> simp [iy] at h
theorem Uz (X:St) (no i j:Nat) (c:AV) (et:Option Ty): (if Nc et=0 then some X else Ey X ⟨no,[]⟩ i j (Nc et) c)=V0 X no i j c et:=by
 cases et with
 | none=>rfl
 | some t=>exact if_neg (by show ¬ t.width=0; have:=t.width_pos; omega)
theorem Rv {R:List (List T)} {i j:Nat} {x:C} {et:Option Ty} {row:List T} (hr:R[i]? =some row) (hj:j < row.length) (h:et=none→row[j]? =some x.tree):Rt R i j x et=R.set i (row.set j x.tree):=by
 cases et with
 | none=>
   have h:=h rfl
   have e1:row.set j x.tree=row:=by
    apply List.ext_getElem?
    intro k
    rw [List.getElem?_set]
    split
    ·rename_i hk; subst hk; first | rw [if_pos hj,h] | rw [h]
    ·rfl
   rw [e1]
   apply List.ext_getElem?
   intro k
   show R[k]? =_
   rw [List.getElem?_set]
   split
   ·rename_i hk; subst hk; rw [if_pos (List.getElem?_eq_some_iff.1 hr).1,hr]
   ·rfl
 | some t=>
   simp only [Rt]
   rw [List.getD_eq_getElem?_getD,hr]
   rfl
theorem Fj (no i N w:Nat): ∀ (ets:List (Option Ty)) (cs:List Cl) (j:Nat) (S S1:TS) (xs:List C) (R:List (List T)) (row:List T),S.ok→(∀ c∈cs,c.ok S.gh)→qf no j S ets cs=some (xs,S1)→R[i]? =some row→
  j+cs.length≤row.length→(∀ (k:Nat) (c:Cl),cs[k]? =some c→row[j+k]? =some (T.ofSc c.av))→
  Td S S1 no∧ets.length=cs.length∧xs.length=cs.length∧(∀ c∈cs,c≠ .dead)∧
   dI (S.with no N w R) ⟨no,[]⟩ i j (ets.map Nc) (cs.map Cl.av)=some (S1.with no N w (R.set i (row.take j++xs.map C.tree++row.drop (j+cs.length)))):=by
 intro ets
 induction ets with
 | nil=>
   intro cs j S S1 xs R row hS hcs h hr hl ho
   cases cs with
   | cons c cs=>simp [qf] at h
   | nil=>
     simp only [qf,Option.some.injEq,Prod.mk.injEq] at h
     obtain⟨rfl,rfl⟩:=h
     refine⟨⟨hS,gK.refl _,rfl,rfl,rfl,rfl⟩,rfl,rfl,(fun c hc=>by cases hc),?_⟩
     simp only [List.map_nil,dI,List.append_nil,List.length_nil,Nat.add_zero,List.take_append_drop]
     congr 2
     apply List.ext_getElem?
     intro k
     rw [List.getElem?_set]
     split
     ·rename_i hk; subst hk; rw [if_pos (List.getElem?_eq_some_iff.1 hr).1,hr]
     ·rfl
 | cons et ets ih=>
   intro cs j S S1 xs R row hS hcs h hr hl ho
   cases cs with
   | nil=>simp [qf] at h
   | cons c cs=>
     simp only [qf] at h
     split at h
     ·rename_i x S2 hx
      split at h
      ·rename_i xs' S3 hxs
       simp only [Option.some.injEq,Prod.mk.injEq] at h
       obtain⟨rfl,rfl⟩:=h
       obtain⟨k1,k2,k3,k4⟩:=Ru hS i N w (hcs c List.mem_cons_self) hx R
       have hj:j < row.length:=by simp at hl; omega
       have hput:=Rv (et:=et) hr hj (x:=x) (fun he=>by rw [←k3 he]; exact ho 0 c rfl)
       rw [hput] at k4
       have hi:i < R.length:=(List.getElem?_eq_some_iff.1 hr).1
       obtain⟨m1,m2,m3,m4,m5⟩:=ih cs (j+1) S2 S3 xs' (R.set i (row.set j x.tree)) (row.set j x.tree) k1.ok (fun y hy=>Cl.ok_mono k1.gle (hcs y (List.mem_cons_of_mem _ hy))) hxs (by simp [hi]) (by simp at hl ⊢; omega) (fun k y hy=>by
        rw [List.getElem?_set_ne (by omega),show j+1+k=j+(k+1) by omega]
        exact ho (k+1) y (by simpa using hy))
       refine⟨⟨m1.ok,k1.gle.trans m1.gle,m1.len.trans k1.len,m1.fz.trans k1.fz,m1.nt.trans k1.nt,m1.no.trans k1.no⟩,by simp [m2],by simp [m3],fun y hy=> ?_,?_⟩
       ·rcases List.mem_cons.1 hy with rfl | hy
        ·exact k2
        ·exact m4 y hy
       ·simp only [List.map_cons,dI]
        rw [Uz,k4]
        simp only [Option.bind_some]
        rw [m5,List.set_set]
        congr 3
        have e2: (row.set j x.tree).take (j+1)=row.take j++ [x.tree] :=by
         rw [List.take_set,List.take_add_one,List.getElem?_eq_getElem hj]
         rw [Option.toList_some]
         have hlen: (row.take j).length=j:=by simp; omega
         rw [List.set_append_right _ _ (by omega),hlen,Nat.sub_self]
         rfl
        have e3: (row.set j x.tree).drop (j+1+cs.length)=row.drop (j+(cs.length+1)):=by
         rw [List.drop_set_of_lt (by omega),show j+1+cs.length=j+(cs.length+1) by omega]
        rw [e2,e3]
        simp
      ·cases h
     ·cases h
end Go.Proofs.YtkcgfceffffmoaaGreat.En
