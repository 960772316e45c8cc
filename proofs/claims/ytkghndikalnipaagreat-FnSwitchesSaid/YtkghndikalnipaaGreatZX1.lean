import Derived.Calls
import Derived.Control
import Derived.Tactics
import Derived.Laws.Sem
import Derived.Below
import Derived.Laws.Cells
import Derived.Laws.CopyRow
import Derived.Laws.Append
import Derived.Laws.AppendOwn
import Derived.ChangeKeysEq
import Derived.Orders
import Derived.Laws.Tables
import Derived.Great.FillDense
set_option linter.unusedSimpArgs false
set_option linter.unusedVariables false
namespace Go.Proofs.YtkghndikalnipaaGreat.En
section
open Go
abbrev af:=@Option.some.injEq
abbrev ah:=@Option.bind_eq_some_iff
abbrev ai:=@List.getElem?_eq_some_iff
abbrev aj:=@Option.map_eq_some_iff
abbrev ak:=@Bool.and_eq_true
abbrev an:=@Nat.eq_of_beq_eq_true
abbrev ao:=@Option.bind_some
abbrev aq:=@List.getElem?_eq_getElem
abbrev au:=@Prod.mk.injEq
abbrev aw:=@List.getElem?_map
abbrev ax:=@Nat.le_of_ble_eq_true
abbrev ay:=@List.all_eq_true
abbrev az:=@Nat.le_refl
abbrev aA:=@List.mem_of_getElem?
abbrev aB:=@List.getD_eq_getElem?_getD
abbrev aD:=@Array.getElem?_eq_some_iff
abbrev aE:=@List.map_congr_left
abbrev aF:=@Option.map_some
abbrev aG:=@List.mem_map
abbrev aH:=@List.length_map
abbrev aI:=@List.mem_cons_of_mem
abbrev aJ:=@List.getElem?_cons_zero
abbrev aK:=@List.mem_cons_self
abbrev aL:=@List.mem_singleton
abbrev aM:=@Nat.lt_of_lt_of_le
abbrev aN:=@Array.getD_eq_getD_getElem?
abbrev aO:=@List.map_cons
abbrev aP:=@Nat.zero_add
abbrev aQ:=@Bool.false_eq_true
abbrev aR:=@Array.getElem?_eq_getElem
abbrev aU:=@List.getElem_of_mem
abbrev aV:=@Option.getD_some
abbrev aW:=@List.getElem?_append_left
abbrev aX:=@Nat.le_trans
abbrev aY:=@Option.isSome_iff_exists
abbrev aZ:=@List.mem_cons
abbrev ba:=@List.map_map
abbrev bc:=@List.eq_nil_of_length_eq_zero
abbrev be:=@List.getElem?_append_right
abbrev bf:=@Array.getElem?_setIfInBounds
abbrev bg:=@List.contains_iff_mem
abbrev bh:=@List.getElem?_drop
abbrev bi:=@List.getElem?_zipWith
abbrev bk:=@List.append_assoc
abbrev bn:=@List.getElem?_take
abbrev bo:=@Nat.eq_zero_or_pos
abbrev bq:=@Bool.or_eq_true
abbrev bu:=@List.cons.injEq
abbrev bw:=@List.mem_range
abbrev bz:=@Nat.mul_le_mul_right
abbrev bA:=@List.ext_getElem?
abbrev bB:=@Nat.add_mul
abbrev bC:=@List.mem_append
abbrev bD:=@List.length_cons
abbrev bE:=@Bool.not_eq_true'
abbrev bF:=@List.mem_of_mem_drop
abbrev bG:=@List.nil_append
abbrev bH:=@List.getElem?_set
abbrev bI:=@Nat.add_zero
abbrev bJ:=@Bool.eq_iff_iff
abbrev bK:=@List.map_append
abbrev bL:=@List.length_append
abbrev bM:=@Nat.add_sub_cancel
abbrev bN:=@List.any_eq_true
abbrev bO:=@Nat.zero_le
abbrev bP:=@List.append_nil
abbrev bQ:=@Nat.zero_mul
abbrev bR:=@List.mem_append_left
abbrev bS:=@List.mem_of_mem_take
abbrev bT:=@List.range_eq_range'
abbrev bU:=@List.length_nil
abbrev bV:=@List.drop_eq_nil_of_le
abbrev bW:=@List.take_of_length_le
abbrev bX:=@Nat.add_comm
abbrev bZ:=@Array.getElem?_append_left
abbrev b7:=@Bool.false_or
abbrev b8:=@List.all_cons
abbrev b9:=@List.map_take
abbrev cd:=@Array.all_eq_true_iff_forall_mem
abbrev cf:=@List.getElem?_toArray
abbrev cg:=@List.drop_eq_getElem_cons
abbrev ch:=@Array.eq_empty_of_size_eq_zero
abbrev ci:=@List.drop_append_of_le_length
abbrev cj:=@List.getElem?_cons_succ
abbrev cn:=@List.drop_drop
abbrev co:=@List.length_drop
abbrev cq:=@List.range'_succ
abbrev ct:=@List.map_nil
abbrev cu:=@List.mem_filterMap
abbrev cw:=@Array.getElem?_toList
abbrev cx:=@List.getElem?_eq_none
abbrev cy:=@List.length_singleton
abbrev cz:=@Nat.zero_lt_one
abbrev cA:=@List.map_drop
abbrev cB:=@Nat.add_mul_mod_self_right
abbrev cD:=@Option.isNone_iff_eq_none
abbrev cE:=@List.drop_zero
abbrev cF:=@List.mapM_cons
abbrev cG:=@List.cons_append
abbrev cH:=@List.mem_toArray
abbrev cJ:=@Nat.beq_refl
abbrev cK:=@Nat.le_add_right
abbrev cL:=@Nat.le_succ
abbrev cM:=@Int.mul_le_mul_of_nonneg_left
abbrev cN:=@Array.getElem?_modify
abbrev cO:=@Nat.ble_eq_true_of_le
abbrev cP:=@Bool.or_eq_false_iff
abbrev cQ:=@List.getElem?_append
abbrev cR:=@List.length_take
abbrev cU:=@Nat.lt_succ_self
abbrev cW:=@Int.le_refl
abbrev cX:=@Option.bind_eq_bind
abbrev cY:=@List.mem_or_eq_of_mem_set
abbrev cZ:=@Nat.lt_or_ge
abbrev c9:=@Nat.sub_self
abbrev da:=@List.getElem?_replicate
abbrev db:=@List.length_eq_zero_iff
abbrev de:=@List.size_toArray
abbrev df:=@Bool.and_true
abbrev dg:=@Bool.not_true
abbrev dh:=@List.isEmpty_iff
abbrev dj:=@Nat.mod_eq_of_lt
abbrev dk:=@Array.getElem?_range
abbrev dp:=@Nat.add_right_cancel
abbrev dq:=@Array.length_toList
abbrev du:=@Nat.add_le_add_left
abbrev dv:=@List.nodup_nil
abbrev dw:=@List.take_zero
abbrev dx:=@Array.getElem?_map
abbrev dy:=@List.prefix_append
abbrev dz:=@Bool.true_and
abbrev dA:=@Nat.lt_irrefl
inductive T where
 |sc (v:Value)
 |sl (sz:Nat) (rows:List (List T))
 |dd
 deriving Inhabited
structure dM where
 r:Nat
 l:List (Nat×Nat)
 deriving DecidableEq
def dM.sub(p:dM)(i j:Nat):dM:=⟨p.r,p.l++ [(i,j)]⟩
inductive AV where
 |sc (v:Value)
 |em
 |ro (sz:Nat) (rows:List (List T))
 |own (p:dM) (sz lo len:Nat)
 |pro (cells:List T)
 |ptrB (n j:Nat)
 |ptrT (p:dM) (sz i j:Nat)
 |fn (f:FuncId) (caps:List AV)
 |agg (cs:List AV)
 |tup (vs:List AV)
 |dead
 deriving Inhabited
structure St where
 env:Nat->AV
 bx:Nat->Option (List AV)
 gh:Nat->Option T
 nb:Nat
 ng:Nat
 fz:Nat
 orc:Option Bool
 nt:Nat
def dQ{α:Type}(f:Nat->α)(t:Nat)(v:α):Nat->α:=λu=>if u=t then v else f u
def St.put(S:St)(d:Option Tmp)(v:AV):Option St:=match d with |some t=>if t<S.nt then some { S with env:=dQ S.env t v } else none|none=>some S
def gG:Value->Bool
 | .bool _| .int _ _| .string _| .nilFunc| .nilIface=>true
 | .pointer none=>true
 | .func _ a b=>a.isEmpty&&b.isEmpty
 | .slice _ _ _=>true
 | _=>false
def pa(P:Program)(t:TypeId):Option Bool:=match P.underlying t with |some (.struct _)|some (.array _ _)=>some true|some _=>some false|none=>none
def i8(P:Program)(t:TypeId):Option TypeId:=match P.underlying t with |some (.slice e)=>some e| _=>none
def wR(P:Program)(t k:Nat):Option (Nat×Nat×Bool):=match P.underlying t with |some (.struct fs)=>(fs[k]?).bind λf=>(pa P f.type).map λag=>(f.offset,P.cellsOf f.type,ag)| _=>none
def DI(P:Program)(t:TypeId):Option (Nat×Nat×Bool):=match P.underlying t with |some (.array n e)=>(pa P e).map λag=>(n,P.cellsOf e,ag)| _=>none
def gk(P:Program):Nat->TypeId->List Nat
 | 0,_=> []
 |d+1,t=>match P.underlying t with
  |some (.struct fs)=>fs.toList.flatMap λf=>gk P d f.type
  |some (.array n e)=>(List.replicate n (gk P d e)).flatten
  |some (.slice e)=> [P.cellsOf e]
  | _=> [0]
def lV(P:Program)(t:TypeId):Option (List Value):=match P.info? t with |some i=>i.zero.bind λv=>if v.cells.toList.all Value.oneCell' then some v.cells.toList else none|none=>none
def CG(P:Program)(t:TypeId):Option (List (Nat×Nat)):=match P.underlying t with
 |some (.struct fs)=>fs.toList.mapM (λf=>(P.info? f.type).map λi=>(f.offset,i.size))
 |some (.array n e)=>(P.info? e).map λi=>(List.range n).map λk=>(k*i.size,i.size)
 | _=>none
def mG(P:Program)(t:TypeId):Bool:=match P.underlying t with |some .string=>true| _=>false
def nD(v:Value):AV:=match v with | .slice none 0 0=> .em|v=>if gG v then .sc v else .dead
def pb:Value->AV
 | .agg cs=>if cs.toList.all Value.oneCell' then .agg (cs.toList.map nD) else .dead
 |v=>nD v
def iL:AV->Option Value
 | .sc v=>some v
 | .agg cs=>(cs.mapM (m:=Option) λ(c:AV)=>match c with |AV.sc v=>some v| _=>none).map λ(l:List Value)=> .agg l.toArray
 | _=>none
def opd(S:St):Operand->AV
 | .tmp t=>S.env t
 | .const v=>pb v
 | .func f=> .sc (.func (.func f) #[] #[])
 | .global _=> .dead
def T.ro:T->AV
 | .sc v=> .sc v
 | .sl sz rows=> .ro sz rows
 | .dd=> .dead
def xZ(p:dM)(i j:Nat):T->AV
 | .sc v=> .sc v
 | .sl sz rows=> .own ⟨p.r,p.l++ [(i,j)]⟩ sz 0 rows.length
 | .dd=> .dead
def T.cell(t:T)(i j:Nat):T:=match t with | .sl _ rows=>(rows.getD i []).getD j .dd| _=> .dd
def T.go:T->List (Nat×Nat)->T
 |t,[] =>t
 |t,(i,j)::l=>(t.cell i j).go l
def St.look(S:St)(p:dM):T:=match S.gh p.r with |some t=>t.go p.l|none=> .dd
def St.rows(S:St)(p:dM)(sz:Nat):Option (List (List T)):=match S.look p with | .sl s rows=>if s=sz then some rows else none| _=>none
def T.put:T->List (Nat×Nat)->T->T
 | _,[],x=>x
 | .sl sz rows,(i,j)::l,x=> .sl sz (rows.set i ((rows.getD i []).set j (((rows.getD i []).getD j .dd).put l x)))
 |t,_::_,_=>t
def St.setAt(S:St)(p:dM)(x:T):St:={ S with gh:=dQ S.gh p.r ((S.gh p.r).map λt=>t.put p.l x) }
def A4(ag:Bool)(cs:List AV):Option AV:=if ag then some (.agg cs) else match cs with | [c] =>some c| _=>none
def AV.isDead:AV->Bool| .dead=>true| .tup _=>true| _=>false
def AV.cells:AV->List AV
 | .agg cs=>cs
 |v=> [v]
def dR(S:St)(n:Nat):AV->Option (List AV)
 | .ptrB b j=>(S.bx b).bind λcs=>if j+n<=cs.length then some ((cs.drop j).take n) else none
 | .pro cells=>if n<=cells.length then some ((cells.take n).map T.ro) else none
 | .ptrT p sz i j=>match S.rows p sz with
   |some rows=>if i<rows.length/\j+n<=(rows.getD i []).length then some ((List.range n).map λk=>xZ p i (j+k) ((rows.getD i []).getD (j+k) .dd)) else none
   |none=>none
 | _=>none
def load(P:Program)(S:St)(t:TypeId)(a:AV):Option AV:=(pa P t).bind λag=>(dR S (P.cellsOf t) a).bind (A4 ag)
def mu:List (Nat×Nat)->List (Nat×Nat)->Bool
 | [],_=>true
 | _::_,[] =>false
 | (_,j)::l,(_,j')::l'=>j==j'&&mu l l'
def under(p q:dM):Bool:=p.r==q.r&&mu p.l q.l
def gV(p:dM):AV->AV
 | .own q sz lo len=>if under p q then .dead else .own q sz lo len
 | .ptrT q sz i j=>if under p q then .dead else .ptrT q sz i j
 | .agg _=> .dead
 | .tup _=> .dead
 | .fn _ _=> .dead
 |v=>v
def iY(p:dM):AV->AV
 | .agg cs=> .agg (cs.map (gV p))
 | .fn f cs=> .fn f (cs.map (gV p))
 | .tup _=> .dead
 |v=>gV p v
def kill(p:dM):AV->AV
 | .tup vs=> .tup (vs.map (iY p))
 |v=>iY p v
def St.killU(S:St)(p:dM):St:={ S with env:=λt=>kill p (S.env t),bx:=λn=>(S.bx n).map λcs=>cs.map (gV p) }
def T.flat:T->Bool| .sc _=>true| _=>false
def fU(S:St)(p:dM)(sz i j:Nat)(vs:List T):Option St:=match S.rows p sz with
 |some rows=>if i<rows.length/\j+vs.length<=(rows.getD i []).length then
   some (S.setAt p (.sl sz (rows.set i ((rows.getD i []).take j++vs++(rows.getD i []).drop (j+vs.length))))) else none
 |none=>none
def T.ofSc:AV->T| .sc v=> .sc v| _=> .dd
def gU(S:St)(p:dM)(i j sz:Nat):AV->Option St
 | .own q s lo len=>if q.l= [] /\s=sz/\lo=0/\S.fz<=q.r/\q.r≠p.r then (S.rows q s).bind λrows=>if len<=rows.length then
   let S1:=S.killU (p.sub i j)
   some { S1 with gh:=dQ (dQ S1.gh q.r none) p.r ((S.gh p.r).map λt=>t.put (p.l++ [(i,j)]) (.sl s (rows.take len))) } else none else none
 | .em=>some ((S.killU (p.sub i j)).setAt (p.sub i j) (.sl sz []))
 | _=>some S
def dV(S:St)(p:dM)(i:Nat):Nat->List Nat->List AV->Option St
 |j,sz::ss,v::vs=>(if sz=0 then some S else gU S p i j sz v).bind λS'=>dV S' p i (j+1) ss vs
 | _,_,_=>some S
def store(P:Program)(S:St)(t:TypeId)(a v:AV):Option St:=
 let vs:=v.cells
 if vs.length≠P.cellsOf t\/v.isDead then none else
 match a with
 | .ptrB b j=>(S.bx b).bind λcs=>if j+vs.length<=cs.length then
   some { S with bx:=dQ S.bx b (some (cs.take j++vs++cs.drop (j+vs.length))) } else none
 | .ptrT p sz i j=>(fU S p sz i j (vs.map T.ofSc)).bind λS'=>if (gk P 9 t).all (· ==0) then some S' else if S.fz<=p.r then dV S' p i j (gk P 9 t) vs else none
 | _=>none
def mp:AV->Option Int| .sc (.int _ n)=>some n| _=>none
def T.ofAV(S:St)(sz:Nat):AV->T
 | .sc v=> .sc v
 | .em=> .sl sz []
 | .ro s rows=> .sl s rows
 | .own p s lo len=>match S.rows p s with |some rows=>if lo+len<=rows.length then .sl s ((rows.drop lo).take len) else .dd|none=> .dd
 | _=> .dd
def eC(S:St)(sz:Nat):AV->AV
 | .sc v=> .sc v
 | .em=> .ro sz []
 | .ro s rows=> .ro s rows
 | .own p s lo len=>match S.rows p s with |some rows=>if lo+len<=rows.length then .ro s ((rows.drop lo).take len) else .dead|none=> .dead
 | .pro cells=> .pro cells
 | .ptrB b j=>match S.bx b with |some cs=> .pro ((cs.drop j).map (T.ofAV S 0))|none=> .dead
 | .ptrT p sz i j=>match S.rows p sz with |some rows=> .pro ((rows.getD i []).drop j)|none=> .dead
 | _=> .dead
def fk(S:St)(szs:List Nat):AV->AV
 | .agg cs=>if szs.length=cs.length then .agg (List.zipWith (eC S) szs cs) else .dead
 | .fn f caps=> .fn f (caps.map (eC S 0))
 | .em=> .em
 |v=>eC S (szs.headD 0) v
def fp(n:Nat):AV->AV
 | .own p sz lo len=> .own ⟨p.r+n,p.l⟩ sz lo len
 | .ptrT p sz i j=> .ptrT ⟨p.r+n,p.l⟩ sz i j
 | .sc v=> .sc v
 | _=> .dead
def ff(n:Nat):AV->AV
 | .agg cs=> .agg (cs.map (fp n))
 |v=>fp n v
def shift(n:Nat):AV->AV
 | .tup vs=> .tup (vs.map (ff n))
 |v=>ff n v
def install(S:St)(res:AV×List T):AV×St:=
 (shift S.ng res.1,{ S with gh:=λn=>if S.ng<=n/\n<S.ng+res.2.length then res.2[n-S.ng]? else S.gh n,ng:=S.ng+res.2.length })
def kM(S:St)(gs:List T)(sz:Nat):AV->Option (AV×List T×St)
 | .sc v=>some (.sc v,gs,S)
 | .em=>some (.own ⟨gs.length,[]⟩ sz 0 0,gs++ [.sl sz []],S)
 | .own p s lo len=>if p.l= [] /\s=sz/\S.fz<=p.r then (S.rows p s).bind λrows=>if lo+len<=rows.length/\(lo=0\/s<=3/\rows.all (λr=>r.all T.flat)) then some (.own ⟨gs.length,[]⟩ sz 0 len,gs++ [.sl s ((rows.drop lo).take len)],{ S with gh:=dQ S.gh p.r none }) else none else none
 | .ptrT p s i j=>if p.l= [] /\S.fz<=p.r then (S.rows p s).bind λrows=>some (.ptrT ⟨gs.length,[]⟩ s i j,gs++ [.sl s rows],{ S with gh:=dQ S.gh p.r none }) else none
 | _=>none
def jf(S:St)(gs:List T):List Nat->List AV->Option (List AV×List T×St)
 |sz::ss,v::vs=>(kM S gs sz v).bind λ(v',gs',S')=>(jf S' gs' ss vs).map λ(vs',gs'',S'')=>(v'::vs',gs'',S'')
 | [],[] =>some ([],gs,S)
 | _,_=>none
def v8(P:Program)(S:St)(gs:List T)(t:TypeId):AV->Option (AV×List T×St)
 | .agg cs=>(jf S gs (gk P 9 t) cs).map λ(vs,gs',S')=>(.agg vs,gs',S')
 |v=>kM S gs ((gk P 9 t).headD 0) v
def uc(P:Program)(S:St)(gs:List T):List (TypeId×AV)->Option (List AV×List T)
 | [] =>some ([],gs)
 | (t,v)::r=>(v8 P S gs t v).bind λ(v',gs',S')=>(uc P S' gs' r).map λ(vs,gs'')=>(v'::vs,gs'')
abbrev iC:=Option Tmp->FuncId->List AV->List T->Option (AV×List T)
def callee(S:St)(f:Operand):Option (FuncId×List AV):=
 match opd S f with
 | .sc (.func (.func g) _ _)=>some (g,[])
 | .fn g caps=>some (g,caps)
 | _=>none
def zc(sz:Nat)(v:Value):T:=match v with | .slice none 0 0=> .sl sz [] |v=>if gG v then .sc v else .dd
def mL(P:Program)(e:TypeId):Option (List T):=(lV P e).bind λzs=>if zs.length=P.cellsOf e/\(gk P 9 e).length=P.cellsOf e then some (List.zipWith zc (gk P 9 e) zs) else none
def dI{α:Type}(P:Program):Sem α->Option α
 | .pure a=>some a
 | .program k=>dI P (k P)
 | _=>none
def CE:Value->AV
 | .agg cs=>if cs.all gG then .agg (cs.toList.map .sc) else .dead
 |v=>if gG v then .sc v else .dead
def dL(P:Program)(S:St)(o:Oper):Option AV:=
 if o.op.operands.all (λx=>(iL (opd S x)).isSome) then
  match dI P (execOp (λx=>(iL (opd S x)).getD undef) o) with
  |some (.value v)=>some (CE v)
  | _=>none
 else none
def zU(ts:List T):AV->AV
 | .own p sz lo len=>match p.l,ts[p.r]? with | [],some (.sl s rows)=>if s=sz/\lo+len<=rows.length then .ro sz ((rows.drop lo).take len) else .dead| _,_=> .dead
 | .sc v=> .sc v
 | _=> .dead
def Bq(ts:List T):AV->AV
 | .agg cs=> .agg (cs.map (zU ts))
 |v=>zU ts v
def Dt(res:AV×List T):AV:=match res.1 with
 | .tup vs=> .tup (vs.map (Bq res.2))
 |v=>Bq res.2 v
def args(P:Program)(S:St)(ts:Array TypeId)(as:Array Operand)(caps:List AV):List AV:=
 List.zipWith (λt a=>fk S (gk P 9 t) (opd S a)) ts.toList as.toList++caps.map (eC S 0)
def lJ(n:Nat)(i:Int):AV->Option AV
 | .ro sz rows=>if 0<=i/\i<rows.length/\sz=n then some (.pro (rows.getD i.toNat [])) else none
 | .own p sz lo len=>if 0<=i/\i<len/\sz=n then some (.ptrT p sz (lo+i.toNat) 0) else none
 | _=>none
def jv:AV->Option Int
 | .ro _ rows=>some rows.length
 | .own _ _ _ len=>some len
 | .em=>some 0
 | _=>none
def zn:List (Nat×Nat)->List AV->List (Nat×AV)->Option (List AV)
 | _,cs,[] =>some cs
 |pl,cs,(k,v)::r=>match pl[k]? with
  |some (off,n)=>if v.isDead=false/\v.cells.length=n/\off+n<=cs.length then zn pl (cs.take off++v.cells++cs.drop (off+n)) r else none
  |none=>none
def gg(S:St)(d:Int):Option Operand->Option Int
 |none=>some d
 |some x=>mp (opd S x)
def AO(n:Nat)(lo hi:Int):AV->Option AV
 | .em=>if lo=0/\hi=0 then some .em else none
 | .ro sz rows=>if sz=n/\0<=lo/\lo<=hi/\hi<=rows.length then some (.ro sz ((rows.drop lo.toNat).take (hi.toNat-lo.toNat))) else none
 | .own p sz l len=>if sz=n/\0<=lo/\lo<=hi/\hi<=len then some (.own p sz (l+lo.toNat) (hi.toNat-lo.toNat)) else none
 | _=>none
def dD(D:iC)(P:Program)(S:St)(o:Oper):Option AV:=
 let e:=opd S
 match o.op with
 | .move x| .assign x=>some (e x)
 | .pick c a b=>match e c with | .sc (.bool t)=>some (if t then e a else e b)| _=>none
 | .load t a=>load P S t (e a)
 | .nilCheck x=>match e x with
   | .ptrB n j=>some (.ptrB n j)
   | .ptrT p sz i j=>some (.ptrT p sz i j)
   | .pro cs=>some (.pro cs)
   | .fn f cs=>some (.fn f cs)
   | .sc (.func (.func f) a b)=>some (.sc (.func (.func f) a b))
   | _=>none
 | .fieldAddr t x k=>(wR P t k).bind λ(off,n,_)=>if n=0 then none else match e x with
   | .ptrB b j=>some (.ptrB b (j+off))
   | .ptrT p sz i j=>some (.ptrT p sz i (j+off))
   | .pro cs=>some (.pro (cs.drop off))
   | _=>none
 | .field t x k=>(wR P t k).bind λ(off,n,ag)=>match e x with
   | .agg cs=>if off+n<=cs.length/\0<n then A4 ag ((cs.drop off).take n) else none
   | _=>none
 | .indexAddr t x ix=>(i8 P t).bind λel=>(mp (e ix)).bind λi=>lJ (P.cellsOf el) i (e x)
 | .build t parts=>(CG P t).bind λpl=>(lV P t).bind λzs=>(zn pl (zs.map nD) (parts.toList.map λx=>(x.1,e x.2))).map .agg
 | .slice t x lo hi none=>match e x with
   | .sc (.string s)=>if mG P t then (gg S 0 lo).bind λl=>(gg S s.size hi).bind λh=>if 0<=l/\l<=h/\h<=s.size then some (.sc (.string (s.extract l.toNat h.toNat))) else none else none
   |v=>(i8 P t).bind λel=>(jv v).bind λn=>(gg S 0 lo).bind λl=>(gg S n hi).bind λh=>AO (P.cellsOf el) l h v
 | .index t x ix=>match e x with
   | .agg cs=>(DI P t).bind λ(n,sz,ag)=>(mp (e ix)).bind λi=>if 0<=i/\i<n/\i.toNat*sz+sz<=cs.length then A4 ag ((cs.drop (i.toNat*sz)).take sz) else none
   | _=>dL P S o
 | .extract x k=>match e x with | .tup vs=>vs[k]? | _=>none
 | .makeFunc (.func f) first caps=>if first.isEmpty then some (.fn f (caps.toList.map e)) else none
 | .call { callee:=.builtin .len,args:=as,argTypes:=ts } =>match as.toList,ts.toList with
   | [x],[t] =>if (i8 P t).isSome then (jv (e x)).map λn=> .sc (.int .i64 n) else dL P S o
   | _,_=>none
 | .call { callee:=.builtin .cap,args:=as,argTypes:=ts } =>match as.toList,ts.toList with
   | [x],[t] =>if (i8 P t).isSome then (match e x with | .em=>some (.sc (.int .i64 0))| _=>none) else dL P S o
   | _,_=>none
 | .call { callee:=.builtin .max,args:=as,argTypes:=_ } =>match as.toList.map e with
   | [.sc (.int k a),.sc (.int _ b)] =>some (.sc (.int k (if b>a then b else a)))
   | _=>dL P S o
 | .call { callee:=.builtin .min,args:=as,argTypes:=_ } =>match as.toList.map e with
   | [.sc (.int k a),.sc (.int _ b)] =>some (.sc (.int k (if b<a then b else a)))
   | _=>dL P S o
 | .call { callee:=.value f,args:=as,argTypes } =>(callee S f).bind λ(g,caps)=>(D o.dst g (args P S argTypes as caps) []).map Dt
 | .binOp .lss _ x y _=>match e x,e y with | .sc (.int k a),.sc (.int k' b)=>if k=k' then some (.sc (.bool (decide (a<b)))) else none| _,_=>dL P S o
 | .binOp .leq _ x y _=>match e x,e y with | .sc (.int k a),.sc (.int k' b)=>if k=k' then some (.sc (.bool (decide (a<=b)))) else none| _,_=>dL P S o
 | .binOp .gtr _ x y _=>match e x,e y with | .sc (.int k a),.sc (.int k' b)=>if k=k' then some (.sc (.bool (decide (a>b)))) else none| _,_=>dL P S o
 | .binOp .geq _ x y _=>match e x,e y with | .sc (.int k a),.sc (.int k' b)=>if k=k' then some (.sc (.bool (decide (a≥b)))) else none| _,_=>dL P S o
 | .binOp .add _ x y _=>match e x,e y with | .sc (.int k a),.sc (.int k' b)=>if k=k' then some (.sc (.int k (k.wrap (a+b)))) else none| _,_=>dL P S o
 | .binOp .sub _ x y _=>match e x,e y with | .sc (.int k a),.sc (.int k' b)=>if k=k' then some (.sc (.int k (k.wrap (a-b)))) else none| _,_=>dL P S o
 | .binOp .mul _ x y _=>match e x,e y with | .sc (.int k a),.sc (.int k' b)=>if k=k' then some (.sc (.int k (k.wrap (a*b)))) else none| _,_=>dL P S o
 | .binOp .eql _ x y _=>match e x,e y with | .sc (.int k a),.sc (.int k' b)=>if k=k' then some (.sc (.bool (a==b))) else none| _,_=>dL P S o
 | .binOp .neq _ x y _=>match e x,e y with | .sc (.int k a),.sc (.int k' b)=>if k=k' then some (.sc (.bool (a != b))) else none| _,_=>dL P S o
 | .unOp .not _ x=>match e x with | .sc (.bool b)=>some (.sc (.bool (!b)))| _=>none
 | _=>dL P S o
def CH(sz:Nat):AV->Option T
 | .sc v=>some (.sc v)
 | .ro s rows=>some (.sl s rows)
 | .em=>some (.sl sz [])
 | _=>none
def pC:List Nat->List AV->Option (List T)
 |s::ss,v::vs=>(CH s v).bind λx=>(pC ss vs).map λxs=>x::xs
 | [],[] =>some []
 | _,_=>none
def jq(ss:List Nat):List (List AV)->Option (List (List T))
 | [] =>some []
 |v::vs=>(pC ss v).bind λr=>(jq ss vs).map λrs=>r::rs
def qG:AV->Bool| .ro _ _=>true| _=>false
def eK(S:St)(base:AV)(sz:Nat)(more:List (List T)):Option (AV×St):=
 match base with
 | .em=>some (.own ⟨S.ng,[]⟩ sz 0 more.length,{ S with gh:=dQ S.gh S.ng (some (.sl sz more)),ng:=S.ng+1 })
 | .own p s lo len=>if s=sz/\lo=0/\S.fz<=p.r then (S.rows p sz).bind λrows=>if rows.length<len then none else some
   (.own ⟨S.ng,[]⟩ sz 0 (len+more.length),
     let S1:=if p.l= [] then { S with gh:=dQ S.gh p.r none } else S.setAt p .dd
     { S1 with gh:=dQ S1.gh S.ng (some (.sl sz (rows.take len++more))),ng:=S.ng+1 }) else none
 | _=>none
def source(S:St)(sz:Nat)(fl:Bool):AV->Option (List (List T)×St)
 | .em=>some ([],S)
 | .ro s rows=>if s=sz/\rows.all (λr=>r.all T.flat) then some (rows,S) else none
 | .own p s lo len=>if s=sz then (S.rows p sz).bind λrows=>
   if fl=false/\p.l= [] /\lo=0/\len=rows.length/\S.fz<=p.r then some (rows,{ S with gh:=dQ S.gh p.r none })
   else if lo+len<=rows.length/\((rows.drop lo).take len).all (λr=>r.all T.flat) then some ((rows.drop lo).take len,S) else none
   else none
 | _=>none
def jG:List (List T)->Option (List Int)
 | [] =>some []
 | [.sc (.int .u8 n)]::rs=>(jG rs).map λns=>n::ns
 | _=>none
def BM(ns:List Int):ByteArray:=ns.foldl (λr n=>r.push (UInt8.ofNat n.toNat)) ByteArray.empty
def Bx(P:Program)(t:TypeId):Bool:=match P.underlying t with |some (.int .u8)=>true| _=>false
def step(D:iC)(P:Program)(S:St)(o:Oper):Option (AV×St):=
 let e:=opd S
 match o.op with
 | .alloc t=>(lV P t).map λzs=>(.ptrB S.nb 0,{ S with bx:=dQ S.bx S.nb (some (zs.map pb)),nb:=S.nb+1 })
 | .box _ x=>match e x with
   | .dead| .tup _=>none
   |v=>some (.ptrB S.nb 0,{ S with bx:=dQ S.bx S.nb (some v.cells),nb:=S.nb+1 })
 | .store t a x=>(store P S t (e a) (e x)).map λS'=>(.dead,S')
 | .makeSlice t l c=>(i8 P t).bind λel=>(mp (e l)).bind λn=>(mp (e c)).bind λm=>(mL P el).bind λz=>
   if 0<=n/\n=m/\P.bytesOf el*n<=2 ^ 40/\n<=2 ^ 40 then
    some (.own ⟨S.ng,[]⟩ (P.cellsOf el) 0 n.toNat,{ S with gh:=dQ S.gh S.ng (some (.sl (P.cellsOf el) (List.replicate n.toNat z))),ng:=S.ng+1 }) else none
 | .buildSlice t len parts=>(i8 P t).bind λel=>
   if len*P.cellsOf el<=2 ^ 20/\parts.toList.map (·.1)=List.range len/\0<P.cellsOf el/\(lV P el).isSome/\parts.toList.all (λx=>(e x.2).cells.length=P.cellsOf el&& !(e x.2).isDead) then
    if parts.toList.any (λx=>(e x.2).cells.any qG) then (jq (gk P 9 el) (parts.toList.map λx=>(e x.2).cells)).map λrows=>(.ro (P.cellsOf el) rows,S) else
    let S1:={ S with gh:=dQ S.gh S.ng (some (.sl (P.cellsOf el) (parts.toList.map λx=>(e x.2).cells.map T.ofSc))),ng:=S.ng+1 }
    (if (gk P 9 el).all (· ==0) then some S1 else parts.toList.foldlM (λS' x=>dV S' ⟨S.ng,[]⟩ x.1 0 (gk P 9 el) (e x.2).cells) S1).map λS2=>(.own ⟨S.ng,[]⟩ (P.cellsOf el) 0 len,S2)
   else none
 | .call { callee:=.builtin .append,args:=as,argTypes:=ts } =>match as.toList,ts.toList with
   | [s,x],[t,t'] =>if t=t' then (i8 P t).bind λel=>(source S (P.cellsOf el) ((gk P 9 el).all (· ==0)) (e x)).bind λ(more,S')=>
     (eK S' (e s) (P.cellsOf el) more).bind λr=>match r.1 with
       | .own _ _ _ n=>if n*P.bytesOf el<=2 ^ 40/\n<=2 ^ 40/\0<P.cellsOf el/\(mL P el).isSome then some r else none
       | _=>none
     else (i8 P t).bind λel=>(mL P el).bind λz=>match e s,e x with
      | .em,.sc (.int _ n)=>if 0<n/\P.bytesOf el*n<=2 ^ 40/\n<=2 ^ 40/\0<P.cellsOf el then some (.own ⟨S.ng,[]⟩ (P.cellsOf el) 0 n.toNat,{ S with gh:=dQ S.gh S.ng (some (.sl (P.cellsOf el) (List.replicate n.toNat z))),ng:=S.ng+1 }) else none
      | _,_=>none
   | _,_=>none
 | .call { callee:=.value f,args:=as,argTypes } =>(callee S f).bind λ(g,caps)=>(D o.dst g (args P S argTypes as caps) []).map (install S)
 | .convert s d x=>match e x with
   | .own p sz lo len=>(i8 P s).bind λel=>if Bx P el=true/\mG P d=true/\sz=1/\0<len then (S.rows p sz).bind λrows=>if lo+len<=rows.length then (jG ((rows.drop lo).take len)).map λns=>(.sc (.string (BM ns)),S) else none else none
   | _=>(dD D P S o).map λv=>(v,S)
 | _=>(dD D P S o).map λv=>(v,S)
def gz(S:St)(all:Array Oper)(o:Oper):Option Bool:=match o.guard with
 |none=>some true
 |some (j,want)=>match (all[j]?).bind (·.dst) with
  |some d=>match S.env d with
   | .sc (.bool b)=>some (b==want)
   | .tup [] =>some false
   | _=>none
  |none=>none
def one(D:iC)(P:Program)(S:St)(o:Oper):Option St:=(step D P S o).bind λ(v,S')=>S'.put o.dst v
def ef(ops:List Oper):List (List Nat):=ops.foldl (λacc o=>acc++ [o.after.toList.foldl (λs e=>if Region.binds .any e then (e.on::acc.getD e.on []).foldl (λs i=>if s.contains i then s else i::s) s else s) []]) []
def im(o:Oper):Bool:=match o.op with | .call { callee:=.value _, .. } =>true| _=>false
def dB(o:Oper):Bool:=match o.op with | .store .. =>true| _=>false
def eA(o:Oper):Bool:=match o.op with
 | .buildSlice .. =>true
 | .makeSlice .. =>true
 | .call { callee:=.builtin .append, .. } =>true
 | .call { callee:=.value _, .. } =>true
 | _=>false
def eN(S:St)(sz:Nat)(fl:Bool):AV->Option (List (List T)×List Nat)
 | .em=>some ([],[])
 | .ro s rows=>if s=sz/\rows.all (λr=>r.all T.flat) then some (rows,[]) else none
 | .own p s lo len=>if s=sz then (S.rows p sz).bind λrows=>
   if fl=false/\p.l= [] /\lo=0/\len=rows.length/\S.fz<=p.r then some (rows,[p.r])
   else if lo+len<=rows.length/\((rows.drop lo).take len).all (λr=>r.all T.flat) then some ((rows.drop lo).take len,[]) else none
   else none
 | _=>none
def gD(S:St)(sz:Nat):AV->Option (List (List T)×List Nat)
 | .em=>some ([],[])
 | .own p s lo len=>if s=sz/\lo=0/\p.l= [] /\S.fz<=p.r then (S.rows p sz).bind λrows=>if rows.length<len then none else some (rows.take len,[p.r]) else none
 | _=>none
def dropL(S:St)(L:List Nat):St:={ S with gh:=λr=>if L.contains r then none else S.gh r }
def rg:List Nat->Nat
 | [] =>0
 |a::l=>max (a+1) (rg l)
def fO(L:List Nat):List Nat:=(List.range (rg L)).filter λr=>L.contains r
def BF:List Nat->Bool
 | [] =>true
 |a::l=> !l.contains a&&BF l
def fQ(S:St)(sz:Nat)(v:AV):Option (T×List Nat):=if sz=0 then some (T.ofSc v,[]) else match v with
 | .em=>some (.sl sz [],[])
 | .own q s lo len=>if q.l= [] /\s=sz/\lo=0/\S.fz<=q.r then (S.rows q s).bind λrows=>if len<=rows.length then some (.sl s (rows.take len),[q.r]) else none else none
 | _=>none
def eR(S:St):List Nat->List AV->Option (List T×List Nat)
 |s::ss,v::vs=>(fQ S s v).bind λ(x,l)=>(eR S ss vs).map λ(xs,l')=>(x::xs,l++l')
 | [],[] =>some ([],[])
 | _,_=>none
def eH(S:St)(ss:List Nat):List (List AV)->Option (List (List T)×List Nat)
 | [] =>some ([],[])
 |v::vs=>(eR S ss v).bind λ(r,l)=>(eH S ss vs).map λ(rs,l')=>(r::rs,l++l')
def ed(D:iC)(P:Program)(S:St)(o:Oper):Option (AV×List T×List Nat):=
 let e:=opd S
 match o.op with
 | .buildSlice t len parts=>(i8 P t).bind λel=>
   if len*P.cellsOf el<=2 ^ 20/\parts.toList.map (·.1)=List.range len/\0<P.cellsOf el/\(lV P el).isSome/\parts.toList.all (λx=>(e x.2).cells.length=P.cellsOf el&& !(e x.2).isDead) then
    (eH S (gk P 9 el) (parts.toList.map λx=>(e x.2).cells)).bind λ(rows,L)=>if BF L then some (.own ⟨0,[]⟩ (P.cellsOf el) 0 len,[.sl (P.cellsOf el) rows],fO L) else none
   else none
 | .call { callee:=.builtin .append,args:=as,argTypes:=ts } =>match as.toList,ts.toList with
   | [s,x],[t,t'] =>if t=t' then (i8 P t).bind λel=>(eN S (P.cellsOf el) ((gk P 9 el).all (· ==0)) (e x)).bind λ(more,L)=>(gD (dropL S L) (P.cellsOf el) (e s)).bind λ(rows,L')=>
       if (rows.length+more.length)*P.bytesOf el<=2 ^ 40/\rows.length+more.length<=2 ^ 40/\0<P.cellsOf el/\(mL P el).isSome then
        some (.own ⟨0,[]⟩ (P.cellsOf el) 0 (rows.length+more.length),[.sl (P.cellsOf el) (rows++more)],fO (L++L')) else none
     else none
   | _,_=>none
 | .call { callee:=.value f,args:=as,argTypes } =>(callee S f).bind λ(g,caps)=>(D o.dst g (args P S argTypes as caps) []).map λr=>(r.1,r.2,[])
 | .makeSlice t l c=>(i8 P t).bind λel=>(mp (e l)).bind λn=>(mp (e c)).bind λm=>(mL P el).bind λz=>if 0<=n/\n=m/\P.bytesOf el*n<=2 ^ 40/\n<=2 ^ 40 then some (.own ⟨0,[]⟩ (P.cellsOf el) 0 n.toNat,[.sl (P.cellsOf el) (List.replicate n.toNat z)],[]) else none
 | _=>none
def gy:AV->List Nat
 | .own p _ _ _=> [p.r]
 | .ptrT p _ _ _=> [p.r]
 | .agg cs=>cs.flatMap λ| .own p _ _ _=> [p.r] | .ptrT p _ _ _=> [p.r] | .agg _=> [] | .fn _ _=> [] | .tup _=> [] | _=> []
 | .fn _ cs=>cs.flatMap λ| .own p _ _ _=> [p.r] | .ptrT p _ _ _=> [p.r] | .agg _=> [] | .fn _ _=> [] | .tup _=> [] | _=> []
 | _=> []
structure eP where
 b:Nat
 adds:List T
 cons:List Nat
def St.make(S:St)(m:eP):St:={ S with gh:=λr=>if S.ng<=r/\r<S.ng+m.adds.length then m.adds[r-S.ng]? else if m.cons.contains r then none else S.gh r,ng:=S.ng+m.adds.length }
def dY(o:Oper):Bool:=match o.op with | .alloc _=>true| _=>false
def gr(o:Oper):Bool:=eA o||dY o
def ey:List Oper->Nat
 | [] =>0
 |o::os=>(if dY o then 1 else 0)+ey os
def qT(P:Program):List Oper->St->Option St
 | [],S=>some S
 |o::os,S=>match o.op with
  | .alloc t=>(lV P t).bind λzs=>qT P os { S with bx:=dQ S.bx S.nb (some (zs.map pb)),nb:=S.nb+1 }
  | _=>qT P os S
mutual
def fj(p:Nat->Bool):AV->Bool
 | .ptrB n _=>p n
 | .fn _ cs=>ju p cs
 | .agg cs=>ju p cs
 | .tup cs=>ju p cs
 | _=>true
def ju(p:Nat->Bool):List AV->Bool
 | [] =>true
 |c::cs=>fj p c&&ju p cs
end
def po(D:iC)(P:Program)(all:Array Oper):List Oper->St->Option (St×List eP)
 | [],S=>some (S,[])
 |o::os,S=>if dB o then (po D P all os S).map λr=>(r.1,⟨S.ng,[],[]⟩::r.2) else if dY o then (if o.guard.isNone then (S.put o.dst (.ptrB (S.nb-1-ey os) 0)).bind λS1=>(po D P all os S1).map λr=>(r.1,⟨S.ng,[],[]⟩::r.2) else none) else
   (gz S all o).bind λb=>if b then
     (if eA o then (ed D P S o).bind λ(v,adds,cons)=>((S.make ⟨S.ng,adds,cons⟩).put o.dst (shift S.ng v)).bind λS1=>(po D P all os S1).map λr=>(r.1,⟨S.ng,adds,cons⟩::r.2)
     else ((dD D P S o).bind λv=>S.put o.dst v).bind λS1=>(po D P all os S1).map λr=>(r.1,⟨S.ng,[],[]⟩::r.2))
     else (S.put o.dst (.tup [])).bind λS1=>(po D P all os S1).map λr=>(r.1,⟨S.ng,[],[]⟩::r.2)
def gO(ms:List eP)(r:Nat):Option Nat:=ms.findIdx? λm=>m.b<=r&&r<m.b+m.adds.length
def iU(ms:List eP)(r:Nat):List Nat:=(List.range ms.length).filter λi=>((ms[i]?).map λm=>m.cons.contains r).getD false
def lF(ops:List Oper)(Bj:List Nat)(S SV:St)(t:Nat):AV:=if Bj.any (λi=>((ops[i]?).bind (·.dst))==some t) then SV.env t else S.env t
def fI(ops:List Oper)(B:List (List Nat))(S SV:St)(j:Nat)(x:Operand):AV:=opd { SV with env:=lF ops (B.getD j []) S SV } x
def iH(P:Program)(t:TypeId):Bool:=(gk P 9 t).all (· ==0)
def lS(fl:TypeId->Bool)(t:TypeId):AV->Bool
 | .ptrB _ _=>true
 | .ptrT _ _ _ _=>fl t
 | _=>false
def lZ:AV->AV->Bool
 | .pro _,_=>true
 | .ptrB b _,.ptrB b' _=>b != b'
 | .ptrT _ _ _ _,.ptrB _ _=>true
 | .ptrB _ _,.ptrT _ _ _ _=>true
 | .ptrT p _ _ _,.ptrT q _ _ _=>p.r != q.r
 | _,_=>false
def jk(fl:TypeId->Bool)(ops:List Oper)(B:List (List Nat))(S SV:St)(i j:Nat)(oi oj:Oper):Bool:=match oj.op with
 | .store t a _=>lS fl t (fI ops B S SV j a)&&(match oi.op with | .load _ x=>lZ (fI ops B S SV i x) (fI ops B S SV j a)| _=>true)
 | _=>false
def vF:AV->Bool
 | .own p _ _ _=>p.l.isEmpty
 | .ptrT p _ _ _=>p.l.isEmpty
 | .agg _=>false
 | .tup _=>false
 | .fn _ _=>false
 | _=>true
def yr:AV->Bool
 | .agg cs=>cs.all vF
 | .fn _ cs=>cs.all vF
 | .tup _=>false
 |v=>vF v
def oI:AV->Bool
 | .tup vs=>vs.all yr
 |v=>yr v
def iQ(ops:List Oper)(B:List (List Nat))(S SV:St)(i:Nat)(oi:Oper):Bool:=oi.guard.isNone&&(match oi.op with | .load _ _=>false| _=>true)&&(oi.op.operands.toList.all λx=>oI (fI ops B S SV i x))&&(match oi.dst with |some d=>oI (SV.env d)|none=>true)
def kX(ops:List Oper)(B:List (List Nat))(f:Nat->Nat->Oper->Oper->Bool):Bool:=(List.range ops.length).all λj=>match ops[j]? with
 |none=>false
 |some oj=> !dB oj||((List.range ops.length).all λi=>match ops[i]? with
  |none=>false
  |some oi=>dB oi||(B.getD j []).contains i||f i j oi oj)
def rX(S:St)(ms:List eP)(b:Nat):Bool:=match S.bx b with |some cs=>cs.all λc=>(gy c).all λr=>(iU ms r).isEmpty|none=>true
def ua(fl:TypeId->Bool)(ops:List Oper)(B:List (List Nat))(S:St)(ms:List eP)(SV:St):Bool:=
 (ms.all λm=>m.cons.all λr=>decide (S.ng<=r)||decide (S.fz<=r))&&
 ((List.range ops.length).all λi=>match ops[i]? with
   |none=>false
   |some o=>dB o||((o.op.operands.toList.flatMap λx=>gy (fI ops B S SV i x)).all λr=>((iU ms r).all λj=>j==i||(B.getD j []).contains i)&&(decide (r<S.ng)||(match gO ms r with |some c=>(B.getD i []).contains c|none=>false))))&&
 (kX ops B (jk fl ops B S SV)||kX ops B λi _ oi _=>iQ ops B S SV i oi)&&
 ((List.range ops.length).all λi=>match ops[i]? with
   |none=>false
   |some o=>dB o||dY o||((o.op.operands.toList.all λx=>fj (λn=>Nat.blt n (S.nb-ey ops)) (fI ops B S SV i x)&&(!im o||fj (rX S ms) (fI ops B S SV i x)))&&(match o.dst with |some d=>fj (λn=>Nat.blt n (S.nb-ey ops)) (SV.env d)|none=>true)))
def pp(D:iC)(P:Program)(all:Array Oper):List Oper->St->Option St
 | [],S=>some S
 |o::os,S=>if dB o then (if o.guard.isNone/\o.dst.isNone then (one D P S o).bind (pp D P all os) else none) else pp D P all os S
inductive X where
 |nor
 |ret
 |ext (id:Nat)
 deriving DecidableEq
end
section
open Go
inductive RO (w:World) (A:Nat->Prop):T->Value->Prop where
 |sc {v:Value} (h:gG v=true):RO w A (.sc v) v
 |dd {u:Value} (h:u.oneCell'=true):RO w A .dd u
 |em (sz:Nat) (a:Option Addr) (cap:Nat):RO w A (.sl sz []) (.slice a 0 cap)
 |sl {sz:Nat} {rows:List (List T)} {ad:Addr} {cap:Nat} (cs:Nat->Nat->Value) (hc:rows.length<=cap) (hs:ad.spot=none) (hA:A ad.block)
   (hl: ∀ (i:Nat) (r:List T),rows[i]? =some r->r.length=sz)
   (hr: ∀ (i:Nat) (r:List T) (j:Nat) (x:T),rows[i]? =some r->r[j]? =some x->w.cell? (ad.add (i*sz+j))=some (cs i j))
   (ht: ∀ (i:Nat) (r:List T) (j:Nat) (x:T),rows[i]? =some r->r[j]? =some x->RO w A x (cs i j)):RO w A (.sl sz rows) (.slice (some ad) rows.length cap)
structure Bt where
 β:dM->Nat×Nat
 κ:dM->Nat
 bb:Nat->Nat
 nb:Nat
 ng:Nat
 A:Nat->Prop
inductive VR (w:World) (bt:Bt):AV->Value->Prop where
 |sc {v:Value} (h:gG v=true):VR w bt (.sc v) v
 |em (a:Option Addr):VR w bt .em (.slice a 0 0)
 |ro {sz:Nat} {rows:List (List T)} {u:Value} (h:RO w bt.A (.sl sz rows) u):VR w bt (.ro sz rows) u
 |own {p:dM} {sz lo len:Nat} {a:Option Addr} {cap:Nat} (hp:p.r<bt.ng) (hc:len<=cap) (hk:lo+cap<=bt.κ p) (ha:0<cap->a=some ⟨(bt.β p).1,(bt.β p).2+lo*sz,none⟩):VR w bt (.own p sz lo len) (.slice a len cap)
 |pro {cells:List T} {ad:Addr} (cs:Nat->Value) (hs:ad.spot=none) (hA:bt.A ad.block) (hr: ∀ (j:Nat) (x:T),cells[j]? =some x->w.cell? (ad.add j)=some (cs j)) (ht: ∀ (j:Nat) (x:T),cells[j]? =some x->RO w bt.A x (cs j)):VR w bt (.pro cells) (.pointer (some ad))
 |ptrB {n:Nat} (j:Nat) (hn:n<bt.nb):VR w bt (.ptrB n j) (.pointer (some ⟨bt.bb n,j,none⟩))
 |ptrT {p:dM} (sz i j:Nat) (hp:p.r<bt.ng) (hk:i<bt.κ p):VR w bt (.ptrT p sz i j) (.pointer (some ⟨(bt.β p).1,(bt.β p).2+(i*sz+j),none⟩))
 |fn (f:FuncId) {caps:List AV} {us:List Value} (hl:us.length=caps.length) (h: ∀ (k:Nat) (c:AV) (u:Value),caps[k]? =some c->us[k]? =some u->VR w bt c u):VR w bt (.fn f caps) (.func (.func f) #[] us.toArray)
 |agg {cs:List AV} {us:List Value} (hl:us.length=cs.length) (ho: ∀u∈us,u.oneCell'=true) (h: ∀ (k:Nat) (c:AV) (u:Value),cs[k]? =some c->us[k]? =some u->VR w bt c u):VR w bt (.agg cs) (.agg us.toArray)
 |tup {cs:List AV} {us:List Value} (hl:us.length=cs.length) (h: ∀ (k:Nat) (c:AV) (u:Value),cs[k]? =some c->us[k]? =some u->VR w bt c u):VR w bt (.tup cs) (.tuple us.toArray)
 |dead (u:Value):VR w bt .dead u
inductive HR (bt:Bt) (p:dM):T->Value->Prop where
 |sc {v:Value} (h:gG v=true):HR bt p (.sc v) v
 |dd (u:Value):HR bt p .dd u
 |sl {sz:Nat} {rows:List (List T)} {a:Option Addr} {cap:Nat} (hc:rows.length<=cap) (hk:cap<=bt.κ p) (ha:0<cap->a=some ⟨(bt.β p).1,(bt.β p).2,none⟩):HR bt p (.sl sz rows) (.slice a rows.length cap)
def Dg(o k sz n:Nat):Prop:=o+k*sz<=n/\(o=0\/sz<=3)
def yT(w:World)(bt:Bt)(p:dM)(sz:Nat)(rows:List (List T)):Prop:=
 ∃ (cs:Array Value) (e:TypeId),w.heap[(bt.β p).1]? =some (.cells cs e (0,0))/\Dg (bt.β p).2 (bt.κ p) sz cs.size/\(∀ (k:Nat) (u:Value),cs[k]? =some u->u.oneCell'=true)/\
   ∀ (i:Nat) (r:List T),rows[i]? =some r->r.length=sz/\ ∀ (j:Nat) (x:T),r[j]? =some x-> ∃c,cs[(bt.β p).2+(i*sz+j)]? =some c/\HR bt (p.sub i j) x c
def C1(w:World)(bt:Bt)(n:Nat)(cells:List AV):Prop:=
 ∃ (cs:Array Value) (e:TypeId),w.heap[bt.bb n]? =some (.cells cs e (0,0))/\cs.size=cells.length/\ ∀ (j:Nat) (v:AV),cells[j]? =some v-> ∃c,cs[j]? =some c/\VR w bt v c/\c.oneCell'=true
class dE where
 w:World
def tO[dE](w:World)(W:Nat->Prop):Prop:=dE.w.heap.size<=w.heap.size/\ ∀b,b<dE.w.heap.size->w.heap[b]? =dE.w.heap[b]? /\ ¬W b
structure eh [dE] (w0:World) (W:Nat->Prop) (bt:Bt) (S:St) (w:World):Prop where
 good:tO w0 W
 os:w.os=w0.os
 tape:w.tape=w0.tape
 output:w.output=w0.output
 size:w0.heap.size<=w.heap.size
 keep: ∀b,b<w0.heap.size-> ¬W b->w.heap[b]? =w0.heap[b]?
 nb:bt.nb=S.nb
 ng:bt.ng=S.ng
 bx: ∀n cells,S.bx n=some cells->n<S.nb/\w0.heap.size<=bt.bb n/\C1 w bt n cells
 gh: ∀r t,S.gh r=some t->r<S.ng
 tr: ∀p sz rows,S.look p= .sl sz rows->rows.length<=bt.κ p/\(0<bt.κ p->(w0.heap.size<=(bt.β p).1\/W (bt.β p).1)/\yT w bt p sz rows)
 inj: ∀p q sz rows sz' rows',S.look p= .sl sz rows->S.look q= .sl sz' rows'->0<bt.κ p->0<bt.κ q->(bt.β p).1=(bt.β q).1->p=q
 bbinj: ∀n m cs cs',S.bx n=some cs->S.bx m=some cs'->bt.bb n=bt.bb m->n=m
 bbtr: ∀n cs p sz rows,S.bx n=some cs->S.look p= .sl sz rows->0<bt.κ p->bt.bb n≠(bt.β p).1
 alt: ∀b,bt.A b->b<w.heap.size
 atr: ∀p sz rows,S.look p= .sl sz rows->0<bt.κ p-> ¬bt.A (bt.β p).1
 abb: ∀n cs,S.bx n=some cs-> ¬bt.A (bt.bb n)
theorem tO.step[dE]{w0 w:World}{W W':Nat->Prop}{bt:Bt}{S:St}(hI:eh w0 W bt S w)(h: ∀b,W' b->w0.heap.size<=b\/W b):tO w W':=
 ⟨aX hI.good.1 hI.size,λb hb=>by have h0:=hI.good.2 b hb;have hlt:=aM hb hI.good.1;exact⟨(hI.keep b hlt h0.2).trans h0.1,λhw=>(h b hw).elim (λh=>by omega) h0.2⟩⟩
def ER(w:World)(bt:Bt)(S:St)(a:Act):Prop:=a.tmps.size=S.nt/\ ∀t,VR w bt (S.env t) (a.tmps.getD t undef)
theorem kL{w w':World}{a:Addr}(h:w'.heap[a.block]? =w.heap[a.block]?):w'.cell? a=w.cell? a:=by unfold World.cell?;rw[h]
theorem ka(a:Addr)(n:Nat): (a.add n).block=a.block:=by unfold Addr.add;split<;>rfl
theorem RO.mono{w w':World}{A A':Nat->Prop}{t:T}{u:Value}(h:RO w A t u)(hA: ∀b,A b->A' b)(hw: ∀b,A b->w'.heap[b]? =w.heap[b]?):RO w' A' t u:=by
 induction h with
 |sc h=>exact .sc h
 |dd h=>exact .dd h
 |em sz a cap=>exact .em sz a cap
 |sl cs hc hs hb hl hr ht ih=>exact .sl cs hc hs (hA _ hb) hl (λi r j x h1 h2=>(kL (by rw[ka];exact hw _ hb)).trans (hr i r j x h1 h2)) ih
structure Bt.le (bt bt':Bt):Prop where
 nb:bt.nb<=bt'.nb
 ng:bt.ng<=bt'.ng
 A: ∀b,bt.A b->bt'.A b
 β: ∀p:dM,p.r<bt.ng->bt'.β p=bt.β p
 κ: ∀p:dM,p.r<bt.ng->bt'.κ p=bt.κ p
 bb: ∀n,n<bt.nb->bt'.bb n=bt.bb n
theorem Bt.le.refl(bt:Bt):bt.le bt:=⟨az _,az _,λ_ h=>h,λ_ _=>rfl,λ_ _=>rfl,λ_ _=>rfl⟩
theorem Bt.le.trans{a b c:Bt}(h:a.le b)(k:b.le c):a.le c:=
 ⟨aX h.nb k.nb,aX h.ng k.ng,λx hx=>k.A x (h.A x hx),λp hp=>(k.β p (aM hp h.ng)).trans (h.β p hp),λp hp=>(k.κ p (aM hp h.ng)).trans (h.κ p hp),λn hn=>(k.bb n (aM hn h.nb)).trans (h.bb n hn)⟩
theorem VR.mono{w w':World}{bt bt':Bt}{v:AV}{u:Value}(h:VR w bt v u)(hb:bt.le bt')(hw: ∀b,bt.A b->w'.heap[b]? =w.heap[b]?):VR w' bt' v u:=by
 induction h with
 |sc h=>exact .sc h
 |em a=>exact .em a
 |ro h=>exact .ro (h.mono hb.A hw)
 |own hp hc hk ha=>exact .own (aM hp hb.ng) hc (by rw[hb.κ _ hp];exact hk) (by rw[hb.β _ hp];exact ha)
 |pro cs hs hA hr ht=>exact .pro cs hs (hb.A _ hA) (λj x hx=>(kL (by rw[ka];exact hw _ hA)).trans (hr j x hx)) (λj x hx=>(ht j x hx).mono hb.A hw)
 |ptrB j hn=>rw[<-hb.bb _ hn];exact .ptrB j (aM hn hb.nb)
 |ptrT sz i j hp hk=>rw[<-hb.β _ hp];exact .ptrT sz i j (aM hp hb.ng) (by rw[hb.κ _ hp];exact hk)
 |fn f hl h ih=>exact .fn f hl ih
 |agg hl ho h ih=>exact .agg hl ho ih
 |tup hl h ih=>exact .tup hl ih
 |dead u=>exact .dead u
theorem HR.mono{bt bt':Bt}{p:dM}{t:T}{u:Value}(h:HR bt p t u)(hκ:bt'.κ p=bt.κ p)(hβ:bt'.β p=bt.β p):HR bt' p t u:=by
 cases h with
 |sc h=>exact .sc h
 |dd u=>exact .dd u
 |sl hc hk ha=>exact .sl hc (by rw[hκ];exact hk) (by rw[hβ];exact ha)
theorem td{v:Value}(h:gG v=true):v.oneCell'=true:=by unfold gG at h;split at h<;>simp_all [Value.oneCell']
theorem RO.one{w:World}{A:Nat->Prop}{t:T}{u:Value}(h:RO w A t u):u.oneCell'=true:=by
 cases h with
 |sc h=>exact td h
 |dd h=>exact h
 | _=>rfl
theorem VR.one{w:World}{bt:Bt}{v:AV}{u:Value}(h:VR w bt v u): (∃cs us,v= .agg cs/\u= .agg us)\/(∃cs us,v= .tup cs/\u= .tuple us)\/v= .dead\/u.oneCell'=true:=by
 cases h with
 |agg hl ho h=>exact .inl ⟨_,_,rfl,rfl⟩
 |tup hl h=>exact .inr (.inl ⟨_,_,rfl,rfl⟩)
 |dead u=>exact .inr (.inr (.inl rfl))
 |sc h=>exact .inr (.inr (.inr (by unfold gG at h;split at h<;>simp_all [Value.oneCell'])))
 |ro h=>cases h<;>exact .inr (.inr (.inr rfl))
 | _=>exact .inr (.inr (.inr rfl))
theorem qR(w:World)(bt:Bt)(v:Value):VR w bt (nD v) v:=by
 unfold nD;split
 ·exact .em none
 ·split
  ·exact .sc ‹_›
  ·exact .dead _
theorem BI(w:World)(bt:Bt)(v:Value):VR w bt (pb v) v:=by
 unfold pb;split
 ·rename_i cs;split
  ·rename_i hall;refine VR.agg (us:=cs.toList) (by simp) (λu hu=>ay.1 hall u hu) (λk c u h1 h2=> ?_);simp only[aw] at h1;rw[h2] at h1;simp only[aF,af] at h1;subst h1;exact qR _ _ _
  ·exact .dead _
 ·exact qR _ _ _
theorem dP{w:World}{bt:Bt}{S:St}{a:Act}(h:ER w bt S a)(x:Operand):VR w bt (opd S x) (a.eval x):=by
 cases x with
 |tmp t=>exact h.2 t
 |const v=>exact BI _ _ _
 |func f=>exact .sc rfl
 |global g=>exact .dead _
theorem ER.put{w:World}{bt:Bt}{S S':St}{a:Act}{d:Option Tmp}{v:AV}{u:Value}(h:ER w bt S a)(hv:VR w bt v u)(hp:S.put d v=some S'):ER w bt S' (a.put d u):=by
 cases d with
 |none=>simp only[St.put,af] at hp;subst hp;exact h
 |some t=>
  simp only[St.put] at hp;split at hp
  ·rename_i hlt;simp only[af] at hp;subst hp;refine⟨by simpa [Act.put] using h.1,λk=> ?_⟩;by_cases hk:k=t
   ·subst hk
    have : (a.put (some k) u).tmps.getD k undef=u:=by simp[Act.put,aN,h.1,hlt]
    rw[this];simpa [dQ] using hv
   ·have : (a.put (some t) u).tmps.getD k undef=a.tmps.getD k undef:=by
     simp[Act.put,aN,Array.getElem?_setIfInBounds_ne (Ne.symm hk)]
    rw[this];simpa [dQ,hk] using h.2 k
  ·cases hp
theorem ER.mono{w w':World}{bt bt':Bt}{S:St}{a:Act}(h:ER w bt S a)(hb:bt.le bt')(hw: ∀b,bt.A b->w'.heap[b]? =w.heap[b]?):ER w' bt' S a:=⟨h.1,λt=>(h.2 t).mono hb hw⟩
end
section
open Go
section
variable {P:Program} {w0 w:World} {W:Nat->Prop} {bt:Bt} {S:St}
theorem add_lit(b o k:Nat): (⟨b,o,none⟩:Addr).add k=⟨b,o+k,none⟩:=by unfold Addr.add;split<;>simp_all
theorem rq(a:Addr)(i j:Nat): (a.add i).add j=a.add (i+j):=by grind [Addr.add]
theorem gq{b o:Nat}{cs:Array Value}{e:TypeId}(h:w.heap[b]? =some (.cells cs e (0,0))):w.cell? ⟨b,o,none⟩=cs[o]? :=by simp[World.cell?,h]
theorem jE{t:TypeId}{ag:Bool}(h:pa P t=some ag): ∃d i,P.underlying t=some d/\P.info? t=some i/\ag=(match d with | .struct _| .array _ _=>true| _=>false):=by
 unfold pa at h;cases hu:P.underlying t with
 |none=>rw[hu] at h;cases h
 |some d=>
  have hi: ∃i,P.info? t=some i:=by
   unfold Program.underlying at hu;split at hu
   ·exact⟨_,‹_›⟩
   ·exact⟨_,‹_›⟩
   ·cases hu
  grind
theorem kr{t:TypeId}{ag:Bool}(h:pa P t=some ag): (isAgg t).run P w= .ok ag w:=by obtain⟨d,i,hu,hi,rfl⟩:=jE h;cases d<;>simp[isAgg,run_underlying hu]
theorem jy{t:TypeId}{ag:Bool}{ad:Addr}{us:List Value}(h:pa P t=some ag)(hl:us.length=P.cellsOf t)(hc: ∀ (k:Nat) (u:Value),us[k]? =some u->w.cell? (ad.add k)=some u)
  {cs:List AV} {v:AV} (hcs:us.length=cs.length) (ho: ∀u∈us,u.oneCell'=true) (hr: ∀ (k:Nat) (c:AV) (u:Value),cs[k]? =some c->us[k]? =some u->VR w bt c u) (hm:A4 ag cs=some v):
  ∃u,(loadVar t ad).run P w= .ok u w/\VR w bt v u:=by
 obtain⟨d,i,hu,hi,hag⟩:=jE h;unfold A4 at hm;cases ag with
 |true=>simp only[if_true,af] at hm;subst hm;refine⟨.agg us.toArray,?_,.agg hcs ho hr⟩;simp only[loadVar,Sem.run_bind,kr h,Result.andThen_ok,if_true,run_sizeOf w hi];rw[<-hl,run_loadCells_list w ad us hc];rfl
 |false=>
  simp only[aQ,if_false] at hm;split at hm
  ·rename_i c;simp only[af] at hm;subst hm
   match us,hcs with
   | [u],_=>
     have h0:=hc 0 u rfl;have e:ad.add 0=ad:=by simp[Addr.add]
     rw[e] at h0;refine⟨u,?_,hr 0 _ _ rfl rfl⟩;simp[loadVar,kr h,h0]
  ·cases hm
theorem kG[dE](hI:eh w0 W bt S w){av:AV}{u:Value}{n:Nat}{cs:List AV}(hv:VR w bt av u)(h:dR S n av=some cs)(hn:0<n):
  ∃ (ad:Addr) (us:List Value),u= .pointer (some ad)/\us.length=n/\cs.length=n/\(∀ (k:Nat) (u:Value),us[k]? =some u->w.cell? (ad.add k)=some u)/\(∀u∈us,u.oneCell'=true)/\ ∀ (k:Nat) (c:AV) (u:Value),cs[k]? =some c->us[k]? =some u->VR w bt c u:=by
 cases hv with
 |ptrB j hlt=>
  rename_i b;simp only[dR,ah] at h;obtain⟨cells,hb,h⟩:=h;split at h
  ·rename_i hle;simp only[af] at h;subst h;obtain⟨_,_,arr,e,hh,hs,hc⟩:=hI.bx _ _ hb;refine⟨_,(arr.toList.drop j).take n,rfl,by simp;omega,by simp;omega,λk u hk=> ?_,λu hu=> ?_,λk c u h1 h2=> ?_⟩
   ·grind [add_lit,gq]
   ·have hm:u∈arr.toList:=bF (bS hu);obtain⟨k,hk,hku⟩:=aU hm;obtain⟨c,g1,_,g3⟩:=hc k cells[k] (aq (by simp at hk;omega))
    grind
   grind
  ·cases h
 |pro f hs hA hr ht=>
  rename_i cells ad;simp only[dR] at h;split at h
  ·rename_i hle;simp only[af] at h;subst h;refine⟨ad,(List.range n).map f,rfl,by simp,by simp;omega,λk u hk=> ?_,λu hu=> ?_,λk c u h1 h2=> ?_⟩
   ·simp only[aw] at hk;cases hkk: (List.range n)[k]? with
    |none=>rw[hkk] at hk;cases hk
    |some k'=>
     have hk':k<n/\k'=k:=by rw[ai] at hkk;obtain⟨a,b⟩:=hkk;simp at a b;exact⟨a,b.symm⟩
     rw[hkk] at hk;simp only[aF,af] at hk;subst hk;rw[hk'.2];exact hr k cells[k] (aq (by omega))
   ·obtain⟨k,hk,rfl⟩:=aG.1 hu;simp at hk;exact (ht k cells[k] (aq (by omega))).one
   ·simp only[aw,bn] at h1 h2;split at h1
    ·rename_i hk;cases hx:cells[k]? with
     |none=>rw[hx] at h1;cases h1
     |some x=>
      rw[hx] at h1;simp only[aF,af] at h1;have : (List.range n)[k]? =some k:=by simp[hk]
      rw[this] at h2;simp only[aF,af] at h2;subst h1 h2;have hro:=ht k x hx;cases x with
      |sc v=>simp only[T.ro];cases hro;exact .sc ‹_›
      |sl sz rows=>exact .ro hro
      |dd=>exact .dead _
    ·cases h1
  ·cases h
 |ptrT sz i j hp hk=>
  rename_i p;simp only[dR] at h;split at h
  ·rename_i rows hrows;split at h
   ·rename_i hle;simp only[af] at h;subst h
    have hlook:S.look p= .sl sz rows:=by
     unfold St.rows at hrows;split at hrows
     ·grind
     ·cases hrows
    obtain⟨hlen,hrest⟩:=hI.tr _ _ _ hlook;obtain⟨_,arr,e,hh,hsz,hone,hcells⟩:=hrest (by omega);have hrow:rows[i]? =some (rows.getD i []):=by simp[List.getD,aq hle.1]
    obtain⟨hrl,hcell⟩:=hcells i _ hrow
    have each: ∀k,k<n-> ∃x c,(rows.getD i [])[j+k]? =some x/\arr[(bt.β p).2+(i*sz+(j+k))]? =some c/\HR bt (p.sub i (j+k)) x c:=by intro k hk;have hx: (rows.getD i [])[j+k]? =some ((rows.getD i [])[j+k]'(by omega)):=aq (by omega);obtain⟨c,h1,h2⟩:=hcell _ _ hx;exact⟨_,c,hx,h1,h2⟩
    refine⟨_,(List.range n).map λk=>(arr[(bt.β p).2+(i*sz+(j+k))]?).getD undef,rfl,by simp,by simp,λk u hk=> ?_,λu hu=> ?_,λk c u h1 h2=> ?_⟩
    ·simp only[aw] at hk;by_cases hkn:k<n
     ·have : (List.range n)[k]? =some k:=by simp[hkn]
      rw[this] at hk;simp only[aF,af] at hk;obtain⟨x,c,_,h1,_⟩:=each k hkn;rw[h1] at hk;rw[add_lit,gq hh,show (bt.β p).2+(i*sz+j)+k=(bt.β p).2+(i*sz+(j+k)) by omega,h1,<-hk];rfl
     grind
    ·grind
    ·simp only[aw] at h1 h2;by_cases hkn:k<n
     ·have : (List.range n)[k]? =some k:=by simp[hkn]
      rw[this] at h1 h2;simp only[aF,af] at h1 h2;obtain⟨x,c',hx,hc,hr⟩:=each k hkn;rw[hc] at h2;have hx': (rows.getD i []).getD (j+k) .dd=x:=by simp only[aB] at hx ⊢;rw[hx];rfl
      rw[hx'] at h1;simp only[aV] at h2;subst h1 h2;cases hr with
      |sc h=>exact .sc h
      |dd u=>exact .dead _
      |sl hcap hkap haddr=>exact .own hp hcap (by simpa [dM.sub] using hkap) (λh0=>by simpa [dM.sub] using haddr h0)
     grind
   ·cases h
  ·cases h
 | _=>simp[dR] at h
theorem ul[dE](hI:eh w0 W bt S w){av v:AV}{u:Value}{t:TypeId}(hv:VR w bt av u)(h:load P S t av=some v)(hn:0<P.cellsOf t):
  ∃u',(Instr.loadAt t u).run P w= .ok u' w/\VR w bt v u':=by
 simp only[load,ah] at h;obtain⟨ag,hag,cs,hcs,hm⟩:=h;obtain⟨ad,us,rfl,hul,hcl,hc,ho,hr⟩:=kG hI hv hcs hn;obtain⟨u',h1,h2⟩:=jy hag hul hc (by omega) ho hr hm
 grind [Instr.loadAt,Instr.sureAddr]
theorem rT{t k off n:Nat}{ag:Bool}(h:wR P t k=some (off,n,ag)): ∃fs f,P.underlying t=some (.struct fs)/\fs[k]? =some f/\f.offset=off/\P.cellsOf f.type=n/\pa P f.type=some ag:=by
 unfold wR at h;split at h
 ·rename_i fs hu;simp only[ah,aj] at h
  grind
 ·cases h
theorem jV{t k off n:Nat}{ag:Bool}{ad:Addr}(h:wR P t k=some (off,n,ag))(hn:n≠0): (Instr.fieldAt t (.pointer (some ad)) k).run P w= .ok (.pointer (some (ad.add off))) w:=by obtain⟨fs,f,hu,hf,rfl,rfl,ha⟩:=rT h;obtain⟨_,i,_,hi,_⟩:=jE ha;simp[Instr.fieldAt,run_underlying hu,hf,Instr.sureAddr,fieldPlace,run_sizeOf w hi,hn]
theorem s8{t:TypeId}{ag:Bool}{cells:Array Value}{off:Nat}(h:pa P t=some ag){cs:List AV}{us:List Value}(hus:cells=us.toArray)(hl:us.length=cs.length)(ho: ∀u∈us,u.oneCell'=true)
  (hr: ∀ (k:Nat) (c:AV) (u:Value),cs[k]? =some c->us[k]? =some u->VR w bt c u) (hle:off+P.cellsOf t<=cs.length) {v:AV} (hm:A4 ag ((cs.drop off).take (P.cellsOf t))=some v):
  ∃u,(part t cells off).run P w= .ok u w/\VR w bt v u:=by
 obtain⟨d,i,hu,hi,hag⟩:=jE h;subst hus;unfold A4 at hm;cases ag with
 |true=>
  simp only[if_true,af] at hm;subst hm;refine⟨.agg ((us.drop off).take (P.cellsOf t)).toArray,?_,.agg (by simp;omega) (λu hu=>ho u (bF (bS hu))) (λk c u h1 h2=> ?_)⟩
  ·simp only[part,Sem.run_bind,kr h,Result.andThen_ok,if_true,run_sizeOf w hi];simp only[Sem.run_pure]
   grind
  grind
 |false=>
  simp only[aQ,if_false] at hm;split at hm
  ·rename_i c hcc;simp only[af] at hm;subst hm;have h0: ((cs.drop off).take (P.cellsOf t))[0]? =some c:=by rw[hcc];rfl
   rw[bn] at h0;split at h0
   ·rw[bh,bI] at h0
    have hlt:off<us.length:=by have:=(ai.1 h0).1;omega
    refine⟨us[off],?_,hr off _ _ h0 (aq hlt)⟩;simp[part,kr h,hlt]
   ·cases h0
  ·cases hm
theorem eY{t el:TypeId}(h:i8 P t=some el):P.underlying t=some (.slice el):=by grind [i8]
theorem ia{av:AV}{i:Int}{u:Value}(h:mp av=some i)(hv:VR w bt av u): ∃k,u= .int k i:=by
 unfold mp at h;split at h
 ·simp only[af] at h;subst h;cases hv;exact⟨_,rfl⟩
 ·cases h
theorem fw{p:dM}{sz:Nat}{rows:List (List T)}(h:S.rows p sz=some rows):S.look p= .sl sz rows:=by grind [St.rows]
theorem sk{t el:TypeId}{i:TypeInfo}{av v:AV}{u:Value}{k:IntKind}{n:Int}(hel:i8 P t=some el)(hi:P.info? el=some i)(hv:VR w bt av u)
  (h:lJ (P.cellsOf el) n av=some v): ∃u',(Instr.indexAt t u (.int k n)).run P w= .ok u' w/\VR w bt v u':=by
 have hu:=eY hel;cases hv with
 |ro hro=>
  rename_i sz rows;simp only[lJ] at h;split at h
  ·rename_i hc;obtain⟨h0,hlt,rfl⟩:=hc;simp only[af] at h;subst h;cases hro with
   |em sz a cap=>simp at hlt;omega
   |sl cs hcap hs hA hl hr ht=>
    rename_i ad cap;have hnl:n.toNat<rows.length:=by omega
    have hrow:rows[n.toNat]? =some (rows.getD n.toNat []):=by simp[List.getD,aq hnl]
    refine⟨.pointer (some (ad.add (n.toNat*P.cellsOf el))),?_,.pro (λj=>cs n.toNat j) ?_ ?_ (λj x hx=> ?_) (λj x hx=>ht _ _ _ _ hrow hx)⟩
    ·simp[Instr.indexAt,asIntOf,run_underlying hu,h0,hlt,run_sizeOf w hi]
    all_goals grind [Addr.add]
  ·cases h
 |own hp hcap hk ha=>
  rename_i p sz lo len a cap;simp only[lJ] at h;split at h
  ·rename_i hc;obtain⟨h0,hlt,rfl⟩:=hc;simp only[af] at h;subst h;have hcp:0<cap:=by omega
   rw[ha hcp];refine⟨_,by simp only[Instr.indexAt,asIntOf,Sem.run_bind,Sem.run_pure,Result.andThen_ok,run_underlying hu];simp[h0,hlt,run_sizeOf w hi];rfl,?_⟩;rw[add_lit,show (bt.β p).2+lo*P.cellsOf el+n.toNat*P.cellsOf el=(bt.β p).2+((lo+n.toNat)*P.cellsOf el+0) by rw[bB];omega];exact .ptrT _ _ _ hp (by omega)
  ·cases h
 | _=>simp[lJ] at h
theorem BN{av:AV}{u v:Value}(hv:VR w bt av u)(h:iL av=some v):u=v:=by
 cases hv with
 |sc hs=>simpa [iL] using h
 |agg hl ho hr=>
  rename_i cs us;simp only[iL,aj] at h;obtain⟨l,hm,rfl⟩:=h
  congr 1
  have fB: ∀ (cs:List AV) (us l:List Value),us.length=cs.length->(∀ (k:Nat) (c:AV) (u:Value),cs[k]? =some c->us[k]? =some u->VR w bt c u)->
    cs.mapM (m:=Option) (λ(c:AV)=>match c with |AV.sc v=>some v| _=>none)=some l->us=l:=by
   intro cs
   induction cs with
   |nil=>grind
   |cons c cs ih=>
    intro us l hl hr hm
    match us,hl with
    |u::us,hl=>
     simp only[cF,cX,ah] at hm;obtain⟨v,hc,l',hm',he⟩:=hm;simp only[Option.pure_def,af] at he;subst he;have h0:=hr 0 c u rfl rfl
     have :u=v:=by
      split at hc
      ·simp only[af] at hc;subst hc;cases h0;rfl
      ·cases hc
     subst this;rw[ih us l' (by simpa using hl) (λk c u h1 h2=>hr (k+1) c u (by simpa using h1) (by simpa using h2)) hm']
  rw[fB cs us l hl hr hm]
 | _=>simp[iL] at h
theorem BH(v:Value):VR w bt (CE v) v:=by
 unfold CE;split
 ·rename_i cs;split
  ·rename_i hall;refine VR.agg (us:=cs.toList) (by simp) (λu hu=>td (by grind [Array.all_eq_true_iff_forall_mem])) (λk c u h1 h2=> ?_);simp only[aw,h2,aF,af] at h1;subst h1
   have :u∈cs:=by have:=aA h2;simpa using this
   exact .sc (by grind)
  ·exact .dead _
 ·split
  ·exact .sc ‹_›
  ·exact .dead _
theorem sR{α:Type}{s:Sem α}{x:α}(h:dI P s=some x):s.run P w= .ok x w:=by
 induction s with
 |pure a=>simp_all [dI]
 |program k ih=>simp only[dI] at h;exact ih _ h
 | _=>simp[dI] at h
theorem iA{a:Act}{o:Oper}{v:AV}(hE:ER w bt S a)(hs: ∀cs b,o.op≠ .select cs b)(h:dL P S o=some v):
  ∃u,(execOp a.eval o).run P w= .ok (.value u) w/\VR w bt v u:=by
 unfold dL at h;split at h
 ·rename_i hall;split at h
  ·rename_i x hx;simp only[af] at h;subst h
   have hc:execOp a.eval o=execOp (λx=>(iL (opd S x)).getD undef) o:=by refine execOp_congr o hs (λx hx=> ?_);rw[cd] at hall;have:=hall x hx;obtain⟨v,hv⟩:=aY.1 this;rw[BN (dP hE x) hv,hv];rfl
   grind [sR,BH]
  ·cases h
 ·cases h
def jl(o:Oper):Bool:=match o.op with
 | .call { callee:=.builtin .len, .. } =>true
 | .call { callee:=.builtin .cap, .. } =>true
 | .call { callee:=.builtin .max, .. } =>true
 | .call { callee:=.builtin .min, .. } =>true
 | .call _=>false
 | .select .. =>false
 | .load .. =>true
 | _=>true
theorem VR.cells_of{v:AV}{u:Value}(h:VR w bt v u)(hd:v.isDead=false):u.cells.size=v.cells.length/\ ∀ (j:Nat) (x:AV),v.cells[j]? =some x-> ∃c,u.cells[j]? =some c/\VR w bt x c/\c.oneCell'=true:=by
 have one:u.oneCell'=true->(∀cs,v≠ .agg cs)->u.cells.size=v.cells.length/\ ∀ (j:Nat) (x:AV),v.cells[j]? =some x-> ∃c,u.cells[j]? =some c/\VR w bt x c/\c.oneCell'=true:=by
  intro ho hn;have h1:u.cells= #[u] :=by cases u<;>first |rfl|cases ho
  have h2:v.cells= [v] :=by cases v<;>first |rfl|exact absurd rfl (hn _)
  rw[h1,h2];refine⟨rfl,λj x hj=> ?_⟩;cases j with
  |zero=>grind
  |succ j=>simp at hj
 rcases h.one with ⟨cs,us,rfl,rfl⟩| ⟨cs,us,rfl,rfl⟩|rfl|ho
 ·cases h with
  |agg hl ho hr=>
   rename_i us;refine⟨by simpa [Value.cells,AV.cells] using hl,λj x hj=> ?_⟩
   grind [AV.cells,Value.cells]
 ·simp[AV.isDead] at hd
 ·simp[AV.isDead] at hd
 ·refine one ho (λcs he=> ?_);subst he;cases h with
  |agg=>cases ho
def Bb(w:World)(bt:Bt)(cs:List AV)(us:Array Value):Prop:=us.size=cs.length/\(∀ (j:Nat) (x:AV),cs[j]? =some x-> ∃c,us[j]? =some c/\VR w bt x c/\c.oneCell'=true)
theorem vT{place:Nat->Option (Nat×Nat)}{pl:List (Nat×Nat)}(hpl: ∀k x,pl[k]? =some x->place k=some x): ∀ (ps:List (Nat×AV)) (vs:List (Nat×Value)) (cs cs':List AV) (us:Array Value),vs.length=ps.length->
  (∀ (k:Nat) (p:Nat×AV) (v:Nat×Value),ps[k]? =some p->vs[k]? =some v->p.1=v.1/\VR w bt p.2 v.2)->Bb w bt cs us->zn pl cs ps=some cs'-> ∃us',Instr.fill place us vs=some us'/\Bb w bt cs' us':=by
 intro ps
 induction ps with
 |nil=>intro vs cs cs' us hl hv hp h;have :vs= [] :=bc hl;subst this;simp only[zn,af] at h;subst h;exact⟨us,rfl,hp⟩
 |cons p ps ih=>
  intro vs cs cs' us hl hv hp h;cases vs with
  |nil=>simp at hl
  |cons v vs=>
   obtain⟨k,av⟩:=p;obtain⟨k',u⟩:=v;obtain⟨e1,e2⟩:=hv 0 _ _ rfl rfl;simp only at e1 e2;subst e1;simp only[zn] at h;split at h
   ·rename_i off n hk;split at h
    ·rename_i hc;obtain⟨hd,hn,hle⟩:=hc;obtain⟨c1,c2⟩:=e2.cells_of hd;obtain⟨g1,g2⟩:=Go.Great.foldl_set off u.cells.toList 0 us
     have hfold:u.cells.zipIdx.foldl (λcs (x:Value×Nat)=>cs.setIfInBounds (off+x.2) x.1) us=(u.cells.toList.zipIdx 0).foldl (λcs (x:Value×Nat)=>cs.setIfInBounds (off+x.2) x.1) us:=by rw[<-Array.foldl_toList,Array.toList_zipIdx]
     obtain⟨us',h1,h2⟩:=ih vs _ cs' ((u.cells.toList.zipIdx 0).foldl (λcs (x:Value×Nat)=>cs.setIfInBounds (off+x.2) x.1) us) (by simpa using hl) (λk p v hk hv'=>hv (k+1) p v (by simpa using hk) (by simpa using hv')) (by
      refine⟨by rw[g1,hp.1];simp;omega,λj x hj=> ?_⟩;have hto: (cs.take off).length=off:=by simp;omega
      rw[g2 j];simp only[bI,dq,c1,hp.1];by_cases q1:j<off
      ·rw[bk,aW (by omega),bn,if_pos q1] at hj;rw[if_neg (by omega)];exact hp.2 j x hj
      ·by_cases q2:j<off+av.cells.length
       ·grind
       ·rw[bk,be (by omega),hto,be (by omega),bh] at hj;rw[if_neg (by omega)];refine hp.2 j x ?_
        grind) h
     refine⟨us',?_,h2⟩;unfold Instr.fill;rw[hpl k _ hk];simp only;rw[if_neg (by simp[c1,hn];rw[hp.1];omega),hfold];exact h1
    ·cases h
   ·cases h
theorem rB{t:TypeId}{pl:List (Nat×Nat)}{zs:List Value}{parts:Array (Nat×Operand)}{cs:List AV}{a:Act}(hE:ER w bt S a)(hpl:CG P t=some pl)(hz:lV P t=some zs)(h:zn pl (zs.map nD) (parts.toList.map λx=>(x.1,opd S x.2))=some cs):
  ∃u,(Instr.build t (parts.map λx=>(x.1,a.eval x.2))).run P w= .ok u w/\VR w bt (.agg cs) u:=by
 obtain⟨i,z,hi,hzv,rfl,hall⟩: ∃i z,P.info? t=some i/\i.zero=some z/\zs=z.cells.toList/\z.cells.toList.all Value.oneCell'=true:=by grind [lV,Option.bind_eq_some_iff]
 have hp0:Bb w bt (z.cells.toList.map nD) z.cells:=by refine⟨by simp,λj x hj=> ?_⟩;simp only[aw,aj] at hj;obtain⟨c,hc,rfl⟩:=hj;exact⟨c,by simpa using hc,qR _ _ _,ay.1 hall c (aA hc)⟩
 have hps: ∀ (k:Nat) (p:Nat×AV) (v:Nat×Value),(parts.toList.map λx=>(x.1,opd S x.2))[k]? =some p->(parts.toList.map λx=>(x.1,a.eval x.2))[k]? =some v->p.1=v.1/\VR w bt p.2 v.2:=by intro k p v h1 h2;simp only[aw,aj] at h1 h2;obtain⟨x,hx,rfl⟩:=h1;obtain⟨y,hy,rfl⟩:=h2;rw[hx] at hy;simp only[af] at hy;subst hy;exact⟨rfl,dP hE _⟩
 have fin: ∀place:Nat->Option (Nat×Nat),(∀k x,pl[k]? =some x->place k=some x)->(∀us,Instr.fill place z.cells (parts.map λx=>(x.1,a.eval x.2)).toList=some us->P.built t (parts.map λx=>(x.1,a.eval x.2)).toList=some us)->
   ∃u,(Instr.build t (parts.map λx=>(x.1,a.eval x.2))).run P w= .ok u w/\VR w bt (.agg cs) u:=by
  intro place hplace hb;obtain⟨us,h1,h2⟩:=vT hplace _ (parts.toList.map λx=>(x.1,a.eval x.2)) _ cs z.cells (by simp) hps hp0 h;refine⟨.agg us,run_build w t _ _ (hb us (by rw[Array.toList_map];exact h1)),?_⟩;have :us=us.toList.toArray:=by simp
  rw[this];refine .agg (by simpa using h2.1) (λu hu=> ?_) (λk c u h3 h4=> ?_)
  ·obtain⟨k,hk,hku⟩:=aU hu;have hkc:k<cs.length:=by rw[<-h2.1];simpa using hk
   obtain⟨c,m1,m2,m3⟩:=h2.2 k _ (aq hkc)
   grind
  ·obtain⟨c',m1,m2,m3⟩:=h2.2 k c h3
   grind
 unfold CG at hpl;split at hpl
 ·rename_i fs hu;refine fin (pl.toArray[·]?) (λk x hk=>by simpa using hk) (λus hf=> ?_)
  grind [Program.built]
 ·rename_i n e hu;simp only[aj] at hpl;obtain⟨ie,hie,rfl⟩:=hpl
  simp_all [ai,Program.built]
 ·cases hpl
theorem mQ{a:Act}(hE:ER w bt S a){d n:Int}{x:Option Operand}(h:gg S d x=some n): (x=none/\n=d)\/ ∃y k,x=some y/\a.eval y= .int k n:=by
 cases x with
 |none=>simp_all [gg]
 |some y=>
  simp only[gg] at h;have hv:=dP hE y;unfold mp at h;split at h
  ·rename_i k m he;simp only[af] at h;subst h;rw[he] at hv;generalize hu:a.eval y=u at hv;cases hv<;>grind
  ·cases h
theorem nR{a:Act}(hE:ER w bt S a){b:Bool}{lo hi:Option Operand}{l h:Int}{len cap:Nat}(hl:gg S 0 lo=some l)(hh:gg S len hi=some h)(h1:0<=l)(h2:l<=h)(h3:h<=len)(h4:len<=cap):
  (Instr.sliceBounds b len cap (lo.map a.eval) (hi.map a.eval) none).run P w= .ok (l.toNat,h.toNat,cap) w:=by
 have e1: ¬h<0:=by omega
 have e2:h<=(cap:Int):=by omega
 have e3:0<=h:=by omega
 have e4:l<=max h 0:=by omega
 rcases mQ hE hl with ⟨rfl,rfl⟩| ⟨y,k,rfl,hy⟩<;>rcases mQ hE hh with ⟨rfl,rfl⟩| ⟨z,k',rfl,hz⟩
 all_goals simp_all [Instr.sliceBounds,Instr.sliceBound,asIntOf]
theorem VR.inv_sc{v u:Value}(h:VR w bt (.sc v) u):u=v:=by cases h;rfl
theorem tB[dE]{D:iC}{a:Act}{o:Oper}{v:AV}(hI:eh w0 W bt S w)(hE:ER w bt S a)(hp:jl o=true)(hpos: ∀t x,o.op= .load t x->0<P.cellsOf t)
  (hix: ∀t x y,o.op= .indexAddr t x y-> ∀el,i8 P t=some el-> ∃i,P.info? el=some i) (hsl: ∀t x lo hi,o.op= .slice t x lo hi none-> ∀el,i8 P t=some el-> ∃i,P.info? el=some i) (h:dD D P S o=some v):
  ∃u,(execOp a.eval o).run P w= .ok (.value u) w/\VR w bt v u:=by
 obtain⟨dst,op,type,pos,after,guard⟩:=o
 have sc: ∀ {v},(∀cs b,op≠ .select cs b)->dL P S ⟨dst,op,type,pos,after,guard⟩=some v-> ∃u,(execOp a.eval ⟨dst,op,type,pos,after,guard⟩).run P w= .ok (.value u) w/\VR w bt v u:=
  λhs h=>iA hE (λcs b=>hs cs b) h
 cases op with
 |move x=>simp only[dD,af] at h;subst h;exact⟨a.eval x,rfl,dP hE x⟩
 |assign x=>simp only[dD,af] at h;subst h;exact⟨a.eval x,rfl,dP hE x⟩
 |pick c x y=>
  simp only[dD] at h;have hc:=dP hE c;split at h
  ·rename_i t ht;rw[ht] at hc;have:=hc.inv_sc;simp only[af] at h;subst h;refine⟨if t then a.eval x else a.eval y,?_,?_⟩
   ·simp[execOp,this,asBool]
   grind [dP]
  ·cases h
 |load t x=>simp only[dD] at h;obtain⟨u',h1,h2⟩:=ul hI (dP hE x) h (hpos t x rfl);exact⟨u',by simp[execOp,h1],h2⟩
 |nilCheck x=>
  simp only[dD] at h;have hx:=dP hE x;generalize hu:a.eval x=u at hx;split at h
  ·rename_i n j he;simp only[af] at h;subst h;rw[he] at hx;cases hx with
   |ptrB j hn=>exact⟨_,by simp only[execOp,hu];rfl,.ptrB j hn⟩
  ·rename_i p sz i j he;simp only[af] at h;subst h;rw[he] at hx;cases hx with
   |ptrT sz i j hp hk=>exact⟨_,by simp only[execOp,hu];rfl,.ptrT sz i j hp hk⟩
  ·rename_i cs he;simp only[af] at h;subst h;rw[he] at hx;cases hx with
   |pro cs hs hA hr ht=>exact⟨_,by simp only[execOp,hu];rfl,.pro cs hs hA hr ht⟩
  ·rename_i f cs he;simp only[af] at h;subst h;rw[he] at hx;cases hx with
   |fn f hl hr=>exact⟨_,by simp only[execOp,hu];rfl,.fn f hl hr⟩
  ·rename_i f a b he;simp only[af] at h;subst h;rw[he] at hx;cases hx with
   |sc hs=>exact⟨_,by simp only[execOp,hu];rfl,.sc hs⟩
  ·cases h
 |fieldAddr t x k=>
  simp only[dD,ah] at h;obtain⟨⟨off,n,ag⟩,hf,h⟩:=h;have hx:=dP hE x;generalize hu:a.eval x=u at hx;simp only at h;split at h
  ·cases h
  ·rename_i hn;split at h
   ·rename_i b j he;simp only[af] at h;subst h;rw[he] at hx;cases hx with
    |ptrB j hb=>refine⟨_,by simp only[execOp,hu,Sem.run_bind,jV hf hn];rfl,?_⟩;rw[add_lit];exact .ptrB _ hb
   ·rename_i p sz i j he;simp only[af] at h;subst h;rw[he] at hx;cases hx with
    |ptrT sz i j hp hk=>refine⟨_,by simp only[execOp,hu,Sem.run_bind,jV hf hn];rfl,?_⟩;rw[add_lit,Nat.add_assoc,Nat.add_assoc];exact .ptrT _ _ _ hp hk
   ·rename_i cs he;simp only[af] at h;subst h;rw[he] at hx;cases hx with
    |pro cs hs hA hr ht=>
     refine⟨_,by simp only[execOp,hu,Sem.run_bind,jV hf hn];rfl,?_⟩;refine .pro (λj=>cs (off+j)) (by unfold Addr.add;split<;>simp[hs]) (by rw[ka];exact hA) (λj y hy=> ?_) (λj y hy=> ?_)
     all_goals grind [rq]
   ·cases h
 |field t x k=>
  simp only[dD,ah] at h;obtain⟨⟨off,n,ag⟩,hf,h⟩:=h;have hx:=dP hE x;generalize hu:a.eval x=u at hx;simp only at h;split at h
  ·rename_i cs he;split at h
   ·rename_i hle;rw[he] at hx;cases hx with
    |agg hl ho hr=>
     obtain⟨fs,f,hus,hfk,rfl,rfl,ha⟩:=rT hf;obtain⟨u',h1,h2⟩:=s8 (w:=w) ha rfl hl ho hr hle.1 h
     simp_all [execOp,Instr.field,run_underlying,asAgg]
   ·cases h
  ·cases h
 |build t parts=>simp only[dD,ah,aj] at h;obtain⟨pl,hpl,zs,hz,cs,hb,rfl⟩:=h;obtain⟨u,h1,h2⟩:=rB hE hpl hz hb;exact⟨u,by simp[execOp,h1],h2⟩
 |slice t x lo hi mx=>
  cases mx with
  |some m=>simp only[dD] at h;exact sc (by simp) h
  |none=>
   have hx:=dP hE x;generalize hu:a.eval x=u at hx;simp only[dD] at h;split at h
   ·rename_i s he;split at h
    ·rename_i hst;simp only[ah] at h;obtain⟨l,hl,n,hn,h⟩:=h;split at h
     ·rename_i hc;obtain⟨c1,c2,c3⟩:=hc;simp only[af] at h;subst h;rw[he] at hx
      have hus:P.underlying t=some .string:=by
       unfold mG at hst;split at hst
       ·assumption
       ·cases hst
      have hb:=nR (P:=P) (b:=false) hE hl hn c1 c2 c3 (az _);refine⟨.string (s.extract l.toNat n.toNat),?_,.sc rfl⟩;simp[execOp,hu,hx.inv_sc,Instr.sliceAt,Instr.slice,run_underlying hus,hb]
     ·cases h
    ·cases h
   ·simp only[ah] at h;obtain⟨el,hel,n,hn,l,hl,hh,hhi,h⟩:=h;have hus:=eY hel
    have hsz: ∃i,P.info? el=some i\/P.cellsOf el=0:=by
     cases hi:P.info? el with
     |some i=>exact⟨i,.inl rfl⟩
     |none=>grind
    generalize opd S x=av at hx h hn;have hinf:=hsl t x lo hi rfl el hel;obtain⟨i,hinf⟩:=hinf;have hcs:P.cellsOf el=i.size:=by simp[Program.cellsOf,hinf]
    have run: ∀ (ad:Option Addr) (len cap:Nat),u= .slice ad len cap->n=len->len<=cap->0<=l->l<=hh->hh<=len->
      (execOp a.eval ⟨dst,.slice t x lo hi none,type,pos,after,guard⟩).run P w= .ok (.value (.slice (if cap=l.toNat then ad else ad.map (·.add (l.toNat*P.cellsOf el))) (hh.toNat-l.toNat) (cap-l.toNat))) w:=by
     intro ad len cap he hnl hlc c1 c2 c3;have hb:=nR (P:=P) (b:=true) hE hl (by rw[<-hnl];exact hhi) c1 c2 c3 hlc;simp[execOp,hu,he,Instr.sliceAt,Instr.slice,run_underlying hus,hb,run_sizeOf w hinf,hcs]
    cases hx with
    |em ad=>
     simp only[jv,af] at hn;simp only[AO] at h;split at h
     ·rename_i hc;obtain⟨rfl,rfl⟩:=hc;simp only[af] at h;subst h;exact⟨_,run ad 0 0 rfl hn.symm (az _) (cW _) (cW _) (cW _),.em _⟩
     ·cases h
    |ro hro=>
     rename_i sz rows;simp only[jv,af] at hn;simp only[AO] at h;split at h
     ·rename_i hc;obtain⟨rfl,c1,c2,c3⟩:=hc;simp only[af] at h;subst h;cases hro with
      |em s ad cap=>
       simp at c3;have hl0:l=0:=by omega
       have hh0:hh=0:=by omega
       subst hl0 hh0;refine⟨_,run ad 0 cap rfl (by simpa using hn.symm) (bO _) (cW _) (cW _) (cW _),?_⟩;simp only[List.drop_nil,List.take_nil];exact .ro (.em _ _ _)
      |sl cs hcap hs hA hlr hr ht=>
       rename_i ad cap;refine⟨_,run (some ad) rows.length cap rfl hn.symm hcap c1 c2 c3,?_⟩;rcases bo (hh.toNat-l.toNat) with h0|h0
       ·rw[h0,dw];exact .ro (.em _ _ _)
       ·rw[if_neg (by omega)];have hlen: ((rows.drop l.toNat).take (hh.toNat-l.toNat)).length=hh.toNat-l.toNat:=by simp;omega
        have sub: ∀ (i:Nat) (r:List T),((rows.drop l.toNat).take (hh.toNat-l.toNat))[i]? =some r->rows[l.toNat+i]? =some r:=by
         intro i r hi;rw[bn] at hi;split at hi
         ·rwa [bh] at hi
         ·cases hi
        have fB:RO w bt.A (.sl (P.cellsOf el) ((rows.drop l.toNat).take (hh.toNat-l.toNat))) (.slice (some (ad.add (l.toNat*P.cellsOf el))) ((rows.drop l.toNat).take (hh.toNat-l.toNat)).length (cap-l.toNat)):=by refine .sl (λi j=>cs (l.toNat+i) j) (by omega) (by unfold Addr.add;split<;>simp[hs]) (by rw[ka];exact hA) (λi r hi=>hlr _ r (sub i r hi)) (λi r j x hi hj=> ?_) (λi r j x hi hj=>ht _ r j x (sub i r hi) hj);rw[rq,show l.toNat*P.cellsOf el+(i*P.cellsOf el+j)=(l.toNat+i)*P.cellsOf el+j by rw[bB];omega];exact hr _ r j x (sub i r hi) hj
        rw[hlen] at fB;exact .ro fB
     ·cases h
    |own hp hc hk ha=>
     rename_i p sz l0 len ad cap;simp only[jv,af] at hn;simp only[AO] at h;split at h
     ·rename_i hcc;obtain⟨rfl,c1,c2,c3⟩:=hcc;simp only[af] at h;subst h;refine⟨_,run ad len cap rfl hn.symm hc c1 c2 c3,.own hp (by omega) (by omega) (λh0=> ?_)⟩;rw[if_neg (by omega),ha (by omega)]
      grind [add_lit,Nat.add_mul]
     ·cases h
    | _=>simp[jv] at hn
 |index t x ix=>
  simp only[dD] at h;have hx:=dP hE x;split at h
  ·rename_i cs he;rw[he] at hx;generalize hu:a.eval x=u at hx;simp only[ah] at h;obtain⟨⟨n,sz,ag⟩,har,i,hi,h⟩:=h;simp only at h;split at h
   ·rename_i hc;obtain⟨c1,c2,c3⟩:=hc;obtain⟨k,hk⟩:=ia hi (dP hE ix);unfold DI at har;split at har
    ·rename_i n' e' hua;simp only[aj,au] at har;obtain⟨ag',hag,rfl,rfl,rfl⟩:=har;obtain⟨_,ie,_,hie,_⟩:=jE hag;cases hx with
     |agg hl ho hr=>
      obtain⟨u',g1,g2⟩:=s8 (w:=w) hag rfl hl ho hr c3 h
      simp_all [execOp,Instr.index,asIntOf,run_underlying,run_sizeOf]
    ·cases har
   ·cases h
  ·exact sc (by simp) h
 |indexAddr t x ix=>simp only[dD,ah] at h;obtain⟨el,hel,n,hn,h⟩:=h;obtain⟨i,hi⟩:=hix t x ix rfl el hel;obtain⟨k,hk⟩:=ia hn (dP hE ix);obtain⟨u',h1,h2⟩:=sk (k:=k) hel hi (dP hE x) h;exact⟨u',by simp[execOp,hk,h1],h2⟩
 |extract x k=>
  simp only[dD] at h;have hx:=dP hE x;generalize hu:a.eval x=u at hx;split at h
  ·rename_i vs he;rw[he] at hx;cases hx with
   |tup hl hr=>
    rename_i us
    have hlt:k<us.length:=by have:=(ai.1 h).1;omega
    refine⟨us[k],?_,hr k v _ h (aq hlt)⟩;simp[execOp,hu,Instr.extract,hlt]
  ·cases h
 |makeFunc fn first caps=>
  cases fn with
  |func f=>
   simp only[dD] at h;split at h
   ·rename_i he;simp only[af] at h;subst h;have hf0:first= #[] :=by simpa using he
    subst hf0;refine⟨.func (.func f) #[] (caps.toList.map a.eval).toArray,?_,.fn f (by simp) (λk c u h1 h2=> ?_)⟩
    ·have e:Array.map a.eval caps=(caps.toList.map a.eval).toArray:=by apply Array.ext';simp
     simp[execOp,Instr.makeFunc,e]
    grind [dP]
   ·cases h
  | _=>simp only[dD] at h;exact sc (by simp) h
 |unOp op t x=>
  cases op with
  |not=>
   simp only[dD] at h;split at h
   ·rename_i b he;have hx:=dP hE x;rw[he] at hx;simp only[af] at h;subst h;exact⟨.bool (!b),by simp[execOp,hx.inv_sc,Op.unary],.sc rfl⟩
   ·cases h
  | _=>simp only[dD] at h;exact sc (by simp) h
 |binOp op t x y t'=>
  have hx:=dP hE x;have hy:=dP hE y
  cases op<;>simp only[dD] at h<;>first
   |exact sc (by simp) h
   | (split at h
      ·rename_i k p k' q hex hey;split at h
       ·rename_i hkk;subst hkk;simp only[af] at h;subst h;rw[hex] at hx;rw[hey] at hy;refine⟨_,?_,.sc ?_⟩
        rotate_left
        ·rfl
        ·simp[execOp,hx.inv_sc,hy.inv_sc,eqGuard,binOp,Op.intArith,Op.intCmp]
       ·cases h
      ·exact sc (by simp) h)
 |call c=>
  obtain⟨cl,as,ts⟩:=c;cases cl with
  |builtin b=>
   cases b<;>simp only[jl] at hp<;>try (cases hp;done)
   case max=>
    simp only[dD] at h;split at h
    ·rename_i k p k' q he1
     have : ∃x y,as= #[x,y] /\opd S x= .sc (.int k p)/\opd S y= .sc (.int k' q):=by
      match hl:as.toList with
      | [] =>rw[hl] at he1;simp at he1
      | [x] =>rw[hl] at he1;simp at he1
      | [x,y] =>grind
      |x::y::z::l=>rw[hl] at he1;simp at he1
     obtain⟨x,y,rfl,e1,e2⟩:=this;have hx:=dP hE x;have hy:=dP hE y;rw[e1] at hx;rw[e2] at hy;simp only[af] at h;subst h;exact⟨_,by simp[execOp,resolve,invoke,builtin,Builtin.max_,hx.inv_sc,hy.inv_sc,Builtin.max2],.sc rfl⟩
    ·exact sc (by simp) h
   case min=>
    simp only[dD] at h;split at h
    ·rename_i k p k' q he1
     have : ∃x y,as= #[x,y] /\opd S x= .sc (.int k p)/\opd S y= .sc (.int k' q):=by
      match hl:as.toList with
      | [] =>rw[hl] at he1;simp at he1
      | [x] =>rw[hl] at he1;simp at he1
      | [x,y] =>grind
      |x::y::z::l=>rw[hl] at he1;simp at he1
     obtain⟨x,y,rfl,e1,e2⟩:=this;have hx:=dP hE x;have hy:=dP hE y;rw[e1] at hx;rw[e2] at hy;simp only[af] at h;subst h;exact⟨_,by simp[execOp,resolve,invoke,builtin,Builtin.min_,hx.inv_sc,hy.inv_sc,Builtin.min2],.sc rfl⟩
    ·exact sc (by simp) h
   case cap=>
    simp only[dD] at h;split at h
    ·rename_i x t he1 he2;have e1:as= #[x] :=by apply Array.ext';simpa using he1
     have e2:ts= #[t] :=by apply Array.ext';simpa using he2
     subst e1 e2;split at h
     ·rename_i hel;obtain⟨el,hel⟩:=aY.1 hel;have hu:=eY hel;have hx:=dP hE x;generalize hxu:a.eval x=u at hx;split at h
      ·rename_i he;rw[he] at hx;simp only[af] at h;subst h;cases hx with
       |em b=>refine⟨.int .i64 0,?_,.sc rfl⟩;simp[execOp,resolve,hxu,invoke,builtin,Builtin.cap_,run_underlying hu,goInt]
      ·cases h
     ·exact sc (by simp) h
    ·cases h
   case len=>
    simp only[dD] at h;split at h
    ·rename_i x t he1 he2;have e1:as= #[x] :=by apply Array.ext';simpa using he1
     have e2:ts= #[t] :=by apply Array.ext';simpa using he2
     subst e1 e2;split at h
     ·rename_i hel;obtain⟨el,hel⟩:=aY.1 hel;have hu:=eY hel;simp only[aj] at h;obtain⟨n,hn,rfl⟩:=h;have hx:=dP hE x;generalize hxu:a.eval x=u at hx
      have : ∃b cap m,u= .slice b m cap/\(m:Int)=n:=by
       unfold jv at hn;split at hn<;>simp only[af,reduceCtorEq] at hn
       ·rename_i he;rw[he] at hx;cases hx with |ro hro=>cases hro<;>grind
       ·rename_i he;rw[he] at hx;cases hx<;>grind
       ·rename_i he;rw[he] at hx;cases hx<;>grind
      obtain⟨b,cap,m,rfl,rfl⟩:=this;refine⟨.int .i64 m,?_,.sc rfl⟩;simp[execOp,resolve,hxu,invoke,builtin,Builtin.len_,run_underlying hu,goInt]
     ·exact sc (by simp) h
    ·cases h
  |value f=>simp[jl] at hp
  |invoke r m=>simp[jl] at hp
 |select cs b=>simp[jl] at hp
 | _=>simp only[dD] at h;exact sc (by simp) h
end
end
section
open Go
theorem T.dd_go(l:List (Nat×Nat)): (T.dd).go l= .dd:=by
 induction l with
 |nil=>rfl
 |cons x l ih=>obtain⟨i,j⟩:=x;exact ih
theorem T.sc_go(v:Value)(x:Nat×Nat)(l:List (Nat×Nat)): (T.sc v).go (x::l)= .dd:=by obtain⟨i,j⟩:=x;exact T.dd_go l
theorem T.go_append(t:T)(l m:List (Nat×Nat)):t.go (l++m)=(t.go l).go m:=by
 induction l generalizing t with
 |nil=>rfl
 |cons x l ih=>obtain⟨i,j⟩:=x;exact ih _
theorem T.go_cons_sl{t:T}{i j:Nat}{l:List (Nat×Nat)}(h:t.go ((i,j)::l)≠ .dd): ∃sz rows r x,t= .sl sz rows/\rows[i]? =some r/\r[j]? =some x/\t.go ((i,j)::l)=x.go l:=by
 cases t with
 |sc v=>exact absurd (T.dd_go l) h
 |dd=>exact absurd (T.dd_go l) h
 |sl sz rows=>
  cases hr:rows[i]? with
  |none=>
   exfalso;apply h;show ((rows.getD i []).getD j .dd).go l= .dd
   grind [T.dd_go]
  |some r=>
   cases hx:r[j]? with
   |none=>
    exfalso;apply h;show ((rows.getD i []).getD j .dd).go l= .dd
    grind [T.dd_go]
   |some x=>
    refine⟨sz,rows,r,x,rfl,hr,hx,?_⟩;show ((rows.getD i []).getD j .dd).go l=x.go l
    grind
theorem T.put_spec(x:T): ∀ (l:List (Nat×Nat)) (t:T),t.go l≠ .dd\/(∃l' i j sz rows r,l=l'++ [(i,j)] /\t.go l'= .sl sz rows/\rows[i]? =some r/\j<r.length)->
  ∀m sz rows,(t.put l x).go m= .sl sz rows->
   (∃m',m=l++m'/\x.go m'= .sl sz rows)\/
   (∃rows0,t.go m= .sl sz rows0/\rows.length=rows0.length/\(∀m',m≠l++m')/\ ∀ (i:Nat) (r:List T),rows[i]? =some r-> ∃r0,rows0[i]? =some r0/\r.length=r0.length/\
     ∀ (j:Nat) (y:T),r[j]? =some y-> ∃y0,r0[j]? =some y0/\(y=y0\/(m++ [(i,j)] =l/\y=x)\/ ∃s ra rb,y= .sl s ra/\y0= .sl s rb/\ra.length=rb.length)):=by
 intro l
 induction l with
 |nil=>intro t _ m sz rows h;exact .inl ⟨m,rfl,h⟩
 |cons p l ih=>
  obtain⟨i,j⟩:=p;intro t hv m sz rows h
  have step: ∃sz0 rows0 r0 y0,t= .sl sz0 rows0/\rows0[i]? =some r0/\r0[j]? =some y0/\(l= [] \/y0.go l≠ .dd\/(∃l' i j sz rows r,l=l'++ [(i,j)] /\y0.go l'= .sl sz rows/\rows[i]? =some r/\j<r.length)):=by
   rcases hv with hv| ⟨l',i',j',sz',rows',r',hl,hg,hr,hj⟩
   ·grind [T.go_cons_sl]
   ·cases l' with
    |nil=>simp only[bG,bu,au] at hl;obtain⟨⟨rfl,rfl⟩,rfl⟩:=hl;exact⟨sz',rows',r',r'[j],hg,hr,aq hj,.inl rfl⟩
    |cons q l'=>
     simp only[cG,bu] at hl;obtain⟨rfl,rfl⟩:=hl;obtain⟨sz0,rows0,r0,y0,ht,h1,h2,h3⟩:=T.go_cons_sl (t:=t) (i:=i) (j:=j) (l:=l') (by rw[hg];simp)
     grind
  obtain⟨sz0,rows0,r0,y0,rfl,hr0,hy0,hl⟩:=step
  have hput:T.put (.sl sz0 rows0) ((i,j)::l) x= .sl sz0 (rows0.set i (r0.set j (y0.put l x))):=by simp only[T.put,aB,hr0,aV,hy0]
  rw[hput] at h;have hilt:i<rows0.length:=(ai.1 hr0).1;have hjlt:j<r0.length:=(ai.1 hy0).1;cases m with
  |nil=>
   right;simp only[T.go,T.sl.injEq] at h;obtain⟨rfl,rfl⟩:=h;refine⟨rows0,rfl,by simp,by simp,λi' r h1=> ?_⟩;rw[bH] at h1;by_cases hi:i=i'
   ·subst hi;simp only[if_true,hilt,af] at h1;subst h1;refine⟨r0,hr0,by simp,λj' y h2=> ?_⟩;rw[bH] at h2;by_cases hj:j=j'
    ·subst hj;simp only[if_true,hjlt,af] at h2;subst h2;refine⟨y0,hy0,?_⟩;rcases hl with rfl|hl
     ·exact .inr (.inl ⟨rfl,rfl⟩)
     ·cases l with
      |nil=>exact .inr (.inl ⟨rfl,rfl⟩)
      |cons q l=>
       obtain⟨a,b⟩:=q
       have : ∃s rb,y0= .sl s rb:=by
        rcases hl with hl| ⟨l',i',j',sz',rows',r',he,hg,_⟩
        ·grind [T.go_cons_sl]
        ·cases l' with
         |nil=>exact⟨_,_,hg⟩
         |cons q' l'=>
          simp only[cG,bu] at he;obtain⟨rfl,rfl⟩:=he
          grind [T.go_cons_sl]
       obtain⟨s,rb,rfl⟩:=this;exact .inr (.inr ⟨s,_,rb,rfl,rfl,by simp⟩)
    grind
   grind
  |cons q m=>
   obtain⟨i',j'⟩:=q;have hgo: ∀ (rows:List (List T)),T.go (.sl sz0 rows) ((i',j')::m)=((rows.getD i' []).getD j' .dd).go m:=λ_=>rfl;rw[hgo] at h;by_cases hij:i=i'/\j=j'
   ·obtain⟨rfl,rfl⟩:=hij
    have e: ((rows0.set i (r0.set j (y0.put l x))).getD i []).getD j .dd=y0.put l x:=by simp[aB,hilt,hjlt]
    rw[e] at h
    have hgo0:T.go (.sl sz0 rows0) ((i,j)::m)=y0.go m:=by rw[hgo];simp only[aB,hr0,aV,hy0]
    rcases hl with rfl|hl
    all_goals simp_all [T.put]
   grind
theorem T.put_self(x:T): ∀ (l:List (Nat×Nat)) (t:T),t.go l≠ .dd\/(∃l' i j sz rows r,l=l'++ [(i,j)] /\t.go l'= .sl sz rows/\rows[i]? =some r/\j<r.length)->(t.put l x).go l=x:=by
 intro l
 induction l with
 |nil=>intro t _;rfl
 |cons p l ih=>
  obtain⟨i,j⟩:=p;intro t hv
  have step: ∃sz0 rows0 r0 y0,t= .sl sz0 rows0/\rows0[i]? =some r0/\r0[j]? =some y0/\(l= [] \/y0.go l≠ .dd\/(∃l' i j sz rows r,l=l'++ [(i,j)] /\y0.go l'= .sl sz rows/\rows[i]? =some r/\j<r.length)):=by
   rcases hv with hv| ⟨l',i',j',sz',rows',r',hl,hg,hr,hj⟩
   ·grind [T.go_cons_sl]
   ·cases l' with
    |nil=>simp only[bG,bu,au] at hl;obtain⟨⟨rfl,rfl⟩,rfl⟩:=hl;exact⟨sz',rows',r',r'[j],hg,hr,aq hj,.inl rfl⟩
    |cons q l'=>
     simp only[cG,bu] at hl;obtain⟨rfl,rfl⟩:=hl;obtain⟨sz0,rows0,r0,y0,ht,h1,h2,h3⟩:=T.go_cons_sl (t:=t) (i:=i) (j:=j) (l:=l') (by rw[hg];simp)
     grind
  obtain⟨sz0,rows0,r0,y0,rfl,hr0,hy0,hl⟩:=step;have hilt:i<rows0.length:=(ai.1 hr0).1;have hjlt:j<r0.length:=(ai.1 hy0).1
  have hput:T.put (.sl sz0 rows0) ((i,j)::l) x= .sl sz0 (rows0.set i (r0.set j (y0.put l x))):=by simp only[T.put,aB,hr0,aV,hy0]
  rw[hput];show (((rows0.set i (r0.set j (y0.put l x))).getD i []).getD j .dd).go l=x
  have e: ((rows0.set i (r0.set j (y0.put l x))).getD i []).getD j .dd=y0.put l x:=by simp[aB,hilt,hjlt]
  rw[e];rcases hl with rfl|hl
  ·rfl
  ·exact ih y0 hl
theorem sC{S:St}{p:dM}{r:Nat}{x:Option T}(h:p.r≠r): ({ S with gh:=dQ S.gh r x }:St).look p=S.look p:=by simp[St.look,dQ,h]
theorem ir{S:St}{p q:dM}{x:T}: (S.setAt p x).look q=if q.r=p.r then (match S.gh p.r with |some t=>(t.put p.l x).go q.l|none=> .dd) else S.look q:=by
 unfold St.setAt St.look dQ
 grind
section
variable {P:Program} {w0 w:World} {W:Nat->Prop} {bt:Bt} {S:St}
theorem C1.mono{w w':World}{bt bt':Bt}{n:Nat}{cells:List AV}(h:C1 w bt n cells)(hb:bt.le bt')(hn:n<bt.nb)(hw: ∀b,bt.A b->w'.heap[b]? =w.heap[b]?)(hbb:w'.heap[bt.bb n]? =w.heap[bt.bb n]?):C1 w' bt' n cells:=by obtain⟨cs,e,h1,h2,h3⟩:=h;refine⟨cs,e,by rw[hb.bb n hn,hbb];exact h1,h2,λj v hj=> ?_⟩;obtain⟨c,g1,g2,g3⟩:=h3 j v hj;exact⟨c,g1,g2.mono hb hw,g3⟩
theorem yT.mono{w w':World}{bt bt':Bt}{p:dM}{sz:Nat}{rows:List (List T)}(h:yT w bt p sz rows)(hb:bt.le bt')(hp:p.r<bt.ng)(hbb:w'.heap[(bt.β p).1]? =w.heap[(bt.β p).1]?):yT w' bt' p sz rows:=by obtain⟨cs,e,h1,h2,h3,h4⟩:=h;refine⟨cs,e,by rw[hb.β p hp,hbb];exact h1,by rw[hb.β p hp,hb.κ p hp];exact h2,h3,λi r hr=> ?_⟩;obtain⟨g1,g2⟩:=h4 i r hr;refine⟨g1,λj x hx=> ?_⟩;obtain⟨c,k1,k2⟩:=g2 j x hx;exact⟨c,by rw[hb.β p hp];exact k1,k2.mono (hb.κ _ hp) (hb.β _ hp)⟩
theorem eh.look_lt[dE](hI:eh w0 W bt S w){p:dM}{sz:Nat}{rows:List (List T)}(h:S.look p= .sl sz rows):p.r<bt.ng:=by
 rw[hI.ng];unfold St.look at h;split at h
 ·rename_i t ht;exact hI.gh _ _ ht
 ·cases h
theorem eh.βlt[dE](hI:eh w0 W bt S w){p:dM}{sz:Nat}{rows:List (List T)}(h:S.look p= .sl sz rows)(hk:0<bt.κ p): (bt.β p).1<w.heap.size:=by obtain⟨_,cs,e,hh,_⟩:=(hI.tr p sz rows h).2 hk;exact (aD.1 hh).1
theorem eh.bblt[dE](hI:eh w0 W bt S w){n:Nat}{cells:List AV}(h:S.bx n=some cells):bt.bb n<w.heap.size:=by obtain⟨_,_,cs,e,hh,_⟩:=hI.bx n cells h;exact (aD.1 hh).1
theorem eh.grow[dE](hI:eh w0 W bt S w){w':World}(hb:Go.RowKit.Below w.heap.size w w'):eh w0 W bt S w':=by
 have hA: ∀b,bt.A b->w'.heap[b]? =w.heap[b]? :=λb h=>hb.block b (hI.alt b h)
 exact { good:=hI.good,os:=hb.os.trans hI.os,tape:=hb.tape.trans hI.tape,output:=hb.output.trans hI.output,size:=aX hI.size hb.size
         keep:=λb h1 h2=>(hb.block b (aM h1 hI.size)).trans (hI.keep b h1 h2)
         nb:=hI.nb,ng:=hI.ng
         bx:=λn cells h=>by obtain⟨h1,h2,h3⟩:=hI.bx n cells h;exact⟨h1,h2,h3.mono (Bt.le.refl _) (by rw[hI.nb];exact h1) hA (hb.block _ (hI.bblt h))⟩
         gh:=hI.gh
         tr:=λp sz rows h=>by obtain⟨h1,h2⟩:=hI.tr p sz rows h;refine⟨h1,λhk=> ?_⟩;obtain⟨h3,h4⟩:=h2 hk;exact⟨h3,h4.mono (Bt.le.refl _) (hI.look_lt h) (hb.block _ (hI.βlt h hk))⟩
         inj:=hI.inj,bbinj:=hI.bbinj,bbtr:=hI.bbtr
         alt:=λb h=>aM (hI.alt b h) hb.size
         atr:=hI.atr,abb:=hI.abb }
theorem eh.addBox[dE](hI:eh w0 W bt S w){b:Nat}{cells:List AV}{cs:Array Value}{e:TypeId}(hb:w0.heap.size<=b)(hh:w.heap[b]? =some (.cells cs e (0,0)))(hl:cs.size=cells.length)
  (hc: ∀ (j:Nat) (v:AV),cells[j]? =some v-> ∃c,cs[j]? =some c/\VR w bt v c/\c.oneCell'=true)
  (hnb: ∀n cs,S.bx n=some cs->bt.bb n≠b) (hnt: ∀p sz rows,S.look p= .sl sz rows->0<bt.κ p->(bt.β p).1≠b) (hnA: ¬bt.A b):
  bt.le { bt with bb:=dQ bt.bb S.nb b,nb:=S.nb+1 } /\eh w0 W { bt with bb:=dQ bt.bb S.nb b,nb:=S.nb+1 } { S with bx:=dQ S.bx S.nb (some cells),nb:=S.nb+1 } w:=by
 have hle:bt.le { bt with bb:=dQ bt.bb S.nb b,nb:=S.nb+1 } :=⟨by simp[hI.nb],az _,λ_ h=>h,λ_ _=>rfl,λ_ _=>rfl,λn hn=>by
  have :n≠S.nb:=by rw[hI.nb] at hn;omega
  simp[dQ,this]⟩
 refine⟨hle,?_⟩
 have old: ∀n c,dQ S.bx S.nb (some cells) n=some c->(n=S.nb/\c=cells)\/(n<S.nb/\S.bx n=some c/\dQ bt.bb S.nb b n=bt.bb n):=by
  intro n c h;unfold dQ at h;split at h
  ·grind
  ·rename_i he;have:=(hI.bx n c h).1;exact .inr ⟨this,h,by simp[dQ,he]⟩
 have hnew:dQ bt.bb S.nb b S.nb=b:=by simp[dQ]
 exact { good:=hI.good,os:=hI.os,tape:=hI.tape,output:=hI.output,size:=hI.size,keep:=hI.keep,nb:=rfl,ng:=hI.ng
         bx:=λn c h=>by
          rcases old n c h with ⟨rfl,rfl⟩| ⟨h1,h2,h3⟩
          ·refine⟨cU _,by grind,cs,e,by grind,hl,λj v hj=> ?_⟩;obtain⟨c,g1,g2,g3⟩:=hc j v hj;exact⟨c,g1,g2.mono hle (λ_ _=>rfl),g3⟩
          ·obtain⟨g1,g2,g3⟩:=hI.bx n c h2;refine⟨Nat.lt_succ_of_lt h1,?_,g3.mono hle (by rw[hI.nb];exact h1) (λ_ _=>rfl) rfl⟩
           grind
         gh:=hI.gh
         tr:=λp sz rows h=>by obtain⟨h1,h2⟩:=hI.tr p sz rows h;refine⟨h1,λhk=> ?_⟩;obtain⟨h3,h4⟩:=h2 hk;exact⟨h3,h4.mono hle (hI.look_lt h) rfl⟩
         inj:=hI.inj
         bbinj:=λn m c c' h h' he=>by
          have he':dQ bt.bb S.nb b n=dQ bt.bb S.nb b m:=he;rcases old n c h with ⟨rfl,rfl⟩| ⟨h1,h2,h3⟩<;>rcases old m c' h' with ⟨rfl,rfl⟩| ⟨k1,k2,k3⟩
          ·rfl
          ·grind
          ·grind
          ·rw[h3,k3] at he';exact hI.bbinj _ _ _ _ h2 k2 he'
         bbtr:=λn c p sz rows h h' hk=>by
          show dQ bt.bb S.nb b n≠(bt.β p).1;rcases old n c h with ⟨rfl,rfl⟩| ⟨h1,h2,h3⟩
          ·rw[hnew];exactλhe=>hnt p sz rows h' hk he.symm
          ·rw[h3];exact hI.bbtr _ _ _ _ _ h2 h' hk
         alt:=hI.alt,atr:=hI.atr
         abb:=λn c h=>by
          show ¬bt.A (dQ bt.bb S.nb b n);rcases old n c h with ⟨rfl,rfl⟩| ⟨h1,h2,h3⟩
          ·rw[hnew];exact hnA
          ·rw[h3];exact hI.abb _ _ h2 }
theorem eh.fresh[dE](hI:eh w0 W bt S w){b:Nat}(hb:w.heap.size<=b): (∀n cs,S.bx n=some cs->bt.bb n≠b)/\(∀p sz rows,S.look p= .sl sz rows->0<bt.κ p->(bt.β p).1≠b)/\ ¬bt.A b:=
 ⟨λn cs h he=>by have:=hI.bblt h;omega,λp sz rows h hk he=>by have:=hI.βlt h hk;omega,λh=>by have:=hI.alt b h;omega⟩
end
end
section
open Go
section
variable {P:Program} {w0 w:World} {W:Nat->Prop} {bt:Bt} {S:St}
theorem HR.len{bt:Bt}{p:dM}{s:Nat}{ra rb:List (List T)}{c:Value}(h:HR bt p (.sl s ra) c)(hl:rb.length=ra.length):HR bt p (.sl s rb) c:=by
 cases h with
 |sl hc hk ha=>rw[<-hl];exact .sl (by omega) hk ha
theorem eh.setBox[dE](hI:eh w0 W bt S w){n:Nat}{cells0 cells:List AV}{cs0 cs:Array Value}{e:TypeId}(hn:S.bx n=some cells0)(hh:w.heap[bt.bb n]? =some (.cells cs0 e (0,0)))
  (hl:cs.size=cells.length) (hc: ∀ (j:Nat) (v:AV),cells[j]? =some v-> ∃c,cs[j]? =some c/\VR w bt v c/\c.oneCell'=true):
  eh w0 W bt { S with bx:=dQ S.bx n (some cells) } (w.setRow (bt.bb n) cs)/\(∀b,bt.A b->(w.setRow (bt.bb n) cs).heap[b]? =w.heap[b]?):=by
 have hA: ∀b,bt.A b->(w.setRow (bt.bb n) cs).heap[b]? =w.heap[b]? :=λb hb=>setRow_other w _ _ _ (λhe=>hI.abb n _ hn (he ▸ hb));have hlt:=(hI.bx n _ hn).1
 have old: ∀m c,dQ S.bx n (some cells) m=some c->(m=n/\c=cells)\/(m≠n/\S.bx m=some c):=by
  intro m c h;unfold dQ at h;split at h
  ·grind
  ·rename_i he;exact .inr ⟨he,h⟩
 have some0: ∀m c,dQ S.bx n (some cells) m=some c-> ∃c0,S.bx m=some c0:=by
  intro m c h;rcases old m c h with ⟨rfl,_⟩| ⟨_,h⟩
  ·exact⟨_,hn⟩
  ·exact⟨_,h⟩
 refine⟨?_,hA⟩
 exact { good:=hI.good,os:=hI.os,tape:=hI.tape,output:=hI.output,size:=by rw[size_setRow];exact hI.size
         keep:=λb h1 h2=>by rw[setRow_other w _ _ _ (λhe=>by have:=(hI.bx n _ hn).2.1;omega)];exact hI.keep b h1 h2
         nb:=hI.nb,ng:=hI.ng
         bx:=λm c h=>by
          rcases old m c h with ⟨rfl,rfl⟩| ⟨hne,h⟩
          ·obtain⟨g1,g2,_⟩:=hI.bx m _ hn;refine⟨g1,g2,cs,e,setRow_heap w _ _ _ _ _ hh,hl,λj v hj=> ?_⟩;obtain⟨c,k1,k2,k3⟩:=hc j v hj;exact⟨c,k1,k2.mono (Bt.le.refl _) hA,k3⟩
          ·obtain⟨g1,g2,g3⟩:=hI.bx m c h;exact⟨g1,g2,g3.mono (Bt.le.refl _) (by rw[hI.nb];exact g1) hA (setRow_other w _ _ _ (λhe=>hne (hI.bbinj _ _ _ _ h hn he)))⟩
         gh:=hI.gh
         tr:=λp sz rows h=>by obtain⟨h1,h2⟩:=hI.tr p sz rows h;refine⟨h1,λhk=> ?_⟩;obtain⟨h3,h4⟩:=h2 hk;exact⟨h3,h4.mono (Bt.le.refl _) (hI.look_lt h) (setRow_other w _ _ _ (λhe=>hI.bbtr _ _ _ _ _ hn h hk he.symm))⟩
         inj:=hI.inj
         bbinj:=λm k c c' h h' he=>by obtain⟨c0,h0⟩:=some0 m c h;obtain⟨c1,h1⟩:=some0 k c' h';exact hI.bbinj _ _ _ _ h0 h1 he
         bbtr:=λm c p sz rows h h' hk=>by obtain⟨c0,h0⟩:=some0 m c h;exact hI.bbtr _ _ _ _ _ h0 h' hk
         alt:=λb h=>by rw[size_setRow];exact hI.alt b h
         atr:=hI.atr
         abb:=λm c h=>by obtain⟨c0,h0⟩:=some0 m c h;exact hI.abb _ _ h0 }
theorem eh.setTree[dE](hI:eh w0 W bt S w){p:dM}{sz:Nat}{rows0 rows:List (List T)}{cs0 cs:Array Value}{e:TypeId}(hp:S.look p= .sl sz rows0)(hk0:0<bt.κ p)
  (hh:w.heap[(bt.β p).1]? =some (.cells cs0 e (0,0))) (hs:cs.size=cs0.size) (h1c: ∀ (k:Nat) (u:Value),cs[k]? =some u->u.oneCell'=true) (hlen:rows.length=rows0.length)
  (hr: ∀ (i:Nat) (r:List T),rows[i]? =some r->r.length=sz/\ ∀ (j:Nat) (x:T),r[j]? =some x->(∃c,cs[(bt.β p).2+(i*sz+j)]? =some c/\HR bt (p.sub i j) x c)/\
    ((∃v,x= .sc v)\/x= .dd\/ ∃r0,rows0[i]? =some r0/\r0[j]? =some x)):
  eh w0 W bt (S.setAt p (.sl sz rows)) (w.setRow (bt.β p).1 cs)/\(∀b,bt.A b->(w.setRow (bt.β p).1 cs).heap[b]? =w.heap[b]?):=by
 have hA: ∀b,bt.A b->(w.setRow (bt.β p).1 cs).heap[b]? =w.heap[b]? :=λb hb=>setRow_other w _ _ _ (λhe=>hI.atr p _ _ hp hk0 (he ▸ hb))
 obtain⟨t,ht,htp⟩: ∃t,S.gh p.r=some t/\t.go p.l= .sl sz rows0:=by grind [St.look]
 have fB: ∀q s rs,(S.setAt p (.sl sz rows)).look q= .sl s rs->
   (q=p/\s=sz/\rs=rows)\/(q≠p/\ ∃rs0,S.look q= .sl s rs0/\rs.length=rs0.length/\ ∀ (i:Nat) (r:List T),rs[i]? =some r-> ∃r0,rs0[i]? =some r0/\r.length=r0.length/\
     ∀ (j:Nat) (y:T),r[j]? =some y-> ∃y0,r0[j]? =some y0/\ ∀c,HR bt (q.sub i j) y0 c->HR bt (q.sub i j) y c):=by
  intro q s rs h;rw[ir] at h;by_cases hqr:q.r=p.r
  ·rw[if_pos hqr,ht] at h;simp only at h;rcases T.put_spec (.sl sz rows) p.l t (.inl (by rw[htp];simp)) q.l s rs h with ⟨m',hm,hgo⟩| ⟨rs0,g1,g2,g3,g4⟩
   ·cases m' with
    |nil=>
     left;simp only[T.go,T.sl.injEq] at hgo;refine⟨?_,hgo.1.symm,hgo.2.symm⟩;obtain⟨qr,ql⟩:=q
     simp_all
    |cons x m'=>
     obtain⟨i,j⟩:=x;obtain⟨_,rws,r,y,he,hri,hyj,hy⟩:=T.go_cons_sl (t:=.sl sz rows) (i:=i) (j:=j) (l:=m') (by rw[hgo];simp);simp only[T.sl.injEq] at he;obtain⟨_,rfl⟩:=he;rw[hgo] at hy;right;refine⟨λhe=>by simp_all,rs,?_,rfl,λi r h1=>⟨r,h1,rfl,λj y h2=>⟨y,h2,λc hc=>hc⟩⟩⟩;obtain⟨_,hcell⟩:=hr i r hri;rcases (hcell j y hyj).2 with ⟨v,rfl⟩|rfl| ⟨r0,h0,h1⟩
     ·exfalso;cases m'<;>grind [T.go,T.sc_go]
     ·rw[T.dd_go] at hy;cases hy
     ·unfold St.look;rw[hqr,ht];simp only;rw[hm,T.go_append,htp];show ((rows0.getD i []).getD j .dd).go m'=_
      grind
   ·right;refine⟨λhe=>g3 [] (by rw[he];simp),rs0,by unfold St.look;rw[hqr,ht];exact g1,g2,λi r h1=> ?_⟩;obtain⟨r0,k1,k2,k3⟩:=g4 i r h1;refine⟨r0,k1,k2,λj y h2=> ?_⟩;obtain⟨y0,j1,j2⟩:=k3 j y h2;refine⟨y0,j1,λc hc=> ?_⟩;rcases j2 with rfl| ⟨hl,rfl⟩| ⟨s',ra,rb,rfl,rfl,hab⟩
    ·exact hc
    ·have :y0= .sl sz rows0:=by
      rw[<-htp,<-hl,T.go_append,g1];show y0=((rs0.getD i []).getD j .dd).go [];simp only[aB,k1,aV,j1,T.go]
     rw[this] at hc;exact hc.len hlen
    ·exact hc.len hab
  ·grind
 have look0: ∀q s rs,(S.setAt p (.sl sz rows)).look q= .sl s rs-> ∃s0 rs0,S.look q= .sl s0 rs0:=by
  intro q s rs h;rcases fB q s rs h with ⟨rfl,_,_⟩| ⟨_,rs0,h0,_⟩
  ·exact⟨_,_,hp⟩
  ·exact⟨_,_,h0⟩
 refine⟨?_,hA⟩
 exact { good:=hI.good,os:=hI.os,tape:=hI.tape,output:=hI.output,size:=by rw[size_setRow];exact hI.size
         keep:=λb h1 h2=>by
          rw[setRow_other w _ _ _ (λhe=>by
           rcases ((hI.tr p _ _ hp).2 hk0).1 with h|h
           all_goals grind)]
          exact hI.keep b h1 h2
         nb:=hI.nb,ng:=hI.ng
         bx:=λn c h=>by obtain⟨g1,g2,g3⟩:=hI.bx n c h;exact⟨g1,g2,g3.mono (Bt.le.refl _) (by rw[hI.nb];exact g1) hA (setRow_other w _ _ _ (hI.bbtr _ _ _ _ _ h hp hk0))⟩
         gh:=λr x h=>by
          have h':dQ S.gh p.r ((S.gh p.r).map λt=>t.put p.l (.sl sz rows)) r=some x:=h;unfold dQ at h';split at h'
          ·rename_i he;rw[he];exact hI.gh _ _ ht
          ·exact hI.gh _ _ h'
         tr:=λq s rs h=>by
          rcases fB q s rs h with ⟨rfl,rfl,rfl⟩| ⟨hne,rs0,h0,hl0,hcell⟩
          ·obtain⟨h1,h2⟩:=hI.tr q _ _ hp;refine⟨by omega,λhk=>⟨(h2 hk).1,?_⟩⟩;obtain⟨_,cs1,e1,g1,g2,g3,g4⟩:=h2 hk;rw[hh] at g1;simp only[af,Obj.cells.injEq] at g1;obtain⟨rfl,rfl,_⟩:=g1;refine⟨cs,e,setRow_heap w _ _ _ _ _ hh,by rw[hs];exact g2,h1c,λi r hi=> ?_⟩
           grind
          ·obtain⟨h1,h2⟩:=hI.tr q _ _ h0;refine⟨by omega,λhk=>⟨(h2 hk).1,?_⟩⟩;obtain⟨_,cs1,e1,g1,g2,g3,g4⟩:=h2 hk;refine⟨cs1,e1,by rw[setRow_other w _ _ _ (λhe=>hne (hI.inj _ _ _ _ _ _ h0 hp hk hk0 he))];exact g1,g2,g3,λi r hi=> ?_⟩
           grind
         inj:=λq q' s rs s' rs' h h' hk hk' he=>by obtain⟨_,_,a⟩:=look0 _ _ _ h;obtain⟨_,_,b⟩:=look0 _ _ _ h';exact hI.inj _ _ _ _ _ _ a b hk hk' he
         bbinj:=hI.bbinj
         bbtr:=λn c q s rs h h' hk=>by obtain⟨_,_,b⟩:=look0 _ _ _ h';exact hI.bbtr _ _ _ _ _ h b hk
         alt:=λb h=>by rw[size_setRow];exact hI.alt b h
         atr:=λq s rs h hk=>by obtain⟨_,_,b⟩:=look0 _ _ _ h;exact hI.atr _ _ _ b hk
         abb:=hI.abb }
end
end
section
open Go
def gv(ts:List T):St:={ env:=λ_=> .dead,bx:=λ_=>none,gh:=λn=>ts[n]?,nb:=0,ng:=ts.length,fz:=0,orc:=none,nt:=0 }
def St.add(S:St)(ts:List T):St:={ S with gh:=λn=>if S.ng<=n/\n<S.ng+ts.length then ts[n-S.ng]? else S.gh n,ng:=S.ng+ts.length }
def Bt.add(bt btn:Bt)(k:Nat):Bt:={ bt with β:=λp=>if bt.ng<=p.r then btn.β ⟨p.r-bt.ng,p.l⟩ else bt.β p,κ:=λp=>if bt.ng<=p.r then btn.κ ⟨p.r-bt.ng,p.l⟩ else bt.κ p,ng:=bt.ng+k }
theorem Bt.le_add(bt btn:Bt)(k:Nat):bt.le (bt.add btn k):=
 ⟨az _,cK _ _,λ_ h=>h,λp hp=>by simp only[Bt.add];rw[if_neg (by omega)],λp hp=>by simp only[Bt.add];rw[if_neg (by omega)],λ_ _=>rfl⟩
section
variable {P:Program} {w0 w:World} {W:Nat->Prop} {bt:Bt} {S:St}
theorem wZ(S:St)(ts:List T)(hS: ∀r t,S.gh r=some t->r<S.ng)(p:dM)(sz:Nat)(rows:List (List T))(h: (S.add ts).look p= .sl sz rows):
  (p.r<S.ng/\S.look p= .sl sz rows)\/(S.ng<=p.r/\(gv ts).look ⟨p.r-S.ng,p.l⟩= .sl sz rows):=by
 unfold St.look St.add at h;simp only at h;by_cases h1:S.ng<=p.r/\p.r<S.ng+ts.length
 ·simp_all [St.look,gv]
 ·rw[if_neg h1] at h
  grind [St.look]
theorem eh.addRoots[dE](hI:eh w0 W bt S w)(btn:Bt)(ts:List T)
  (htr: ∀p sz rows,(gv ts).look p= .sl sz rows->rows.length<=btn.κ p/\(0<btn.κ p->(w0.heap.size<=(btn.β p).1\/W (btn.β p).1)/\yT w btn p sz rows))
  (hinj: ∀p q sz rows sz' rows',(gv ts).look p= .sl sz rows->(gv ts).look q= .sl sz' rows'->0<btn.κ p->0<btn.κ q->(btn.β p).1=(btn.β q).1->p=q)
  (hsep: ∀p sz rows,(gv ts).look p= .sl sz rows->0<btn.κ p->(∀n cs,S.bx n=some cs->bt.bb n≠(btn.β p).1)/\(∀q s rs,S.look q= .sl s rs->0<bt.κ q->(bt.β q).1≠(btn.β p).1)/\ ¬bt.A (btn.β p).1):
  eh w0 W (bt.add btn ts.length) (S.add ts) w:=by
 have hle:=Bt.le_add bt btn ts.length;have hng:=hI.ng;have hβ: ∀p:dM,S.ng<=p.r->(bt.add btn ts.length).β p=btn.β ⟨p.r-S.ng,p.l⟩:=λp h=>by simp only[Bt.add,hng];rw[if_pos h]
 have hκ: ∀p:dM,S.ng<=p.r->(bt.add btn ts.length).κ p=btn.κ ⟨p.r-S.ng,p.l⟩:=λp h=>by simp only[Bt.add,hng];rw[if_pos h]
 have oβ: ∀p:dM,p.r<S.ng->(bt.add btn ts.length).β p=bt.β p:=λp h=>hle.β p (by rw[hng];exact h);have oκ: ∀p:dM,p.r<S.ng->(bt.add btn ts.length).κ p=bt.κ p:=λp h=>hle.κ p (by rw[hng];exact h);have two:=wZ S ts hI.gh
 exact { good:=hI.good,os:=hI.os,tape:=hI.tape,output:=hI.output,size:=hI.size,keep:=hI.keep,nb:=hI.nb
         ng:=by show bt.ng+ts.length=S.ng+ts.length;rw[hng]
         bx:=λn c h=>by obtain⟨g1,g2,g3⟩:=hI.bx n c h;exact⟨g1,g2,g3.mono hle (by rw[hI.nb];exact g1) (λ_ _=>rfl) rfl⟩
         gh:=λr t h=>by
          have h': (if S.ng<=r/\r<S.ng+ts.length then ts[r-S.ng]? else S.gh r)=some t:=h;show r<S.ng+ts.length;split at h'
          ·rename_i hc;exact hc.2
          ·exact aM (hI.gh _ _ h') (cK _ _)
         tr:=λp sz rows h=>by
          rcases two p sz rows h with ⟨hp,h'⟩| ⟨hp,h'⟩
          ·obtain⟨h1,h2⟩:=hI.tr p sz rows h';rw[oκ p hp,oβ p hp];refine⟨h1,λhk=>⟨(h2 hk).1,(h2 hk).2.mono hle (by rw[hng];exact hp) rfl⟩⟩
          ·obtain⟨h1,h2⟩:=htr _ sz rows h';rw[hκ p hp,hβ p hp];refine⟨h1,λhk=>⟨(h2 hk).1,?_⟩⟩;obtain⟨_,cs,e,g1,g2,g3,g4⟩:=h2 hk;refine⟨cs,e,by rw[hβ p hp];exact g1,by rw[hβ p hp,hκ p hp];exact g2,g3,λi r hi=> ?_⟩;obtain⟨k1,k2⟩:=g4 i r hi;refine⟨k1,λj x hx=> ?_⟩;obtain⟨c,j1,j2⟩:=k2 j x hx;refine⟨c,by rw[hβ p hp];exact j1,?_⟩;have e1: (bt.add btn ts.length).β (p.sub i j)=btn.β ((⟨p.r-S.ng,p.l⟩:dM).sub i j):=hβ (p.sub i j) hp;have e2: (bt.add btn ts.length).κ (p.sub i j)=btn.κ ((⟨p.r-S.ng,p.l⟩:dM).sub i j):=hκ (p.sub i j) hp;cases j2 with
           |sc h=>exact .sc h
           |dd u=>exact .dd _
           |sl hc hk ha=>exact .sl hc (by rw[e2];exact hk) (by rw[e1];exact ha)
         inj:=λp q sz rows sz' rows' h h' hk hk' he=>by
          rcases two p sz rows h with ⟨hp,g⟩| ⟨hp,g⟩<;>rcases two q sz' rows' h' with ⟨hq,g'⟩| ⟨hq,g'⟩
          ·rw[oκ p hp] at hk;rw[oκ q hq] at hk';rw[oβ p hp,oβ q hq] at he;exact hI.inj _ _ _ _ _ _ g g' hk hk' he
          ·grind
          ·grind
          ·rw[hκ p hp] at hk;rw[hκ q hq] at hk';rw[hβ p hp,hβ q hq] at he;have:=hinj _ _ _ _ _ _ g g' hk hk' he;simp only[dM.mk.injEq] at this;obtain⟨pr,pl⟩:=p;obtain⟨qr,ql⟩:=q
           grind
         bbinj:=hI.bbinj
         bbtr:=λn c p sz rows h h' hk=>by
          rcases two p sz rows h' with ⟨hp,g⟩| ⟨hp,g⟩
          ·rw[oκ p hp] at hk;rw[oβ p hp];exact hI.bbtr _ _ _ _ _ h g hk
          ·rw[hκ p hp] at hk;rw[hβ p hp];exact (hsep _ _ _ g hk).1 _ _ h
         alt:=hI.alt
         atr:=λp sz rows h hk=>by
          rcases two p sz rows h with ⟨hp,g⟩| ⟨hp,g⟩
          ·rw[oκ p hp] at hk;rw[oβ p hp];exact hI.atr _ _ _ g hk
          ·rw[hκ p hp] at hk;rw[hβ p hp];exact (hsep _ _ _ g hk).2.2
         abb:=hI.abb }
theorem eh.less[dE](hI:eh w0 W bt S w){g:Nat->Option T}(hg: ∀r t,g r=some t->S.gh r=some t):eh w0 W bt { S with gh:=g } w:=by
 have hl: ∀p sz rows,({ S with gh:=g }:St).look p= .sl sz rows->S.look p= .sl sz rows:=by
  intro p sz rows h;unfold St.look at h ⊢;simp only at h;cases hp:g p.r with
  |none=>rw[hp] at h;cases h
  |some t=>rw[hp] at h;rw[hg _ _ hp];exact h
 exact { good:=hI.good,os:=hI.os,tape:=hI.tape,output:=hI.output,size:=hI.size,keep:=hI.keep,nb:=hI.nb,ng:=hI.ng,bx:=hI.bx
         gh:=λr t h=>hI.gh r t (hg r t h),tr:=λp sz rows h=>hI.tr p sz rows (hl _ _ _ h)
         inj:=λp q _ _ _ _ h h'=>hI.inj p q _ _ _ _ (hl _ _ _ h) (hl _ _ _ h'),bbinj:=hI.bbinj,bbtr:=λn c p _ _ h h'=>hI.bbtr n c p _ _ h (hl _ _ _ h')
         alt:=hI.alt,atr:=λp _ _ h=>hI.atr p _ _ (hl _ _ _ h),abb:=hI.abb }
theorem eh.drop[dE](hI:eh w0 W bt S w)(r:Nat):eh w0 W bt { S with gh:=dQ S.gh r none } w:=
 hI.less (λk t h=>by grind [dQ])
theorem eh.forget[dE](hI:eh w0 W bt S w){p:dM}{sz:Nat}{rows0:List (List T)}(hp:S.look p= .sl sz rows0):eh w0 W bt (S.setAt p .dd) w/\
  ∀q s rs,(S.setAt p .dd).look q= .sl s rs->(∀m,¬ (q.r=p.r/\q.l=p.l++m))/\ ∃rs0,S.look q= .sl s rs0/\rs.length=rs0.length:=by
 obtain⟨t,ht,htp⟩: ∃t,S.gh p.r=some t/\t.go p.l= .sl sz rows0:=by grind [St.look]
 have fB: ∀q s rs,(S.setAt p .dd).look q= .sl s rs->(∀m,¬ (q.r=p.r/\q.l=p.l++m))/\ ∃rs0,S.look q= .sl s rs0/\rs.length=rs0.length/\ ∀ (i:Nat) (r:List T),rs[i]? =some r-> ∃r0,rs0[i]? =some r0/\r.length=r0.length/\
    ∀ (j:Nat) (y:T),r[j]? =some y-> ∃y0,r0[j]? =some y0/\ ∀c,HR bt (q.sub i j) y0 c->HR bt (q.sub i j) y c:=by
  intro q s rs h;rw[ir] at h;by_cases hqr:q.r=p.r
  ·rw[if_pos hqr,ht] at h;simp only at h;rcases T.put_spec .dd p.l t (.inl (by rw[htp];simp)) q.l s rs h with ⟨m',hm,hgo⟩| ⟨rs0,g1,g2,g3,g4⟩
   ·rw[T.dd_go] at hgo;cases hgo
   ·refine⟨λm hm=>g3 m hm.2,rs0,by unfold St.look;rw[hqr,ht];exact g1,g2,λi r h1=> ?_⟩;obtain⟨r0,k1,k2,k3⟩:=g4 i r h1;refine⟨r0,k1,k2,λj y h2=> ?_⟩;obtain⟨y0,j1,j2⟩:=k3 j y h2;refine⟨y0,j1,λc hc=> ?_⟩;rcases j2 with rfl| ⟨hl,rfl⟩| ⟨s',ra,rb,rfl,rfl,hab⟩
    ·exact hc
    ·exact .dd c
    ·exact hc.len hab
  ·grind
 refine⟨?_,λq s rs h=>by grind⟩
 exact { good:=hI.good,os:=hI.os,tape:=hI.tape,output:=hI.output,size:=hI.size,keep:=hI.keep,nb:=hI.nb,ng:=hI.ng,bx:=hI.bx
         gh:=λr x h=>by
          have h':dQ S.gh p.r ((S.gh p.r).map λt=>t.put p.l .dd) r=some x:=h;unfold dQ at h';split at h'
          ·rename_i he;rw[he];exact hI.gh _ _ ht
          ·exact hI.gh _ _ h'
         tr:=λq s rs h=>by
          obtain⟨_,rs0,h0,hl0,hcell⟩:=fB q s rs h;obtain⟨h1,h2⟩:=hI.tr q _ _ h0;refine⟨by omega,λhk=>⟨(h2 hk).1,?_⟩⟩;obtain⟨_,cs1,e1,g1,g2,g3,g4⟩:=h2 hk;refine⟨cs1,e1,g1,g2,g3,λi r hi=> ?_⟩
          grind
         inj:=λq q' s rs s' rs' h h' hk hk' he=>by obtain⟨_,_,a,_⟩:=fB _ _ _ h;obtain⟨_,_,b,_⟩:=fB _ _ _ h';exact hI.inj _ _ _ _ _ _ a b hk hk' he
         bbinj:=hI.bbinj
         bbtr:=λn c q s rs h h' hk=>by obtain⟨_,_,b,_⟩:=fB _ _ _ h';exact hI.bbtr _ _ _ _ _ h b hk
         alt:=hI.alt
         atr:=λq s rs h hk=>by obtain⟨_,_,b,_⟩:=fB _ _ _ h;exact hI.atr _ _ _ b hk
         abb:=hI.abb }
end
end
section
open Go Go.RowKit
structure eO [dE] (w0:World) (W:Nat->Prop) (bt:Bt) (S:St) (a:Act) (bt':Bt) (S':St) (w':World):Prop where
 inv:eh w0 W bt' S' w'
 er:ER w' bt' S' a
 fz:S'.fz=S.fz
 orc:True
 ng:S.ng<=S'.ng
 keep: ∀p:dM,p.r<S.fz->bt'.β p=bt.β p/\bt'.κ p=bt.κ p
 gone: ∀r,r<S.fz->S'.gh r=none->S.gh r=none
section
variable {P:Program} {w0 w:World} {W:Nat->Prop} {bt:Bt} {S:St} {a:Act}
theorem fW(w:World)(o:Obj):Below w.heap.size w { w with heap:=w.heap.push o } :=
 ⟨rfl,rfl,rfl,by simp,λk hk=>by simp[Array.getElem?_push,Nat.ne_of_lt hk]⟩
theorem iy(w:World)(o:Obj): ({ w with heap:=w.heap.push o }:World).heap[w.heap.size]? =some o:=by simp
theorem AM[dE](hI:eh w0 W bt S w)(hE:ER w bt S a)(_hfz:S.fz<=S.ng){cells:List AV}{cs:Array Value}{e:TypeId}(hl:cs.size=cells.length)
  (hc: ∀ (j:Nat) (v:AV),cells[j]? =some v-> ∃c,cs[j]? =some c/\VR w bt v c/\c.oneCell'=true):
  ∃bt',eO w0 W bt S a bt' { S with bx:=dQ S.bx S.nb (some cells),nb:=S.nb+1 } { w with heap:=w.heap.push (.cells cs e) } /\
   VR { w with heap:=w.heap.push (.cells cs e) } bt' (.ptrB S.nb 0) (.pointer (some ⟨w.heap.size,0,none⟩)):=by
 have hb:=fW w (.cells cs e);have hA: ∀b,bt.A b->({ w with heap:=w.heap.push (.cells cs e) }:World).heap[b]? =w.heap[b]? :=λb h=>hb.block b (hI.alt b h);obtain⟨f1,f2,f3⟩:=hI.fresh (b:=w.heap.size) (az _)
 obtain⟨hle,hI'⟩:=(hI.grow hb).addBox (b:=w.heap.size) (cells:=cells) (cs:=cs) (e:=e) hI.size (iy w _) hl (λj v hj=>by obtain⟨c,g1,g2,g3⟩:=hc j v hj;exact⟨c,g1,g2.mono (Bt.le.refl _) hA,g3⟩) f1 f2 f3
 refine⟨_,⟨hI',⟨hE.1,λt=>(hE.2 t).mono hle hA⟩,rfl,trivial,az _,λp hp=>⟨rfl,rfl⟩,λr hr h=>h⟩,?_⟩;have :dQ bt.bb S.nb w.heap.size S.nb=w.heap.size:=by simp[dQ]
 have h:=VR.ptrB (w:={ w with heap:=w.heap.push (.cells cs e) }) (bt:={ bt with bb:=dQ bt.bb S.nb w.heap.size,nb:=S.nb+1 }) (n:=S.nb) 0 (cU _);simp only[this] at h;exact h
theorem pV(v:Value)(h:v.cells.toList.all Value.oneCell'=true): ∀ (j:Nat) (x:AV),(v.cells.toList.map nD)[j]? =some x-> ∃c,v.cells[j]? =some c/\VR w bt x c/\c.oneCell'=true:=by grind [qR]
theorem iW{v:AV}{u:Value}(h:VR w bt v u)(hd:v.isDead=false):u.cells.size=v.cells.length/\(∀c∈u.cells.toList,c.oneCell'=true)/\
  ∀ (j:Nat) (x:AV),v.cells[j]? =some x-> ∃c,u.cells[j]? =some c/\VR w bt x c/\c.oneCell'=true:=by
 have one: ∀ {v:AV} {u:Value},VR w bt v u->v.isDead=false->(∀cs,v≠ .agg cs)->u.oneCell'=true:=by
  intro v u h hd hn;rcases h.one with ⟨cs,us,rfl,rfl⟩| ⟨cs,us,rfl,rfl⟩|rfl|h
  ·exact absurd rfl (hn cs)
  ·simp[AV.isDead] at hd
  ·simp[AV.isDead] at hd
  ·exact h
 have plain: (∀cs,v≠ .agg cs)->u.cells= #[u] ->v.cells= [v] ->u.cells.size=v.cells.length/\(∀c∈u.cells.toList,c.oneCell'=true)/\
   ∀ (j:Nat) (x:AV),v.cells[j]? =some x-> ∃c,u.cells[j]? =some c/\VR w bt x c/\c.oneCell'=true:=by
  intro hn h1 h2;rw[h1,h2];refine⟨rfl,λc hc=> ?_,λj x hj=> ?_⟩
  ·grind
  ·grind
 cases h with
 |agg hl ho hr=>
  rename_i cs us;refine⟨by simpa [Value.cells,AV.cells] using hl,by simpa [Value.cells] using ho,λj x hj=> ?_⟩
  have hlt:j<us.length:=by have:=(ai.1 hj).1;simp only[AV.cells] at this;omega
  exact⟨us[j],by simp[Value.cells,hlt],hr j x _ hj (aq hlt),ho _ (List.getElem_mem hlt)⟩
 |tup=>simp[AV.isDead] at hd
 |dead=>simp[AV.isDead] at hd
 |sc hs=>refine plain (by simp) ?_ rfl;unfold gG at hs;split at hs<;>first |rfl|cases hs
 |ro hro=>exact plain (by simp) (by cases hro<;>rfl) rfl
 | _=>exact plain (by simp) rfl rfl
theorem fS{t:TypeId}{zs:List Value}(h:lV P t=some zs): ∃i z,P.info? t=some i/\i.zero=some z/\zs=z.cells.toList/\z.cells.toList.all Value.oneCell'=true:=by grind [lV,Option.bind_eq_some_iff]
theorem rr[dE](hI:eh w0 W bt S w)(hE:ER w bt S a)(hfz:S.fz<=S.ng){t:TypeId}{zs:List Value}(h:lV P t=some zs):
  ∃u w' bt',(Instr.alloc t true (.tuple #[])).run P w= .ok u w'/\eO w0 W bt S a bt' { S with bx:=dQ S.bx S.nb (some (zs.map nD)),nb:=S.nb+1 } w'/\VR w' bt' (.ptrB S.nb 0) u:=by
 obtain⟨i,z,hi,hz,rfl,hall⟩:=fS h;obtain⟨bt',h1,h2⟩:=AM (e:=t) hI hE hfz (cells:=z.cells.toList.map nD) (cs:=z.cells) (by simp) (pV z hall);exact⟨_,_,bt',by simp[Instr.alloc,zeroValue,typeInfo,hi,hz,newVar,newRow],h1,h2⟩
theorem vV[dE](hI:eh w0 W bt S w)(hE:ER w bt S a)(hfz:S.fz<=S.ng){t:TypeId}{v:AV}{u:Value}(hv:VR w bt v u)(hd:v.isDead=false):
  ∃u' w' bt',(Instr.box t u).run P w= .ok u' w'/\eO w0 W bt S a bt' { S with bx:=dQ S.bx S.nb (some v.cells),nb:=S.nb+1 } w'/\VR w' bt' (.ptrB S.nb 0) u':=by
 obtain⟨g1,_,g2⟩:=iW hv hd;obtain⟨bt',h1,h2⟩:=AM (e:=t) hI hE hfz (cells:=v.cells) (cs:=u.cells) g1 g2;exact⟨_,_,bt',by simp[Instr.box,newVar,newRow],h1,h2⟩
theorem m8{t:TypeId}{i:TypeInfo}(hi:P.info? t=some i){b o:Nat}{e:TypeId}{u:Value}{cur:Array Value}(hh:w.heap[b]? =some (.cells cur e (0,0)))
  (hsz:u.cells.size=P.cellsOf t) (hone: ∀c∈u.cells.toList,c.oneCell'=true) (hle:o+u.cells.size<=cur.size):
  (Instr.storeAt t (.pointer (some ⟨b,o,none⟩)) u).run P w= .ok () (w.setRow b (cur.toList.take o++u.cells.toList++cur.toList.drop (o+u.cells.size)).toArray):=by
 have h:=run_storeCells_at P b o e u.cells.toList 0 cur w hh (by simpa using hle) hone
 simp_all [Instr.storeAt,Instr.sureAddr,storeVar,run_sizeOf]
theorem iK{α:Type}(xs ys:List α)(o:Nat)(h:o+ys.length<=xs.length)(j:Nat): (xs.take o++ys++xs.drop (o+ys.length))[j]? =if j<o then xs[j]? else if j<o+ys.length then ys[j-o]? else xs[j]? :=by grind
theorem rd[dE](hI:eh w0 W bt S w)(hE:ER w bt S a){t:TypeId}{i:TypeInfo}(hi:P.info? t=some i){n j:Nat}{cells0:List AV}{v:AV}{u:Value}(hn:S.bx n=some cells0)(hv:VR w bt v u)(hd:v.isDead=false)
  (hsz:v.cells.length=P.cellsOf t) (hle:j+v.cells.length<=cells0.length):
  ∃w',(Instr.storeAt t (.pointer (some ⟨bt.bb n,j,none⟩)) u).run P w= .ok () w'/\eO w0 W bt S a bt { S with bx:=dQ S.bx n (some (cells0.take j++v.cells++cells0.drop (j+v.cells.length))) } w':=by
 obtain⟨g1,g2,g3⟩:=iW hv hd;obtain⟨_,_,arr,e,hh,hs,hc⟩:=hI.bx n _ hn;have hrun:=m8 (P:=P) hi hh (o:=j) (by omega) g2 (by omega);refine⟨_,hrun,?_⟩;have hul:u.cells.toList.length=v.cells.length:=by simpa using g1
 obtain⟨hI',hA⟩:=hI.setBox (cells:=cells0.take j++v.cells++cells0.drop (j+v.cells.length)) (cs:=(arr.toList.take j++u.cells.toList++arr.toList.drop (j+u.cells.size)).toArray) hn hh (by simp;omega) (λk x hk=>by
  rw[iK _ _ _ hle] at hk
  grind)
 exact⟨hI',⟨hE.1,λt=>(hE.2 t).mono (Bt.le.refl _) hA⟩,rfl,trivial,az _,λ_ _=>⟨rfl,rfl⟩,λ_ _ h=>h⟩
end
end
end Go.Proofs.YtkghndikalnipaaGreat.En
