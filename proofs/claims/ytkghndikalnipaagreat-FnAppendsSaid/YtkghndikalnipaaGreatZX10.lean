import Derived.Test.YtkghndikalnipaaGreatZX9
import Derived.Test.YtkghndikalnipaaGreatZX6
import Derived.Shelf.RegionOpenPlain
import Derived.WalkKit
import Derived.Lib.Walk
import Derived.Lib.SliceRun
import Derived.Laws.Externs
import Derived.Laws.IdiomCopy
import Derived.Lib.Strings
import Derived.Lib.Slices
import Derived.Lib.Bytealg
set_option linter.unusedSimpArgs false
set_option linter.unusedVariables false
namespace Go.Proofs.YtkghndikalnipaaGreat.En
section
open Go
structure HW [eg] (P:Program) where
 n:Nat
 e:PM
 ok:Ca P n e
structure L9 [eg] (P:Program) where
 c:Code
 e:NK
 ok:Rc P c e
structure LX where
 L:yc
 x:List (X×yc)
 g:List L8
 k:List Nat
 kx:List Nat
abbrev LX.S(m:LX):Type:=m.L.D
abbrev LX.R(m:LX):Type:=Option (m.L.D⊕Ab.D m.x)
theorem tm: (∀ (α β:Type) (b:Bool) (x y:Option α) (f:α->Option β),(br b x y).bind f=br b (x.bind f) (y.bind f))/\(∀ (α β:Type) (c:Prop) (_:Decidable c) (x y:Option α) (f:α->Option β),(iteP c x y).bind f=iteP c (x.bind f) (y.bind f))/\(∀ (α β:Type) (f:α->Option β),(none:Option α).bind f=none)/\(∀ (α β:Type) (a:α) (f:α->Option β),(some a).bind f=f a)/\(∀ (α β γ:Type) (x:Option α) (f:α->Option β) (g:β->Option γ),(x.bind f).bind g=x.bind λa=>(f a).bind g)/\(∀ (α β γ δ:Type) (x:α⊕β) (f:α->Option γ) (g:β->Option γ) (h:γ->Option δ),(Sum.elim f g x).bind h=Sum.elim (λa=>(f a).bind h) (λa=>(g a).bind h) x)/\(∀ (α β γ:Type) (f:α->γ) (g:β->γ) (a:α),Sum.elim f g (.inl a)=f a)/\ ∀ (α β γ:Type) (f:α->γ) (g:β->γ) (b:β),Sum.elim f g (.inr b)=g b:=
 ⟨λ_ _ b _ _ _=>by cases b<;>rfl,λ_ _ c _ _ _ _=>by unfold iteP;split<;>rfl,λ_ _ _=>rfl,λ_ _ _ _=>rfl,λ_ _ _ x _ _=>by cases x<;>rfl,λ_ _ _ _ x _ _ _=>by cases x<;>rfl,λ_ _ _ _ _ _=>rfl,λ_ _ _ _ _ _=>rfl⟩
def Rk:Code->List Nat->Code
 |c,[] =>c
 |c,i::l=>Rk (WC c i) l
section
variable {P:Program} {Θ:n8}
def HX[eg]:List (HW P)->List (Nat×PM)
 | [] => []
 |k::l=>(k.n,k.e)::HX l
theorem vu[eg]: ∀l:List (HW P),lM P (DS (HX l))
 | [] =>T0 P
 |k::l=>Ra k.ok (vu l)
def CI[eg]:List (L9 P)->List (Nat×NK)
 | [] => []
 |q::l=>(gC q.c,q.e)::CI l
def nq[eg]:List (L9 P)->List Code
 | [] => []
 |q::l=>q.c::nq l
def CJ:List Code->Bool
 | [] =>true
 |c::l=>l.all (λd=> !Nat.beq (gC c) (gC d))&&CJ l
theorem NP[eg]: ∀l:List (L9 P),CJ (nq l)=true->i5 P (CH (CI l)) (nq l)
 | [],_=>λc hc=>by cases hc
 |q::l,h=>by
  simp only[nq,CJ,al,aA] at h;intro c hc S ρ κ r hS hr;have hr: (bif Nat.beq (gC q.c) (gC c) then q.e S ρ κ else CH (CI l) (gC c) S ρ κ)=some r:=hr;rcases aV.1 hc with rfl|hc
  ·rw[de] at hr;exact q.ok S ρ κ r hS hr
  ·have hb:Nat.beq (gC q.c) (gC c)=false:=by simpa using h.1 c hc
   rw[hb] at hr;exact NP l h.2 c hc S ρ κ r hS hr
theorem Kj[eg]{Λ:List (L9 P)}{cs:List Code}(h:cs=nq Λ)(hn:CJ (nq Λ)=true):i5 P (CH (CI Λ)) cs:=by rw[h];exact NP Λ hn
theorem zq{α β:Type}{a a':α}{b b':β}(h: (a,b)=(a',b')):a=a'/\b=b':=by cases h;exact⟨rfl,rfl⟩
theorem Ma{a b:Bool}(h: (a&&b)=true):a=true/\b=true:=by simpa using h
variable (hΘ:gz P Θ) (hm:P.follows .mixedOrders=true)
noncomputable def Ze[eg](fn:Func)(p:List Nat)(m:LX)(B:m.S->m.R)(Y:List (HW P))(Λ:List (L9 P))(h: (fV (Rk (oU fn) p),((mB P (Rk (oU fn) p))&&(m.L.fit&&m.x.all XA))&&CJ (nq Λ))=(nq Λ,true))
  (hB: ∀s,(B s).bind (Sum.elim (λs'=>some (X.nor,m.L.mk' s')) λe=>some (Ab.e m.x e))=Ba Θ (DS (HX Y)) (CH (CI Λ)) (Rk (oU fn) p) (m.L.mk' s) (Kd m.k m.kx λx S=>some (x,S))):L9 P:=
 ⟨Rk (oU fn) p,Rb m.g m.k m.L m.x (hO B),Rd hΘ (vu Y) hm (Ma (Ma (zq h).2).1).1 (Kj (zq h).1 (Ma (zq h).2).2) m.g m.k m.kx m.L m.x (Ma (Ma (zq h).2).1).2 B (λs=>(hB s).symm) (hO B) (WA B) (O6 B)⟩
theorem Mb[eg]{f:FuncId}{fn:Func}{Λ:List (L9 P)}(h: (Gs P f,fV (oU fn),Nat.blt f 1048576&&CJ (nq Λ))=(some fn,nq Λ,true)):Gs P f=some fn/\(∀c,fn.body=some c->i5 P (CH (CI Λ)) (fV c))/\Nat.blt f 1048576=true:=
 have h2:=zq (zq h).2
 ⟨(zq h).1,XD h2.1 (Kj rfl (Ma h2.2).2),(Ma h2.2).1⟩
noncomputable def Y9[eg](f:FuncId)(fn:Func)(ps:List mY)(rs:List Ty)(F:oc.D ps->Option (nu.D rs))(Y:List (HW P))(Λ:List (L9 P))(h: (Gs P f,fV (oU fn),Nat.blt f 1048576&&CJ (nq Λ))=(some fn,nq Λ,true))
  (hF: ∀x,(F x).bind (λy=>ret (lN rs y) λv g=>some (v,g))=Xh Θ (DS (HX Y)) (CH (CI Λ)) fn (mh ps x) λv g=>some (v,g)):HW P:=
 ⟨f,O7 ps rs F,T7 hΘ (vu Y) hm (Mb h).1 (Mb h).2.1 (Mb h).2.2 F (λx=>(hF x).symm) λ_ _ h=>h⟩
noncomputable def YI[eg](f:FuncId)(fn:Func)(el:Ty)(ps:List mY)(rs:List Ty)(F:List el.D->oc.D ps->Option (nu.D rs))(Y:List (HW P))(Λ:List (L9 P))(h: (Gs P f,fV (oU fn),Nat.blt f 1048576&&CJ (nq Λ))=(some fn,nq Λ,true))
  (hF: ∀l x,(F l x).bind (λy=>ret (lN rs y) λv g=>some (v,g))=Qu Θ (DS (HX Y)) (CH (CI Λ)) fn 0 el l (mh ps x) λv g=>some (v,g)):HW P:=
 ⟨DK f,Rg el ps rs F,T8 (Mb h).2.2 hΘ (vu Y) hm (Mb h).1 (Mb h).2.1 F (λl x=>(hF l x).symm) λ_ _ _ h=>h⟩
noncomputable def YJ[eg](f:FuncId)(fn:Func)(el:Ty)(ps:List mY)(rs:List Ty)(F:List el.D->oc.D ps->Option (List el.D×nu.D rs))(Y:List (HW P))(Λ:List (L9 P))(h: (Gs P f,fV (oU fn),Nat.blt f 1048576&&CJ (nq Λ))=(some fn,nq Λ,true))
  (hF: ∀l x,(F l x).bind (λy=>Ri el rs y λv g=>some (v,g))=Qu Θ (DS (HX Y)) (CH (CI Λ)) fn 1 el l (mh ps x) λv g=>some (v,g)):HW P:=
 ⟨CE f,Kh el ps rs F,T9 hΘ (vu Y) hm (Mb h).1 (Mb h).2.1 (Mb h).2.2 F (λl x=>(hF l x).symm) λ_ _ _ h=>h⟩
noncomputable def YK[eg](f:FuncId)(fn:Func)(el:Ty)(ps:List mY)(rs:List Ty)(F:List el.D->oc.D ps->Option (List el.D×nu.D rs))(Y:List (HW P))(Λ:List (L9 P))(h: (Gs P f,fV (oU fn),Nat.blt f 1048576&&CJ (nq Λ))=(some fn,nq Λ,true))
  (hF: ∀l x,(F l x).bind (λy=>Ri el rs y λv g=>some (v,g))=Wu Θ (DS (HX Y)) (CH (CI Λ)) fn el l (mh ps x) λv g=>some (v,g)):HW P:=
 ⟨DL f,Kh el ps rs F,Ua hΘ (vu Y) hm (Mb h).1 (Mb h).2.1 (Mb h).2.2 F (λl x=>(hF l x).symm) λ_ _ _ h=>h⟩
noncomputable def YL[eg](f:FuncId)(fn:Func)(el:Ty)(ps:List mY)(rs:List Ty)(F:oc.D ps->Option (List el.D×nu.D rs))(Y:List (HW P))(Λ:List (L9 P))(h: (Gs P f,fV (oU fn),Nat.blt f 1048576&&CJ (nq Λ))=(some fn,nq Λ,true))
  (hF: ∀x,(F x).bind (λy=>WB el rs y λv g=>some (v,g))=Xh Θ (DS (HX Y)) (CH (CI Λ)) fn (mh ps x) λv g=>some (v,g)):HW P:=
 ⟨f,Rj el ps rs F,Ub hΘ (vu Y) hm (Mb h).1 (Mb h).2.1 (Mb h).2.2 F (λx=>(hF x).symm) λ_ _ h=>h⟩
abbrev YM(t:Ty)(y:List t.D×Unit):Option (V×List eU):=ret (lN [.ls t] y) λv g=>some (v,g)
abbrev Za(t:Ty)(n:Nat)(l:List t.D):Option (V×List eU):=iteP ((([]:List t.D)++l).length*n<=2 ^ 40) (YM t (([]:List t.D)++l,())) none
noncomputable def YN[eg](f:FuncId)(fn:Func)(t:Ty)(n:Nat)(F:List t.D->Option (List t.D×Unit))(h: (Gs P f,fV (oU fn),Nat.blt f 1048576&&CJ (nq ([]:List (L9 P))))=(some fn,nq ([]:List (L9 P)),true))
  (h1: ∀l,F l=iteP (l.length*n<=2 ^ 40) (some (l,())) none)
  (h2: ∀x:oc.D [.ty (.ls t)],Xh Θ (DS (HX ([]:List (HW P)))) (CH (CI ([]:List (L9 P)))) fn (mh [.ty (.ls t)] x) (λv g=>some (v,g))=Wq x.1 (Tf (YM t ([],())) (Za t n x.1) none) (Za t n x.1)):HW P:=
 Y9 hΘ hm f fn [.ty (.ls t)] [.ls t] (λx=>F x.1) [] [] h λx=>by rw[h2,h1];exact (Ud x.1 n (YM t)).symm
end
end
section
open Go Go.RowKit
theorem GM{P:Program}{ops:Array Oper}{o:Oper}{a:Act}{w:World}{K:Act->World->Prop}{Q:Exit->Act->World->Prop}{E:Prop}
  (hg:o.guard=none) (d x:Operand) (dT sT:TypeId) (hop:o.op=Op.call { callee:=Callee.builtin Builtin.copy,args:=#[d,x],argTypes:=#[dT,sT] })
  (v u:Value) (hd:a.eval d=v) (hx:a.eval x=u) {v':Value} {w':World} (hr: (Builtin.copy_ #[dT,sT] o.type #[v,u]).run P w= .ok v' w') (hK:K (a.put o.dst v') w'):
  if Region.wanted o (yielded ops a.tmps)=true then Oper.wp P o a w K Q else E:=by
 have hw:Region.wanted o (yielded ops a.tmps)=true:=by simp[Region.wanted,hg]
 rw[if_pos hw];unfold Oper.wp;simp[execOp,hop,resolve,invoke,builtin,hd,hx,hr,Result.andThen];exact hK
theorem NQ{P:Program}{ops:Array Oper}{rest:List Oper}{o:Oper}{a:Act}(w:World){Q:Exit->Act->World->Prop}(hgd:o.guard=none)(d s:Operand)(t t':TypeId)
  (ho:o.op= .call { callee:=.builtin .copy,args:=#[d,s],argTypes:=#[t,t'] }) (v u:Value) (hd:a.eval d=v) (hs:a.eval s=u) {v':Value} {w':World}
  (hr: (Builtin.copy_ #[t,t'] o.type #[v,u]).run P w= .ok v' w') (h:wpList P ops Q rest (a.put o.dst v') w'):wpList P ops Q (o::rest) a w:=by
 refine wpList_plain hgd λ_ hK=> ?_;unfold Oper.wp execOp;simp only[ho,resolve,invoke,builtin,Sem.run_bind,Sem.run_pure,Result.andThen_ok,List.map_toArray,aY,cF,hd,hs,hr];exact hK _ _ h
theorem Af{P:Program}{f:FuncId}{fn:Func}{c:Code}(hf:P.funcs[f]? =some fn)(hn: (fn.name== "runtime.NumGoroutine")=false)(hc:fn.body=some c)(args:Array Value)(w:World): (callFunc f args).run P w= .ok (.enter f args) w:=by
 have hname': ¬fn.name= "runtime.NumGoroutine" :=by simpa using hn
 simp[callFunc,hf,hname',hc]
theorem Kk(t:Ty)(h:t.flatB=true)(l:List t.D):rg t.width (l.map t.row):=by
 intro r hr;obtain⟨x,_,rfl⟩:=aN.1 hr;refine⟨t.row_length x,λy hy=> ?_⟩;rw[t.row_flat] at hy;obtain⟨c,hc,rfl⟩:=aN.1 hy;have hg:=t.flat_good x c hc
 have hl: (t.flat x).all C.flatB=true:=by
  cases t with
  |st n=>cases n<;>first |rfl|exact absurd h (by decide)
  |ls t=>exact absurd h Bool.false_ne_true
  | _=>rfl
 have hc':=aA.1 hl c hc;cases c with
 |sc v=>exact⟨v,rfl,hg⟩
 |ls _ _=>cases hc'
def Rl{α:Type}(by':Nat)(l:List α)(i:Int)(v:List α):Option (List α×Unit):=match v with
 | [x] =>iteP (0<=i/\i<=(l.length:Int)) (iteP ((l.length+1)*by'<=2 ^ 40) (some (l.take i.toNat++x::l.drop i.toNat,())) none) none
 | _=>none
theorem O9{α:Type}{by':Nat}{l:List α}{i:Int}{v:List α}{y:List α×Unit}(h:Rl by' l i v=some y): ∃x,v= [x] /\0<=i/\i.toNat<=l.length/\((i.toNat:Nat):Int)=i/\(l.length+1)*by'<=2 ^ 40/\y=(l.take i.toNat++x::l.drop i.toNat,()):=by
 unfold Rl at h;split at h
 ·rename_i x;obtain⟨h1,h⟩:=fy h;obtain⟨h2,h⟩:=fy h;exact⟨x,rfl,h1.1,by omega,by omega,h2,(Option.some.inj h).symm⟩
 ·cases h
def WF[eg]{P:Program}{f t e tn sz:Nat}{i0:TypeInfo}{z:Value}(hw:Hs P f t e tn sz i0 z)(el:Ty)(hel:el.width=sz)(hf:el.flatB=true)(by':Nat)(hb:i0.bytes=by')(hp:0<by')(h2:Nat.blt 3 sz=true:=by rfl)(hk:Nat.blt f 1048576=true:=by rfl):HW P:=
 ⟨DK f,Rg el [.ty (.i .i64),.ty (.ls el)] [.ls el] λl x=>Rl by' l x.1 x.2.1,by
  intro args ρ κ r hr;unfold Rg at hr;split at hr
  ·rename_i t l xs;split at hr
   ·rename_i l' hl;obtain⟨e',hl⟩:=gR hl;subst e';have hl:l=l':=hl;subst hl;obtain⟨x,hn,hr2⟩:=l5 hr;obtain⟨y,h1,hr3⟩:=ai.1 hr2;obtain⟨i,v,u⟩:=x;cases u;obtain⟨x,rfl,hi0,hi1,e1,hs,rfl⟩:=O9 h1;refine⟨_,_,.of_mv ⟨.ls _,l,_,rfl,jk.norm (Ke.cons (.inl rfl) hn) ?_⟩ (ar hk),HM _,hr3⟩;have hm:l.length+1<=(l.length+1)*by':=dE _ hp;have gC:=Ht hw (rows:=l.map t.row) (row:=t.row x) (i:=(i:Int).toNat) (by rw[<-hel];exact Kk t hf l) (by rw[<-hel];exact Kk t hf [x]) (by rw[aJ];exact hi1) (by rw[aJ,hb];exact hs) (by rw[aJ];omega) (ar h2);rw[e1,<-hel] at gC;have e2: (l.map t.row).take (i:Int).toNat++t.row x:: (l.map t.row).drop (i:Int).toNat=(l.take (i:Int).toNat++x::l.drop (i:Int).toNat).map t.row:=by simp
    have e3: (l.map t.row).length+1=(l.take (i:Int).toNat++x::l.drop (i:Int).toNat).length:=by simp;omega
    rw[e2,e3,aJ] at gC;exact gC
   ·cases hr
  ·cases hr⟩
end
section
open Go Go.RowKit
def Ty.scB:Ty->Bool| .i _=>true| .b=>true| .s=>true| .h=>true| _=>false
def mY.scB:mY->Bool| .ty t=>t.scB| _=>false
def Ty.val: (t:Ty)->t.D->Value| .i k,n=> .int k n| .b,y=> .bool y| .s,y=> .string y| .h,y=> .slice y.a y.n y.c| _,_=>undef
def mY.val: (p:mY)->p.D->Value| .ty t,x=>t.val x| _,_=>undef
def Eg: (l:List mY)->oc.D l->List Value
 | [],_=> []
 |p::l,x=>p.val x.1::Eg l x.2
def NR: (l:List Ty)->nu.D l->List Value
 | [],_=> []
 |t::l,x=>t.val x.1::NR l x.2
def Vc:List Value->Value| [v] =>v|l=> .tuple l.toArray
theorem NS{t:Ty}(h:t.scB=true)(x:t.D): (Nm t x).av= .sc (t.val x)/\oK (t.val x)=true:=by
 cases t with
 |st n=>cases h
 |ls t=>cases h
 | _=>exact⟨rfl,rfl⟩
theorem Ue{t:Ty}(h:t.scB=true)(x:t.D)(n:Nat): (OT t x n).av= .sc (t.val x)/\rt (t.flat x)= [] :=by
 cases t with
 |st n=>cases h
 |ls t=>cases h
 | _=>exact⟨rfl,rfl⟩
theorem Kl: ∀ (l:List mY),l.all mY.scB=true-> ∀x:oc.D l,(mh l x).map V1.av=(Eg l x).map AV.sc
 | [],_,_=>rfl
 |p::l,h,x=>by
  simp only[cA,al] at h;cases p with
  |ty t=>show (Nm t x.1).av:: (mh l x.2).map V1.av= .sc (t.val x.1):: (Eg l x.2).map AV.sc;rw[(NS h.1 x.1).1,Kl l h.2 x.2]
  | _=>cases h.1
theorem Km: ∀ (l:List Ty),l.all Ty.scB=true-> ∀ (x:nu.D l) (n:Nat),(vS n (lN l x)).map V1.av=(NR l x).map AV.sc/\uj (lN l x)= []
 | [],_,_,_=>⟨rfl,rfl⟩
 |t::l,h,x,n=>by
  simp only[cA,al] at h;obtain⟨h1,h2⟩:=Ue h.1 x.1 n;obtain⟨h3,h4⟩:=Km l h.2 x.2 (n+(rt (t.flat x.1)).length);constructor
  ·show (OT t x.1 n).av::_= .sc (t.val x.1)::_;rw[h1];exact congrArg _ h3
  ·show rt (t.flat x.1)++uj (lN l x.2)= [];rw[h2,h4];rfl
theorem Eh: ∀ (l:List Ty),l.all Ty.scB=true-> ∀ (x:nu.D l),∀v∈NR l x,oK v=true
 | [],_,_,v,hv=>by cases hv
 |t::l,h,x,v,hv=>by
  simp only[cA,al] at h;rcases aV.1 hv with rfl|hv
  ·exact (NS h.1 x.1).2
  ·exact Eh l h.2 x.2 v hv
theorem Pa[eg]{w w':World}{W:Nat->Prop}{bt:Bt}(hI:gx w W bt (nw []) w)(h:Below w.heap.size w w'):gx w W bt (nw []) w':=
 { good:=hI.good,os:=h.os,tape:=h.tape,output:=h.output,size:=h.size,keep:=λb hb _=>h.block b hb,nb:=hI.nb,ng:=hI.ng
   bx:=λn cells h=>by cases h
   gh:=λr t h=>by simp[nw] at h
   tr:=λp s rs h=>absurd h (mW p s rs)
   inj:=λp q s rs s' rs' h=>absurd h (mW p s rs)
   bbinj:=λn m cs cs' h=>by cases h
   bbtr:=λn cs p s rs h=>by cases h
   alt:=λb hb=>aU (hI.alt b hb) h.size
   atr:=λp s rs h=>absurd h (mW p s rs)
   abb:=λn cs h=>by cases h }
theorem Uf(vs:List V1)(l:List Value)(h:vs.map V1.av=l.map AV.sc)(hs: ∀v∈l,oK v=true)(w:World)(bt:Bt):VR w bt (HA vs).av (Vc l):=by
 have tup: ∀ (vs:List V1) (l:List Value),vs.map V1.av=l.map AV.sc->(∀v∈l,oK v=true)->VR w bt (.tup (vs.map V1.av)) (.tuple l.toArray):=λvs l h hs=>by rw[h];refine .tup (by simp) λk c u h1 h2=> ?_;rw[aq,h2] at h1;cases h1;exact .sc (hs u (ap h2))
 match vs,l,h,hs with
 | [],[],_,_=>exact tup [] [] rfl (λv hv=>by cases hv)
 | [a],[v],h,hs=>
   have h:a.av= .sc v:=by simpa using h
   show VR w bt a.av v;rw[h];exact .sc (hs v aF)
 |a::b::vs,u::v::l,h,hs=>exact tup _ _ h hs
 | [],_::_,h,_=>cases h
 | _::_,[],h,_=>cases h
 | [_],_::_::_,h,_=>simp at h
 | _::_::_,[_],h,_=>simp at h
def YO[eg]{P:Program}(f:FuncId)(hk:Nat.blt f 1048576=true)(enter: ∀ (args:Array Value) (w:World),(callFunc f args).run P w= .ok (.enter f args) w)(ps:List mY)(rs:List Ty)(hp:ps.all mY.scB=true)(hr:rs.all Ty.scB=true)(G:oc.D ps->Option (nu.D rs))
    (h: ∀x y,G x=some y-> ∀w,Calls P f (Eg ps x).toArray w λe w'=>e= .returned (Vc (NR rs y))/\Below w.heap.size w w'):HW P:=
 ⟨f,O7 ps rs G,by
   intro args ρ κ r hr';unfold O7 at hr';obtain⟨x,hn,hr2⟩:=l5 hr';obtain⟨y,h1,hr3⟩:=ai.1 hr2;obtain⟨a1,a2⟩:=Km rs hr y 0;refine⟨_,_,.of_fn (qT.norm hn ?_) (ar hk),HM _,hr3⟩;rw[Kl ps hp x,a2];intro w W bt0 vals hI hl hv
   have e:vals=Eg ps x:=by
    refine bE λk=> ?_;cases hk:vals[k]? with
    |none=>have:=List.getElem?_eq_none_iff.1 hk;rw[aJ] at hl;rw[bZ (by omega)]
    |some u=>
     have hlt:=(aj.1 hk).1;have hlt':k< (Eg ps x).length:=by rw[aJ] at hl;omega
     have g1:=ah hlt';have g2:=hv k (.sc (Eg ps x)[k]) u (by rw[aq,g1];rfl) hk;cases g2 with
     |sc _=>exact g1.symm
   subst e;refine⟨enter _ w,(h x y h1 w).mono λe w' he=> ?_⟩;obtain⟨rfl,hb⟩:=he;exact⟨_,bt0,rfl,Pa hI hb,aB _,λp hp=>absurd hp (Nat.not_lt_zero _),Uf _ _ a1 (Eh rs hr y) w' bt0⟩⟩
end
section
open Go Go.ChangeShapes Go.WideShapes Go.RowKit
def qW[eg](x:Hd):Option (List Int):=if x.n=0 then some [] else match x.a with
 |some ad=>(List.range x.n).mapM λk=>match eg.w.cell? (ad.add k) with |some (.int .u8 m)=>some m| _=>none
 |none=>none
theorem Kn{α β:Type}{f:α->Option β}: ∀ {l:List α} {m:List β},l.length=m.length->(∀ (k:Nat) a b,l[k]? =some a->m[k]? =some b->f a=some b)->l.mapM f=some m
 | [],[],_,_=>rfl
 |a::l,b::m,hl,h=>by rw[c9,h 0 a b rfl rfl,Kn (by simpa using hl) λk x y hx hy=>h (k+1) x y (by simpa using hx) (by simpa using hy)];rfl
theorem zt[eg]{x:Hd}{l:List Int}(h:qW x=some l):l.length=x.n/\ ∀ (k:Nat) c,l[k]? =some c-> ∃ad,x.a=some ad/\eg.w.cell? (ad.add k)=some (.int .u8 c):=by
 unfold qW at h;split at h
 ·rename_i h0;cases h;exact⟨h0.symm,λk c hk=>by simp at hk⟩
 ·split at h
  ·rename_i ad ha
   have gC: ∀ (n:Nat) (l0:List Nat) (m:List Int),l0.mapM (λk=>match eg.w.cell? (ad.add k) with |some (.int .u8 m)=>some m| _=>none)=some m->m.length=l0.length/\ ∀ (k:Nat) c j,m[k]? =some c->l0[k]? =some j->eg.w.cell? (ad.add j)=some (.int .u8 c):=by
    intro n l0
    induction l0 with
    |nil=>intro m hm;cases hm;exact⟨rfl,λk c j hk=>by simp at hk⟩
    |cons a l0 ih=>
     intro m hm;rw[c9] at hm;simp only[dz,ai] at hm;obtain⟨b,h1,r,h2,h3⟩:=hm;cases h3;obtain⟨i1,i2⟩:=ih r h2;refine⟨by simp[i1],λk c j hk hj=> ?_⟩;cases k with
     |zero=>
      simp only[aQ,af] at hk hj;subst hk hj;split at h1
      ·rename_i hc;cases h1;exact hc
      ·cases h1
     |succ k=>exact i2 k c j (by simpa using hk) (by simpa using hj)
   obtain⟨k1,k2⟩:=gC 0 _ _ h;refine⟨by simpa using k1,λk c hk=>⟨ad,ha,k2 k c k hk ?_⟩⟩;have:=(aj.1 hk).1;rw[k1] at this;simp at this;simp[this]
  ·cases h
def Ug(h:Int):Int:=RowKit.wrap64 (RowKit.wrap64 (h*6364136223846793005)+1442695040888963407)
def XE(h:Int):Int:=bits .and .i64 (bits .xor .i64 (h / 8589934592) (h / 35184372088832)) 255
def xR[eg](c:gE):Option (gE×Int):=if c.i< (c.b.n:Int) then (if 0<=c.i then ((qW c.b).bind λl=>l[c.i.toNat]?).map λm=>(⟨c.b,RowKit.wrap64 (c.i+1),Ug c.h⟩,bits .and .i64 (RowKit.wrap64 (XE (Ug c.h)+RowKit.wrap64 m)) 255) else none) else some (⟨c.b,c.i,Ug c.h⟩,XE (Ug c.h))
def Pb(h m:Int):Int:=bits .and .i64 (RowKit.wrap64 (RowKit.wrap64 (RowKit.wrap64 (h*131)+RowKit.wrap64 m)+7)) 1073741823
def HY[eg](x:Hd):Option gE:=(qW x).map λl=>⟨x,0,(l.take 4000).foldl Pb (RowKit.wrap64 (10101+x.n))⟩
section
variable {H:Type} {enc:TypeId×Value->H} {P:Program} {W:World} {Θ:n8} {base:Nat}
theorem Mc[eg](hW:eg.w=W)(hΘ:gz P Θ){f:FuncId}{G:oc.D [.ty .h] ->Option (nu.D [.b])}(he:Ca P f (O7 [.ty .h] [.b] G))(hG: ∀ (x:Hd) l,qW x=some l->l.length<=maxLen->(∀c∈l,0<=c/\c<=255)->G (x,())=some (true,()))
  {ts:List TypeId} {vs:List Value} {ds:List (DataW H)} {p:List MemPlace} (hp:Ef P Θ ts [.ls (.i .u8)] =true) (hv: ∀ (j:Nat) t v,ts[j]? =some t->vs[j]? =some v->Value.okWide P W .any base t v) (h:DataW.TrodAll enc P W 0 (λ_=>true) true ts vs ds p) (hk:Nat.blt f 1048576=true:=by rfl):
  Calls P f vs.toArray W λe W'=>e= .returned (.bool true)/\Below W.heap.size W W':=by
 let bt:Bt:=⟨λ_=>(0,0),λ_=>0,λ_=>0,0,0,λb=>b<W.heap.size⟩
 obtain⟨⟨l,u⟩,h1,h2,h3,_⟩:=NN (bt:=bt) hΘ rfl hp hv h
 match vs,h1,h2 with
 | [v0],_,h2=>
   have hvr:VR W bt (.ro 1 (l.map λn=> [T.sc (.int .u8 n)])) v0:=h2 0 _ v0 rfl rfl
   have hbd:l.length<=maxLen/\ ∀c∈l,0<=c/\c<=255:=by
    have:=h3 (.sl 1 (l.map λn=> [T.sc (.int .u8 n)])) (aD.2 rfl);cases this with
    |sl hl hr=>
     refine⟨by simpa using hl,λc hc=> ?_⟩;have:=hr [T.sc (.int .u8 c)] (aN.2 ⟨c,hc,rfl⟩) _ aF;cases this with
     |int h=>exact h
   obtain⟨x,hx,hb⟩: ∃x:Hd,v0= .slice x.a x.n x.c/\qW x=some l:=by
    cases hvr with
    |ro hro=>
     generalize hrows:l.map (λn=> [T.sc (.int .u8 n)])=rows at hro;cases hro with
     |em _ a cap=>have :l= [] :=List.map_eq_nil_iff.1 hrows;subst this;exact⟨⟨a,0,cap⟩,rfl,rfl⟩
     |sl cs hc hs hA' hl hr' ht=>
      rename_i ad cap hu;have hlen:rows.length=l.length:=by rw[<-hrows,aJ]
      refine⟨⟨some ad,rows.length,cap⟩,rfl,?_⟩;unfold qW;simp only;split
      ·rename_i h0;rw[hlen] at h0;rw[bD h0]
      ·refine Kn (by simpa using hlen) λk a c ha hc=> ?_
       have hak:a=k:=by have:=aj.1 ha;obtain⟨q1,q2⟩:=this;simp at q2;exact q2.symm
       subst hak;have hrow:rows[a]? =some [T.sc (.int .u8 c)] :=by rw[<-hrows,aq,hc];rfl
       have g1:=hr' a _ 0 _ hrow rfl;have g2:=ht a _ 0 _ hrow rfl;rw[Nat.mul_one,b7] at g1;rw[hW];generalize cs a 0=u at g1 g2;cases g2 with
       |sc _=>rw[g1]
   subst hx;have hg:=hG x l hb hbd.1 hbd.2
   obtain⟨res,out,k1,k2,k3⟩:=he (mh [.ty .h] (x,())) (V×List eU) (λv g=>some (v,g)) (.v (.cl (.c (.sc (.bool true)))),[]) (by show (G (x,())).bind _=_;rw[hg];rfl)
   cases k3
   have:=k1.fn (ar hk) W (λ_=>False) bt [.slice x.a x.n x.c] (M5 ⟨by rw[hW];exact au _,λb _=>⟨by rw[hW],λh=>h⟩⟩ bt λb hb=>hb) rfl (λk v u hk hu=>by
    cases k with
    |zero=>have hk:some (AV.sc (.slice x.a x.n x.c))=some v:=hk;cases hk;cases hu;exact .sc rfl
    |succ k=>cases hu)
   refine this.2.mono λe W' hx=> ?_;obtain⟨v,btn,rfl,hI,_,_,hvr⟩:=hx;refine⟨?_,vi hI⟩;cases hvr with
   |sc=>rfl
end
end
section
open Go Go.RowKit
theorem Vd(v:Value): ∀ (l:List (Nat×Nat)) (s:Nat) (rs:List (List T)),(T.sc v).go l≠ .sl s rs:=λl s rs h=>by
 cases l with
 |nil=>cases h
 |cons x l=>
  have h':T.dd.go l= .sl s rs:=h
  have : ∀l:List (Nat×Nat),T.dd.go l= .dd:=λl=>by
   induction l with
   |nil=>rfl
   |cons x l ih=>exact ih
  rw[this] at h';cases h'
theorem pN{n:Nat}{rows:List (List T)}(hf: ∀r∈rows,∀x∈r,∃v,x=T.sc v){p:fo}{s:Nat}{rs:List (List T)}(h: (nw [.sl n rows]).look p= .sl s rs):p=⟨0,[]⟩/\s=n/\rs=rows:=by
 obtain⟨r,l⟩:=p;cases r with
 |succ r=>exact absurd h (by simp[St.look,nw])
 |zero=>
  cases l with
  |nil=>have h:T.sl n rows= .sl s rs:=h;cases h;exact⟨rfl,rfl,rfl⟩
  |cons x l=>
   obtain⟨i,j⟩:=x;have h: ((rows.getD i []).getD j .dd).go l= .sl s rs:=h;generalize hr:rows.getD i [] =r0 at h;by_cases hj:j<r0.length
   ·have hi:i<rows.length:=by
     by_cases hi:i<rows.length
     ·exact hi
     ·rw[aE,bZ (by omega)] at hr;subst hr;cases hj
    obtain⟨v,hv⟩:=hf r0 (by rw[<-hr,aE,ah hi];exact bB hi) r0[j] (bB hj);rw[aE,ah hj,bw,hv] at h;exact absurd h (Vd v l s rs)
   ·rw[aE,bZ (by omega)] at h;exact absurd (show (T.sc undef).go ((0,0)::l)= .sl s rs from h) (Vd _ _ _ _)
theorem mD(c:gE): ∀r∈ [n7 c],∀x∈r,∃v,x=T.sc v:=λr hr x hx=>by rw[aD.1 hr] at hx;simp only[n7,aV,List.not_mem_nil,or_false] at hx;rcases hx with rfl|rfl|rfl<;>exact⟨_,rfl⟩
theorem Bm[eg]{w:World}{W:Nat->Prop}(h:Ln w W){a:Addr}{v:Value}(hc:eg.w.cell? a=some v):w.cell? a=some v/\ ¬W a.block:=by
 have hb:a.block<eg.w.heap.size:=by
  unfold World.cell? at hc;cases hh:eg.w.heap[a.block]? with
  |none=>rw[hh] at hc;simp at hc
  |some o=>exact (aG.1 hh).1
 exact⟨by rw[rQ (h.2 _ hb).1,hc],(h.2 _ hb).2⟩
def tD(cs:Array Value)(O:Nat)(c:gE):Prop:=cs[O]? =some (.slice c.b.a c.b.n c.b.c)/\cs[O+1]? =some (.int .i64 c.i)/\cs[O+2]? =some (.int .i64 c.h)
theorem tD.blk{w:World}{bt:Bt}{cs:Array Value}{e:TypeId}{c:gE}(h:tD cs (bt.β ⟨0,[]⟩).2 c)(hh:w.heap[(bt.β ⟨0,[]⟩).1]? =some (.cells cs e (0,0)))(hk:Yx (bt.β ⟨0,[]⟩).2 (bt.κ ⟨0,[]⟩) 3 cs.size)(hone: ∀ (k:Nat) (u:Value),cs[k]? =some u->u.oneCell'=true):SK w bt ⟨0,[]⟩ 3 [n7 c] :=
 ⟨cs,e,hh,hk,hone,λi r hr=>by
  cases i with
  |succ i=>simp at hr
  |zero=>
   cases hr;refine⟨rfl,λj x hx=> ?_⟩
   match j,hx with
   | 0,hx=>cases hx;exact⟨_,by simpa using h.1,.sc rfl⟩
   | 1,hx=>cases hx;exact⟨_,by simpa using h.2.1,.sc rfl⟩
   | 2,hx=>cases hx;exact⟨_,by simpa using h.2.2,.sc rfl⟩
   |j+3,hx=>simp[n7] at hx⟩
theorem tD.of_blk{w:World}{bt:Bt}{c:gE}(h:SK w bt ⟨0,[]⟩ 3 [n7 c]): ∃cs e,w.heap[(bt.β ⟨0,[]⟩).1]? =some (.cells cs e (0,0))/\Yx (bt.β ⟨0,[]⟩).2 (bt.κ ⟨0,[]⟩) 3 cs.size/\(∀ (k:Nat) (u:Value),cs[k]? =some u->u.oneCell'=true)/\tD cs (bt.β ⟨0,[]⟩).2 c:=by
 obtain⟨cs,e,h1,h2,h3,h4⟩:=h;obtain⟨_,h5⟩:=h4 0 (n7 c) rfl
 have gC: ∀ (j:Nat) (v:Value),(n7 c)[j]? =some (.sc v)->cs[(bt.β ⟨0,[]⟩).2+j]? =some v:=λj v hj=>by obtain⟨u,q1,q2⟩:=h5 j _ hj;rw[b8,aK] at q1;cases q2;exact q1
 exact⟨cs,e,h1,h2,h3,gC 0 _ rfl,gC 1 _ rfl,gC 2 _ rfl⟩
theorem Uh[eg]{w0 w w':World}{W:Nat->Prop}{bt:Bt}{c c':gE}(hI:gx w0 W bt (nw [.sl 3 [n7 c]]) w)(hos:w'.os=w.os)(ht:w'.tape=w.tape)(ho:w'.output=w.output)(hs:w'.heap.size=w.heap.size)(hk: ∀b,b≠(bt.β ⟨0,[]⟩).1->w'.heap[b]? =w.heap[b]?)(hb:SK w' bt ⟨0,[]⟩ 3 [n7 c']):gx w0 W bt (nw [.sl 3 [n7 c']]) w':=by
 obtain⟨h1,h2⟩:=hI.tr ⟨0,[]⟩ 3 [n7 c] rfl;have hκ:0<bt.κ ⟨0,[]⟩:=h1
 exact { good:=hI.good,os:=hos.trans hI.os,tape:=ht.trans hI.tape,output:=ho.trans hI.output,size:=by rw[hs];exact hI.size
         keep:=λb hb hw=>(hk b λe=>by rcases (h2 hκ).1 with h|h;·omega
                                      ·exact hw (e ▸ h)).trans (hI.keep b hb hw)
         nb:=hI.nb,ng:=hI.ng
         bx:=λn cells h=>by cases h
         gh:=λr t h=>(aj.1 h).1
         tr:=λp s rs h=>by obtain⟨rfl,rfl,rfl⟩:=pN (mD c') h;exact⟨h1,λhk=>⟨(h2 hk).1,hb⟩⟩
         inj:=λp q s rs s' rs' hp hq _ _ _=>by rw[(pN (mD c') hp).1,(pN (mD c') hq).1]
         bbinj:=λn m cs cs' h=>by cases h
         bbtr:=λn cs p s rs h=>by cases h
         alt:=λb hb=>by rw[hs];exact hI.alt b hb
         atr:=λp s rs h hk=>by obtain⟨rfl,rfl,rfl⟩:=pN (mD c') h;exact hI.atr ⟨0,[]⟩ 3 [n7 c] rfl hk
         abb:=λn cs h=>by cases h }
theorem NT{w w1:World}{b O:Nat}{cs:Array Value}{e:TypeId}{c:gE}{i h:Int}(hb:w.heap[b]? =some (.cells cs e (0,0)))(hc:tD cs O c)
  (h1:w1.heap=((w.setCell ⟨b,O+2,none⟩ (.int .i64 h)).setCell ⟨b,O+1,none⟩ (.int .i64 i)).heap\/(i=c.i/\w1.heap=(w.setCell ⟨b,O+2,none⟩ (.int .i64 h)).heap)):
  w1.heap.size=w.heap.size/\(∀k,k≠b->w1.heap[k]? =w.heap[k]?)/\ ∃cs',w1.heap[b]? =some (.cells cs' e (0,0))/\cs'.size=cs.size/\tD cs' O ⟨c.b,i,h⟩/\ ∀k,(k<O\/O+3<=k)->cs'[k]? =cs[k]? :=by
 have hlt:=(aG.1 hc.2.2).1;have far: ∀ (k:Nat),(k<O\/O+3<=k)->O+1≠k/\O+2≠k:=λk hk=>by omega
 rcases h1 with h1| ⟨rfl,h1⟩
 ·rw[h1];refine⟨by simp[World.setCell],λk hk=>by simp[World.setCell,du,Ne.symm hk],(cs.setIfInBounds (O+2) (.int .i64 h)).setIfInBounds (O+1) (.int .i64 i),by simp[World.setCell,du,hb],by simp,⟨?_,?_,?_⟩,λk hk=> ?_⟩
  ·simp[bN,hc.1]
  ·simp[bN];omega
  ·simp[bN];omega
  ·simp[bN,(far k hk).1,(far k hk).2]
 ·rw[h1];refine⟨by simp[World.setCell],λk hk=>by simp[World.setCell,du,Ne.symm hk],cs.setIfInBounds (O+2) (.int .i64 h),by simp[World.setCell,du,hb],by simp,⟨?_,?_,?_⟩,λk hk=> ?_⟩
  ·simp[bN,hc.1]
  ·simp[bN,hc.2.1]
  ·simp[bN];omega
  ·simp[bN,(far k hk).2]
def XF(G:gE->Option (gE×Int))(l:List gE):Option (List gE×Int×Unit):=match l with
 | [c] =>(G c).map λy=>([y.1],y.2,())
 | _=>none
def XG[eg]{P:Program}(f:FuncId)(hk:Nat.blt f 1048576=true)(enter: ∀ (args:Array Value) (w:World),(callFunc f args).run P w= .ok (.enter f args) w)(G:gE->Option (gE×Int))
    (h: ∀c y,G c=some y-> ∀ (w:World) (b O:Nat) (cs:Array Value) (e:TypeId),(∀a v,eg.w.cell? a=some v->w.cell? a=some v/\a.block≠b)->w.heap[b]? =some (.cells cs e (0,0))->tD cs O c->
      Calls P f #[.pointer (some ⟨b,O,none⟩)] w λr w'=>r= .returned (.int .i64 y.2)/\w'.os=w.os/\w'.tape=w.tape/\w'.output=w.output/\w'.heap.size=w.heap.size/\(∀k,k≠b->w'.heap[k]? =w.heap[k]?)/\ ∃cs',w'.heap[b]? =some (.cells cs' e (0,0))/\cs'.size=cs.size/\tD cs' O y.1/\ ∀k,(k<O\/O+3<=k)->cs'[k]? =cs[k]?):HW P:=
 ⟨DL f,Kh (.st .cur) [] [.i .i64] (λl _=>XF G l),by
  intro args ρ κ r hr;unfold Kh at hr;split at hr
  ·rename_i t l tl;split at hr
   ·rename_i l' hl;obtain⟨e,hl⟩:=gR hl;subst e;have hl:l=l':=hl;subst hl;obtain⟨x,hn,hr2⟩:=l5 hr;obtain⟨y,h1,hr3⟩:=ai.1 hr2;refine⟨_,_,.of_pt ⟨_,l,_,rfl,jk.norm (Ke.cons (.inl rfl) hn) ?_⟩ (ar hk),HT _ _ (lN [.i .i64] y.2),hr3⟩
    match l,h1 with
    | [],h1=>cases h1
    | _::_::_,h1=>cases h1
    | [c],h1=>
      obtain⟨z,h2,rfl⟩:=ak.1 h1;intro w W bt0 vals hI hlen hv
      match vals,hlen with
      | [v0],_=>
        have hv0:VR w bt0 (.ptrT ⟨0,[]⟩ 3 0 0) v0:=hv 0 _ v0 rfl rfl;cases hv0 with
        |ptrT _ _ _ hp hκ=>
         have hI:gx w W bt0 (nw [.sl 3 [n7 c]]) w:=hI;obtain⟨_,g⟩:=hI.tr ⟨0,[]⟩ 3 [n7 c] rfl;obtain⟨cs,e,q1,q2,q3,q4⟩:=tD.of_blk (g hκ).2;refine⟨enter _ _,(h c z h2 w _ _ cs e (λa v hc=>⟨(Bm hI.good hc).1,λe=> ?_⟩) q1 q4).mono ?_⟩
         ·have hlt:=(aG.1 q1).1;rcases (g hκ).1 with h|h
          ·omega
          ·exact (Bm hI.good hc).2 (e ▸ h)
         rintro r w' ⟨rfl,a1,a2,a3,a4,a5,cs',a6,a7,a8,a9⟩
         refine⟨_,bt0,rfl,Uh hI a1 a2 a3 a4 a5 (a8.blk a6 (by rw[a7];exact q2) λk u hu=> ?_),au _,λ_ _=>⟨rfl,rfl⟩,.sc rfl⟩;generalize (bt0.β ⟨0,[]⟩).2=O at a8 a9;by_cases k0:k<O\/O+3<=k
         ·exact q3 k u (by rw[<-a9 k k0];exact hu)
         ·obtain rfl|rfl|rfl:k=O\/k=O+1\/k=O+2:=by omega
          ·rw[a8.1] at hu;cases hu;rfl
          ·rw[a8.2.1] at hu;cases hu;rfl
          ·rw[a8.2.2] at hu;cases hu;rfl
   ·cases hr
  ·cases hr⟩
def XH[eg]{P:Program}(f:FuncId)(hk:Nat.blt f 1048576=true)(enter: ∀ (args:Array Value) (w:World),(callFunc f args).run P w= .ok (.enter f args) w)(G:Hd->Option gE)
    (h: ∀x c,G x=some c-> ∀ (w:World),(∀a v,eg.w.cell? a=some v->w.cell? a=some v)->
      Calls P f #[.slice x.a x.n x.c] w λr w'=> ∃b cs e,r= .returned (.pointer (some ⟨b,0,none⟩))/\Below w.heap.size w w'/\w.heap.size<=b/\w'.heap[b]? =some (.cells cs e (0,0))/\cs.size=3/\tD cs 0 c):HW P:=
 ⟨f,Rj (.st .cur) [.ty .h] [] (λx=>(G x.1).map λc=>([c],())),by
   intro args ρ κ r hr;unfold Rj at hr;obtain⟨x,hn,hr2⟩:=l5 hr;obtain⟨y,h1,hr3⟩:=ai.1 hr2;obtain⟨c,h2,rfl⟩:=ak.1 h1;refine⟨.v (.cl (.ptrT ⟨0,[]⟩ 3 0 0)),[⟨.st .cur,[c],none⟩],.of_fn (qT.norm hn ?_) (ar hk),Nat.succ_pos 0,hr3⟩;intro w W bt0 vals hI hlen hv
   match vals,hlen with
   | [v0],_=>
     have hv0:VR w bt0 (.sc (.slice x.1.a x.1.n x.1.c)) v0:=hv 0 _ v0 rfl rfl;cases hv0 with
     |sc _=>
      refine⟨enter _ _,(h x.1 c h2 w λa v hc=>(Bm hI.good hc).1).mono ?_⟩
      rintro r w' ⟨b,cs,e,rfl,a1,a2,a3,a4,a5⟩
      let btn:Bt:={ bt0 with β:=λ_=>(b,0),κ:=λp=>if p.l= [] then 1 else 0,ng:=1 }
      refine⟨_,btn,rfl,?_,aB _,λp hp=>absurd hp (Nat.not_lt_zero _),.ptrT (bt:=btn) 3 0 0 eb eb⟩
      exact { good:=hI.good,os:=a1.os,tape:=a1.tape,output:=a1.output,size:=a1.size,keep:=λb hb _=>a1.block b hb,nb:=hI.nb,ng:=rfl
              bx:=λn cells h=>by cases h
              gh:=λr t h=>(aj.1 h).1
              tr:=λp s rs h=>by
               obtain⟨rfl,rfl,rfl⟩:=pN (mD c) h;refine⟨au _,λ_=>⟨.inl a2,tD.blk (bt:=btn) a5 a3 ⟨by rw[a4];exact au _,.inl rfl⟩ λk u hu=> ?_⟩⟩
               match k,hu with
               | 0,hu=>rw[a5.1] at hu;cases hu;rfl
               | 1,hu=>rw[a5.2.1] at hu;cases hu;rfl
               | 2,hu=>rw[a5.2.2] at hu;cases hu;rfl
               |k+3,hu=>rw[Array.getElem?_eq_none (by omega)] at hu;cases hu
              inj:=λp q s rs s' rs' hp hq _ _ _=>by rw[(pN (mD c) hp).1,(pN (mD c) hq).1]
              bbinj:=λn m cs cs' h=>by cases h
              bbtr:=λn cs p s rs h=>by cases h
              alt:=λb hb=>aU (hI.alt b hb) a1.size
              atr:=λp s rs h _ hA=>by have :b<w.heap.size:=hI.alt b hA;omega
              abb:=λn cs h=>by cases h }⟩
end
end Go.Proofs.YtkghndikalnipaaGreat.En
