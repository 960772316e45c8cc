import Derived.Test.YtkghndikalnipaaGreatZX9
import Derived.Test.YtkghndikalnipaaGreatZX6
import Derived.Shelf.RegionOpenPlain
import Derived.WalkKit
import Derived.Lib.Walk
import Derived.Lib.SliceRun
import Derived.Laws.Externs
import Derived.Laws.IdiomCopy
import Derived.Lib.Strings
import Derived.Lib.Slices
import Derived.Lib.Bytealg
set_option linter.unusedSimpArgs false
set_option linter.unusedVariables false
namespace Go.Proofs.YtkghndikalnipaaGreat.En
section
open Go
structure oh [dL] (P:Program) where
 n:Nat
 e:uB
 ok:jk P n e
structure uC [dL] (P:Program) where
 c:Code
 e:vA
 ok:xz P c e
structure LX where
 L:kY
 x:List (X×kY)
 g:List uG
 k:List Nat
 kx:List Nat
abbrev LX.S(m:LX):Type:=m.L.D
abbrev LX.R(m:LX):Type:=Option (m.L.D⊕lU.D m.x)
theorem tm: (∀ (α β:Type) (b:Bool) (x y:Option α) (f:α->Option β),(br b x y).bind f=br b (x.bind f) (y.bind f))/\(∀ (α β:Type) (c:Prop) (_:Decidable c) (x y:Option α) (f:α->Option β),(iteP c x y).bind f=iteP c (x.bind f) (y.bind f))/\(∀ (α β:Type) (f:α->Option β),(none:Option α).bind f=none)/\(∀ (α β:Type) (a:α) (f:α->Option β),(some a).bind f=f a)/\(∀ (α β γ:Type) (x:Option α) (f:α->Option β) (g:β->Option γ),(x.bind f).bind g=x.bind λa=>(f a).bind g)/\(∀ (α β γ δ:Type) (x:α⊕β) (f:α->Option γ) (g:β->Option γ) (h:γ->Option δ),(Sum.elim f g x).bind h=Sum.elim (λa=>(f a).bind h) (λa=>(g a).bind h) x)/\(∀ (α β γ:Type) (f:α->γ) (g:β->γ) (a:α),Sum.elim f g (.inl a)=f a)/\ ∀ (α β γ:Type) (f:α->γ) (g:β->γ) (b:β),Sum.elim f g (.inr b)=g b:=
 ⟨λ_ _ b _ _ _=>by cases b<;>rfl,λ_ _ c _ _ _ _=>by unfold iteP;split<;>rfl,λ_ _ _=>rfl,λ_ _ _ _=>rfl,λ_ _ _ x _ _=>by cases x<;>rfl,λ_ _ _ _ x _ _ _=>by cases x<;>rfl,λ_ _ _ _ _ _=>rfl,λ_ _ _ _ _ _=>rfl⟩
def yu:Code->List Nat->Code
 |c,[] =>c
 |c,i::l=>yu (Cc c i) l
section
variable {P:Program} {Θ:gq}
def qh[dL]:List (oh P)->List (Nat×uB)
 | [] => []
 |k::l=>(k.n,k.e)::qh l
theorem jb[dL]: ∀l:List (oh P),fB P (nT (qh l))
 | [] =>A9 P
 |k::l=>zo k.ok (jb l)
def nk[dL]:List (uC P)->List (Nat×vA)
 | [] => []
 |q::l=>(fm q.c,q.e)::nk l
def fR[dL]:List (uC P)->List Code
 | [] => []
 |q::l=>q.c::fR l
def mW:List Code->Bool
 | [] =>true
 |c::l=>l.all (λd=> !Nat.beq (fm c) (fm d))&&mW l
theorem wu[dL]: ∀l:List (uC P),mW (fR l)=true->eS P (mH (nk l)) (fR l)
 | [],_=>λc hc=>by cases hc
 |q::l,h=>by
  simp only[fR,mW,ao,aA] at h;intro c hc S ρ κ r hS hr;have hr: (bif Nat.beq (fm q.c) (fm c) then q.e S ρ κ else mH (nk l) (fm c) S ρ κ)=some r:=hr;rcases aX.1 hc with rfl|hc
  ·rw[cJ] at hr;exact q.ok S ρ κ r hS hr
  ·have hb:Nat.beq (fm q.c) (fm c)=false:=by simpa using h.1 c hc
   rw[hb] at hr;exact wu l h.2 c hc S ρ κ r hS hr
theorem sK[dL]{Λ:List (uC P)}{cs:List Code}(h:cs=fR Λ)(hn:mW (fR Λ)=true):eS P (mH (nk Λ)) cs:=by rw[h];exact wu Λ hn
theorem lT{α β:Type}{a a':α}{b b':β}(h: (a,b)=(a',b')):a=a'/\b=b':=by cases h;exact⟨rfl,rfl⟩
theorem uH{a b:Bool}(h: (a&&b)=true):a=true/\b=true:=by simpa using h
variable (hΘ:eB P Θ) (hm:P.follows .mixedOrders=true)
noncomputable def EF[dL](fn:Func)(p:List Nat)(m:LX)(B:m.S->m.R)(Y:List (oh P))(Λ:List (uC P))(h: (eg (yu (gz fn) p),((fX P (yu (gz fn) p))&&(m.L.fit&&m.x.all C3))&&mW (fR Λ))=(fR Λ,true))
  (hB: ∀s,(B s).bind (Sum.elim (λs'=>some (X.nor,m.L.mk' s')) λe=>some (lU.e m.x e))=mF Θ (nT (qh Y)) (mH (nk Λ)) (yu (gz fn) p) (m.L.mk' s) (uw m.k m.kx λx S=>some (x,S))):uC P:=
 ⟨yu (gz fn) p,yl m.g m.k m.L m.x (md B),yn hΘ (jb Y) hm (uH (uH (lT h).2).1).1 (sK (lT h).1 (uH (lT h).2).2) m.g m.k m.kx m.L m.x (uH (uH (lT h).2).1).2 B (λs=>(hB s).symm) (md B) (Cb B) (w7 B)⟩
theorem rZ[dL]{f:FuncId}{fn:Func}{Λ:List (uC P)}(h: (oO P f,eg (gz fn),Nat.blt f 1048576&&mW (fR Λ))=(some fn,fR Λ,true)):oO P f=some fn/\(∀c,fn.body=some c->eS P (mH (nk Λ)) (eg c))/\Nat.blt f 1048576=true:=
 have h2:=lT (lT h).2
 ⟨(lT h).1,C5 h2.1 (sK rfl (uH h2.2).2),(uH h2.2).1⟩
noncomputable def Es[dL](f:FuncId)(fn:Func)(ps:List ju)(rs:List Ty)(F:fI.D ps->Option (fG.D rs))(Y:List (oh P))(Λ:List (uC P))(h: (oO P f,eg (gz fn),Nat.blt f 1048576&&mW (fR Λ))=(some fn,fR Λ,true))
  (hF: ∀x,(F x).bind (λy=>ret (fq rs y) λv g=>some (v,g))=CN Θ (nT (qh Y)) (mH (nk Λ)) fn (eV ps x) λv g=>some (v,g)):oh P:=
 ⟨f,sP ps rs F,Aa hΘ (jb Y) hm (rZ h).1 (rZ h).2.1 (rZ h).2.2 F (λx=>(hF x).symm) λ_ _ h=>h⟩
noncomputable def Ez[dL](f:FuncId)(fn:Func)(el:Ty)(ps:List ju)(rs:List Ty)(F:List el.D->fI.D ps->Option (fG.D rs))(Y:List (oh P))(Λ:List (uC P))(h: (oO P f,eg (gz fn),Nat.blt f 1048576&&mW (fR Λ))=(some fn,fR Λ,true))
  (hF: ∀l x,(F l x).bind (λy=>ret (fq rs y) λv g=>some (v,g))=ya Θ (nT (qh Y)) (mH (nk Λ)) fn 0 el l (eV ps x) λv g=>some (v,g)):oh P:=
 ⟨oZ f,xR el ps rs F,z9 (rZ h).2.2 hΘ (jb Y) hm (rZ h).1 (rZ h).2.1 F (λl x=>(hF l x).symm) λ_ _ _ h=>h⟩
noncomputable def Ey[dL](f:FuncId)(fn:Func)(el:Ty)(ps:List ju)(rs:List Ty)(F:List el.D->fI.D ps->Option (List el.D×fG.D rs))(Y:List (oh P))(Λ:List (uC P))(h: (oO P f,eg (gz fn),Nat.blt f 1048576&&mW (fR Λ))=(some fn,fR Λ,true))
  (hF: ∀l x,(F l x).bind (λy=>yT el rs y λv g=>some (v,g))=ya Θ (nT (qh Y)) (mH (nk Λ)) fn 1 el l (eV ps x) λv g=>some (v,g)):oh P:=
 ⟨l8 f,sO el ps rs F,z8 hΘ (jb Y) hm (rZ h).1 (rZ h).2.1 (rZ h).2.2 F (λl x=>(hF l x).symm) λ_ _ _ h=>h⟩
noncomputable def EB[dL](f:FuncId)(fn:Func)(el:Ty)(ps:List ju)(rs:List Ty)(F:List el.D->fI.D ps->Option (List el.D×fG.D rs))(Y:List (oh P))(Λ:List (uC P))(h: (oO P f,eg (gz fn),Nat.blt f 1048576&&mW (fR Λ))=(some fn,fR Λ,true))
  (hF: ∀l x,(F l x).bind (λy=>yT el rs y λv g=>some (v,g))=BW Θ (nT (qh Y)) (mH (nk Λ)) fn el l (eV ps x) λv g=>some (v,g)):oh P:=
 ⟨pi f,sO el ps rs F,Ad hΘ (jb Y) hm (rZ h).1 (rZ h).2.1 (rZ h).2.2 F (λl x=>(hF l x).symm) λ_ _ _ h=>h⟩
noncomputable def EA[dL](f:FuncId)(fn:Func)(el:Ty)(ps:List ju)(rs:List Ty)(F:fI.D ps->Option (List el.D×fG.D rs))(Y:List (oh P))(Λ:List (uC P))(h: (oO P f,eg (gz fn),Nat.blt f 1048576&&mW (fR Λ))=(some fn,fR Λ,true))
  (hF: ∀x,(F x).bind (λy=>Cn el rs y λv g=>some (v,g))=CN Θ (nT (qh Y)) (mH (nk Λ)) fn (eV ps x) λv g=>some (v,g)):oh P:=
 ⟨f,xU el ps rs F,Ab hΘ (jb Y) hm (rZ h).1 (rZ h).2.1 (rZ h).2.2 F (λx=>(hF x).symm) λ_ _ h=>h⟩
noncomputable def Ew[dL](f:FuncId)(fn:Func)(t:Ty)(ps:List ju)(rs:List Ty)(F:t.D->fI.D ps->Option (t.D×fG.D rs))(Y:List (oh P))(Λ:List (uC P))(h: (oO P f,eg (gz fn),Nat.blt f 1048576&&mW (fR Λ))=(some fn,fR Λ,true))
  (hF: ∀l x,(F l x).bind (λy=>Cp t rs y λv g=>some (v,g))=BV Θ (nT (qh Y)) (mH (nk Λ)) fn t l (eV ps x) λv g=>some (v,g)):oh P:=
 ⟨l8 f,BR t ps rs F,z7 hΘ (jb Y) hm (rZ h).1 (rZ h).2.1 (rZ h).2.2 F (λl x=>(hF l x).symm) λ_ _ _ h=>h⟩
abbrev D0(t:Ty)(y:List t.D×Unit):Option (V×List dS):=ret (fq [.ls t] y) λv g=>some (v,g)
abbrev Ej(t:Ty)(n:Nat)(l:List t.D):Option (V×List dS):=iteP ((([]:List t.D)++l).length*n<=2 ^ 40) (D0 t (([]:List t.D)++l,())) none
noncomputable def Et[dL](f:FuncId)(fn:Func)(t:Ty)(n:Nat)(F:List t.D->Option (List t.D×Unit))(h: (oO P f,eg (gz fn),Nat.blt f 1048576&&mW (fR ([]:List (uC P))))=(some fn,fR ([]:List (uC P)),true))
  (h1: ∀l,F l=iteP (l.length*n<=2 ^ 40) (some (l,())) none)
  (h2: ∀x:fI.D [.ty (.ls t)],CN Θ (nT (qh ([]:List (oh P)))) (mH (nk ([]:List (uC P)))) fn (eV [.ty (.ls t)] x) (λv g=>some (v,g))=Ch x.1 (zK (D0 t ([],())) (Ej t n x.1) none) (Ej t n x.1)):oh P:=
 Es hΘ hm f fn [.ty (.ls t)] [.ls t] (λx=>F x.1) [] [] h λx=>by rw[h2,h1];exact (zX x.1 n (D0 t)).symm
def El[dL](j g:Nat)(k1 k2:oh P)(h:k2.n=k1.n):oh P:=⟨k1.n,xS (C6 j g) k1.e k2.e,xT k1.ok (h ▸ k2.ok)⟩
end
end
section
open Go Go.RowKit
theorem CS{P:Program}{ops:Array Oper}{o:Oper}{a:Act}{w:World}{K:Act->World->Prop}{Q:Exit->Act->World->Prop}{E:Prop}
  (hg:o.guard=none) (d x:Operand) (dT sT:TypeId) (hop:o.op=Op.call { callee:=Callee.builtin Builtin.copy,args:=#[d,x],argTypes:=#[dT,sT] })
  (v u:Value) (hd:a.eval d=v) (hx:a.eval x=u) {v':Value} {w':World} (hr: (Builtin.copy_ #[dT,sT] o.type #[v,u]).run P w= .ok v' w') (hK:K (a.put o.dst v') w'):
  if Region.wanted o (yielded ops a.tmps)=true then Oper.wp P o a w K Q else E:=by
 have hw:Region.wanted o (yielded ops a.tmps)=true:=by simp[Region.wanted,hg]
 rw[if_pos hw];unfold Oper.wp;simp[execOp,hop,resolve,invoke,builtin,hd,hx,hr,Result.andThen];exact hK
theorem DQ{P:Program}{ops:Array Oper}{rest:List Oper}{o:Oper}{a:Act}(w:World){Q:Exit->Act->World->Prop}(hgd:o.guard=none)(d s:Operand)(t t':TypeId)
  (ho:o.op= .call { callee:=.builtin .copy,args:=#[d,s],argTypes:=#[t,t'] }) (v u:Value) (hd:a.eval d=v) (hs:a.eval s=u) {v':Value} {w':World}
  (hr: (Builtin.copy_ #[t,t'] o.type #[v,u]).run P w= .ok v' w') (h:wpList P ops Q rest (a.put o.dst v') w'):wpList P ops Q (o::rest) a w:=by
 refine wpList_plain hgd λ_ hK=> ?_;unfold Oper.wp execOp;simp only[ho,resolve,invoke,builtin,Sem.run_bind,Sem.run_pure,Result.andThen_ok,List.map_toArray,aO,b7,hd,hs,hr];exact hK _ _ h
theorem CY{P:Program}{f:FuncId}{fn:Func}{c:Code}(hf:P.funcs[f]? =some fn)(hn: (fn.name== "runtime.NumGoroutine")=false)(hc:fn.body=some c)(args:Array Value)(w:World): (callFunc f args).run P w= .ok (.enter f args) w:=by
 have hname': ¬fn.name= "runtime.NumGoroutine" :=by simpa using hn
 simp[callFunc,hf,hname',hc]
theorem uc(t:Ty)(h:t.flatB=true)(l:List t.D):ij t.width (l.map t.row):=by
 intro r hr;obtain⟨x,_,rfl⟩:=aI.1 hr;refine⟨t.row_length x,λy hy=> ?_⟩;rw[t.row_flat] at hy;obtain⟨c,hc,rfl⟩:=aI.1 hy;have hg:=t.flat_good x c hc
 have hl: (t.flat x).all C.flatB=true:=by
  cases t with
  |st n=>cases n<;>first |rfl|exact absurd h (by decide)
  |ls t=>exact absurd h Bool.false_ne_true
  | _=>rfl
 have hc':=aA.1 hl c hc;cases c with
 |sc v=>exact⟨v,rfl,hg⟩
 |ls _ _=>cases hc'
def B7{α:Type}(by':Nat)(l:List α)(i:Int)(v:List α):Option (List α×Unit):=match v with
 | [x] =>iteP (0<=i/\i<=(l.length:Int)) (iteP ((l.length+1)*by'<=2 ^ 40) (some (l.take i.toNat++x::l.drop i.toNat,())) none) none
 | _=>none
theorem wX{α:Type}{by':Nat}{l:List α}{i:Int}{v:List α}{y:List α×Unit}(h:B7 by' l i v=some y): ∃x,v= [x] /\0<=i/\i.toNat<=l.length/\((i.toNat:Nat):Int)=i/\(l.length+1)*by'<=2 ^ 40/\y=(l.take i.toNat++x::l.drop i.toNat,()):=by
 unfold B7 at h;split at h
 ·rename_i x;obtain⟨h1,h⟩:=dZ h;obtain⟨h2,h⟩:=dZ h;exact⟨x,rfl,h1.1,by omega,by omega,h2,(Option.some.inj h).symm⟩
 ·cases h
def D3[dL]{P:Program}{f t e tn sz:Nat}{i0:TypeInfo}{z:Value}(hw:vy P f t e tn sz i0 z)(el:Ty)(hel:el.width=sz)(hf:el.flatB=true)(by':Nat)(hb:i0.bytes=by')(hp:0<by')(h2:Nat.blt 3 sz=true:=by rfl)(hk:Nat.blt f 1048576=true:=by rfl):oh P:=
 ⟨oZ f,xR el [.ty (.i .i64),.ty (.ls el)] [.ls el] λl x=>B7 by' l x.1 x.2.1,by
  intro args ρ κ r hr;unfold xR at hr;split at hr
  ·rename_i t l xs;split at hr
   ·rename_i l' hl;obtain⟨e',hl⟩:=eI hl;subst e';have hl:l=l':=hl;subst hl;obtain⟨x,hn,hr2⟩:=fD hr;obtain⟨y,h1,hr3⟩:=ah.1 hr2;obtain⟨i,v,u⟩:=x;cases u;obtain⟨x,rfl,hi0,hi1,e1,hs,rfl⟩:=wX h1;refine⟨_,_,.of_mv ⟨.ls _,l,_,rfl,eT.norm (rY.cons (.inl rfl) hn) ?_⟩ (ax hk),rM _,hr3⟩;have hm:l.length+1<=(l.length+1)*by':=dh _ hp;have fm:=rp hw (rows:=l.map t.row) (row:=t.row x) (i:=(i:Int).toNat) (by rw[<-hel];exact uc t hf l) (by rw[<-hel];exact uc t hf [x]) (by rw[aE];exact hi1) (by rw[aE,hb];exact hs) (by rw[aE];omega) (ax h2);rw[e1,<-hel] at fm;have e2: (l.map t.row).take (i:Int).toNat++t.row x:: (l.map t.row).drop (i:Int).toNat=(l.take (i:Int).toNat++x::l.drop (i:Int).toNat).map t.row:=by simp
    have e3: (l.map t.row).length+1=(l.take (i:Int).toNat++x::l.drop (i:Int).toNat).length:=by simp;omega
    rw[e2,e3,aE] at fm;exact fm
   ·cases hr
  ·cases hr⟩
end
section
open Go Go.RowKit
def Ty.scB:Ty->Bool| .i _=>true| .b=>true| .s=>true| .h=>true| _=>false
def ju.scB:ju->Bool| .ty t=>t.scB| _=>false
def Ty.val: (t:Ty)->t.D->Value| .i k,n=> .int k n| .b,y=> .bool y| .s,y=> .string y| .h,y=> .slice y.a y.n y.c| _,_=>undef
def ju.val: (p:ju)->p.D->Value| .ty t,x=>t.val x| _,_=>undef
def pJ: (l:List ju)->fI.D l->List Value
 | [],_=> []
 |p::l,x=>p.val x.1::pJ l x.2
def wn: (l:List Ty)->fG.D l->List Value
 | [],_=> []
 |t::l,x=>t.val x.1::wn l x.2
def BC:List Value->Value| [v] =>v|l=> .tuple l.toArray
theorem wA{t:Ty}(h:t.scB=true)(x:t.D): (qU t x).av= .sc (t.val x)/\gQ (t.val x)=true:=by
 cases t with
 |st n=>cases h
 |ls t=>cases h
 | _=>exact⟨rfl,rfl⟩
theorem Bf{t:Ty}(h:t.scB=true)(x:t.D)(n:Nat): (qd t x n).av= .sc (t.val x)/\fV (t.flat x)= [] :=by
 cases t with
 |st n=>cases h
 |ls t=>cases h
 | _=>exact⟨rfl,rfl⟩
theorem uy: ∀ (l:List ju),l.all ju.scB=true-> ∀x:fI.D l,(eV l x).map V1.av=(pJ l x).map AV.sc
 | [],_,_=>rfl
 |p::l,h,x=>by
  simp only[cf,ao] at h;cases p with
  |ty t=>show (qU t x.1).av:: (eV l x.2).map V1.av= .sc (t.val x.1):: (pJ l x.2).map AV.sc;rw[(wA h.1 x.1).1,uy l h.2 x.2]
  | _=>cases h.1
theorem uf: ∀ (l:List Ty),l.all Ty.scB=true-> ∀ (x:fG.D l) (n:Nat),(i7 n (fq l x)).map V1.av=(wn l x).map AV.sc/\iZ (fq l x)= []
 | [],_,_,_=>⟨rfl,rfl⟩
 |t::l,h,x,n=>by
  simp only[cf,ao] at h;obtain⟨h1,h2⟩:=Bf h.1 x.1 n;obtain⟨h3,h4⟩:=uf l h.2 x.2 (n+(fV (t.flat x.1)).length);constructor
  ·show (qd t x.1 n).av::_= .sc (t.val x.1)::_;rw[h1];exact congrArg _ h3
  ·show fV (t.flat x.1)++iZ (fq l x.2)= [];rw[h2,h4];rfl
theorem pq: ∀ (l:List Ty),l.all Ty.scB=true-> ∀ (x:fG.D l),∀v∈wn l x,gQ v=true
 | [],_,_,v,hv=>by cases hv
 |t::l,h,x,v,hv=>by
  simp only[cf,ao] at h;rcases aX.1 hv with rfl|hv
  ·exact (wA h.1 x.1).2
  ·exact pq l h.2 x.2 v hv
theorem wY[dL]{w w':World}{W:Nat->Prop}{bt:Bt}(hI:eG w W bt (gn []) w)(h:Below w.heap.size w w'):eG w W bt (gn []) w':=
 { good:=hI.good,os:=h.os,tape:=h.tape,output:=h.output,size:=h.size,keep:=λb hb _=>h.block b hb,nb:=hI.nb,ng:=hI.ng
   bx:=λn cells h=>by cases h
   gh:=λr t h=>by simp[gn] at h
   tr:=λp s rs h=>absurd h (gk p s rs)
   inj:=λp q s rs s' rs' h=>absurd h (gk p s rs)
   bbinj:=λn m cs cs' h=>by cases h
   bbtr:=λn cs p s rs h=>by cases h
   alt:=λb hb=>aN (hI.alt b hb) h.size
   atr:=λp s rs h=>absurd h (gk p s rs)
   abb:=λn cs h=>by cases h }
theorem AP(vs:List V1)(l:List Value)(h:vs.map V1.av=l.map AV.sc)(hs: ∀v∈l,gQ v=true)(w:World)(bt:Bt):VR w bt (p9 vs).av (BC l):=by
 have tup: ∀ (vs:List V1) (l:List Value),vs.map V1.av=l.map AV.sc->(∀v∈l,gQ v=true)->VR w bt (.tup (vs.map V1.av)) (.tuple l.toArray):=λvs l h hs=>by rw[h];refine .tup (by simp) λk c u h1 h2=> ?_;rw[aw,h2] at h1;cases h1;exact .sc (hs u (ay h2))
 match vs,l,h,hs with
 | [],[],_,_=>exact tup [] [] rfl (λv hv=>by cases hv)
 | [a],[v],h,hs=>
   have h:a.av= .sc v:=by simpa using h
   show VR w bt a.av v;rw[h];exact .sc (hs v aG)
 |a::b::vs,u::v::l,h,hs=>exact tup _ _ h hs
 | [],_::_,h,_=>cases h
 | _::_,[],h,_=>cases h
 | [_],_::_::_,h,_=>simp at h
 | _::_::_,[_],h,_=>simp at h
def Eu[dL]{P:Program}(f:FuncId)(hk:Nat.blt f 1048576=true)(enter: ∀ (args:Array Value) (w:World),(callFunc f args).run P w= .ok (.enter f args) w)(ps:List ju)(rs:List Ty)(hp:ps.all ju.scB=true)(hr:rs.all Ty.scB=true)(G:fI.D ps->Option (fG.D rs))
    (h: ∀x y,G x=some y-> ∀w,Calls P f (pJ ps x).toArray w λe w'=>e= .returned (BC (wn rs y))/\Below w.heap.size w w'):oh P:=
 ⟨f,sP ps rs G,by
   intro args ρ κ r hr';unfold sP at hr';obtain⟨x,hn,hr2⟩:=fD hr';obtain⟨y,h1,hr3⟩:=ah.1 hr2;obtain⟨a1,a2⟩:=uf rs hr y 0;refine⟨_,_,.of_fn (ic.norm hn ?_) (ax hk),rM _,hr3⟩;rw[uy ps hp x,a2];intro w W bt0 vals hI hl hv
   have e:vals=pJ ps x:=by
    refine bE λk=> ?_;cases hk:vals[k]? with
    |none=>have:=List.getElem?_eq_none_iff.1 hk;rw[aE] at hl;rw[cz (by omega)]
    |some u=>
     have hlt:=(ai.1 hk).1;have hlt':k< (pJ ps x).length:=by rw[aE] at hl;omega
     have g1:=an hlt';have g2:=hv k (.sc (pJ ps x)[k]) u (by rw[aw,g1];rfl) hk;cases g2 with
     |sc _=>exact g1.symm
   subst e;refine⟨enter _ w,(h x y h1 w).mono λe w' he=> ?_⟩;obtain⟨rfl,hb⟩:=he;exact⟨_,bt0,rfl,wY hI hb,bH _,λp hp=>absurd hp (Nat.not_lt_zero _),AP _ _ a1 (pq rs hr y) w' bt0⟩⟩
end
section
open Go Go.ChangeShapes Go.WideShapes Go.RowKit
def ly[dL](x:Hd):Option (List Int):=if x.n=0 then some [] else match x.a with
 |some ad=>(List.range x.n).mapM λk=>match dL.w.cell? (ad.add k) with |some (.int .u8 m)=>some m| _=>none
 |none=>none
theorem tN{α β:Type}{f:α->Option β}: ∀ {l:List α} {m:List β},l.length=m.length->(∀ (k:Nat) a b,l[k]? =some a->m[k]? =some b->f a=some b)->l.mapM f=some m
 | [],[],_,_=>rfl
 |a::l,b::m,hl,h=>by rw[cG,h 0 a b rfl rfl,tN (by simpa using hl) λk x y hx hy=>h (k+1) x y (by simpa using hx) (by simpa using hy)];rfl
theorem B4[dL]{x:Hd}{l:List Int}(h:ly x=some l):l.length=x.n/\ ∀ (k:Nat) c,l[k]? =some c-> ∃ad,x.a=some ad/\dL.w.cell? (ad.add k)=some (.int .u8 c):=by
 unfold ly at h;split at h
 ·rename_i h0;cases h;exact⟨h0.symm,λk c hk=>by simp at hk⟩
 ·split at h
  ·rename_i ad ha
   have fm: ∀ (n:Nat) (l0:List Nat) (m:List Int),l0.mapM (λk=>match dL.w.cell? (ad.add k) with |some (.int .u8 m)=>some m| _=>none)=some m->m.length=l0.length/\ ∀ (k:Nat) c j,m[k]? =some c->l0[k]? =some j->dL.w.cell? (ad.add j)=some (.int .u8 c):=by
    intro n l0
    induction l0 with
    |nil=>intro m hm;cases hm;exact⟨rfl,λk c j hk=>by simp at hk⟩
    |cons a l0 ih=>
     intro m hm;rw[cG] at hm;simp only[da,ah] at hm;obtain⟨b,h1,r,h2,h3⟩:=hm;cases h3;obtain⟨i1,i2⟩:=ih r h2;refine⟨by simp[i1],λk c j hk hj=> ?_⟩;cases k with
     |zero=>
      simp only[aL,af] at hk hj;subst hk hj;split at h1
      ·rename_i hc;cases h1;exact hc
      ·cases h1
     |succ k=>exact i2 k c j (by simpa using hk) (by simpa using hj)
   obtain⟨k1,k2⟩:=fm 0 _ _ h;refine⟨by simpa using k1,λk c hk=>⟨ad,ha,k2 k c k hk ?_⟩⟩;have:=(ai.1 hk).1;rw[k1] at this;simp at this;simp[this]
  ·cases h
def zY(h:Int):Int:=RowKit.wrap64 (RowKit.wrap64 (h*6364136223846793005)+1442695040888963407)
def CX(h:Int):Int:=bits .and .i64 (bits .xor .i64 (h / 8589934592) (h / 35184372088832)) 255
def DF[dL](c:qO):Option (qO×Int):=if c.i< (c.b.n:Int) then (if 0<=c.i then ((ly c.b).bind λl=>l[c.i.toNat]?).map λm=>(⟨c.b,RowKit.wrap64 (c.i+1),zY c.h⟩,bits .and .i64 (RowKit.wrap64 (CX (zY c.h)+RowKit.wrap64 m)) 255) else none) else some (⟨c.b,c.i,zY c.h⟩,CX (zY c.h))
def D8(h m:Int):Int:=bits .and .i64 (RowKit.wrap64 (RowKit.wrap64 (RowKit.wrap64 (h*131)+RowKit.wrap64 m)+7)) 1073741823
def D5[dL](x:Hd):Option qO:=(ly x).map λl=>⟨x,0,(l.take 4000).foldl D8 (RowKit.wrap64 (10101+x.n))⟩
section
variable {H:Type} {enc:TypeId×Value->H} {P:Program} {W:World} {Θ:gq} {base:Nat}
theorem B9[dL](hW:dL.w=W)(hΘ:eB P Θ){f:FuncId}{G:fI.D [.ty .h] ->Option (fG.D [.b])}(he:jk P f (sP [.ty .h] [.b] G))(hG: ∀ (x:Hd) l,ly x=some l->l.length<=maxLen->(∀c∈l,0<=c/\c<=255)->G (x,())=some (true,()))
  {ts:List TypeId} {vs:List Value} {ds:List (DataW H)} {p:List MemPlace} (hp:pg P Θ ts [.ls (.i .u8)] =true) (hv: ∀ (j:Nat) t v,ts[j]? =some t->vs[j]? =some v->Value.okWide P W .any base t v) (h:DataW.TrodAll enc P W 0 (λ_=>true) true ts vs ds p) (hk:Nat.blt f 1048576=true:=by rfl):
  Calls P f vs.toArray W λe W'=>e= .returned (.bool true)/\Below W.heap.size W W':=by
 let bt:Bt:=⟨λ_=>(0,0),λ_=>0,λ_=>0,0,0,λb=>b<W.heap.size⟩
 obtain⟨⟨l,u⟩,h1,h2,h3,_⟩:=qV (bt:=bt) hΘ rfl hp hv h
 match vs,h1,h2 with
 | [v0],_,h2=>
   have hvr:VR W bt (.ro 1 (l.map λn=> [T.sc (.int .u8 n)])) v0:=h2 0 _ v0 rfl rfl
   have hbd:l.length<=maxLen/\ ∀c∈l,0<=c/\c<=255:=by
    have:=h3 (.sl 1 (l.map λn=> [T.sc (.int .u8 n)])) (aJ.2 rfl);cases this with
    |sl hl hr=>
     refine⟨by simpa using hl,λc hc=> ?_⟩;have:=hr [T.sc (.int .u8 c)] (aI.2 ⟨c,hc,rfl⟩) _ aG;cases this with
     |int h=>exact h
   obtain⟨x,hx,hb⟩: ∃x:Hd,v0= .slice x.a x.n x.c/\ly x=some l:=by
    cases hvr with
    |ro hro=>
     generalize hrows:l.map (λn=> [T.sc (.int .u8 n)])=rows at hro;cases hro with
     |em _ a cap=>have :l= [] :=List.map_eq_nil_iff.1 hrows;subst this;exact⟨⟨a,0,cap⟩,rfl,rfl⟩
     |sl cs hc hs hA' hl hr' ht=>
      rename_i ad cap hu;have hlen:rows.length=l.length:=by rw[<-hrows,aE]
      refine⟨⟨some ad,rows.length,cap⟩,rfl,?_⟩;unfold ly;simp only;split
      ·rename_i h0;rw[hlen] at h0;rw[bh h0]
      ·refine tN (by simpa using hlen) λk a c ha hc=> ?_
       have hak:a=k:=by have:=ai.1 ha;obtain⟨q1,q2⟩:=this;simp at q2;exact q2.symm
       subst hak;have hrow:rows[a]? =some [T.sc (.int .u8 c)] :=by rw[<-hrows,aw,hc];rfl
       have g1:=hr' a _ 0 _ hrow rfl;have g2:=ht a _ 0 _ hrow rfl;rw[Nat.mul_one,bL] at g1;rw[hW];generalize cs a 0=u at g1 g2;cases g2 with
       |sc _=>rw[g1]
   subst hx;have hg:=hG x l hb hbd.1 hbd.2
   obtain⟨res,out,k1,k2,k3⟩:=he (eV [.ty .h] (x,())) (V×List dS) (λv g=>some (v,g)) (.v (.cl (.c (.sc (.bool true)))),[]) (by show (G (x,())).bind _=_;rw[hg];rfl)
   cases k3
   have:=k1.fn (ax hk) W (λ_=>False) bt [.slice x.a x.n x.c] (rq ⟨by rw[hW];exact az _,λb _=>⟨by rw[hW],λh=>h⟩⟩ bt λb hb=>hb) rfl (λk v u hk hu=>by
    cases k with
    |zero=>have hk:some (AV.sc (.slice x.a x.n x.c))=some v:=hk;cases hk;cases hu;exact .sc rfl
    |succ k=>cases hu)
   refine this.2.mono λe W' hx=> ?_;obtain⟨v,btn,rfl,hI,_,_,hvr⟩:=hx;refine⟨?_,iu hI⟩;cases hvr with
   |sc=>rfl
end
end
section
open Go Go.RowKit
theorem Bv(v:Value): ∀ (l:List (Nat×Nat)) (s:Nat) (rs:List (List T)),(T.sc v).go l≠ .sl s rs:=λl s rs h=>by
 cases l with
 |nil=>cases h
 |cons x l=>
  have h':T.dd.go l= .sl s rs:=h
  have : ∀l:List (Nat×Nat),T.dd.go l= .dd:=λl=>by
   induction l with
   |nil=>rfl
   |cons x l ih=>exact ih
  rw[this] at h';cases h'
theorem gW{n:Nat}{rows:List (List T)}(hf: ∀r∈rows,∀x∈r,∃v,x=T.sc v){p:dW}{s:Nat}{rs:List (List T)}(h: (gn [.sl n rows]).look p= .sl s rs):p=⟨0,[]⟩/\s=n/\rs=rows:=by
 obtain⟨r,l⟩:=p;cases r with
 |succ r=>exact absurd h (by simp[St.look,gn])
 |zero=>
  cases l with
  |nil=>have h:T.sl n rows= .sl s rs:=h;cases h;exact⟨rfl,rfl,rfl⟩
  |cons x l=>
   obtain⟨i,j⟩:=x;have h: ((rows.getD i []).getD j .dd).go l= .sl s rs:=h;generalize hr:rows.getD i [] =r0 at h;by_cases hj:j<r0.length
   ·have hi:i<rows.length:=by
     by_cases hi:i<rows.length
     ·exact hi
     ·rw[aB,cz (by omega)] at hr;subst hr;cases hj
    obtain⟨v,hv⟩:=hf r0 (by rw[<-hr,aB,an hi];exact dq hi) r0[j] (dq hj);rw[aB,an hj,aZ,hv] at h;exact absurd h (Bv v l s rs)
   ·rw[aB,cz (by omega)] at h;exact absurd (show (T.sc undef).go ((0,0)::l)= .sl s rs from h) (Bv _ _ _ _)
theorem gf(c:qO): ∀r∈ [gE c],∀x∈r,∃v,x=T.sc v:=λr hr x hx=>by rw[aJ.1 hr] at hx;simp only[gE,aX,List.not_mem_nil,or_false] at hx;rcases hx with rfl|rfl|rfl<;>exact⟨_,rfl⟩
theorem mM[dL]{w:World}{W:Nat->Prop}(h:uF w W){a:Addr}{v:Value}(hc:dL.w.cell? a=some v):w.cell? a=some v/\ ¬W a.block:=by
 have hb:a.block<dL.w.heap.size:=by
  unfold World.cell? at hc;cases hh:dL.w.heap[a.block]? with
  |none=>rw[hh] at hc;simp at hc
  |some o=>exact (aD.1 hh).1
 exact⟨by rw[iE (h.2 _ hb).1,hc],(h.2 _ hb).2⟩
def jV(cs:Array Value)(O:Nat)(c:qO):Prop:=cs[O]? =some (.slice c.b.a c.b.n c.b.c)/\cs[O+1]? =some (.int .i64 c.i)/\cs[O+2]? =some (.int .i64 c.h)
theorem jV.blk{w:World}{bt:Bt}{cs:Array Value}{e:TypeId}{c:qO}(h:jV cs (bt.β ⟨0,[]⟩).2 c)(hh:w.heap[(bt.β ⟨0,[]⟩).1]? =some (.cells cs e (0,0)))(hk:DT (bt.β ⟨0,[]⟩).2 (bt.κ ⟨0,[]⟩) 3 cs.size)(hone: ∀ (k:Nat) (u:Value),cs[k]? =some u->u.oneCell'=true):zD w bt ⟨0,[]⟩ 3 [gE c] :=
 ⟨cs,e,hh,hk,hone,λi r hr=>by
  cases i with
  |succ i=>simp at hr
  |zero=>
   cases hr;refine⟨rfl,λj x hx=> ?_⟩
   match j,hx with
   | 0,hx=>cases hx;exact⟨_,by simpa using h.1,.sc rfl⟩
   | 1,hx=>cases hx;exact⟨_,by simpa using h.2.1,.sc rfl⟩
   | 2,hx=>cases hx;exact⟨_,by simpa using h.2.2,.sc rfl⟩
   |j+3,hx=>simp[gE] at hx⟩
theorem jV.of_blk{w:World}{bt:Bt}{c:qO}(h:zD w bt ⟨0,[]⟩ 3 [gE c]): ∃cs e,w.heap[(bt.β ⟨0,[]⟩).1]? =some (.cells cs e (0,0))/\DT (bt.β ⟨0,[]⟩).2 (bt.κ ⟨0,[]⟩) 3 cs.size/\(∀ (k:Nat) (u:Value),cs[k]? =some u->u.oneCell'=true)/\jV cs (bt.β ⟨0,[]⟩).2 c:=by
 obtain⟨cs,e,h1,h2,h3,h4⟩:=h;obtain⟨_,h5⟩:=h4 0 (gE c) rfl
 have fm: ∀ (j:Nat) (v:Value),(gE c)[j]? =some (.sc v)->cs[(bt.β ⟨0,[]⟩).2+j]? =some v:=λj v hj=>by obtain⟨u,q1,q2⟩:=h5 j _ hj;rw[bM,aM] at q1;cases q2;exact q1
 exact⟨cs,e,h1,h2,h3,fm 0 _ rfl,fm 1 _ rfl,fm 2 _ rfl⟩
theorem AA[dL]{w0 w w':World}{W:Nat->Prop}{bt:Bt}{c c':qO}(hI:eG w0 W bt (gn [.sl 3 [gE c]]) w)(hos:w'.os=w.os)(ht:w'.tape=w.tape)(ho:w'.output=w.output)(hs:w'.heap.size=w.heap.size)(hk: ∀b,b≠(bt.β ⟨0,[]⟩).1->w'.heap[b]? =w.heap[b]?)(hb:zD w' bt ⟨0,[]⟩ 3 [gE c']):eG w0 W bt (gn [.sl 3 [gE c']]) w':=by
 obtain⟨h1,h2⟩:=hI.tr ⟨0,[]⟩ 3 [gE c] rfl;have hκ:0<bt.κ ⟨0,[]⟩:=h1
 exact { good:=hI.good,os:=hos.trans hI.os,tape:=ht.trans hI.tape,output:=ho.trans hI.output,size:=by rw[hs];exact hI.size
         keep:=λb hb hw=>(hk b λe=>by rcases (h2 hκ).1 with h|h;·omega
                                      ·exact hw (e ▸ h)).trans (hI.keep b hb hw)
         nb:=hI.nb,ng:=hI.ng
         bx:=λn cells h=>by cases h
         gh:=λr t h=>(ai.1 h).1
         tr:=λp s rs h=>by obtain⟨rfl,rfl,rfl⟩:=gW (gf c') h;exact⟨h1,λhk=>⟨(h2 hk).1,hb⟩⟩
         inj:=λp q s rs s' rs' hp hq _ _ _=>by rw[(gW (gf c') hp).1,(gW (gf c') hq).1]
         bbinj:=λn m cs cs' h=>by cases h
         bbtr:=λn cs p s rs h=>by cases h
         alt:=λb hb=>by rw[hs];exact hI.alt b hb
         atr:=λp s rs h hk=>by obtain⟨rfl,rfl,rfl⟩:=gW (gf c') h;exact hI.atr ⟨0,[]⟩ 3 [gE c] rfl hk
         abb:=λn cs h=>by cases h }
theorem DG{w w1:World}{b O:Nat}{cs:Array Value}{e:TypeId}{c:qO}{i h:Int}(hb:w.heap[b]? =some (.cells cs e (0,0)))(hc:jV cs O c)
  (h1:w1.heap=((w.setCell ⟨b,O+2,none⟩ (.int .i64 h)).setCell ⟨b,O+1,none⟩ (.int .i64 i)).heap\/(i=c.i/\w1.heap=(w.setCell ⟨b,O+2,none⟩ (.int .i64 h)).heap)):
  w1.heap.size=w.heap.size/\(∀k,k≠b->w1.heap[k]? =w.heap[k]?)/\ ∃cs',w1.heap[b]? =some (.cells cs' e (0,0))/\cs'.size=cs.size/\jV cs' O ⟨c.b,i,h⟩/\ ∀k,(k<O\/O+3<=k)->cs'[k]? =cs[k]? :=by
 have hlt:=(aD.1 hc.2.2).1;have far: ∀ (k:Nat),(k<O\/O+3<=k)->O+1≠k/\O+2≠k:=λk hk=>by omega
 rcases h1 with h1| ⟨rfl,h1⟩
 ·rw[h1];refine⟨by simp[World.setCell],λk hk=>by simp[World.setCell,cQ,Ne.symm hk],(cs.setIfInBounds (O+2) (.int .i64 h)).setIfInBounds (O+1) (.int .i64 i),by simp[World.setCell,cQ,hb],by simp,⟨?_,?_,?_⟩,λk hk=> ?_⟩
  ·simp[bk,hc.1]
  ·simp[bk];omega
  ·simp[bk];omega
  ·simp[bk,(far k hk).1,(far k hk).2]
 ·rw[h1];refine⟨by simp[World.setCell],λk hk=>by simp[World.setCell,cQ,Ne.symm hk],cs.setIfInBounds (O+2) (.int .i64 h),by simp[World.setCell,cQ,hb],by simp,⟨?_,?_,?_⟩,λk hk=> ?_⟩
  ·simp[bk,hc.1]
  ·simp[bk,hc.2.1]
  ·simp[bk];omega
  ·simp[bk,(far k hk).2]
def D4(G:qO->Option (qO×Int))(l:List qO):Option (List qO×Int×Unit):=match l with
 | [c] =>(G c).map λy=>([y.1],y.2,())
 | _=>none
def Em[dL]{P:Program}(f:FuncId)(hk:Nat.blt f 1048576=true)(enter: ∀ (args:Array Value) (w:World),(callFunc f args).run P w= .ok (.enter f args) w)(G:qO->Option (qO×Int))
    (h: ∀c y,G c=some y-> ∀ (w:World) (b O:Nat) (cs:Array Value) (e:TypeId),(∀a v,dL.w.cell? a=some v->w.cell? a=some v/\a.block≠b)->w.heap[b]? =some (.cells cs e (0,0))->jV cs O c->
      Calls P f #[.pointer (some ⟨b,O,none⟩)] w λr w'=>r= .returned (.int .i64 y.2)/\w'.os=w.os/\w'.tape=w.tape/\w'.output=w.output/\w'.heap.size=w.heap.size/\(∀k,k≠b->w'.heap[k]? =w.heap[k]?)/\ ∃cs',w'.heap[b]? =some (.cells cs' e (0,0))/\cs'.size=cs.size/\jV cs' O y.1/\ ∀k,(k<O\/O+3<=k)->cs'[k]? =cs[k]?):oh P:=
 ⟨pi f,sO (.st .cur) [] [.i .i64] (λl _=>D4 G l),by
  intro args ρ κ r hr;unfold sO at hr;split at hr
  ·rename_i t l tl;split at hr
   ·rename_i l' hl;obtain⟨e,hl⟩:=eI hl;subst e;have hl:l=l':=hl;subst hl;obtain⟨x,hn,hr2⟩:=fD hr;obtain⟨y,h1,hr3⟩:=ah.1 hr2;refine⟨_,_,.of_pt ⟨_,l,_,rfl,eT.norm (rY.cons (.inl rfl) hn) ?_⟩ (ax hk),rK _ _ (fq [.i .i64] y.2),hr3⟩
    match l,h1 with
    | [],h1=>cases h1
    | _::_::_,h1=>cases h1
    | [c],h1=>
      obtain⟨z,h2,rfl⟩:=aj.1 h1;intro w W bt0 vals hI hlen hv
      match vals,hlen with
      | [v0],_=>
        have hv0:VR w bt0 (.ptrT ⟨0,[]⟩ 3 0 0) v0:=hv 0 _ v0 rfl rfl;cases hv0 with
        |ptrT _ _ _ hp hκ=>
         have hI:eG w W bt0 (gn [.sl 3 [gE c]]) w:=hI;obtain⟨_,g⟩:=hI.tr ⟨0,[]⟩ 3 [gE c] rfl;obtain⟨cs,e,q1,q2,q3,q4⟩:=jV.of_blk (g hκ).2;refine⟨enter _ _,(h c z h2 w _ _ cs e (λa v hc=>⟨(mM hI.good hc).1,λe=> ?_⟩) q1 q4).mono ?_⟩
         ·have hlt:=(aD.1 q1).1;rcases (g hκ).1 with h|h
          ·omega
          ·exact (mM hI.good hc).2 (e ▸ h)
         rintro r w' ⟨rfl,a1,a2,a3,a4,a5,cs',a6,a7,a8,a9⟩
         refine⟨_,bt0,rfl,AA hI a1 a2 a3 a4 a5 (a8.blk a6 (by rw[a7];exact q2) λk u hu=> ?_),az _,λ_ _=>⟨rfl,rfl⟩,.sc rfl⟩;generalize (bt0.β ⟨0,[]⟩).2=O at a8 a9;by_cases k0:k<O\/O+3<=k
         ·exact q3 k u (by rw[<-a9 k k0];exact hu)
         ·obtain rfl|rfl|rfl:k=O\/k=O+1\/k=O+2:=by omega
          ·rw[a8.1] at hu;cases hu;rfl
          ·rw[a8.2.1] at hu;cases hu;rfl
          ·rw[a8.2.2] at hu;cases hu;rfl
   ·cases hr
  ·cases hr⟩
def Ek[dL]{P:Program}(f:FuncId)(hk:Nat.blt f 1048576=true)(enter: ∀ (args:Array Value) (w:World),(callFunc f args).run P w= .ok (.enter f args) w)(G:Hd->Option qO)
    (h: ∀x c,G x=some c-> ∀ (w:World),(∀a v,dL.w.cell? a=some v->w.cell? a=some v)->
      Calls P f #[.slice x.a x.n x.c] w λr w'=> ∃b cs e,r= .returned (.pointer (some ⟨b,0,none⟩))/\Below w.heap.size w w'/\w.heap.size<=b/\w'.heap[b]? =some (.cells cs e (0,0))/\cs.size=3/\jV cs 0 c):oh P:=
 ⟨f,xU (.st .cur) [.ty .h] [] (λx=>(G x.1).map λc=>([c],())),by
   intro args ρ κ r hr;unfold xU at hr;obtain⟨x,hn,hr2⟩:=fD hr;obtain⟨y,h1,hr3⟩:=ah.1 hr2;obtain⟨c,h2,rfl⟩:=aj.1 h1;refine⟨.v (.cl (.ptrT ⟨0,[]⟩ 3 0 0)),[⟨.st .cur,[c],none⟩],.of_fn (ic.norm hn ?_) (ax hk),Nat.succ_pos 0,hr3⟩;intro w W bt0 vals hI hlen hv
   match vals,hlen with
   | [v0],_=>
     have hv0:VR w bt0 (.sc (.slice x.1.a x.1.n x.1.c)) v0:=hv 0 _ v0 rfl rfl;cases hv0 with
     |sc _=>
      refine⟨enter _ _,(h x.1 c h2 w λa v hc=>(mM hI.good hc).1).mono ?_⟩
      rintro r w' ⟨b,cs,e,rfl,a1,a2,a3,a4,a5⟩
      let btn:Bt:={ bt0 with β:=λ_=>(b,0),κ:=λp=>if p.l= [] then 1 else 0,ng:=1 }
      refine⟨_,btn,rfl,?_,bH _,λp hp=>absurd hp (Nat.not_lt_zero _),.ptrT (bt:=btn) 3 0 0 Nat.one_pos Nat.one_pos⟩
      exact { good:=hI.good,os:=a1.os,tape:=a1.tape,output:=a1.output,size:=a1.size,keep:=λb hb _=>a1.block b hb,nb:=hI.nb,ng:=rfl
              bx:=λn cells h=>by cases h
              gh:=λr t h=>(ai.1 h).1
              tr:=λp s rs h=>by
               obtain⟨rfl,rfl,rfl⟩:=gW (gf c) h;refine⟨az _,λ_=>⟨.inl a2,jV.blk (bt:=btn) a5 a3 ⟨by rw[a4];exact az _,.inl rfl⟩ λk u hu=> ?_⟩⟩
               match k,hu with
               | 0,hu=>rw[a5.1] at hu;cases hu;rfl
               | 1,hu=>rw[a5.2.1] at hu;cases hu;rfl
               | 2,hu=>rw[a5.2.2] at hu;cases hu;rfl
               |k+3,hu=>rw[Array.getElem?_eq_none (by omega)] at hu;cases hu
              inj:=λp q s rs s' rs' hp hq _ _ _=>by rw[(gW (gf c) hp).1,(gW (gf c) hq).1]
              bbinj:=λn m cs cs' h=>by cases h
              bbtr:=λn cs p s rs h=>by cases h
              alt:=λb hb=>aN (hI.alt b hb) a1.size
              atr:=λp s rs h _ hA=>by have :b<w.heap.size:=hI.alt b hA;omega
              abb:=λn cs h=>by cases h }⟩
end
end Go.Proofs.YtkghndikalnipaaGreat.En
