import Derived.Test.YtkghndikalnipabGreatZX9
import Derived.Test.YtkghndikalnipabGreatZX6
import Derived.Shelf.RegionOpenPlain
import Derived.WalkKit
import Derived.Lib.Walk
import Derived.Lib.SliceRun
import Derived.Laws.Externs
import Derived.Laws.IdiomCopy
import Derived.Lib.Strings
import Derived.Lib.Slices
import Derived.Lib.Bytealg
set_option linter.unusedSimpArgs false
set_option linter.unusedVariables false
namespace Go.Proofs.YtkghndikalnipabGreat.En
section
open Go
structure rH [dp] (P:Program) where
 n:Nat
 e:uY
 ok:mu P n e
structure sU [dp] (P:Program) where
 c:Code
 e:sT
 ok:va P c e
structure LX where
 L:jM
 x:List (X×jM)
 g:List rM
 k:List Nat
 kx:List Nat
abbrev LX.S(m:LX):Type:=m.L.D
abbrev LX.R(m:LX):Type:=Option (m.L.D⊕kB.D m.x)
theorem tm: (∀ (α β:Type) (b:Bool) (x y:Option α) (f:α->Option β),(br b x y).bind f=br b (x.bind f) (y.bind f))/\(∀ (α β:Type) (c:Prop) (_:Decidable c) (x y:Option α) (f:α->Option β),(iteP c x y).bind f=iteP c (x.bind f) (y.bind f))/\(∀ (α β:Type) (f:α->Option β),(none:Option α).bind f=none)/\(∀ (α β:Type) (a:α) (f:α->Option β),(some a).bind f=f a)/\(∀ (α β γ:Type) (x:Option α) (f:α->Option β) (g:β->Option γ),(x.bind f).bind g=x.bind λa=>(f a).bind g)/\(∀ (α β γ δ:Type) (x:α⊕β) (f:α->Option γ) (g:β->Option γ) (h:γ->Option δ),(Sum.elim f g x).bind h=Sum.elim (λa=>(f a).bind h) (λa=>(g a).bind h) x)/\(∀ (α β γ:Type) (f:α->γ) (g:β->γ) (a:α),Sum.elim f g (.inl a)=f a)/\ ∀ (α β γ:Type) (f:α->γ) (g:β->γ) (b:β),Sum.elim f g (.inr b)=g b:=
 ⟨λ_ _ b _ _ _=>by cases b<;>rfl,λ_ _ c _ _ _ _=>by unfold iteP;split<;>rfl,λ_ _ _=>rfl,λ_ _ _ _=>rfl,λ_ _ _ x _ _=>by cases x<;>rfl,λ_ _ _ _ x _ _ _=>by cases x<;>rfl,λ_ _ _ _ _ _=>rfl,λ_ _ _ _ _ _=>rfl⟩
def vS:Code->List Nat->Code
 |c,[] =>c
 |c,i::l=>vS (zE c i) l
section
variable {P:Program} {Θ:ft}
def rB[dp]:List (rH P)->List (Nat×uY)
 | [] => []
 |k::l=>(k.n,k.e)::rB l
theorem jJ[dp]: ∀l:List (rH P),eV P (nZ (rB l))
 | [] =>yw P
 |k::l=>wH k.ok (jJ l)
def nF[dp]:List (sU P)->List (Nat×sT)
 | [] => []
 |q::l=>(eU q.c,q.e)::nF l
def fD[dp]:List (sU P)->List Code
 | [] => []
 |q::l=>q.c::fD l
def m0:List Code->Bool
 | [] =>true
 |c::l=>l.all (λd=> !Nat.beq (eU c) (eU d))&&m0 l
theorem t6[dp]: ∀l:List (sU P),m0 (fD l)=true->eg P (mT (nF l)) (fD l)
 | [],_=>λc hc=>by cases hc
 |q::l,h=>by
  simp only[fD,m0,aj,ar] at h;intro c hc S ρ κ r hS hr;have hr: (bif Nat.beq (eU q.c) (eU c) then q.e S ρ κ else mT (nF l) (eU c) S ρ κ)=some r:=hr;rcases aU.1 hc with rfl|hc
  ·rw[cy] at hr;exact q.ok S ρ κ r hS hr
  ·have hb:Nat.beq (eU q.c) (eU c)=false:=by simpa using h.1 c hc
   rw[hb] at hr;exact t6 l h.2 c hc S ρ κ r hS hr
theorem qj[dp]{Λ:List (sU P)}{cs:List Code}(h:cs=fD Λ)(hn:m0 (fD Λ)=true):eg P (mT (nF Λ)) cs:=by rw[h];exact t6 Λ hn
theorem kz{α β:Type}{a a':α}{b b':β}(h: (a,b)=(a',b')):a=a'/\b=b':=by cases h;exact⟨rfl,rfl⟩
theorem rN{a b:Bool}(h: (a&&b)=true):a=true/\b=true:=by simpa using h
variable (hΘ:dQ P Θ) (hm:P.follows .mixedOrders=true)
noncomputable def B7[dp](fn:Func)(p:List Nat)(m:LX)(B:m.S->m.R)(Y:List (rH P))(Λ:List (sU P))(h: (dK (vS (fU fn) p),((eY P (vS (fU fn) p))&&(m.L.fit&&m.x.all An))&&m0 (fD Λ))=(fD Λ,true))
  (hB: ∀s,(B s).bind (Sum.elim (λs'=>some (X.nor,m.L.mk' s')) λe=>some (kB.e m.x e))=ld Θ (nZ (rB Y)) (mT (nF Λ)) (vS (fU fn) p) (m.L.mk' s) (rC m.k m.kx λx S=>some (x,S))):sU P:=
 ⟨vS (fU fn) p,vM m.g m.k m.L m.x (mh B),vN hΘ (jJ Y) hm (rN (rN (kz h).2).1).1 (qj (kz h).1 (rN (kz h).2).2) m.g m.k m.kx m.L m.x (rN (rN (kz h).2).1).2 B (λs=>(hB s).symm) (mh B) (zD B) (uG B)⟩
theorem uZ[dp]{f:FuncId}{fn:Func}{Λ:List (sU P)}(h: (pR P f,dK (fU fn),Nat.blt f 1048576&&m0 (fD Λ))=(some fn,fD Λ,true)):pR P f=some fn/\(∀c,fn.body=some c->eg P (mT (nF Λ)) (dK c))/\Nat.blt f 1048576=true:=
 have h2:=kz (kz h).2
 ⟨(kz h).1,Aq h2.1 (qj rfl (rN h2.2).2),(rN h2.2).1⟩
noncomputable def BU[dp](f:FuncId)(fn:Func)(ps:List js)(rs:List Ty)(F:fQ.D ps->Option (fG.D rs))(Y:List (rH P))(Λ:List (sU P))(h: (pR P f,dK (fU fn),Nat.blt f 1048576&&m0 (fD Λ))=(some fn,fD Λ,true))
  (hF: ∀x,(F x).bind (λy=>ret (fo rs y) λv g=>some (v,g))=Bb Θ (nZ (rB Y)) (mT (nF Λ)) fn (fk ps x) λv g=>some (v,g)):rH P:=
 ⟨f,uq ps rs F,xw hΘ (jJ Y) hm (uZ h).1 (uZ h).2.1 (uZ h).2.2 F (λx=>(hF x).symm) λ_ _ h=>h⟩
noncomputable def BZ[dp](f:FuncId)(fn:Func)(el:Ty)(ps:List js)(rs:List Ty)(F:List el.D->fQ.D ps->Option (fG.D rs))(Y:List (rH P))(Λ:List (sU P))(h: (pR P f,dK (fU fn),Nat.blt f 1048576&&m0 (fD Λ))=(some fn,fD Λ,true))
  (hF: ∀l x,(F l x).bind (λy=>ret (fo rs y) λv g=>some (v,g))=vA Θ (nZ (rB Y)) (mT (nF Λ)) fn 0 el l (fk ps x) λv g=>some (v,g)):rH P:=
 ⟨n9 f,zl el ps rs F,xt (uZ h).2.2 hΘ (jJ Y) hm (uZ h).1 (uZ h).2.1 F (λl x=>(hF l x).symm) λ_ _ _ h=>h⟩
noncomputable def BX[dp](f:FuncId)(fn:Func)(el:Ty)(ps:List js)(rs:List Ty)(F:List el.D->fQ.D ps->Option (List el.D×fG.D rs))(Y:List (rH P))(Λ:List (sU P))(h: (pR P f,dK (fU fn),Nat.blt f 1048576&&m0 (fD Λ))=(some fn,fD Λ,true))
  (hF: ∀l x,(F l x).bind (λy=>wm el rs y λv g=>some (v,g))=vA Θ (nZ (rB Y)) (mT (nF Λ)) fn 1 el l (fk ps x) λv g=>some (v,g)):rH P:=
 ⟨l9 f,qo el ps rs F,xq hΘ (jJ Y) hm (uZ h).1 (uZ h).2.1 (uZ h).2.2 F (λl x=>(hF l x).symm) λ_ _ _ h=>h⟩
noncomputable def B0[dp](f:FuncId)(fn:Func)(el:Ty)(ps:List js)(rs:List Ty)(F:List el.D->fQ.D ps->Option (List el.D×fG.D rs))(Y:List (rH P))(Λ:List (sU P))(h: (pR P f,dK (fU fn),Nat.blt f 1048576&&m0 (fD Λ))=(some fn,fD Λ,true))
  (hF: ∀l x,(F l x).bind (λy=>wm el rs y λv g=>some (v,g))=zq Θ (nZ (rB Y)) (mT (nF Λ)) fn el l (fk ps x) λv g=>some (v,g)):rH P:=
 ⟨np f,qo el ps rs F,xx hΘ (jJ Y) hm (uZ h).1 (uZ h).2.1 (uZ h).2.2 F (λl x=>(hF l x).symm) λ_ _ _ h=>h⟩
abbrev Bs(t:Ty)(y:List t.D×Unit):Option (V×List dw):=ret (fo [.ls t] y) λv g=>some (v,g)
abbrev BP(t:Ty)(n:Nat)(l:List t.D):Option (V×List dw):=iteP ((([]:List t.D)++l).length*n<=2 ^ 40) (Bs t (([]:List t.D)++l,())) none
noncomputable def BV[dp](f:FuncId)(fn:Func)(t:Ty)(n:Nat)(F:List t.D->Option (List t.D×Unit))(h: (pR P f,dK (fU fn),Nat.blt f 1048576&&m0 (fD ([]:List (sU P))))=(some fn,fD ([]:List (sU P)),true))
  (h1: ∀l,F l=iteP (l.length*n<=2 ^ 40) (some (l,())) none)
  (h2: ∀x:fQ.D [.ty (.ls t)],Bb Θ (nZ (rB ([]:List (rH P)))) (mT (nF ([]:List (sU P)))) fn (fk [.ty (.ls t)] x) (λv g=>some (v,g))=zI x.1 (wY (Bs t ([],())) (BP t n x.1) none) (BP t n x.1)):rH P:=
 BU hΘ hm f fn [.ty (.ls t)] [.ls t] (λx=>F x.1) [] [] h λx=>by rw[h2,h1];exact (xk x.1 n (Bs t)).symm
end
end
section
open Go Go.RowKit
theorem Ak{P:Program}{f:FuncId}{fn:Func}{c:Code}(hf:P.funcs[f]? =some fn)(hn: (fn.name== "runtime.NumGoroutine")=false)(hc:fn.body=some c)(args:Array Value)(w:World): (callFunc f args).run P w= .ok (.enter f args) w:=by
 have hname': ¬fn.name= "runtime.NumGoroutine" :=by simpa using hn
 simp[callFunc,hf,hname',hc]
end
section
open Go Go.RowKit
def Ty.scB:Ty->Bool| .i _=>true| .b=>true| .s=>true| .h=>true| _=>false
def js.scB:js->Bool| .ty t=>t.scB| _=>false
def Ty.val: (t:Ty)->t.D->Value| .i k,n=> .int k n| .b,y=> .bool y| .s,y=> .string y| .h,y=> .slice y.a y.n y.c| _,_=>undef
def js.val: (p:js)->p.D->Value| .ty t,x=>t.val x| _,_=>undef
def nL: (l:List js)->fQ.D l->List Value
 | [],_=> []
 |p::l,x=>p.val x.1::nL l x.2
def tX: (l:List Ty)->fG.D l->List Value
 | [],_=> []
 |t::l,x=>t.val x.1::tX l x.2
def yW:List Value->Value| [v] =>v|l=> .tuple l.toArray
theorem ua{t:Ty}(h:t.scB=true)(x:t.D): (sZ t x).av= .sc (t.val x)/\fS (t.val x)=true:=by
 cases t with
 |st n=>cases h
 |ls t=>cases h
 | _=>exact⟨rfl,rfl⟩
theorem yB{t:Ty}(h:t.scB=true)(x:t.D)(n:Nat): (uP t x n).av= .sc (t.val x)/\gr (t.flat x)= [] :=by
 cases t with
 |st n=>cases h
 |ls t=>cases h
 | _=>exact⟨rfl,rfl⟩
theorem rE: ∀ (l:List js),l.all js.scB=true-> ∀x:fQ.D l,(fk l x).map V1.av=(nL l x).map AV.sc
 | [],_,_=>rfl
 |p::l,h,x=>by
  simp only[bW,aj] at h;cases p with
  |ty t=>show (sZ t x.1).av:: (fk l x.2).map V1.av= .sc (t.val x.1):: (nL l x.2).map AV.sc;rw[(ua h.1 x.1).1,rE l h.2 x.2]
  | _=>cases h.1
theorem rj: ∀ (l:List Ty),l.all Ty.scB=true-> ∀ (x:fG.D l) (n:Nat),(jS n (fo l x)).map V1.av=(tX l x).map AV.sc/\iX (fo l x)= []
 | [],_,_,_=>⟨rfl,rfl⟩
 |t::l,h,x,n=>by
  simp only[bW,aj] at h;obtain⟨h1,h2⟩:=yB h.1 x.1 n;obtain⟨h3,h4⟩:=rj l h.2 x.2 (n+(gr (t.flat x.1)).length);constructor
  ·show (uP t x.1 n).av::_= .sc (t.val x.1)::_;rw[h1];exact congrArg _ h3
  ·show gr (t.flat x.1)++iX (fo l x.2)= [];rw[h2,h4];rfl
theorem nx: ∀ (l:List Ty),l.all Ty.scB=true-> ∀ (x:fG.D l),∀v∈tX l x,fS v=true
 | [],_,_,v,hv=>by cases hv
 |t::l,h,x,v,hv=>by
  simp only[bW,aj] at h;rcases aU.1 hv with rfl|hv
  ·exact (ua h.1 x.1).2
  ·exact nx l h.2 x.2 v hv
theorem uD[dp]{w w':World}{W:Nat->Prop}{bt:Bt}(hI:dP w W bt (fL []) w)(h:Below w.heap.size w w'):dP w W bt (fL []) w':=
 { good:=hI.good,os:=h.os,tape:=h.tape,output:=h.output,size:=h.size,keep:=λb hb _=>h.block b hb,nb:=hI.nb,ng:=hI.ng
   bx:=λn cells h=>by cases h
   gh:=λr t h=>by simp[fL] at h
   tr:=λp s rs h=>absurd h (fh p s rs)
   inj:=λp q s rs s' rs' h=>absurd h (fh p s rs)
   bbinj:=λn m cs cs' h=>by cases h
   bbtr:=λn cs p s rs h=>by cases h
   alt:=λb hb=>aI (hI.alt b hb) h.size
   atr:=λp s rs h=>absurd h (fh p s rs)
   abb:=λn cs h=>by cases h }
theorem yd(vs:List V1)(l:List Value)(h:vs.map V1.av=l.map AV.sc)(hs: ∀v∈l,fS v=true)(w:World)(bt:Bt):VR w bt (pA vs).av (yW l):=by
 have tup: ∀ (vs:List V1) (l:List Value),vs.map V1.av=l.map AV.sc->(∀v∈l,fS v=true)->VR w bt (.tup (vs.map V1.av)) (.tuple l.toArray):=λvs l h hs=>by rw[h];refine .tup (by simp) λk c u h1 h2=> ?_;rw[ap,h2] at h1;cases h1;exact .sc (hs u (aw h2))
 match vs,l,h,hs with
 | [],[],_,_=>exact tup [] [] rfl (λv hv=>by cases hv)
 | [a],[v],h,hs=>
   have h:a.av= .sc v:=by simpa using h
   show VR w bt a.av v;rw[h];exact .sc (hs v aF)
 |a::b::vs,u::v::l,h,hs=>exact tup _ _ h hs
 | [],_::_,h,_=>cases h
 | _::_,[],h,_=>cases h
 | [_],_::_::_,h,_=>simp at h
 | _::_::_,[_],h,_=>simp at h
def BW[dp]{P:Program}(f:FuncId)(hk:Nat.blt f 1048576=true)(enter: ∀ (args:Array Value) (w:World),(callFunc f args).run P w= .ok (.enter f args) w)(ps:List js)(rs:List Ty)(hp:ps.all js.scB=true)(hr:rs.all Ty.scB=true)(G:fQ.D ps->Option (fG.D rs))
    (h: ∀x y,G x=some y-> ∀w,Calls P f (nL ps x).toArray w λe w'=>e= .returned (yW (tX rs y))/\Below w.heap.size w w'):rH P:=
 ⟨f,uq ps rs G,by
   intro args ρ κ r hr';unfold uq at hr';obtain⟨x,hn,hr2⟩:=fF hr';obtain⟨y,h1,hr3⟩:=af.1 hr2;obtain⟨a1,a2⟩:=rj rs hr y 0;refine⟨_,_,.of_fn (gy.norm hn ?_) (aq hk),sC _,hr3⟩;rw[rE ps hp x,a2];intro w W bt0 vals hI hl hv
   have e:vals=nL ps x:=by
    refine bu λk=> ?_;cases hk:vals[k]? with
    |none=>have:=List.getElem?_eq_none_iff.1 hk;rw[aD] at hl;rw[ck (by omega)]
    |some u=>
     have hlt:=(ah.1 hk).1;have hlt':k< (nL ps x).length:=by rw[aD] at hl;omega
     have g1:=an hlt';have g2:=hv k (.sc (nL ps x)[k]) u (by rw[ap,g1];rfl) hk;cases g2 with
     |sc _=>exact g1.symm
   subst e;refine⟨enter _ w,(h x y h1 w).mono λe w' he=> ?_⟩;obtain⟨rfl,hb⟩:=he;exact⟨_,bt0,rfl,uD hI hb,bL _,λp hp=>absurd hp (Nat.not_lt_zero _),yd _ _ a1 (nx rs hr y) w' bt0⟩⟩
end
section
open Go Go.ChangeShapes Go.WideShapes Go.RowKit
def jZ[dp](x:Hd):Option (List Int):=if x.n=0 then some [] else match x.a with
 |some ad=>(List.range x.n).mapM λk=>match dp.w.cell? (ad.add k) with |some (.int .u8 m)=>some m| _=>none
 |none=>none
theorem qT{α β:Type}{f:α->Option β}: ∀ {l:List α} {m:List β},l.length=m.length->(∀ (k:Nat) a b,l[k]? =some a->m[k]? =some b->f a=some b)->l.mapM f=some m
 | [],[],_,_=>rfl
 |a::l,b::m,hl,h=>by rw[cu,h 0 a b rfl rfl,qT (by simpa using hl) λk x y hx hy=>h (k+1) x y (by simpa using hx) (by simpa using hy)];rfl
theorem zy[dp]{x:Hd}{l:List Int}(h:jZ x=some l):l.length=x.n/\ ∀ (k:Nat) c,l[k]? =some c-> ∃ad,x.a=some ad/\dp.w.cell? (ad.add k)=some (.int .u8 c):=by
 unfold jZ at h;split at h
 ·rename_i h0;cases h;exact⟨h0.symm,λk c hk=>by simp at hk⟩
 ·split at h
  ·rename_i ad ha
   have eU: ∀ (n:Nat) (l0:List Nat) (m:List Int),l0.mapM (λk=>match dp.w.cell? (ad.add k) with |some (.int .u8 m)=>some m| _=>none)=some m->m.length=l0.length/\ ∀ (k:Nat) c j,m[k]? =some c->l0[k]? =some j->dp.w.cell? (ad.add j)=some (.int .u8 c):=by
    intro n l0
    induction l0 with
    |nil=>intro m hm;cases hm;exact⟨rfl,λk c j hk=>by simp at hk⟩
    |cons a l0 ih=>
     intro m hm;rw[cu] at hm;simp only[cK,af] at hm;obtain⟨b,h1,r,h2,h3⟩:=hm;cases h3;obtain⟨i1,i2⟩:=ih r h2;refine⟨by simp[i1],λk c j hk hj=> ?_⟩;cases k with
     |zero=>
      simp only[aG,ae] at hk hj;subst hk hj;split at h1
      ·rename_i hc;cases h1;exact hc
      ·cases h1
     |succ k=>exact i2 k c j (by simpa using hk) (by simpa using hj)
   obtain⟨k1,k2⟩:=eU 0 _ _ h;refine⟨by simpa using k1,λk c hk=>⟨ad,ha,k2 k c k hk ?_⟩⟩;have:=(ah.1 hk).1;rw[k1] at this;simp at this;simp[this]
  ·cases h
def xm(h:Int):Int:=RowKit.wrap64 (RowKit.wrap64 (h*6364136223846793005)+1442695040888963407)
def Ai(h:Int):Int:=bits .and .i64 (bits .xor .i64 (h / 8589934592) (h / 35184372088832)) 255
def A8[dp](c:oS):Option (oS×Int):=if c.i< (c.b.n:Int) then (if 0<=c.i then ((jZ c.b).bind λl=>l[c.i.toNat]?).map λm=>(⟨c.b,RowKit.wrap64 (c.i+1),xm c.h⟩,bits .and .i64 (RowKit.wrap64 (Ai (xm c.h)+RowKit.wrap64 m)) 255) else none) else some (⟨c.b,c.i,xm c.h⟩,Ai (xm c.h))
def BA(h m:Int):Int:=bits .and .i64 (RowKit.wrap64 (RowKit.wrap64 (RowKit.wrap64 (h*131)+RowKit.wrap64 m)+7)) 1073741823
def Bv[dp](x:Hd):Option oS:=(jZ x).map λl=>⟨x,0,(l.take 4000).foldl BA (RowKit.wrap64 (10101+x.n))⟩
section
variable {H:Type} {enc:TypeId×Value->H} {P:Program} {W:World} {Θ:ft} {base:Nat}
theorem zB[dp](hW:dp.w=W)(hΘ:dQ P Θ){f:FuncId}{G:fQ.D [.ty .h] ->Option (fG.D [.b])}(he:mu P f (uq [.ty .h] [.b] G))(hG: ∀ (x:Hd) l,jZ x=some l->l.length<=maxLen->(∀c∈l,0<=c/\c<=255)->G (x,())=some (true,()))
  {ts:List TypeId} {vs:List Value} {ds:List (DataW H)} {p:List MemPlace} (hp:oE P Θ ts [.ls (.i .u8)] =true) (hv: ∀ (j:Nat) t v,ts[j]? =some t->vs[j]? =some v->Value.okWide P W .any base t v) (h:DataW.TrodAll enc P W 0 (λ_=>true) true ts vs ds p) (hk:Nat.blt f 1048576=true:=by rfl):
  Calls P f vs.toArray W λe W'=>e= .returned (.bool true)/\Below W.heap.size W W':=by
 let bt:Bt:=⟨λ_=>(0,0),λ_=>0,λ_=>0,0,0,λb=>b<W.heap.size⟩
 obtain⟨⟨l,u⟩,h1,h2,h3,_⟩:=s8 (bt:=bt) hΘ rfl hp hv h
 match vs,h1,h2 with
 | [v0],_,h2=>
   have hvr:VR W bt (.ro 1 (l.map λn=> [T.sc (.int .u8 n)])) v0:=h2 0 _ v0 rfl rfl
   have hbd:l.length<=maxLen/\ ∀c∈l,0<=c/\c<=255:=by
    have:=h3 (.sl 1 (l.map λn=> [T.sc (.int .u8 n)])) (aH.2 rfl);cases this with
    |sl hl hr=>
     refine⟨by simpa using hl,λc hc=> ?_⟩;have:=hr [T.sc (.int .u8 c)] (aB.2 ⟨c,hc,rfl⟩) _ aF;cases this with
     |int h=>exact h
   obtain⟨x,hx,hb⟩: ∃x:Hd,v0= .slice x.a x.n x.c/\jZ x=some l:=by
    cases hvr with
    |ro hro=>
     generalize hrows:l.map (λn=> [T.sc (.int .u8 n)])=rows at hro;cases hro with
     |em _ a cap=>have :l= [] :=List.map_eq_nil_iff.1 hrows;subst this;exact⟨⟨a,0,cap⟩,rfl,rfl⟩
     |sl cs hc hs hA' hl hr' ht=>
      rename_i ad cap hu;have hlen:rows.length=l.length:=by rw[<-hrows,aD]
      refine⟨⟨some ad,rows.length,cap⟩,rfl,?_⟩;unfold jZ;simp only;split
      ·rename_i h0;rw[hlen] at h0;rw[aX h0]
      ·refine qT (by simpa using hlen) λk a c ha hc=> ?_
       have hak:a=k:=by have:=ah.1 ha;obtain⟨q1,q2⟩:=this;simp at q2;exact q2.symm
       subst hak;have hrow:rows[a]? =some [T.sc (.int .u8 c)] :=by rw[<-hrows,ap,hc];rfl
       have g1:=hr' a _ 0 _ hrow rfl;have g2:=ht a _ 0 _ hrow rfl;rw[Nat.mul_one,bE] at g1;rw[hW];generalize cs a 0=u at g1 g2;cases g2 with
       |sc _=>rw[g1]
   subst hx;have hg:=hG x l hb hbd.1 hbd.2
   obtain⟨res,out,k1,k2,k3⟩:=he (fk [.ty .h] (x,())) (V×List dw) (λv g=>some (v,g)) (.v (.cl (.c (.sc (.bool true)))),[]) (by show (G (x,())).bind _=_;rw[hg];rfl)
   cases k3
   have:=k1.fn (aq hk) W (λ_=>False) bt [.slice x.a x.n x.c] (tG ⟨by rw[hW];exact au _,λb _=>⟨by rw[hW],λh=>h⟩⟩ bt λb hb=>hb) rfl (λk v u hk hu=>by
    cases k with
    |zero=>have hk:some (AV.sc (.slice x.a x.n x.c))=some v:=hk;cases hk;cases hu;exact .sc rfl
    |succ k=>cases hu)
   refine this.2.mono λe W' hx=> ?_;obtain⟨v,btn,rfl,hI,_,_,hvr⟩:=hx;refine⟨?_,iw hI⟩;cases hvr with
   |sc=>rfl
end
end
section
open Go Go.RowKit
theorem yQ(v:Value): ∀ (l:List (Nat×Nat)) (s:Nat) (rs:List (List T)),(T.sc v).go l≠ .sl s rs:=λl s rs h=>by
 cases l with
 |nil=>cases h
 |cons x l=>
  have h':T.dd.go l= .sl s rs:=h
  have : ∀l:List (Nat×Nat),T.dd.go l= .dd:=λl=>by
   induction l with
   |nil=>rfl
   |cons x l ih=>exact ih
  rw[this] at h';cases h'
theorem fV{n:Nat}{rows:List (List T)}(hf: ∀r∈rows,∀x∈r,∃v,x=T.sc v){p:dA}{s:Nat}{rs:List (List T)}(h: (fL [.sl n rows]).look p= .sl s rs):p=⟨0,[]⟩/\s=n/\rs=rows:=by
 obtain⟨r,l⟩:=p;cases r with
 |succ r=>exact absurd h (by simp[St.look,fL])
 |zero=>
  cases l with
  |nil=>have h:T.sl n rows= .sl s rs:=h;cases h;exact⟨rfl,rfl,rfl⟩
  |cons x l=>
   obtain⟨i,j⟩:=x;have h: ((rows.getD i []).getD j .dd).go l= .sl s rs:=h;generalize hr:rows.getD i [] =r0 at h;by_cases hj:j<r0.length
   ·have hi:i<rows.length:=by
     by_cases hi:i<rows.length
     ·exact hi
     ·rw[ax,ck (by omega)] at hr;subst hr;cases hj
    obtain⟨v,hv⟩:=hf r0 (by rw[<-hr,ax,an hi];exact List.getElem_mem hi) r0[j] (List.getElem_mem hj);rw[ax,an hj,aP,hv] at h;exact absurd h (yQ v l s rs)
   ·rw[ax,ck (by omega)] at h;exact absurd (show (T.sc undef).go ((0,0)::l)= .sl s rs from h) (yQ _ _ _ _)
theorem ff(c:oS): ∀r∈ [fA c],∀x∈r,∃v,x=T.sc v:=λr hr x hx=>by rw[aH.1 hr] at hx;simp only[fA,aU,List.not_mem_nil,or_false] at hx;rcases hx with rfl|rfl|rfl<;>exact⟨_,rfl⟩
theorem lj[dp]{w:World}{W:Nat->Prop}(h:rL w W){a:Addr}{v:Value}(hc:dp.w.cell? a=some v):w.cell? a=some v/\ ¬W a.block:=by
 have hb:a.block<dp.w.heap.size:=by
  unfold World.cell? at hc;cases hh:dp.w.heap[a.block]? with
  |none=>rw[hh] at hc;simp at hc
  |some o=>exact (ay.1 hh).1
 exact⟨by rw[jU (h.2 _ hb).1,hc],(h.2 _ hb).2⟩
def i6(cs:Array Value)(O:Nat)(c:oS):Prop:=cs[O]? =some (.slice c.b.a c.b.n c.b.c)/\cs[O+1]? =some (.int .i64 c.i)/\cs[O+2]? =some (.int .i64 c.h)
theorem i6.blk{w:World}{bt:Bt}{cs:Array Value}{e:TypeId}{c:oS}(h:i6 cs (bt.β ⟨0,[]⟩).2 c)(hh:w.heap[(bt.β ⟨0,[]⟩).1]? =some (.cells cs e (0,0)))(hk:Bl (bt.β ⟨0,[]⟩).2 (bt.κ ⟨0,[]⟩) 3 cs.size)(hone: ∀ (k:Nat) (u:Value),cs[k]? =some u->u.oneCell'=true):wQ w bt ⟨0,[]⟩ 3 [fA c] :=
 ⟨cs,e,hh,hk,hone,λi r hr=>by
  cases i with
  |succ i=>simp at hr
  |zero=>
   cases hr;refine⟨rfl,λj x hx=> ?_⟩
   match j,hx with
   | 0,hx=>cases hx;exact⟨_,by simpa using h.1,.sc rfl⟩
   | 1,hx=>cases hx;exact⟨_,by simpa using h.2.1,.sc rfl⟩
   | 2,hx=>cases hx;exact⟨_,by simpa using h.2.2,.sc rfl⟩
   |j+3,hx=>simp[fA] at hx⟩
theorem i6.of_blk{w:World}{bt:Bt}{c:oS}(h:wQ w bt ⟨0,[]⟩ 3 [fA c]): ∃cs e,w.heap[(bt.β ⟨0,[]⟩).1]? =some (.cells cs e (0,0))/\Bl (bt.β ⟨0,[]⟩).2 (bt.κ ⟨0,[]⟩) 3 cs.size/\(∀ (k:Nat) (u:Value),cs[k]? =some u->u.oneCell'=true)/\i6 cs (bt.β ⟨0,[]⟩).2 c:=by
 obtain⟨cs,e,h1,h2,h3,h4⟩:=h;obtain⟨_,h5⟩:=h4 0 (fA c) rfl
 have eU: ∀ (j:Nat) (v:Value),(fA c)[j]? =some (.sc v)->cs[(bt.β ⟨0,[]⟩).2+j]? =some v:=λj v hj=>by obtain⟨u,q1,q2⟩:=h5 j _ hj;rw[bN,aL] at q1;cases q2;exact q1
 exact⟨cs,e,h1,h2,h3,eU 0 _ rfl,eU 1 _ rfl,eU 2 _ rfl⟩
theorem xQ[dp]{w0 w w':World}{W:Nat->Prop}{bt:Bt}{c c':oS}(hI:dP w0 W bt (fL [.sl 3 [fA c]]) w)(hos:w'.os=w.os)(ht:w'.tape=w.tape)(ho:w'.output=w.output)(hs:w'.heap.size=w.heap.size)(hk: ∀b,b≠(bt.β ⟨0,[]⟩).1->w'.heap[b]? =w.heap[b]?)(hb:wQ w' bt ⟨0,[]⟩ 3 [fA c']):dP w0 W bt (fL [.sl 3 [fA c']]) w':=by
 obtain⟨h1,h2⟩:=hI.tr ⟨0,[]⟩ 3 [fA c] rfl;have hκ:0<bt.κ ⟨0,[]⟩:=h1
 exact { good:=hI.good,os:=hos.trans hI.os,tape:=ht.trans hI.tape,output:=ho.trans hI.output,size:=by rw[hs];exact hI.size
         keep:=λb hb hw=>(hk b λe=>by rcases (h2 hκ).1 with h|h;·omega
                                      ·exact hw (e ▸ h)).trans (hI.keep b hb hw)
         nb:=hI.nb,ng:=hI.ng
         bx:=λn cells h=>by cases h
         gh:=λr t h=>(ah.1 h).1
         tr:=λp s rs h=>by obtain⟨rfl,rfl,rfl⟩:=fV (ff c') h;exact⟨h1,λhk=>⟨(h2 hk).1,hb⟩⟩
         inj:=λp q s rs s' rs' hp hq _ _ _=>by rw[(fV (ff c') hp).1,(fV (ff c') hq).1]
         bbinj:=λn m cs cs' h=>by cases h
         bbtr:=λn cs p s rs h=>by cases h
         alt:=λb hb=>by rw[hs];exact hI.alt b hb
         atr:=λp s rs h hk=>by obtain⟨rfl,rfl,rfl⟩:=fV (ff c') h;exact hI.atr ⟨0,[]⟩ 3 [fA c] rfl hk
         abb:=λn cs h=>by cases h }
theorem A9{w w1:World}{b O:Nat}{cs:Array Value}{e:TypeId}{c:oS}{i h:Int}(hb:w.heap[b]? =some (.cells cs e (0,0)))(hc:i6 cs O c)
  (h1:w1.heap=((w.setCell ⟨b,O+2,none⟩ (.int .i64 h)).setCell ⟨b,O+1,none⟩ (.int .i64 i)).heap\/(i=c.i/\w1.heap=(w.setCell ⟨b,O+2,none⟩ (.int .i64 h)).heap)):
  w1.heap.size=w.heap.size/\(∀k,k≠b->w1.heap[k]? =w.heap[k]?)/\ ∃cs',w1.heap[b]? =some (.cells cs' e (0,0))/\cs'.size=cs.size/\i6 cs' O ⟨c.b,i,h⟩/\ ∀k,(k<O\/O+3<=k)->cs'[k]? =cs[k]? :=by
 have hlt:=(ay.1 hc.2.2).1;have far: ∀ (k:Nat),(k<O\/O+3<=k)->O+1≠k/\O+2≠k:=λk hk=>by omega
 rcases h1 with h1| ⟨rfl,h1⟩
 ·rw[h1];refine⟨by simp[World.setCell],λk hk=>by simp[World.setCell,cD,Ne.symm hk],(cs.setIfInBounds (O+2) (.int .i64 h)).setIfInBounds (O+1) (.int .i64 i),by simp[World.setCell,cD,hb],by simp,⟨?_,?_,?_⟩,λk hk=> ?_⟩
  ·simp[aZ,hc.1]
  ·simp[aZ];omega
  ·simp[aZ];omega
  ·simp[aZ,(far k hk).1,(far k hk).2]
 ·rw[h1];refine⟨by simp[World.setCell],λk hk=>by simp[World.setCell,cD,Ne.symm hk],cs.setIfInBounds (O+2) (.int .i64 h),by simp[World.setCell,cD,hb],by simp,⟨?_,?_,?_⟩,λk hk=> ?_⟩
  ·simp[aZ,hc.1]
  ·simp[aZ,hc.2.1]
  ·simp[aZ];omega
  ·simp[aZ,(far k hk).2]
def Bu(G:oS->Option (oS×Int))(l:List oS):Option (List oS×Int×Unit):=match l with
 | [c] =>(G c).map λy=>([y.1],y.2,())
 | _=>none
def BR[dp]{P:Program}(f:FuncId)(hk:Nat.blt f 1048576=true)(enter: ∀ (args:Array Value) (w:World),(callFunc f args).run P w= .ok (.enter f args) w)(G:oS->Option (oS×Int))
    (h: ∀c y,G c=some y-> ∀ (w:World) (b O:Nat) (cs:Array Value) (e:TypeId),(∀a v,dp.w.cell? a=some v->w.cell? a=some v/\a.block≠b)->w.heap[b]? =some (.cells cs e (0,0))->i6 cs O c->
      Calls P f #[.pointer (some ⟨b,O,none⟩)] w λr w'=>r= .returned (.int .i64 y.2)/\w'.os=w.os/\w'.tape=w.tape/\w'.output=w.output/\w'.heap.size=w.heap.size/\(∀k,k≠b->w'.heap[k]? =w.heap[k]?)/\ ∃cs',w'.heap[b]? =some (.cells cs' e (0,0))/\cs'.size=cs.size/\i6 cs' O y.1/\ ∀k,(k<O\/O+3<=k)->cs'[k]? =cs[k]?):rH P:=
 ⟨np f,qo (.st .cur) [] [.i .i64] (λl _=>Bu G l),by
  intro args ρ κ r hr;unfold qo at hr;split at hr
  ·rename_i t l tl;split at hr
   ·rename_i l' hl;obtain⟨e,hl⟩:=dV hl;subst e;have hl:l=l':=hl;subst hl;obtain⟨x,hn,hr2⟩:=fF hr;obtain⟨y,h1,hr3⟩:=af.1 hr2;refine⟨_,_,.of_pt ⟨_,l,_,rfl,ew.norm (rI.cons (.inl rfl) hn) ?_⟩ (aq hk),pF _ _ (fo [.i .i64] y.2),hr3⟩
    match l,h1 with
    | [],h1=>cases h1
    | _::_::_,h1=>cases h1
    | [c],h1=>
      obtain⟨z,h2,rfl⟩:=ai.1 h1;intro w W bt0 vals hI hlen hv
      match vals,hlen with
      | [v0],_=>
        have hv0:VR w bt0 (.ptrT ⟨0,[]⟩ 3 0 0) v0:=hv 0 _ v0 rfl rfl;cases hv0 with
        |ptrT _ _ _ hp hκ=>
         have hI:dP w W bt0 (fL [.sl 3 [fA c]]) w:=hI;obtain⟨_,g⟩:=hI.tr ⟨0,[]⟩ 3 [fA c] rfl;obtain⟨cs,e,q1,q2,q3,q4⟩:=i6.of_blk (g hκ).2;refine⟨enter _ _,(h c z h2 w _ _ cs e (λa v hc=>⟨(lj hI.good hc).1,λe=> ?_⟩) q1 q4).mono ?_⟩
         ·have hlt:=(ay.1 q1).1;rcases (g hκ).1 with h|h
          ·omega
          ·exact (lj hI.good hc).2 (e ▸ h)
         rintro r w' ⟨rfl,a1,a2,a3,a4,a5,cs',a6,a7,a8,a9⟩
         refine⟨_,bt0,rfl,xQ hI a1 a2 a3 a4 a5 (a8.blk a6 (by rw[a7];exact q2) λk u hu=> ?_),au _,λ_ _=>⟨rfl,rfl⟩,.sc rfl⟩;generalize (bt0.β ⟨0,[]⟩).2=O at a8 a9;by_cases k0:k<O\/O+3<=k
         ·exact q3 k u (by rw[<-a9 k k0];exact hu)
         ·obtain rfl|rfl|rfl:k=O\/k=O+1\/k=O+2:=by omega
          ·rw[a8.1] at hu;cases hu;rfl
          ·rw[a8.2.1] at hu;cases hu;rfl
          ·rw[a8.2.2] at hu;cases hu;rfl
   ·cases hr
  ·cases hr⟩
def BQ[dp]{P:Program}(f:FuncId)(hk:Nat.blt f 1048576=true)(enter: ∀ (args:Array Value) (w:World),(callFunc f args).run P w= .ok (.enter f args) w)(G:Hd->Option oS)
    (h: ∀x c,G x=some c-> ∀ (w:World),(∀a v,dp.w.cell? a=some v->w.cell? a=some v)->
      Calls P f #[.slice x.a x.n x.c] w λr w'=> ∃b cs e,r= .returned (.pointer (some ⟨b,0,none⟩))/\Below w.heap.size w w'/\w.heap.size<=b/\w'.heap[b]? =some (.cells cs e (0,0))/\cs.size=3/\i6 cs 0 c):rH P:=
 ⟨f,Aj (.st .cur) [.ty .h] [] (λx=>(G x.1).map λc=>([c],())),by
   intro args ρ κ r hr;unfold Aj at hr;obtain⟨x,hn,hr2⟩:=fF hr;obtain⟨y,h1,hr3⟩:=af.1 hr2;obtain⟨c,h2,rfl⟩:=ai.1 h1;refine⟨.v (.cl (.ptrT ⟨0,[]⟩ 3 0 0)),[⟨.st .cur,[c],none⟩],.of_fn (gy.norm hn ?_) (aq hk),Nat.succ_pos 0,hr3⟩;intro w W bt0 vals hI hlen hv
   match vals,hlen with
   | [v0],_=>
     have hv0:VR w bt0 (.sc (.slice x.1.a x.1.n x.1.c)) v0:=hv 0 _ v0 rfl rfl;cases hv0 with
     |sc _=>
      refine⟨enter _ _,(h x.1 c h2 w λa v hc=>(lj hI.good hc).1).mono ?_⟩
      rintro r w' ⟨b,cs,e,rfl,a1,a2,a3,a4,a5⟩
      let btn:Bt:={ bt0 with β:=λ_=>(b,0),κ:=λp=>if p.l= [] then 1 else 0,ng:=1 }
      refine⟨_,btn,rfl,?_,bL _,λp hp=>absurd hp (Nat.not_lt_zero _),.ptrT (bt:=btn) 3 0 0 Nat.one_pos Nat.one_pos⟩
      exact { good:=hI.good,os:=a1.os,tape:=a1.tape,output:=a1.output,size:=a1.size,keep:=λb hb _=>a1.block b hb,nb:=hI.nb,ng:=rfl
              bx:=λn cells h=>by cases h
              gh:=λr t h=>(ah.1 h).1
              tr:=λp s rs h=>by
               obtain⟨rfl,rfl,rfl⟩:=fV (ff c) h;refine⟨au _,λ_=>⟨.inl a2,i6.blk (bt:=btn) a5 a3 ⟨by rw[a4];exact au _,.inl rfl⟩ λk u hu=> ?_⟩⟩
               match k,hu with
               | 0,hu=>rw[a5.1] at hu;cases hu;rfl
               | 1,hu=>rw[a5.2.1] at hu;cases hu;rfl
               | 2,hu=>rw[a5.2.2] at hu;cases hu;rfl
               |k+3,hu=>rw[Array.getElem?_eq_none (by omega)] at hu;cases hu
              inj:=λp q s rs s' rs' hp hq _ _ _=>by rw[(fV (ff c) hp).1,(fV (ff c) hq).1]
              bbinj:=λn m cs cs' h=>by cases h
              bbtr:=λn cs p s rs h=>by cases h
              alt:=λb hb=>aI (hI.alt b hb) a1.size
              atr:=λp s rs h _ hA=>by have :b<w.heap.size:=hI.alt b hA;omega
              abb:=λn cs h=>by cases h }⟩
end
end Go.Proofs.YtkghndikalnipabGreat.En
