import Derived.Test.YtkghndikalnipacGreatZX9
import Derived.Test.YtkghndikalnipacGreatZX6
import Derived.Shelf.RegionOpenPlain
import Derived.WalkKit
import Derived.Lib.Walk
import Derived.Lib.SliceRun
import Derived.Laws.Externs
import Derived.Laws.IdiomCopy
import Derived.Lib.Strings
import Derived.Lib.Slices
import Derived.Lib.Bytealg
set_option linter.unusedSimpArgs false
set_option linter.unusedVariables false
namespace Go.Proofs.YtkghndikalnipacGreat.En
section
open Go
structure ri [dE] (P:Program) where
 n:Nat
 e:tM
 ok:kB P n e
structure uN [dE] (P:Program) where
 c:Code
 e:uM
 ok:wP P c e
structure LX where
 L:kA
 x:List (X×kA)
 g:List tO
 k:List Nat
 kx:List Nat
abbrev LX.S(m:LX):Type:=m.L.D
abbrev LX.R(m:LX):Type:=Option (m.L.D⊕ly.D m.x)
theorem tm: (∀ (α β:Type) (b:Bool) (x y:Option α) (f:α->Option β),(br b x y).bind f=br b (x.bind f) (y.bind f))/\(∀ (α β:Type) (c:Prop) (_:Decidable c) (x y:Option α) (f:α->Option β),(iteP c x y).bind f=iteP c (x.bind f) (y.bind f))/\(∀ (α β:Type) (f:α->Option β),(none:Option α).bind f=none)/\(∀ (α β:Type) (a:α) (f:α->Option β),(some a).bind f=f a)/\(∀ (α β γ:Type) (x:Option α) (f:α->Option β) (g:β->Option γ),(x.bind f).bind g=x.bind λa=>(f a).bind g)/\(∀ (α β γ δ:Type) (x:α⊕β) (f:α->Option γ) (g:β->Option γ) (h:γ->Option δ),(Sum.elim f g x).bind h=Sum.elim (λa=>(f a).bind h) (λa=>(g a).bind h) x)/\(∀ (α β γ:Type) (f:α->γ) (g:β->γ) (a:α),Sum.elim f g (.inl a)=f a)/\ ∀ (α β γ:Type) (f:α->γ) (g:β->γ) (b:β),Sum.elim f g (.inr b)=g b:=
 ⟨λ_ _ b _ _ _=>by cases b<;>rfl,λ_ _ c _ _ _ _=>by unfold iteP;split<;>rfl,λ_ _ _=>rfl,λ_ _ _ _=>rfl,λ_ _ _ x _ _=>by cases x<;>rfl,λ_ _ _ _ x _ _ _=>by cases x<;>rfl,λ_ _ _ _ _ _=>rfl,λ_ _ _ _ _ _=>rfl⟩
def xJ:Code->List Nat->Code
 |c,[] =>c
 |c,i::l=>xJ (Bi c i) l
section
variable {P:Program} {Θ:gf}
def tD[dE]:List (ri P)->List (Nat×tM)
 | [] => []
 |k::l=>(k.n,k.e)::tD l
theorem kv[dE]: ∀l:List (ri P),fB P (pp (tD l))
 | [] =>Ak P
 |k::l=>yy k.ok (kv l)
def oS[dE]:List (uN P)->List (Nat×uM)
 | [] => []
 |q::l=>(fA q.c,q.e)::oS l
def gi[dE]:List (uN P)->List Code
 | [] => []
 |q::l=>q.c::gi l
def oh:List Code->Bool
 | [] =>true
 |c::l=>l.all (λd=> !Nat.beq (fA c) (fA d))&&oh l
theorem vH[dE]: ∀l:List (uN P),oh (gi l)=true->eM P (n8 (oS l)) (gi l)
 | [],_=>λc hc=>by cases hc
 |q::l,h=>by
  simp only[gi,oh,ak,az] at h;intro c hc S ρ κ r hS hr;have hr: (bif Nat.beq (fA q.c) (fA c) then q.e S ρ κ else n8 (oS l) (fA c) S ρ κ)=some r:=hr;rcases aZ.1 hc with rfl|hc
  ·rw[cH] at hr;exact q.ok S ρ κ r hS hr
  ·have hb:Nat.beq (fA q.c) (fA c)=false:=by simpa using h.1 c hc
   rw[hb] at hr;exact vH l h.2 c hc S ρ κ r hS hr
theorem rH[dE]{Λ:List (uN P)}{cs:List Code}(h:cs=gi Λ)(hn:oh (gi Λ)=true):eM P (n8 (oS Λ)) cs:=by rw[h];exact vH Λ hn
theorem lq{α β:Type}{a a':α}{b b':β}(h: (a,b)=(a',b')):a=a'/\b=b':=by cases h;exact⟨rfl,rfl⟩
theorem tP{a b:Bool}(h: (a&&b)=true):a=true/\b=true:=by simpa using h
variable (hΘ:ek P Θ) (hm:P.follows .mixedOrders=true)
noncomputable def DF[dE](fn:Func)(p:List Nat)(m:LX)(B:m.S->m.R)(Y:List (ri P))(Λ:List (uN P))(h: (dZ (xJ (gE fn) p),((fF P (xJ (gE fn) p))&&(m.L.fit&&m.x.all BT))&&oh (gi Λ))=(gi Λ,true))
  (hB: ∀s,(B s).bind (Sum.elim (λs'=>some (X.nor,m.L.mk' s')) λe=>some (ly.e m.x e))=l8 Θ (pp (tD Y)) (n8 (oS Λ)) (xJ (gE fn) p) (m.L.mk' s) (tE m.k m.kx λx S=>some (x,S))):uN P:=
 ⟨xJ (gE fn) p,xD m.g m.k m.L m.x (nx B),xE hΘ (kv Y) hm (tP (tP (lq h).2).1).1 (rH (lq h).1 (tP (lq h).2).2) m.g m.k m.kx m.L m.x (tP (tP (lq h).2).1).2 B (λs=>(hB s).symm) (nx B) (Bh B) (wk B)⟩
theorem wK[dE]{f:FuncId}{fn:Func}{Λ:List (uN P)}(h: (rj P f,dZ (gE fn),Nat.blt f 1048576&&oh (gi Λ))=(some fn,gi Λ,true)):rj P f=some fn/\(∀c,fn.body=some c->eM P (n8 (oS Λ)) (dZ c))/\Nat.blt f 1048576=true:=
 have h2:=lq (lq h).2
 ⟨(lq h).1,BW h2.1 (rH rfl (tP h2.2).2),(tP h2.2).1⟩
noncomputable def Dw[dE](f:FuncId)(fn:Func)(ps:List jZ)(rs:List Ty)(F:gC.D ps->Option (gl.D rs))(Y:List (ri P))(Λ:List (uN P))(h: (rj P f,dZ (gE fn),Nat.blt f 1048576&&oh (gi Λ))=(some fn,gi Λ,true))
  (hF: ∀x,(F x).bind (λy=>ret (fR rs y) λv g=>some (v,g))=CN Θ (pp (tD Y)) (n8 (oS Λ)) fn (fP ps x) λv g=>some (v,g)):ri P:=
 ⟨f,vW ps rs F,zj hΘ (kv Y) hm (wK h).1 (wK h).2.1 (wK h).2.2 F (λx=>(hF x).symm) λ_ _ h=>h⟩
noncomputable def DA[dE](f:FuncId)(fn:Func)(el:Ty)(ps:List jZ)(rs:List Ty)(F:List el.D->gC.D ps->Option (gl.D rs))(Y:List (ri P))(Λ:List (uN P))(h: (rj P f,dZ (gE fn),Nat.blt f 1048576&&oh (gi Λ))=(some fn,gi Λ,true))
  (hF: ∀l x,(F l x).bind (λy=>ret (fR rs y) λv g=>some (v,g))=xp Θ (pp (tD Y)) (n8 (oS Λ)) fn 0 el l (fP ps x) λv g=>some (v,g)):ri P:=
 ⟨pz f,A2 el ps rs F,zh (wK h).2.2 hΘ (kv Y) hm (wK h).1 (wK h).2.1 F (λl x=>(hF l x).symm) λ_ _ _ h=>h⟩
noncomputable def Dz[dE](f:FuncId)(fn:Func)(el:Ty)(ps:List jZ)(rs:List Ty)(F:List el.D->gC.D ps->Option (List el.D×gl.D rs))(Y:List (ri P))(Λ:List (uN P))(h: (rj P f,dZ (gE fn),Nat.blt f 1048576&&oh (gi Λ))=(some fn,gi Λ,true))
  (hF: ∀l x,(F l x).bind (λy=>ye el rs y λv g=>some (v,g))=xp Θ (pp (tD Y)) (n8 (oS Λ)) fn 1 el l (fP ps x) λv g=>some (v,g)):ri P:=
 ⟨nj f,rL el ps rs F,zg hΘ (kv Y) hm (wK h).1 (wK h).2.1 (wK h).2.2 F (λl x=>(hF l x).symm) λ_ _ _ h=>h⟩
noncomputable def DB[dE](f:FuncId)(fn:Func)(el:Ty)(ps:List jZ)(rs:List Ty)(F:List el.D->gC.D ps->Option (List el.D×gl.D rs))(Y:List (ri P))(Λ:List (uN P))(h: (rj P f,dZ (gE fn),Nat.blt f 1048576&&oh (gi Λ))=(some fn,gi Λ,true))
  (hF: ∀l x,(F l x).bind (λy=>ye el rs y λv g=>some (v,g))=A7 Θ (pp (tD Y)) (n8 (oS Λ)) fn el l (fP ps x) λv g=>some (v,g)):ri P:=
 ⟨oC f,rL el ps rs F,zk hΘ (kv Y) hm (wK h).1 (wK h).2.1 (wK h).2.2 F (λl x=>(hF l x).symm) λ_ _ _ h=>h⟩
abbrev C3(t:Ty)(y:List t.D×Unit):Option (V×List dJ):=ret (fR [.ls t] y) λv g=>some (v,g)
abbrev Dq(t:Ty)(n:Nat)(l:List t.D):Option (V×List dJ):=iteP ((([]:List t.D)++l).length*n<=2 ^ 40) (C3 t (([]:List t.D)++l,())) none
noncomputable def Dx[dE](f:FuncId)(fn:Func)(t:Ty)(n:Nat)(F:List t.D->Option (List t.D×Unit))(h: (rj P f,dZ (gE fn),Nat.blt f 1048576&&oh (gi ([]:List (uN P))))=(some fn,gi ([]:List (uN P)),true))
  (h1: ∀l,F l=iteP (l.length*n<=2 ^ 40) (some (l,())) none)
  (h2: ∀x:gC.D [.ty (.ls t)],CN Θ (pp (tD ([]:List (ri P)))) (n8 (oS ([]:List (uN P)))) fn (fP [.ty (.ls t)] x) (λv g=>some (v,g))=Bn x.1 (yP (C3 t ([],())) (Dq t n x.1) none) (Dq t n x.1)):ri P:=
 Dw hΘ hm f fn [.ty (.ls t)] [.ls t] (λx=>F x.1) [] [] h λx=>by rw[h2,h1];exact (za x.1 n (C3 t)).symm
def Ds[dE](j g:Nat)(k1 k2:ri P)(h:k2.n=k1.n):ri P:=⟨k1.n,xf (BX j g) k1.e k2.e,xg k1.ok (h ▸ k2.ok)⟩
end
end
section
open Go Go.RowKit
theorem BP{P:Program}{f:FuncId}{fn:Func}{c:Code}(hf:P.funcs[f]? =some fn)(hn: (fn.name== "runtime.NumGoroutine")=false)(hc:fn.body=some c)(args:Array Value)(w:World): (callFunc f args).run P w= .ok (.enter f args) w:=by
 have hname': ¬fn.name= "runtime.NumGoroutine" :=by simpa using hn
 simp[callFunc,hf,hname',hc]
end
section
open Go Go.RowKit
def Ty.scB:Ty->Bool| .i _=>true| .b=>true| .s=>true| .h=>true| _=>false
def jZ.scB:jZ->Bool| .ty t=>t.scB| _=>false
def Ty.val: (t:Ty)->t.D->Value| .i k,n=> .int k n| .b,y=> .bool y| .s,y=> .string y| .h,y=> .slice y.a y.n y.c| _,_=>undef
def jZ.val: (p:jZ)->p.D->Value| .ty t,x=>t.val x| _,_=>undef
def oY: (l:List jZ)->gC.D l->List Value
 | [],_=> []
 |p::l,x=>p.val x.1::oY l x.2
def vE: (l:List Ty)->gl.D l->List Value
 | [],_=> []
 |t::l,x=>t.val x.1::vE l x.2
def AM:List Value->Value| [v] =>v|l=> .tuple l.toArray
theorem vL{t:Ty}(h:t.scB=true)(x:t.D): (uR t x).av= .sc (t.val x)/\gG (t.val x)=true:=by
 cases t with
 |st n=>cases h
 |ls t=>cases h
 | _=>exact⟨rfl,rfl⟩
theorem Ap{t:Ty}(h:t.scB=true)(x:t.D)(n:Nat): (wz t x n).av= .sc (t.val x)/\hO (t.flat x)= [] :=by
 cases t with
 |st n=>cases h
 |ls t=>cases h
 | _=>exact⟨rfl,rfl⟩
theorem tG: ∀ (l:List jZ),l.all jZ.scB=true-> ∀x:gC.D l,(fP l x).map V1.av=(oY l x).map AV.sc
 | [],_,_=>rfl
 |p::l,h,x=>by
  simp only[b8,ak] at h;cases p with
  |ty t=>show (uR t x.1).av:: (fP l x.2).map V1.av= .sc (t.val x.1):: (oY l x.2).map AV.sc;rw[(vL h.1 x.1).1,tG l h.2 x.2]
  | _=>cases h.1
theorem s8: ∀ (l:List Ty),l.all Ty.scB=true-> ∀ (x:gl.D l) (n:Nat),(kG n (fR l x)).map V1.av=(vE l x).map AV.sc/\jv (fR l x)= []
 | [],_,_,_=>⟨rfl,rfl⟩
 |t::l,h,x,n=>by
  simp only[b8,ak] at h;obtain⟨h1,h2⟩:=Ap h.1 x.1 n;obtain⟨h3,h4⟩:=s8 l h.2 x.2 (n+(hO (t.flat x.1)).length);constructor
  ·show (wz t x.1 n).av::_= .sc (t.val x.1)::_;rw[h1];exact congrArg _ h3
  ·show hO (t.flat x.1)++jv (fR l x.2)= [];rw[h2,h4];rfl
theorem oI: ∀ (l:List Ty),l.all Ty.scB=true-> ∀ (x:gl.D l),∀v∈vE l x,gG v=true
 | [],_,_,v,hv=>by cases hv
 |t::l,h,x,v,hv=>by
  simp only[b8,ak] at h;rcases aZ.1 hv with rfl|hv
  ·exact (vL h.1 x.1).2
  ·exact oI l h.2 x.2 v hv
theorem wg[dE]{w w':World}{W:Nat->Prop}{bt:Bt}(hI:eh w W bt (gv []) w)(h:Below w.heap.size w w'):eh w W bt (gv []) w':=
 { good:=hI.good,os:=h.os,tape:=h.tape,output:=h.output,size:=h.size,keep:=λb hb _=>h.block b hb,nb:=hI.nb,ng:=hI.ng
   bx:=λn cells h=>by cases h
   gh:=λr t h=>by simp[gv] at h
   tr:=λp s rs h=>absurd h (fL p s rs)
   inj:=λp q s rs s' rs' h=>absurd h (fL p s rs)
   bbinj:=λn m cs cs' h=>by cases h
   bbtr:=λn cs p s rs h=>by cases h
   alt:=λb hb=>aM (hI.alt b hb) h.size
   atr:=λp s rs h=>absurd h (fL p s rs)
   abb:=λn cs h=>by cases h }
theorem zX(vs:List V1)(l:List Value)(h:vs.map V1.av=l.map AV.sc)(hs: ∀v∈l,gG v=true)(w:World)(bt:Bt):VR w bt (qQ vs).av (AM l):=by
 have tup: ∀ (vs:List V1) (l:List Value),vs.map V1.av=l.map AV.sc->(∀v∈l,gG v=true)->VR w bt (.tup (vs.map V1.av)) (.tuple l.toArray):=λvs l h hs=>by rw[h];refine .tup (by simp) λk c u h1 h2=> ?_;rw[aw,h2] at h1;cases h1;exact .sc (hs u (aA h2))
 match vs,l,h,hs with
 | [],[],_,_=>exact tup [] [] rfl (λv hv=>by cases hv)
 | [a],[v],h,hs=>
   have h:a.av= .sc v:=by simpa using h
   show VR w bt a.av v;rw[h];exact .sc (hs v aK)
 |a::b::vs,u::v::l,h,hs=>exact tup _ _ h hs
 | [],_::_,h,_=>cases h
 | _::_,[],h,_=>cases h
 | [_],_::_::_,h,_=>simp at h
 | _::_::_,[_],h,_=>simp at h
def Dy[dE]{P:Program}(f:FuncId)(hk:Nat.blt f 1048576=true)(enter: ∀ (args:Array Value) (w:World),(callFunc f args).run P w= .ok (.enter f args) w)(ps:List jZ)(rs:List Ty)(hp:ps.all jZ.scB=true)(hr:rs.all Ty.scB=true)(G:gC.D ps->Option (gl.D rs))
    (h: ∀x y,G x=some y-> ∀w,Calls P f (oY ps x).toArray w λe w'=>e= .returned (AM (vE rs y))/\Below w.heap.size w w'):ri P:=
 ⟨f,vW ps rs G,by
   intro args ρ κ r hr';unfold vW at hr';obtain⟨x,hn,hr2⟩:=gk hr';obtain⟨y,h1,hr3⟩:=ah.1 hr2;obtain⟨a1,a2⟩:=s8 rs hr y 0;refine⟨_,_,.of_fn (ic.norm hn ?_) (ax hk),uv _,hr3⟩;rw[tG ps hp x,a2];intro w W bt0 vals hI hl hv
   have e:vals=oY ps x:=by
    refine bz λk=> ?_;cases hk:vals[k]? with
    |none=>have:=List.getElem?_eq_none_iff.1 hk;rw[aH] at hl;rw[cx (by omega)]
    |some u=>
     have hlt:=(ai.1 hk).1;have hlt':k< (oY ps x).length:=by rw[aH] at hl;omega
     have g1:=aq hlt';have g2:=hv k (.sc (oY ps x)[k]) u (by rw[aw,g1];rfl) hk;cases g2 with
     |sc _=>exact g1.symm
   subst e;refine⟨enter _ w,(h x y h1 w).mono λe w' he=> ?_⟩;obtain⟨rfl,hb⟩:=he;exact⟨_,bt0,rfl,wg hI hb,bM _,λp hp=>absurd hp (Nat.not_lt_zero _),zX _ _ a1 (oI rs hr y) w' bt0⟩⟩
end
section
open Go Go.ChangeShapes Go.WideShapes Go.RowKit
def kO[dE](x:Hd):Option (List Int):=if x.n=0 then some [] else match x.a with
 |some ad=>(List.range x.n).mapM λk=>match dE.w.cell? (ad.add k) with |some (.int .u8 m)=>some m| _=>none
 |none=>none
theorem sI{α β:Type}{f:α->Option β}: ∀ {l:List α} {m:List β},l.length=m.length->(∀ (k:Nat) a b,l[k]? =some a->m[k]? =some b->f a=some b)->l.mapM f=some m
 | [],[],_,_=>rfl
 |a::l,b::m,hl,h=>by rw[cF,h 0 a b rfl rfl,sI (by simpa using hl) λk x y hx hy=>h (k+1) x y (by simpa using hx) (by simpa using hy)];rfl
theorem Bc[dE]{x:Hd}{l:List Int}(h:kO x=some l):l.length=x.n/\ ∀ (k:Nat) c,l[k]? =some c-> ∃ad,x.a=some ad/\dE.w.cell? (ad.add k)=some (.int .u8 c):=by
 unfold kO at h;split at h
 ·rename_i h0;cases h;exact⟨h0.symm,λk c hk=>by simp at hk⟩
 ·split at h
  ·rename_i ad ha
   have fA: ∀ (n:Nat) (l0:List Nat) (m:List Int),l0.mapM (λk=>match dE.w.cell? (ad.add k) with |some (.int .u8 m)=>some m| _=>none)=some m->m.length=l0.length/\ ∀ (k:Nat) c j,m[k]? =some c->l0[k]? =some j->dE.w.cell? (ad.add j)=some (.int .u8 c):=by
    intro n l0
    induction l0 with
    |nil=>intro m hm;cases hm;exact⟨rfl,λk c j hk=>by simp at hk⟩
    |cons a l0 ih=>
     intro m hm;rw[cF] at hm;simp only[cW,ah] at hm;obtain⟨b,h1,r,h2,h3⟩:=hm;cases h3;obtain⟨i1,i2⟩:=ih r h2;refine⟨by simp[i1],λk c j hk hj=> ?_⟩;cases k with
     |zero=>
      simp only[aJ,af] at hk hj;subst hk hj;split at h1
      ·rename_i hc;cases h1;exact hc
      ·cases h1
     |succ k=>exact i2 k c j (by simpa using hk) (by simpa using hj)
   obtain⟨k1,k2⟩:=fA 0 _ _ h;refine⟨by simpa using k1,λk c hk=>⟨ad,ha,k2 k c k hk ?_⟩⟩;have:=(ai.1 hk).1;rw[k1] at this;simp at this;simp[this]
  ·cases h
def zb(h:Int):Int:=RowKit.wrap64 (RowKit.wrap64 (h*6364136223846793005)+1442695040888963407)
def BN(h:Int):Int:=bits .and .i64 (bits .xor .i64 (h / 8589934592) (h / 35184372088832)) 255
def CK[dE](c:qh):Option (qh×Int):=if c.i< (c.b.n:Int) then (if 0<=c.i then ((kO c.b).bind λl=>l[c.i.toNat]?).map λm=>(⟨c.b,RowKit.wrap64 (c.i+1),zb c.h⟩,bits .and .i64 (RowKit.wrap64 (BN (zb c.h)+RowKit.wrap64 m)) 255) else none) else some (⟨c.b,c.i,zb c.h⟩,BN (zb c.h))
def C9(h m:Int):Int:=bits .and .i64 (RowKit.wrap64 (RowKit.wrap64 (RowKit.wrap64 (h*131)+RowKit.wrap64 m)+7)) 1073741823
def C5[dE](x:Hd):Option qh:=(kO x).map λl=>⟨x,0,(l.take 4000).foldl C9 (RowKit.wrap64 (10101+x.n))⟩
section
variable {H:Type} {enc:TypeId×Value->H} {P:Program} {W:World} {Θ:gf} {base:Nat}
theorem Bf[dE](hW:dE.w=W)(hΘ:ek P Θ){f:FuncId}{G:gC.D [.ty .h] ->Option (gl.D [.b])}(he:kB P f (vW [.ty .h] [.b] G))(hG: ∀ (x:Hd) l,kO x=some l->l.length<=maxLen->(∀c∈l,0<=c/\c<=255)->G (x,())=some (true,()))
  {ts:List TypeId} {vs:List Value} {ds:List (DataW H)} {p:List MemPlace} (hp:pV P Θ ts [.ls (.i .u8)] =true) (hv: ∀ (j:Nat) t v,ts[j]? =some t->vs[j]? =some v->Value.okWide P W .any base t v) (h:DataW.TrodAll enc P W 0 (λ_=>true) true ts vs ds p) (hk:Nat.blt f 1048576=true:=by rfl):
  Calls P f vs.toArray W λe W'=>e= .returned (.bool true)/\Below W.heap.size W W':=by
 let bt:Bt:=⟨λ_=>(0,0),λ_=>0,λ_=>0,0,0,λb=>b<W.heap.size⟩
 obtain⟨⟨l,u⟩,h1,h2,h3,_⟩:=uS (bt:=bt) hΘ rfl hp hv h
 match vs,h1,h2 with
 | [v0],_,h2=>
   have hvr:VR W bt (.ro 1 (l.map λn=> [T.sc (.int .u8 n)])) v0:=h2 0 _ v0 rfl rfl
   have hbd:l.length<=maxLen/\ ∀c∈l,0<=c/\c<=255:=by
    have:=h3 (.sl 1 (l.map λn=> [T.sc (.int .u8 n)])) (aL.2 rfl);cases this with
    |sl hl hr=>
     refine⟨by simpa using hl,λc hc=> ?_⟩;have:=hr [T.sc (.int .u8 c)] (aG.2 ⟨c,hc,rfl⟩) _ aK;cases this with
     |int h=>exact h
   obtain⟨x,hx,hb⟩: ∃x:Hd,v0= .slice x.a x.n x.c/\kO x=some l:=by
    cases hvr with
    |ro hro=>
     generalize hrows:l.map (λn=> [T.sc (.int .u8 n)])=rows at hro;cases hro with
     |em _ a cap=>have :l= [] :=List.map_eq_nil_iff.1 hrows;subst this;exact⟨⟨a,0,cap⟩,rfl,rfl⟩
     |sl cs hc hs hA' hl hr' ht=>
      rename_i ad cap hu;have hlen:rows.length=l.length:=by rw[<-hrows,aH]
      refine⟨⟨some ad,rows.length,cap⟩,rfl,?_⟩;unfold kO;simp only;split
      ·rename_i h0;rw[hlen] at h0;rw[ba h0]
      ·refine sI (by simpa using hlen) λk a c ha hc=> ?_
       have hak:a=k:=by have:=ai.1 ha;obtain⟨q1,q2⟩:=this;simp at q2;exact q2.symm
       subst hak;have hrow:rows[a]? =some [T.sc (.int .u8 c)] :=by rw[<-hrows,aw,hc];rfl
       have g1:=hr' a _ 0 _ hrow rfl;have g2:=ht a _ 0 _ hrow rfl;rw[Nat.mul_one,bH] at g1;rw[hW];generalize cs a 0=u at g1 g2;cases g2 with
       |sc _=>rw[g1]
   subst hx;have hg:=hG x l hb hbd.1 hbd.2
   obtain⟨res,out,k1,k2,k3⟩:=he (fP [.ty .h] (x,())) (V×List dJ) (λv g=>some (v,g)) (.v (.cl (.c (.sc (.bool true)))),[]) (by show (G (x,())).bind _=_;rw[hg];rfl)
   cases k3
   have:=k1.fn (ax hk) W (λ_=>False) bt [.slice x.a x.n x.c] (vj ⟨by rw[hW];exact ay _,λb _=>⟨by rw[hW],λh=>h⟩⟩ bt λb hb=>hb) rfl (λk v u hk hu=>by
    cases k with
    |zero=>have hk:some (AV.sc (.slice x.a x.n x.c))=some v:=hk;cases hk;cases hu;exact .sc rfl
    |succ k=>cases hu)
   refine this.2.mono λe W' hx=> ?_;obtain⟨v,btn,rfl,hI,_,_,hvr⟩:=hx;refine⟨?_,i7 hI⟩;cases hvr with
   |sc=>rfl
end
end
section
open Go Go.RowKit
theorem AG(v:Value): ∀ (l:List (Nat×Nat)) (s:Nat) (rs:List (List T)),(T.sc v).go l≠ .sl s rs:=λl s rs h=>by
 cases l with
 |nil=>cases h
 |cons x l=>
  have h':T.dd.go l= .sl s rs:=h
  have : ∀l:List (Nat×Nat),T.dd.go l= .dd:=λl=>by
   induction l with
   |nil=>rfl
   |cons x l ih=>exact ih
  rw[this] at h';cases h'
theorem gF{n:Nat}{rows:List (List T)}(hf: ∀r∈rows,∀x∈r,∃v,x=T.sc v){p:dM}{s:Nat}{rs:List (List T)}(h: (gv [.sl n rows]).look p= .sl s rs):p=⟨0,[]⟩/\s=n/\rs=rows:=by
 obtain⟨r,l⟩:=p;cases r with
 |succ r=>exact absurd h (by simp[St.look,gv])
 |zero=>
  cases l with
  |nil=>have h:T.sl n rows= .sl s rs:=h;cases h;exact⟨rfl,rfl,rfl⟩
  |cons x l=>
   obtain⟨i,j⟩:=x;have h: ((rows.getD i []).getD j .dd).go l= .sl s rs:=h;generalize hr:rows.getD i [] =r0 at h;by_cases hj:j<r0.length
   ·have hi:i<rows.length:=by
     by_cases hi:i<rows.length
     ·exact hi
     ·rw[aB,cx (by omega)] at hr;subst hr;cases hj
    obtain⟨v,hv⟩:=hf r0 (by rw[<-hr,aB,aq hi];exact List.getElem_mem hi) r0[j] (List.getElem_mem hj);rw[aB,aq hj,aV,hv] at h;exact absurd h (AG v l s rs)
   ·rw[aB,cx (by omega)] at h;exact absurd (show (T.sc undef).go ((0,0)::l)= .sl s rs from h) (AG _ _ _ _)
theorem fJ(c:qh): ∀r∈ [fZ c],∀x∈r,∃v,x=T.sc v:=λr hr x hx=>by rw[aL.1 hr] at hx;simp only[fZ,aZ,List.not_mem_nil,or_false] at hx;rcases hx with rfl|rfl|rfl<;>exact⟨_,rfl⟩
theorem md[dE]{w:World}{W:Nat->Prop}(h:tN w W){a:Addr}{v:Value}(hc:dE.w.cell? a=some v):w.cell? a=some v/\ ¬W a.block:=by
 have hb:a.block<dE.w.heap.size:=by
  unfold World.cell? at hc;cases hh:dE.w.heap[a.block]? with
  |none=>rw[hh] at hc;simp at hc
  |some o=>exact (aD.1 hh).1
 exact⟨by rw[kJ (h.2 _ hb).1,hc],(h.2 _ hb).2⟩
def jy(cs:Array Value)(O:Nat)(c:qh):Prop:=cs[O]? =some (.slice c.b.a c.b.n c.b.c)/\cs[O+1]? =some (.int .i64 c.i)/\cs[O+2]? =some (.int .i64 c.h)
theorem jy.blk{w:World}{bt:Bt}{cs:Array Value}{e:TypeId}{c:qh}(h:jy cs (bt.β ⟨0,[]⟩).2 c)(hh:w.heap[(bt.β ⟨0,[]⟩).1]? =some (.cells cs e (0,0)))(hk:CW (bt.β ⟨0,[]⟩).2 (bt.κ ⟨0,[]⟩) 3 cs.size)(hone: ∀ (k:Nat) (u:Value),cs[k]? =some u->u.oneCell'=true):yH w bt ⟨0,[]⟩ 3 [fZ c] :=
 ⟨cs,e,hh,hk,hone,λi r hr=>by
  cases i with
  |succ i=>simp at hr
  |zero=>
   cases hr;refine⟨rfl,λj x hx=> ?_⟩
   match j,hx with
   | 0,hx=>cases hx;exact⟨_,by simpa using h.1,.sc rfl⟩
   | 1,hx=>cases hx;exact⟨_,by simpa using h.2.1,.sc rfl⟩
   | 2,hx=>cases hx;exact⟨_,by simpa using h.2.2,.sc rfl⟩
   |j+3,hx=>simp[fZ] at hx⟩
theorem jy.of_blk{w:World}{bt:Bt}{c:qh}(h:yH w bt ⟨0,[]⟩ 3 [fZ c]): ∃cs e,w.heap[(bt.β ⟨0,[]⟩).1]? =some (.cells cs e (0,0))/\CW (bt.β ⟨0,[]⟩).2 (bt.κ ⟨0,[]⟩) 3 cs.size/\(∀ (k:Nat) (u:Value),cs[k]? =some u->u.oneCell'=true)/\jy cs (bt.β ⟨0,[]⟩).2 c:=by
 obtain⟨cs,e,h1,h2,h3,h4⟩:=h;obtain⟨_,h5⟩:=h4 0 (fZ c) rfl
 have fA: ∀ (j:Nat) (v:Value),(fZ c)[j]? =some (.sc v)->cs[(bt.β ⟨0,[]⟩).2+j]? =some v:=λj v hj=>by obtain⟨u,q1,q2⟩:=h5 j _ hj;rw[bQ,aP] at q1;cases q2;exact q1
 exact⟨cs,e,h1,h2,h3,fA 0 _ rfl,fA 1 _ rfl,fA 2 _ rfl⟩
theorem zI[dE]{w0 w w':World}{W:Nat->Prop}{bt:Bt}{c c':qh}(hI:eh w0 W bt (gv [.sl 3 [fZ c]]) w)(hos:w'.os=w.os)(ht:w'.tape=w.tape)(ho:w'.output=w.output)(hs:w'.heap.size=w.heap.size)(hk: ∀b,b≠(bt.β ⟨0,[]⟩).1->w'.heap[b]? =w.heap[b]?)(hb:yH w' bt ⟨0,[]⟩ 3 [fZ c']):eh w0 W bt (gv [.sl 3 [fZ c']]) w':=by
 obtain⟨h1,h2⟩:=hI.tr ⟨0,[]⟩ 3 [fZ c] rfl;have hκ:0<bt.κ ⟨0,[]⟩:=h1
 exact { good:=hI.good,os:=hos.trans hI.os,tape:=ht.trans hI.tape,output:=ho.trans hI.output,size:=by rw[hs];exact hI.size
         keep:=λb hb hw=>(hk b λe=>by rcases (h2 hκ).1 with h|h;·omega
                                      ·exact hw (e ▸ h)).trans (hI.keep b hb hw)
         nb:=hI.nb,ng:=hI.ng
         bx:=λn cells h=>by cases h
         gh:=λr t h=>(ai.1 h).1
         tr:=λp s rs h=>by obtain⟨rfl,rfl,rfl⟩:=gF (fJ c') h;exact⟨h1,λhk=>⟨(h2 hk).1,hb⟩⟩
         inj:=λp q s rs s' rs' hp hq _ _ _=>by rw[(gF (fJ c') hp).1,(gF (fJ c') hq).1]
         bbinj:=λn m cs cs' h=>by cases h
         bbtr:=λn cs p s rs h=>by cases h
         alt:=λb hb=>by rw[hs];exact hI.alt b hb
         atr:=λp s rs h hk=>by obtain⟨rfl,rfl,rfl⟩:=gF (fJ c') h;exact hI.atr ⟨0,[]⟩ 3 [fZ c] rfl hk
         abb:=λn cs h=>by cases h }
theorem CL{w w1:World}{b O:Nat}{cs:Array Value}{e:TypeId}{c:qh}{i h:Int}(hb:w.heap[b]? =some (.cells cs e (0,0)))(hc:jy cs O c)
  (h1:w1.heap=((w.setCell ⟨b,O+2,none⟩ (.int .i64 h)).setCell ⟨b,O+1,none⟩ (.int .i64 i)).heap\/(i=c.i/\w1.heap=(w.setCell ⟨b,O+2,none⟩ (.int .i64 h)).heap)):
  w1.heap.size=w.heap.size/\(∀k,k≠b->w1.heap[k]? =w.heap[k]?)/\ ∃cs',w1.heap[b]? =some (.cells cs' e (0,0))/\cs'.size=cs.size/\jy cs' O ⟨c.b,i,h⟩/\ ∀k,(k<O\/O+3<=k)->cs'[k]? =cs[k]? :=by
 have hlt:=(aD.1 hc.2.2).1;have far: ∀ (k:Nat),(k<O\/O+3<=k)->O+1≠k/\O+2≠k:=λk hk=>by omega
 rcases h1 with h1| ⟨rfl,h1⟩
 ·rw[h1];refine⟨by simp[World.setCell],λk hk=>by simp[World.setCell,cM,Ne.symm hk],(cs.setIfInBounds (O+2) (.int .i64 h)).setIfInBounds (O+1) (.int .i64 i),by simp[World.setCell,cM,hb],by simp,⟨?_,?_,?_⟩,λk hk=> ?_⟩
  ·simp[be,hc.1]
  ·simp[be];omega
  ·simp[be];omega
  ·simp[be,(far k hk).1,(far k hk).2]
 ·rw[h1];refine⟨by simp[World.setCell],λk hk=>by simp[World.setCell,cM,Ne.symm hk],cs.setIfInBounds (O+2) (.int .i64 h),by simp[World.setCell,cM,hb],by simp,⟨?_,?_,?_⟩,λk hk=> ?_⟩
  ·simp[be,hc.1]
  ·simp[be,hc.2.1]
  ·simp[be];omega
  ·simp[be,(far k hk).2]
def C4(G:qh->Option (qh×Int))(l:List qh):Option (List qh×Int×Unit):=match l with
 | [c] =>(G c).map λy=>([y.1],y.2,())
 | _=>none
def Dt[dE]{P:Program}(f:FuncId)(hk:Nat.blt f 1048576=true)(enter: ∀ (args:Array Value) (w:World),(callFunc f args).run P w= .ok (.enter f args) w)(G:qh->Option (qh×Int))
    (h: ∀c y,G c=some y-> ∀ (w:World) (b O:Nat) (cs:Array Value) (e:TypeId),(∀a v,dE.w.cell? a=some v->w.cell? a=some v/\a.block≠b)->w.heap[b]? =some (.cells cs e (0,0))->jy cs O c->
      Calls P f #[.pointer (some ⟨b,O,none⟩)] w λr w'=>r= .returned (.int .i64 y.2)/\w'.os=w.os/\w'.tape=w.tape/\w'.output=w.output/\w'.heap.size=w.heap.size/\(∀k,k≠b->w'.heap[k]? =w.heap[k]?)/\ ∃cs',w'.heap[b]? =some (.cells cs' e (0,0))/\cs'.size=cs.size/\jy cs' O y.1/\ ∀k,(k<O\/O+3<=k)->cs'[k]? =cs[k]?):ri P:=
 ⟨oC f,rL (.st .cur) [] [.i .i64] (λl _=>C4 G l),by
  intro args ρ κ r hr;unfold rL at hr;split at hr
  ·rename_i t l tl;split at hr
   ·rename_i l' hl;obtain⟨e,hl⟩:=eD hl;subst e;have hl:l=l':=hl;subst hl;obtain⟨x,hn,hr2⟩:=gk hr;obtain⟨y,h1,hr3⟩:=ah.1 hr2;refine⟨_,_,.of_pt ⟨_,l,_,rfl,eV.norm (tJ.cons (.inl rfl) hn) ?_⟩ (ax hk),qV _ _ (fR [.i .i64] y.2),hr3⟩
    match l,h1 with
    | [],h1=>cases h1
    | _::_::_,h1=>cases h1
    | [c],h1=>
      obtain⟨z,h2,rfl⟩:=aj.1 h1;intro w W bt0 vals hI hlen hv
      match vals,hlen with
      | [v0],_=>
        have hv0:VR w bt0 (.ptrT ⟨0,[]⟩ 3 0 0) v0:=hv 0 _ v0 rfl rfl;cases hv0 with
        |ptrT _ _ _ hp hκ=>
         have hI:eh w W bt0 (gv [.sl 3 [fZ c]]) w:=hI;obtain⟨_,g⟩:=hI.tr ⟨0,[]⟩ 3 [fZ c] rfl;obtain⟨cs,e,q1,q2,q3,q4⟩:=jy.of_blk (g hκ).2;refine⟨enter _ _,(h c z h2 w _ _ cs e (λa v hc=>⟨(md hI.good hc).1,λe=> ?_⟩) q1 q4).mono ?_⟩
         ·have hlt:=(aD.1 q1).1;rcases (g hκ).1 with h|h
          ·omega
          ·exact (md hI.good hc).2 (e ▸ h)
         rintro r w' ⟨rfl,a1,a2,a3,a4,a5,cs',a6,a7,a8,a9⟩
         refine⟨_,bt0,rfl,zI hI a1 a2 a3 a4 a5 (a8.blk a6 (by rw[a7];exact q2) λk u hu=> ?_),ay _,λ_ _=>⟨rfl,rfl⟩,.sc rfl⟩;generalize (bt0.β ⟨0,[]⟩).2=O at a8 a9;by_cases k0:k<O\/O+3<=k
         ·exact q3 k u (by rw[<-a9 k k0];exact hu)
         ·obtain rfl|rfl|rfl:k=O\/k=O+1\/k=O+2:=by omega
          ·rw[a8.1] at hu;cases hu;rfl
          ·rw[a8.2.1] at hu;cases hu;rfl
          ·rw[a8.2.2] at hu;cases hu;rfl
   ·cases hr
  ·cases hr⟩
def Dr[dE]{P:Program}(f:FuncId)(hk:Nat.blt f 1048576=true)(enter: ∀ (args:Array Value) (w:World),(callFunc f args).run P w= .ok (.enter f args) w)(G:Hd->Option qh)
    (h: ∀x c,G x=some c-> ∀ (w:World),(∀a v,dE.w.cell? a=some v->w.cell? a=some v)->
      Calls P f #[.slice x.a x.n x.c] w λr w'=> ∃b cs e,r= .returned (.pointer (some ⟨b,0,none⟩))/\Below w.heap.size w w'/\w.heap.size<=b/\w'.heap[b]? =some (.cells cs e (0,0))/\cs.size=3/\jy cs 0 c):ri P:=
 ⟨f,BO (.st .cur) [.ty .h] [] (λx=>(G x.1).map λc=>([c],())),by
   intro args ρ κ r hr;unfold BO at hr;obtain⟨x,hn,hr2⟩:=gk hr;obtain⟨y,h1,hr3⟩:=ah.1 hr2;obtain⟨c,h2,rfl⟩:=aj.1 h1;refine⟨.v (.cl (.ptrT ⟨0,[]⟩ 3 0 0)),[⟨.st .cur,[c],none⟩],.of_fn (ic.norm hn ?_) (ax hk),Nat.succ_pos 0,hr3⟩;intro w W bt0 vals hI hlen hv
   match vals,hlen with
   | [v0],_=>
     have hv0:VR w bt0 (.sc (.slice x.1.a x.1.n x.1.c)) v0:=hv 0 _ v0 rfl rfl;cases hv0 with
     |sc _=>
      refine⟨enter _ _,(h x.1 c h2 w λa v hc=>(md hI.good hc).1).mono ?_⟩
      rintro r w' ⟨b,cs,e,rfl,a1,a2,a3,a4,a5⟩
      let btn:Bt:={ bt0 with β:=λ_=>(b,0),κ:=λp=>if p.l= [] then 1 else 0,ng:=1 }
      refine⟨_,btn,rfl,?_,bM _,λp hp=>absurd hp (Nat.not_lt_zero _),.ptrT (bt:=btn) 3 0 0 Nat.one_pos Nat.one_pos⟩
      exact { good:=hI.good,os:=a1.os,tape:=a1.tape,output:=a1.output,size:=a1.size,keep:=λb hb _=>a1.block b hb,nb:=hI.nb,ng:=rfl
              bx:=λn cells h=>by cases h
              gh:=λr t h=>(ai.1 h).1
              tr:=λp s rs h=>by
               obtain⟨rfl,rfl,rfl⟩:=gF (fJ c) h;refine⟨ay _,λ_=>⟨.inl a2,jy.blk (bt:=btn) a5 a3 ⟨by rw[a4];exact ay _,.inl rfl⟩ λk u hu=> ?_⟩⟩
               match k,hu with
               | 0,hu=>rw[a5.1] at hu;cases hu;rfl
               | 1,hu=>rw[a5.2.1] at hu;cases hu;rfl
               | 2,hu=>rw[a5.2.2] at hu;cases hu;rfl
               |k+3,hu=>rw[Array.getElem?_eq_none (by omega)] at hu;cases hu
              inj:=λp q s rs s' rs' hp hq _ _ _=>by rw[(gF (fJ c) hp).1,(gF (fJ c) hq).1]
              bbinj:=λn m cs cs' h=>by cases h
              bbtr:=λn cs p s rs h=>by cases h
              alt:=λb hb=>aM (hI.alt b hb) a1.size
              atr:=λp s rs h _ hA=>by have :b<w.heap.size:=hI.alt b hA;omega
              abb:=λn cs h=>by cases h }⟩
end
end Go.Proofs.YtkghndikalnipacGreat.En
