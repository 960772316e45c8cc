import Derived.Test.YtkghndikalnipaaGreatZX9
import Derived.Test.YtkghndikalnipaaGreatZX6
import Derived.Shelf.RegionOpenPlain
import Derived.WalkKit
import Derived.Lib.Walk
import Derived.Lib.SliceRun
import Derived.Laws.Externs
import Derived.Laws.IdiomCopy
import Derived.Lib.Strings
import Derived.Lib.Slices
import Derived.Lib.Bytealg
set_option linter.unusedSimpArgs false
set_option linter.unusedVariables false
namespace Go.Proofs.YtkghndikalnipaaGreat.En
section
open Go
structure rk [dE] (P:Program) where
 n:Nat
 e:tN
 ok:kC P n e
structure uP [dE] (P:Program) where
 c:Code
 e:uO
 ok:wV P c e
structure LX where
 L:kB
 x:List (X×kB)
 g:List tP
 k:List Nat
 kx:List Nat
abbrev LX.S(m:LX):Type:=m.L.D
abbrev LX.R(m:LX):Type:=Option (m.L.D⊕lC.D m.x)
theorem tm: (∀ (α β:Type) (b:Bool) (x y:Option α) (f:α->Option β),(br b x y).bind f=br b (x.bind f) (y.bind f))/\(∀ (α β:Type) (c:Prop) (_:Decidable c) (x y:Option α) (f:α->Option β),(iteP c x y).bind f=iteP c (x.bind f) (y.bind f))/\(∀ (α β:Type) (f:α->Option β),(none:Option α).bind f=none)/\(∀ (α β:Type) (a:α) (f:α->Option β),(some a).bind f=f a)/\(∀ (α β γ:Type) (x:Option α) (f:α->Option β) (g:β->Option γ),(x.bind f).bind g=x.bind λa=>(f a).bind g)/\(∀ (α β γ δ:Type) (x:α⊕β) (f:α->Option γ) (g:β->Option γ) (h:γ->Option δ),(Sum.elim f g x).bind h=Sum.elim (λa=>(f a).bind h) (λa=>(g a).bind h) x)/\(∀ (α β γ:Type) (f:α->γ) (g:β->γ) (a:α),Sum.elim f g (.inl a)=f a)/\ ∀ (α β γ:Type) (f:α->γ) (g:β->γ) (b:β),Sum.elim f g (.inr b)=g b:=
 ⟨λ_ _ b _ _ _=>by cases b<;>rfl,λ_ _ c _ _ _ _=>by unfold iteP;split<;>rfl,λ_ _ _=>rfl,λ_ _ _ _=>rfl,λ_ _ _ x _ _=>by cases x<;>rfl,λ_ _ _ _ x _ _ _=>by cases x<;>rfl,λ_ _ _ _ _ _=>rfl,λ_ _ _ _ _ _=>rfl⟩
def xR:Code->List Nat->Code
 |c,[] =>c
 |c,i::l=>xR (BC c i) l
section
variable {P:Program} {Θ:fV}
def tE[dE]:List (rk P)->List (Nat×tN)
 | [] => []
 |k::l=>(k.n,k.e)::tE l
theorem ky[dE]: ∀l:List (rk P),fC P (pq (tE l))
 | [] =>AD P
 |k::l=>yK k.ok (ky l)
def oU[dE]:List (uP P)->List (Nat×uO)
 | [] => []
 |q::l=>(fB q.c,q.e)::oU l
def gi[dE]:List (uP P)->List Code
 | [] => []
 |q::l=>q.c::gi l
def om:List Code->Bool
 | [] =>true
 |c::l=>l.all (λd=> !Nat.beq (fB c) (fB d))&&om l
theorem vJ[dE]: ∀l:List (uP P),om (gi l)=true->eM P (oa (oU l)) (gi l)
 | [],_=>λc hc=>by cases hc
 |q::l,h=>by
  simp only[gi,om,ak,ay] at h;intro c hc S ρ κ r hS hr;have hr: (bif Nat.beq (fB q.c) (fB c) then q.e S ρ κ else oa (oU l) (fB c) S ρ κ)=some r:=hr;rcases aZ.1 hc with rfl|hc
  ·rw[cJ] at hr;exact q.ok S ρ κ r hS hr
  ·have hb:Nat.beq (fB q.c) (fB c)=false:=by simpa using h.1 c hc
   rw[hb] at hr;exact vJ l h.2 c hc S ρ κ r hS hr
theorem rJ[dE]{Λ:List (uP P)}{cs:List Code}(h:cs=gi Λ)(hn:om (gi Λ)=true):eM P (oa (oU Λ)) cs:=by rw[h];exact vJ Λ hn
theorem ly{α β:Type}{a a':α}{b b':β}(h: (a,b)=(a',b')):a=a'/\b=b':=by cases h;exact⟨rfl,rfl⟩
theorem tQ{a b:Bool}(h: (a&&b)=true):a=true/\b=true:=by simpa using h
variable (hΘ:ek P Θ) (hm:P.follows .mixedOrders=true)
noncomputable def D3[dE](fn:Func)(p:List Nat)(m:LX)(B:m.S->m.R)(Y:List (rk P))(Λ:List (uP P))(h: (dZ (xR (gE fn) p),((fF P (xR (gE fn) p))&&(m.L.fit&&m.x.all Cq))&&om (gi Λ))=(gi Λ,true))
  (hB: ∀s,(B s).bind (Sum.elim (λs'=>some (X.nor,m.L.mk' s')) λe=>some (lC.e m.x e))=ma Θ (pq (tE Y)) (oa (oU Λ)) (xR (gE fn) p) (m.L.mk' s) (tF m.k m.kx λx S=>some (x,S))):uP P:=
 ⟨xR (gE fn) p,xL m.g m.k m.L m.x (ny B),xM hΘ (ky Y) hm (tQ (tQ (ly h).2).1).1 (rJ (ly h).1 (tQ (ly h).2).2) m.g m.k m.kx m.L m.x (tQ (tQ (ly h).2).1).2 B (λs=>(hB s).symm) (ny B) (BB B) (wu B)⟩
theorem wQ[dE]{f:FuncId}{fn:Func}{Λ:List (uP P)}(h: (rn P f,dZ (gE fn),Nat.blt f 1048576&&om (gi Λ))=(some fn,gi Λ,true)):rn P f=some fn/\(∀c,fn.body=some c->eM P (oa (oU Λ)) (dZ c))/\Nat.blt f 1048576=true:=
 have h2:=ly (ly h).2
 ⟨(ly h).1,Cu h2.1 (rJ rfl (tQ h2.2).2),(tQ h2.2).1⟩
noncomputable def DR[dE](f:FuncId)(fn:Func)(ps:List j6)(rs:List Ty)(F:gC.D ps->Option (gm.D rs))(Y:List (rk P))(Λ:List (uP P))(h: (rn P f,dZ (gE fn),Nat.blt f 1048576&&om (gi Λ))=(some fn,gi Λ,true))
  (hF: ∀x,(F x).bind (λy=>ret (fR rs y) λv g=>some (v,g))=C7 Θ (pq (tE Y)) (oa (oU Λ)) fn (fP ps x) λv g=>some (v,g)):rk P:=
 ⟨f,vZ ps rs F,zE hΘ (ky Y) hm (wQ h).1 (wQ h).2.1 (wQ h).2.2 F (λx=>(hF x).symm) λ_ _ h=>h⟩
noncomputable def DV[dE](f:FuncId)(fn:Func)(el:Ty)(ps:List j6)(rs:List Ty)(F:List el.D->gC.D ps->Option (gm.D rs))(Y:List (rk P))(Λ:List (uP P))(h: (rn P f,dZ (gE fn),Nat.blt f 1048576&&om (gi Λ))=(some fn,gi Λ,true))
  (hF: ∀l x,(F l x).bind (λy=>ret (fR rs y) λv g=>some (v,g))=xz Θ (pq (tE Y)) (oa (oU Λ)) fn 0 el l (fP ps x) λv g=>some (v,g)):rk P:=
 ⟨pA f,Bk el ps rs F,zD (wQ h).2.2 hΘ (ky Y) hm (wQ h).1 (wQ h).2.1 F (λl x=>(hF l x).symm) λ_ _ _ h=>h⟩
noncomputable def DU[dE](f:FuncId)(fn:Func)(el:Ty)(ps:List j6)(rs:List Ty)(F:List el.D->gC.D ps->Option (List el.D×gm.D rs))(Y:List (rk P))(Λ:List (uP P))(h: (rn P f,dZ (gE fn),Nat.blt f 1048576&&om (gi Λ))=(some fn,gi Λ,true))
  (hF: ∀l x,(F l x).bind (λy=>yq el rs y λv g=>some (v,g))=xz Θ (pq (tE Y)) (oa (oU Λ)) fn 1 el l (fP ps x) λv g=>some (v,g)):rk P:=
 ⟨nk f,rN el ps rs F,zC hΘ (ky Y) hm (wQ h).1 (wQ h).2.1 (wQ h).2.2 F (λl x=>(hF l x).symm) λ_ _ _ h=>h⟩
noncomputable def DW[dE](f:FuncId)(fn:Func)(el:Ty)(ps:List j6)(rs:List Ty)(F:List el.D->gC.D ps->Option (List el.D×gm.D rs))(Y:List (rk P))(Λ:List (uP P))(h: (rn P f,dZ (gE fn),Nat.blt f 1048576&&om (gi Λ))=(some fn,gi Λ,true))
  (hF: ∀l x,(F l x).bind (λy=>yq el rs y λv g=>some (v,g))=Bp Θ (pq (tE Y)) (oa (oU Λ)) fn el l (fP ps x) λv g=>some (v,g)):rk P:=
 ⟨oE f,rN el ps rs F,zF hΘ (ky Y) hm (wQ h).1 (wQ h).2.1 (wQ h).2.2 F (λl x=>(hF l x).symm) λ_ _ _ h=>h⟩
abbrev Dp(t:Ty)(y:List t.D×Unit):Option (V×List dJ):=ret (fR [.ls t] y) λv g=>some (v,g)
abbrev DK(t:Ty)(n:Nat)(l:List t.D):Option (V×List dJ):=iteP ((([]:List t.D)++l).length*n<=2 ^ 40) (Dp t (([]:List t.D)++l,())) none
noncomputable def DS[dE](f:FuncId)(fn:Func)(t:Ty)(n:Nat)(F:List t.D->Option (List t.D×Unit))(h: (rn P f,dZ (gE fn),Nat.blt f 1048576&&om (gi ([]:List (uP P))))=(some fn,gi ([]:List (uP P)),true))
  (h1: ∀l,F l=iteP (l.length*n<=2 ^ 40) (some (l,())) none)
  (h2: ∀x:gC.D [.ty (.ls t)],C7 Θ (pq (tE ([]:List (rk P)))) (oa (oU ([]:List (uP P)))) fn (fP [.ty (.ls t)] x) (λv g=>some (v,g))=BG x.1 (zb (Dp t ([],())) (DK t n x.1) none) (DK t n x.1)):rk P:=
 DR hΘ hm f fn [.ty (.ls t)] [.ls t] (λx=>F x.1) [] [] h λx=>by rw[h2,h1];exact (zy x.1 n (Dp t)).symm
def DM[dE](j g:Nat)(k1 k2:rk P)(h:k2.n=k1.n):rk P:=⟨k1.n,xm (Cv j g) k1.e k2.e,xn k1.ok (h ▸ k2.ok)⟩
end
end
section
open Go Go.RowKit
theorem Cj{P:Program}{f:FuncId}{fn:Func}{c:Code}(hf:P.funcs[f]? =some fn)(hn: (fn.name== "runtime.NumGoroutine")=false)(hc:fn.body=some c)(args:Array Value)(w:World): (callFunc f args).run P w= .ok (.enter f args) w:=by
 have hname': ¬fn.name= "runtime.NumGoroutine" :=by simpa using hn
 simp[callFunc,hf,hname',hc]
end
section
open Go Go.RowKit
def Ty.scB:Ty->Bool| .i _=>true| .b=>true| .s=>true| .h=>true| _=>false
def j6.scB:j6->Bool| .ty t=>t.scB| _=>false
def Ty.val: (t:Ty)->t.D->Value| .i k,n=> .int k n| .b,y=> .bool y| .s,y=> .string y| .h,y=> .slice y.a y.n y.c| _,_=>undef
def j6.val: (p:j6)->p.D->Value| .ty t,x=>t.val x| _,_=>undef
def o7: (l:List j6)->gC.D l->List Value
 | [],_=> []
 |p::l,x=>p.val x.1::o7 l x.2
def vG: (l:List Ty)->gm.D l->List Value
 | [],_=> []
 |t::l,x=>t.val x.1::vG l x.2
def A6:List Value->Value| [v] =>v|l=> .tuple l.toArray
theorem vN{t:Ty}(h:t.scB=true)(x:t.D): (uT t x).av= .sc (t.val x)/\gG (t.val x)=true:=by
 cases t with
 |st n=>cases h
 |ls t=>cases h
 | _=>exact⟨rfl,rfl⟩
theorem AI{t:Ty}(h:t.scB=true)(x:t.D)(n:Nat): (wF t x n).av= .sc (t.val x)/\hU (t.flat x)= [] :=by
 cases t with
 |st n=>cases h
 |ls t=>cases h
 | _=>exact⟨rfl,rfl⟩
theorem tH: ∀ (l:List j6),l.all j6.scB=true-> ∀x:gC.D l,(fP l x).map V1.av=(o7 l x).map AV.sc
 | [],_,_=>rfl
 |p::l,h,x=>by
  simp only[b8,ak] at h;cases p with
  |ty t=>show (uT t x.1).av:: (fP l x.2).map V1.av= .sc (t.val x.1):: (o7 l x.2).map AV.sc;rw[(vN h.1 x.1).1,tH l h.2 x.2]
  | _=>cases h.1
theorem s9: ∀ (l:List Ty),l.all Ty.scB=true-> ∀ (x:gm.D l) (n:Nat),(kJ n (fR l x)).map V1.av=(vG l x).map AV.sc/\jx (fR l x)= []
 | [],_,_,_=>⟨rfl,rfl⟩
 |t::l,h,x,n=>by
  simp only[b8,ak] at h;obtain⟨h1,h2⟩:=AI h.1 x.1 n;obtain⟨h3,h4⟩:=s9 l h.2 x.2 (n+(hU (t.flat x.1)).length);constructor
  ·show (wF t x.1 n).av::_= .sc (t.val x.1)::_;rw[h1];exact congrArg _ h3
  ·show hU (t.flat x.1)++jx (fR l x.2)= [];rw[h2,h4];rfl
theorem oK: ∀ (l:List Ty),l.all Ty.scB=true-> ∀ (x:gm.D l),∀v∈vG l x,gG v=true
 | [],_,_,v,hv=>by cases hv
 |t::l,h,x,v,hv=>by
  simp only[b8,ak] at h;rcases aZ.1 hv with rfl|hv
  ·exact (vN h.1 x.1).2
  ·exact oK l h.2 x.2 v hv
theorem wn[dE]{w w':World}{W:Nat->Prop}{bt:Bt}(hI:eh w W bt (gv []) w)(h:Below w.heap.size w w'):eh w W bt (gv []) w':=
 { good:=hI.good,os:=h.os,tape:=h.tape,output:=h.output,size:=h.size,keep:=λb hb _=>h.block b hb,nb:=hI.nb,ng:=hI.ng
   bx:=λn cells h=>by cases h
   gh:=λr t h=>by simp[gv] at h
   tr:=λp s rs h=>absurd h (fL p s rs)
   inj:=λp q s rs s' rs' h=>absurd h (fL p s rs)
   bbinj:=λn m cs cs' h=>by cases h
   bbtr:=λn cs p s rs h=>by cases h
   alt:=λb hb=>aM (hI.alt b hb) h.size
   atr:=λp s rs h=>absurd h (fL p s rs)
   abb:=λn cs h=>by cases h }
theorem Ak(vs:List V1)(l:List Value)(h:vs.map V1.av=l.map AV.sc)(hs: ∀v∈l,gG v=true)(w:World)(bt:Bt):VR w bt (qS vs).av (A6 l):=by
 have tup: ∀ (vs:List V1) (l:List Value),vs.map V1.av=l.map AV.sc->(∀v∈l,gG v=true)->VR w bt (.tup (vs.map V1.av)) (.tuple l.toArray):=λvs l h hs=>by rw[h];refine .tup (by simp) λk c u h1 h2=> ?_;rw[aw,h2] at h1;cases h1;exact .sc (hs u (aA h2))
 match vs,l,h,hs with
 | [],[],_,_=>exact tup [] [] rfl (λv hv=>by cases hv)
 | [a],[v],h,hs=>
   have h:a.av= .sc v:=by simpa using h
   show VR w bt a.av v;rw[h];exact .sc (hs v aK)
 |a::b::vs,u::v::l,h,hs=>exact tup _ _ h hs
 | [],_::_,h,_=>cases h
 | _::_,[],h,_=>cases h
 | [_],_::_::_,h,_=>simp at h
 | _::_::_,[_],h,_=>simp at h
def DT[dE]{P:Program}(f:FuncId)(hk:Nat.blt f 1048576=true)(enter: ∀ (args:Array Value) (w:World),(callFunc f args).run P w= .ok (.enter f args) w)(ps:List j6)(rs:List Ty)(hp:ps.all j6.scB=true)(hr:rs.all Ty.scB=true)(G:gC.D ps->Option (gm.D rs))
    (h: ∀x y,G x=some y-> ∀w,Calls P f (o7 ps x).toArray w λe w'=>e= .returned (A6 (vG rs y))/\Below w.heap.size w w'):rk P:=
 ⟨f,vZ ps rs G,by
   intro args ρ κ r hr';unfold vZ at hr';obtain⟨x,hn,hr2⟩:=gl hr';obtain⟨y,h1,hr3⟩:=ah.1 hr2;obtain⟨a1,a2⟩:=s9 rs hr y 0;refine⟨_,_,.of_fn (ig.norm hn ?_) (ax hk),ux _,hr3⟩;rw[tH ps hp x,a2];intro w W bt0 vals hI hl hv
   have e:vals=o7 ps x:=by
    refine bA λk=> ?_;cases hk:vals[k]? with
    |none=>have:=List.getElem?_eq_none_iff.1 hk;rw[aH] at hl;rw[cx (by omega)]
    |some u=>
     have hlt:=(ai.1 hk).1;have hlt':k< (o7 ps x).length:=by rw[aH] at hl;omega
     have g1:=aq hlt';have g2:=hv k (.sc (o7 ps x)[k]) u (by rw[aw,g1];rfl) hk;cases g2 with
     |sc _=>exact g1.symm
   subst e;refine⟨enter _ w,(h x y h1 w).mono λe w' he=> ?_⟩;obtain⟨rfl,hb⟩:=he;exact⟨_,bt0,rfl,wn hI hb,bO _,λp hp=>absurd hp (Nat.not_lt_zero _),Ak _ _ a1 (oK rs hr y) w' bt0⟩⟩
end
section
open Go Go.ChangeShapes Go.WideShapes Go.RowKit
def kQ[dE](x:Hd):Option (List Int):=if x.n=0 then some [] else match x.a with
 |some ad=>(List.range x.n).mapM λk=>match dE.w.cell? (ad.add k) with |some (.int .u8 m)=>some m| _=>none
 |none=>none
theorem sJ{α β:Type}{f:α->Option β}: ∀ {l:List α} {m:List β},l.length=m.length->(∀ (k:Nat) a b,l[k]? =some a->m[k]? =some b->f a=some b)->l.mapM f=some m
 | [],[],_,_=>rfl
 |a::l,b::m,hl,h=>by rw[cF,h 0 a b rfl rfl,sJ (by simpa using hl) λk x y hx hy=>h (k+1) x y (by simpa using hx) (by simpa using hy)];rfl
theorem Bv[dE]{x:Hd}{l:List Int}(h:kQ x=some l):l.length=x.n/\ ∀ (k:Nat) c,l[k]? =some c-> ∃ad,x.a=some ad/\dE.w.cell? (ad.add k)=some (.int .u8 c):=by
 unfold kQ at h;split at h
 ·rename_i h0;cases h;exact⟨h0.symm,λk c hk=>by simp at hk⟩
 ·split at h
  ·rename_i ad ha
   have fB: ∀ (n:Nat) (l0:List Nat) (m:List Int),l0.mapM (λk=>match dE.w.cell? (ad.add k) with |some (.int .u8 m)=>some m| _=>none)=some m->m.length=l0.length/\ ∀ (k:Nat) c j,m[k]? =some c->l0[k]? =some j->dE.w.cell? (ad.add j)=some (.int .u8 c):=by
    intro n l0
    induction l0 with
    |nil=>intro m hm;cases hm;exact⟨rfl,λk c j hk=>by simp at hk⟩
    |cons a l0 ih=>
     intro m hm;rw[cF] at hm;simp only[cX,ah] at hm;obtain⟨b,h1,r,h2,h3⟩:=hm;cases h3;obtain⟨i1,i2⟩:=ih r h2;refine⟨by simp[i1],λk c j hk hj=> ?_⟩;cases k with
     |zero=>
      simp only[aJ,af] at hk hj;subst hk hj;split at h1
      ·rename_i hc;cases h1;exact hc
      ·cases h1
     |succ k=>exact i2 k c j (by simpa using hk) (by simpa using hj)
   obtain⟨k1,k2⟩:=fB 0 _ _ h;refine⟨by simpa using k1,λk c hk=>⟨ad,ha,k2 k c k hk ?_⟩⟩;have:=(ai.1 hk).1;rw[k1] at this;simp at this;simp[this]
  ·cases h
def zz(h:Int):Int:=RowKit.wrap64 (RowKit.wrap64 (h*6364136223846793005)+1442695040888963407)
def Ch(h:Int):Int:=bits .and .i64 (bits .xor .i64 (h / 8589934592) (h / 35184372088832)) 255
def C4[dE](c:qi):Option (qi×Int):=if c.i< (c.b.n:Int) then (if 0<=c.i then ((kQ c.b).bind λl=>l[c.i.toNat]?).map λm=>(⟨c.b,RowKit.wrap64 (c.i+1),zz c.h⟩,bits .and .i64 (RowKit.wrap64 (Ch (zz c.h)+RowKit.wrap64 m)) 255) else none) else some (⟨c.b,c.i,zz c.h⟩,Ch (zz c.h))
def Dv(h m:Int):Int:=bits .and .i64 (RowKit.wrap64 (RowKit.wrap64 (RowKit.wrap64 (h*131)+RowKit.wrap64 m)+7)) 1073741823
def Dr[dE](x:Hd):Option qi:=(kQ x).map λl=>⟨x,0,(l.take 4000).foldl Dv (RowKit.wrap64 (10101+x.n))⟩
section
variable {H:Type} {enc:TypeId×Value->H} {P:Program} {W:World} {Θ:fV} {base:Nat}
theorem Bz[dE](hW:dE.w=W)(hΘ:ek P Θ){f:FuncId}{G:gC.D [.ty .h] ->Option (gm.D [.b])}(he:kC P f (vZ [.ty .h] [.b] G))(hG: ∀ (x:Hd) l,kQ x=some l->l.length<=maxLen->(∀c∈l,0<=c/\c<=255)->G (x,())=some (true,()))
  {ts:List TypeId} {vs:List Value} {ds:List (DataW H)} {p:List MemPlace} (hp:pW P Θ ts [.ls (.i .u8)] =true) (hv: ∀ (j:Nat) t v,ts[j]? =some t->vs[j]? =some v->Value.okWide P W .any base t v) (h:DataW.TrodAll enc P W 0 (λ_=>true) true ts vs ds p) (hk:Nat.blt f 1048576=true:=by rfl):
  Calls P f vs.toArray W λe W'=>e= .returned (.bool true)/\Below W.heap.size W W':=by
 let bt:Bt:=⟨λ_=>(0,0),λ_=>0,λ_=>0,0,0,λb=>b<W.heap.size⟩
 obtain⟨⟨l,u⟩,h1,h2,h3,_⟩:=uU (bt:=bt) hΘ rfl hp hv h
 match vs,h1,h2 with
 | [v0],_,h2=>
   have hvr:VR W bt (.ro 1 (l.map λn=> [T.sc (.int .u8 n)])) v0:=h2 0 _ v0 rfl rfl
   have hbd:l.length<=maxLen/\ ∀c∈l,0<=c/\c<=255:=by
    have:=h3 (.sl 1 (l.map λn=> [T.sc (.int .u8 n)])) (aL.2 rfl);cases this with
    |sl hl hr=>
     refine⟨by simpa using hl,λc hc=> ?_⟩;have:=hr [T.sc (.int .u8 c)] (aG.2 ⟨c,hc,rfl⟩) _ aK;cases this with
     |int h=>exact h
   obtain⟨x,hx,hb⟩: ∃x:Hd,v0= .slice x.a x.n x.c/\kQ x=some l:=by
    cases hvr with
    |ro hro=>
     generalize hrows:l.map (λn=> [T.sc (.int .u8 n)])=rows at hro;cases hro with
     |em _ a cap=>have :l= [] :=List.map_eq_nil_iff.1 hrows;subst this;exact⟨⟨a,0,cap⟩,rfl,rfl⟩
     |sl cs hc hs hA' hl hr' ht=>
      rename_i ad cap hu;have hlen:rows.length=l.length:=by rw[<-hrows,aH]
      refine⟨⟨some ad,rows.length,cap⟩,rfl,?_⟩;unfold kQ;simp only;split
      ·rename_i h0;rw[hlen] at h0;rw[bc h0]
      ·refine sJ (by simpa using hlen) λk a c ha hc=> ?_
       have hak:a=k:=by have:=ai.1 ha;obtain⟨q1,q2⟩:=this;simp at q2;exact q2.symm
       subst hak;have hrow:rows[a]? =some [T.sc (.int .u8 c)] :=by rw[<-hrows,aw,hc];rfl
       have g1:=hr' a _ 0 _ hrow rfl;have g2:=ht a _ 0 _ hrow rfl;rw[Nat.mul_one,bI] at g1;rw[hW];generalize cs a 0=u at g1 g2;cases g2 with
       |sc _=>rw[g1]
   subst hx;have hg:=hG x l hb hbd.1 hbd.2
   obtain⟨res,out,k1,k2,k3⟩:=he (fP [.ty .h] (x,())) (V×List dJ) (λv g=>some (v,g)) (.v (.cl (.c (.sc (.bool true)))),[]) (by show (G (x,())).bind _=_;rw[hg];rfl)
   cases k3
   have:=k1.fn (ax hk) W (λ_=>False) bt [.slice x.a x.n x.c] (vl ⟨by rw[hW];exact az _,λb _=>⟨by rw[hW],λh=>h⟩⟩ bt λb hb=>hb) rfl (λk v u hk hu=>by
    cases k with
    |zero=>have hk:some (AV.sc (.slice x.a x.n x.c))=some v:=hk;cases hk;cases hu;exact .sc rfl
    |succ k=>cases hu)
   refine this.2.mono λe W' hx=> ?_;obtain⟨v,btn,rfl,hI,_,_,hvr⟩:=hx;refine⟨?_,i9 hI⟩;cases hvr with
   |sc=>rfl
end
end
section
open Go Go.RowKit
theorem A0(v:Value): ∀ (l:List (Nat×Nat)) (s:Nat) (rs:List (List T)),(T.sc v).go l≠ .sl s rs:=λl s rs h=>by
 cases l with
 |nil=>cases h
 |cons x l=>
  have h':T.dd.go l= .sl s rs:=h
  have : ∀l:List (Nat×Nat),T.dd.go l= .dd:=λl=>by
   induction l with
   |nil=>rfl
   |cons x l ih=>exact ih
  rw[this] at h';cases h'
theorem gF{n:Nat}{rows:List (List T)}(hf: ∀r∈rows,∀x∈r,∃v,x=T.sc v){p:dM}{s:Nat}{rs:List (List T)}(h: (gv [.sl n rows]).look p= .sl s rs):p=⟨0,[]⟩/\s=n/\rs=rows:=by
 obtain⟨r,l⟩:=p;cases r with
 |succ r=>exact absurd h (by simp[St.look,gv])
 |zero=>
  cases l with
  |nil=>have h:T.sl n rows= .sl s rs:=h;cases h;exact⟨rfl,rfl,rfl⟩
  |cons x l=>
   obtain⟨i,j⟩:=x;have h: ((rows.getD i []).getD j .dd).go l= .sl s rs:=h;generalize hr:rows.getD i [] =r0 at h;by_cases hj:j<r0.length
   ·have hi:i<rows.length:=by
     by_cases hi:i<rows.length
     ·exact hi
     ·rw[aB,cx (by omega)] at hr;subst hr;cases hj
    obtain⟨v,hv⟩:=hf r0 (by rw[<-hr,aB,aq hi];exact List.getElem_mem hi) r0[j] (List.getElem_mem hj);rw[aB,aq hj,aV,hv] at h;exact absurd h (A0 v l s rs)
   ·rw[aB,cx (by omega)] at h;exact absurd (show (T.sc undef).go ((0,0)::l)= .sl s rs from h) (A0 _ _ _ _)
theorem fJ(c:qi): ∀r∈ [ga c],∀x∈r,∃v,x=T.sc v:=λr hr x hx=>by rw[aL.1 hr] at hx;simp only[ga,aZ,List.not_mem_nil,or_false] at hx;rcases hx with rfl|rfl|rfl<;>exact⟨_,rfl⟩
theorem mf[dE]{w:World}{W:Nat->Prop}(h:tO w W){a:Addr}{v:Value}(hc:dE.w.cell? a=some v):w.cell? a=some v/\ ¬W a.block:=by
 have hb:a.block<dE.w.heap.size:=by
  unfold World.cell? at hc;cases hh:dE.w.heap[a.block]? with
  |none=>rw[hh] at hc;simp at hc
  |some o=>exact (aD.1 hh).1
 exact⟨by rw[kL (h.2 _ hb).1,hc],(h.2 _ hb).2⟩
def jB(cs:Array Value)(O:Nat)(c:qi):Prop:=cs[O]? =some (.slice c.b.a c.b.n c.b.c)/\cs[O+1]? =some (.int .i64 c.i)/\cs[O+2]? =some (.int .i64 c.h)
theorem jB.blk{w:World}{bt:Bt}{cs:Array Value}{e:TypeId}{c:qi}(h:jB cs (bt.β ⟨0,[]⟩).2 c)(hh:w.heap[(bt.β ⟨0,[]⟩).1]? =some (.cells cs e (0,0)))(hk:Dg (bt.β ⟨0,[]⟩).2 (bt.κ ⟨0,[]⟩) 3 cs.size)(hone: ∀ (k:Nat) (u:Value),cs[k]? =some u->u.oneCell'=true):yT w bt ⟨0,[]⟩ 3 [ga c] :=
 ⟨cs,e,hh,hk,hone,λi r hr=>by
  cases i with
  |succ i=>simp at hr
  |zero=>
   cases hr;refine⟨rfl,λj x hx=> ?_⟩
   match j,hx with
   | 0,hx=>cases hx;exact⟨_,by simpa using h.1,.sc rfl⟩
   | 1,hx=>cases hx;exact⟨_,by simpa using h.2.1,.sc rfl⟩
   | 2,hx=>cases hx;exact⟨_,by simpa using h.2.2,.sc rfl⟩
   |j+3,hx=>simp[ga] at hx⟩
theorem jB.of_blk{w:World}{bt:Bt}{c:qi}(h:yT w bt ⟨0,[]⟩ 3 [ga c]): ∃cs e,w.heap[(bt.β ⟨0,[]⟩).1]? =some (.cells cs e (0,0))/\Dg (bt.β ⟨0,[]⟩).2 (bt.κ ⟨0,[]⟩) 3 cs.size/\(∀ (k:Nat) (u:Value),cs[k]? =some u->u.oneCell'=true)/\jB cs (bt.β ⟨0,[]⟩).2 c:=by
 obtain⟨cs,e,h1,h2,h3,h4⟩:=h;obtain⟨_,h5⟩:=h4 0 (ga c) rfl
 have fB: ∀ (j:Nat) (v:Value),(ga c)[j]? =some (.sc v)->cs[(bt.β ⟨0,[]⟩).2+j]? =some v:=λj v hj=>by obtain⟨u,q1,q2⟩:=h5 j _ hj;rw[bQ,aP] at q1;cases q2;exact q1
 exact⟨cs,e,h1,h2,h3,fB 0 _ rfl,fB 1 _ rfl,fB 2 _ rfl⟩
theorem z6[dE]{w0 w w':World}{W:Nat->Prop}{bt:Bt}{c c':qi}(hI:eh w0 W bt (gv [.sl 3 [ga c]]) w)(hos:w'.os=w.os)(ht:w'.tape=w.tape)(ho:w'.output=w.output)(hs:w'.heap.size=w.heap.size)(hk: ∀b,b≠(bt.β ⟨0,[]⟩).1->w'.heap[b]? =w.heap[b]?)(hb:yT w' bt ⟨0,[]⟩ 3 [ga c']):eh w0 W bt (gv [.sl 3 [ga c']]) w':=by
 obtain⟨h1,h2⟩:=hI.tr ⟨0,[]⟩ 3 [ga c] rfl;have hκ:0<bt.κ ⟨0,[]⟩:=h1
 exact { good:=hI.good,os:=hos.trans hI.os,tape:=ht.trans hI.tape,output:=ho.trans hI.output,size:=by rw[hs];exact hI.size
         keep:=λb hb hw=>(hk b λe=>by rcases (h2 hκ).1 with h|h;·omega
                                      ·exact hw (e ▸ h)).trans (hI.keep b hb hw)
         nb:=hI.nb,ng:=hI.ng
         bx:=λn cells h=>by cases h
         gh:=λr t h=>(ai.1 h).1
         tr:=λp s rs h=>by obtain⟨rfl,rfl,rfl⟩:=gF (fJ c') h;exact⟨h1,λhk=>⟨(h2 hk).1,hb⟩⟩
         inj:=λp q s rs s' rs' hp hq _ _ _=>by rw[(gF (fJ c') hp).1,(gF (fJ c') hq).1]
         bbinj:=λn m cs cs' h=>by cases h
         bbtr:=λn cs p s rs h=>by cases h
         alt:=λb hb=>by rw[hs];exact hI.alt b hb
         atr:=λp s rs h hk=>by obtain⟨rfl,rfl,rfl⟩:=gF (fJ c') h;exact hI.atr ⟨0,[]⟩ 3 [ga c] rfl hk
         abb:=λn cs h=>by cases h }
theorem C5{w w1:World}{b O:Nat}{cs:Array Value}{e:TypeId}{c:qi}{i h:Int}(hb:w.heap[b]? =some (.cells cs e (0,0)))(hc:jB cs O c)
  (h1:w1.heap=((w.setCell ⟨b,O+2,none⟩ (.int .i64 h)).setCell ⟨b,O+1,none⟩ (.int .i64 i)).heap\/(i=c.i/\w1.heap=(w.setCell ⟨b,O+2,none⟩ (.int .i64 h)).heap)):
  w1.heap.size=w.heap.size/\(∀k,k≠b->w1.heap[k]? =w.heap[k]?)/\ ∃cs',w1.heap[b]? =some (.cells cs' e (0,0))/\cs'.size=cs.size/\jB cs' O ⟨c.b,i,h⟩/\ ∀k,(k<O\/O+3<=k)->cs'[k]? =cs[k]? :=by
 have hlt:=(aD.1 hc.2.2).1;have far: ∀ (k:Nat),(k<O\/O+3<=k)->O+1≠k/\O+2≠k:=λk hk=>by omega
 rcases h1 with h1| ⟨rfl,h1⟩
 ·rw[h1];refine⟨by simp[World.setCell],λk hk=>by simp[World.setCell,cN,Ne.symm hk],(cs.setIfInBounds (O+2) (.int .i64 h)).setIfInBounds (O+1) (.int .i64 i),by simp[World.setCell,cN,hb],by simp,⟨?_,?_,?_⟩,λk hk=> ?_⟩
  ·simp[bf,hc.1]
  ·simp[bf];omega
  ·simp[bf];omega
  ·simp[bf,(far k hk).1,(far k hk).2]
 ·rw[h1];refine⟨by simp[World.setCell],λk hk=>by simp[World.setCell,cN,Ne.symm hk],cs.setIfInBounds (O+2) (.int .i64 h),by simp[World.setCell,cN,hb],by simp,⟨?_,?_,?_⟩,λk hk=> ?_⟩
  ·simp[bf,hc.1]
  ·simp[bf,hc.2.1]
  ·simp[bf];omega
  ·simp[bf,(far k hk).2]
def Dq(G:qi->Option (qi×Int))(l:List qi):Option (List qi×Int×Unit):=match l with
 | [c] =>(G c).map λy=>([y.1],y.2,())
 | _=>none
def DN[dE]{P:Program}(f:FuncId)(hk:Nat.blt f 1048576=true)(enter: ∀ (args:Array Value) (w:World),(callFunc f args).run P w= .ok (.enter f args) w)(G:qi->Option (qi×Int))
    (h: ∀c y,G c=some y-> ∀ (w:World) (b O:Nat) (cs:Array Value) (e:TypeId),(∀a v,dE.w.cell? a=some v->w.cell? a=some v/\a.block≠b)->w.heap[b]? =some (.cells cs e (0,0))->jB cs O c->
      Calls P f #[.pointer (some ⟨b,O,none⟩)] w λr w'=>r= .returned (.int .i64 y.2)/\w'.os=w.os/\w'.tape=w.tape/\w'.output=w.output/\w'.heap.size=w.heap.size/\(∀k,k≠b->w'.heap[k]? =w.heap[k]?)/\ ∃cs',w'.heap[b]? =some (.cells cs' e (0,0))/\cs'.size=cs.size/\jB cs' O y.1/\ ∀k,(k<O\/O+3<=k)->cs'[k]? =cs[k]?):rk P:=
 ⟨oE f,rN (.st .cur) [] [.i .i64] (λl _=>Dq G l),by
  intro args ρ κ r hr;unfold rN at hr;split at hr
  ·rename_i t l tl;split at hr
   ·rename_i l' hl;obtain⟨e,hl⟩:=eD hl;subst e;have hl:l=l':=hl;subst hl;obtain⟨x,hn,hr2⟩:=gl hr;obtain⟨y,h1,hr3⟩:=ah.1 hr2;refine⟨_,_,.of_pt ⟨_,l,_,rfl,eV.norm (tK.cons (.inl rfl) hn) ?_⟩ (ax hk),qX _ _ (fR [.i .i64] y.2),hr3⟩
    match l,h1 with
    | [],h1=>cases h1
    | _::_::_,h1=>cases h1
    | [c],h1=>
      obtain⟨z,h2,rfl⟩:=aj.1 h1;intro w W bt0 vals hI hlen hv
      match vals,hlen with
      | [v0],_=>
        have hv0:VR w bt0 (.ptrT ⟨0,[]⟩ 3 0 0) v0:=hv 0 _ v0 rfl rfl;cases hv0 with
        |ptrT _ _ _ hp hκ=>
         have hI:eh w W bt0 (gv [.sl 3 [ga c]]) w:=hI;obtain⟨_,g⟩:=hI.tr ⟨0,[]⟩ 3 [ga c] rfl;obtain⟨cs,e,q1,q2,q3,q4⟩:=jB.of_blk (g hκ).2;refine⟨enter _ _,(h c z h2 w _ _ cs e (λa v hc=>⟨(mf hI.good hc).1,λe=> ?_⟩) q1 q4).mono ?_⟩
         ·have hlt:=(aD.1 q1).1;rcases (g hκ).1 with h|h
          ·omega
          ·exact (mf hI.good hc).2 (e ▸ h)
         rintro r w' ⟨rfl,a1,a2,a3,a4,a5,cs',a6,a7,a8,a9⟩
         refine⟨_,bt0,rfl,z6 hI a1 a2 a3 a4 a5 (a8.blk a6 (by rw[a7];exact q2) λk u hu=> ?_),az _,λ_ _=>⟨rfl,rfl⟩,.sc rfl⟩;generalize (bt0.β ⟨0,[]⟩).2=O at a8 a9;by_cases k0:k<O\/O+3<=k
         ·exact q3 k u (by rw[<-a9 k k0];exact hu)
         ·obtain rfl|rfl|rfl:k=O\/k=O+1\/k=O+2:=by omega
          ·rw[a8.1] at hu;cases hu;rfl
          ·rw[a8.2.1] at hu;cases hu;rfl
          ·rw[a8.2.2] at hu;cases hu;rfl
   ·cases hr
  ·cases hr⟩
def DL[dE]{P:Program}(f:FuncId)(hk:Nat.blt f 1048576=true)(enter: ∀ (args:Array Value) (w:World),(callFunc f args).run P w= .ok (.enter f args) w)(G:Hd->Option qi)
    (h: ∀x c,G x=some c-> ∀ (w:World),(∀a v,dE.w.cell? a=some v->w.cell? a=some v)->
      Calls P f #[.slice x.a x.n x.c] w λr w'=> ∃b cs e,r= .returned (.pointer (some ⟨b,0,none⟩))/\Below w.heap.size w w'/\w.heap.size<=b/\w'.heap[b]? =some (.cells cs e (0,0))/\cs.size=3/\jB cs 0 c):rk P:=
 ⟨f,Ci (.st .cur) [.ty .h] [] (λx=>(G x.1).map λc=>([c],())),by
   intro args ρ κ r hr;unfold Ci at hr;obtain⟨x,hn,hr2⟩:=gl hr;obtain⟨y,h1,hr3⟩:=ah.1 hr2;obtain⟨c,h2,rfl⟩:=aj.1 h1;refine⟨.v (.cl (.ptrT ⟨0,[]⟩ 3 0 0)),[⟨.st .cur,[c],none⟩],.of_fn (ig.norm hn ?_) (ax hk),Nat.succ_pos 0,hr3⟩;intro w W bt0 vals hI hlen hv
   match vals,hlen with
   | [v0],_=>
     have hv0:VR w bt0 (.sc (.slice x.1.a x.1.n x.1.c)) v0:=hv 0 _ v0 rfl rfl;cases hv0 with
     |sc _=>
      refine⟨enter _ _,(h x.1 c h2 w λa v hc=>(mf hI.good hc).1).mono ?_⟩
      rintro r w' ⟨b,cs,e,rfl,a1,a2,a3,a4,a5⟩
      let btn:Bt:={ bt0 with β:=λ_=>(b,0),κ:=λp=>if p.l= [] then 1 else 0,ng:=1 }
      refine⟨_,btn,rfl,?_,bO _,λp hp=>absurd hp (Nat.not_lt_zero _),.ptrT (bt:=btn) 3 0 0 Nat.one_pos Nat.one_pos⟩
      exact { good:=hI.good,os:=a1.os,tape:=a1.tape,output:=a1.output,size:=a1.size,keep:=λb hb _=>a1.block b hb,nb:=hI.nb,ng:=rfl
              bx:=λn cells h=>by cases h
              gh:=λr t h=>(ai.1 h).1
              tr:=λp s rs h=>by
               obtain⟨rfl,rfl,rfl⟩:=gF (fJ c) h;refine⟨az _,λ_=>⟨.inl a2,jB.blk (bt:=btn) a5 a3 ⟨by rw[a4];exact az _,.inl rfl⟩ λk u hu=> ?_⟩⟩
               match k,hu with
               | 0,hu=>rw[a5.1] at hu;cases hu;rfl
               | 1,hu=>rw[a5.2.1] at hu;cases hu;rfl
               | 2,hu=>rw[a5.2.2] at hu;cases hu;rfl
               |k+3,hu=>rw[Array.getElem?_eq_none (by omega)] at hu;cases hu
              inj:=λp q s rs s' rs' hp hq _ _ _=>by rw[(gF (fJ c) hp).1,(gF (fJ c) hq).1]
              bbinj:=λn m cs cs' h=>by cases h
              bbtr:=λn cs p s rs h=>by cases h
              alt:=λb hb=>aM (hI.alt b hb) a1.size
              atr:=λp s rs h _ hA=>by have :b<w.heap.size:=hI.alt b hA;omega
              abb:=λn cs h=>by cases h }⟩
end
end Go.Proofs.YtkghndikalnipaaGreat.En
