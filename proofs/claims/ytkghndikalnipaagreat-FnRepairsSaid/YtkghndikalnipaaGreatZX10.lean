import Derived.Test.YtkghndikalnipaaGreatZX9
import Derived.Test.YtkghndikalnipaaGreatZX6
import Derived.Shelf.RegionOpenPlain
import Derived.WalkKit
import Derived.Lib.Walk
import Derived.Lib.SliceRun
import Derived.Laws.Externs
import Derived.Laws.IdiomCopy
import Derived.Lib.Strings
import Derived.Lib.Slices
import Derived.Lib.Bytealg
set_option linter.unusedSimpArgs false
set_option linter.unusedVariables false
namespace Go.Proofs.YtkghndikalnipaaGreat.En
section
open Go
structure pX [dp] (P:Program) where
 n:Nat
 e:rS
 ok:jS P n e
structure s9 [dp] (P:Program) where
 c:Code
 e:s8
 ok:vg P c e
structure LX where
 L:jR
 x:List (X×jR)
 g:List rU
 k:List Nat
 kx:List Nat
abbrev LX.S(m:LX):Type:=m.L.D
abbrev LX.R(m:LX):Type:=Option (m.L.D⊕kG.D m.x)
theorem tm: (∀ (α β:Type) (b:Bool) (x y:Option α) (f:α->Option β),(br b x y).bind f=br b (x.bind f) (y.bind f))/\(∀ (α β:Type) (c:Prop) (_:Decidable c) (x y:Option α) (f:α->Option β),(iteP c x y).bind f=iteP c (x.bind f) (y.bind f))/\(∀ (α β:Type) (f:α->Option β),(none:Option α).bind f=none)/\(∀ (α β:Type) (a:α) (f:α->Option β),(some a).bind f=f a)/\(∀ (α β γ:Type) (x:Option α) (f:α->Option β) (g:β->Option γ),(x.bind f).bind g=x.bind λa=>(f a).bind g)/\(∀ (α β γ δ:Type) (x:α⊕β) (f:α->Option γ) (g:β->Option γ) (h:γ->Option δ),(Sum.elim f g x).bind h=Sum.elim (λa=>(f a).bind h) (λa=>(g a).bind h) x)/\(∀ (α β γ:Type) (f:α->γ) (g:β->γ) (a:α),Sum.elim f g (.inl a)=f a)/\ ∀ (α β γ:Type) (f:α->γ) (g:β->γ) (b:β),Sum.elim f g (.inr b)=g b:=
 ⟨λ_ _ b _ _ _=>by cases b<;>rfl,λ_ _ c _ _ _ _=>by unfold iteP;split<;>rfl,λ_ _ _=>rfl,λ_ _ _ _=>rfl,λ_ _ _ x _ _=>by cases x<;>rfl,λ_ _ _ _ x _ _ _=>by cases x<;>rfl,λ_ _ _ _ _ _=>rfl,λ_ _ _ _ _ _=>rfl⟩
def v4:Code->List Nat->Code
 |c,[] =>c
 |c,i::l=>v4 (zM c i) l
section
variable {P:Program} {Θ:fw}
def rJ[dp]:List (pX P)->List (Nat×rS)
 | [] => []
 |k::l=>(k.n,k.e)::rJ l
theorem jO[dp]: ∀l:List (pX P),eY P (oc (rJ l))
 | [] =>yE P
 |k::l=>wQ k.ok (jO l)
def nM[dp]:List (s9 P)->List (Nat×s8)
 | [] => []
 |q::l=>(eX q.c,q.e)::nM l
def fH[dp]:List (s9 P)->List Code
 | [] => []
 |q::l=>q.c::fH l
def ni:List Code->Bool
 | [] =>true
 |c::l=>l.all (λd=> !Nat.beq (eX c) (eX d))&&ni l
theorem uc[dp]: ∀l:List (s9 P),ni (fH l)=true->eh P (m8 (nM l)) (fH l)
 | [],_=>λc hc=>by cases hc
 |q::l,h=>by
  simp only[fH,ni,aj,au] at h;intro c hc S ρ κ r hS hr;have hr: (bif Nat.beq (eX q.c) (eX c) then q.e S ρ κ else m8 (nM l) (eX c) S ρ κ)=some r:=hr;rcases aW.1 hc with rfl|hc
  ·rw[cy] at hr;exact q.ok S ρ κ r hS hr
  ·have hb:Nat.beq (eX q.c) (eX c)=false:=by simpa using h.1 c hc
   rw[hb] at hr;exact uc l h.2 c hc S ρ κ r hS hr
theorem qs[dp]{Λ:List (s9 P)}{cs:List Code}(h:cs=fH Λ)(hn:ni (fH Λ)=true):eh P (m8 (nM Λ)) cs:=by rw[h];exact uc Λ hn
theorem kE{α β:Type}{a a':α}{b b':β}(h: (a,b)=(a',b')):a=a'/\b=b':=by cases h;exact⟨rfl,rfl⟩
theorem rV{a b:Bool}(h: (a&&b)=true):a=true/\b=true:=by simpa using h
variable (hΘ:dR P Θ) (hm:P.follows .mixedOrders=true)
noncomputable def Ci[dp](fn:Func)(p:List Nat)(m:LX)(B:m.S->m.R)(Y:List (pX P))(Λ:List (s9 P))(h: (dL (v4 (fY fn) p),((fe P (v4 (fY fn) p))&&(m.L.fit&&m.x.all AB))&&ni (fH Λ))=(fH Λ,true))
  (hB: ∀s,(B s).bind (Sum.elim (λs'=>some (X.nor,m.L.mk' s')) λe=>some (kG.e m.x e))=lr Θ (oc (rJ Y)) (m8 (nM Λ)) (v4 (fY fn) p) (m.L.mk' s) (rK m.k m.kx λx S=>some (x,S))):s9 P:=
 ⟨v4 (fY fn) p,vV m.g m.k m.L m.x (mu B),vW hΘ (jO Y) hm (rV (rV (kE h).2).1).1 (qs (kE h).1 (rV (kE h).2).2) m.g m.k m.kx m.L m.x (rV (rV (kE h).2).1).2 B (λs=>(hB s).symm) (mu B) (zL B) (uM B)⟩
theorem vb[dp]{f:FuncId}{fn:Func}{Λ:List (s9 P)}(h: (pY P f,dL (fY fn),Nat.blt f 1048576&&ni (fH Λ))=(some fn,fH Λ,true)):pY P f=some fn/\(∀c,fn.body=some c->eh P (m8 (nM Λ)) (dL c))/\Nat.blt f 1048576=true:=
 have h2:=kE (kE h).2
 ⟨(kE h).1,AF h2.1 (qs rfl (rV h2.2).2),(rV h2.2).1⟩
noncomputable def B8[dp](f:FuncId)(fn:Func)(ps:List jx)(rs:List Ty)(F:fV.D ps->Option (fK.D rs))(Y:List (pX P))(Λ:List (s9 P))(h: (pY P f,dL (fY fn),Nat.blt f 1048576&&ni (fH Λ))=(some fn,fH Λ,true))
  (hF: ∀x,(F x).bind (λy=>ret (fr rs y) λv g=>some (v,g))=Bl Θ (oc (rJ Y)) (m8 (nM Λ)) fn (fp ps x) λv g=>some (v,g)):pX P:=
 ⟨f,ux ps rs F,xE hΘ (jO Y) hm (vb h).1 (vb h).2.1 (vb h).2.2 F (λx=>(hF x).symm) λ_ _ h=>h⟩
noncomputable def Cc[dp](f:FuncId)(fn:Func)(el:Ty)(ps:List jx)(rs:List Ty)(F:List el.D->fV.D ps->Option (fK.D rs))(Y:List (pX P))(Λ:List (s9 P))(h: (pY P f,dL (fY fn),Nat.blt f 1048576&&ni (fH Λ))=(some fn,fH Λ,true))
  (hF: ∀l x,(F l x).bind (λy=>ret (fr rs y) λv g=>some (v,g))=vJ Θ (oc (rJ Y)) (m8 (nM Λ)) fn 0 el l (fp ps x) λv g=>some (v,g)):pX P:=
 ⟨og f,zw el ps rs F,xD (vb h).2.2 hΘ (jO Y) hm (vb h).1 (vb h).2.1 F (λl x=>(hF l x).symm) λ_ _ _ h=>h⟩
noncomputable def Cb[dp](f:FuncId)(fn:Func)(el:Ty)(ps:List jx)(rs:List Ty)(F:List el.D->fV.D ps->Option (List el.D×fK.D rs))(Y:List (pX P))(Λ:List (s9 P))(h: (pY P f,dL (fY fn),Nat.blt f 1048576&&ni (fH Λ))=(some fn,fH Λ,true))
  (hF: ∀l x,(F l x).bind (λy=>wz el rs y λv g=>some (v,g))=vJ Θ (oc (rJ Y)) (m8 (nM Λ)) fn 1 el l (fp ps x) λv g=>some (v,g)):pX P:=
 ⟨mh f,qw el ps rs F,xC hΘ (jO Y) hm (vb h).1 (vb h).2.1 (vb h).2.2 F (λl x=>(hF l x).symm) λ_ _ _ h=>h⟩
noncomputable def Cd[dp](f:FuncId)(fn:Func)(el:Ty)(ps:List jx)(rs:List Ty)(F:List el.D->fV.D ps->Option (List el.D×fK.D rs))(Y:List (pX P))(Λ:List (s9 P))(h: (pY P f,dL (fY fn),Nat.blt f 1048576&&ni (fH Λ))=(some fn,fH Λ,true))
  (hF: ∀l x,(F l x).bind (λy=>wz el rs y λv g=>some (v,g))=zB Θ (oc (rJ Y)) (m8 (nM Λ)) fn el l (fp ps x) λv g=>some (v,g)):pX P:=
 ⟨ny f,qw el ps rs F,xF hΘ (jO Y) hm (vb h).1 (vb h).2.1 (vb h).2.2 F (λl x=>(hF l x).symm) λ_ _ _ h=>h⟩
abbrev BD(t:Ty)(y:List t.D×Unit):Option (V×List dx):=ret (fr [.ls t] y) λv g=>some (v,g)
abbrev BZ(t:Ty)(n:Nat)(l:List t.D):Option (V×List dx):=iteP ((([]:List t.D)++l).length*n<=2 ^ 40) (BD t (([]:List t.D)++l,())) none
noncomputable def B9[dp](f:FuncId)(fn:Func)(t:Ty)(n:Nat)(F:List t.D->Option (List t.D×Unit))(h: (pY P f,dL (fY fn),Nat.blt f 1048576&&ni (fH ([]:List (s9 P))))=(some fn,fH ([]:List (s9 P)),true))
  (h1: ∀l,F l=iteP (l.length*n<=2 ^ 40) (some (l,())) none)
  (h2: ∀x:fV.D [.ty (.ls t)],Bl Θ (oc (rJ ([]:List (pX P)))) (m8 (nM ([]:List (s9 P)))) fn (fp [.ty (.ls t)] x) (λv g=>some (v,g))=zQ x.1 (xf (BD t ([],())) (BZ t n x.1) none) (BZ t n x.1)):pX P:=
 B8 hΘ hm f fn [.ty (.ls t)] [.ls t] (λx=>F x.1) [] [] h λx=>by rw[h2,h1];exact (xy x.1 n (BD t)).symm
def B3[dp](j g:Nat)(k1 k2:pX P)(h:k2.n=k1.n):pX P:=⟨k1.n,vB (AG j g) k1.e k2.e,vC k1.ok (h ▸ k2.ok)⟩
end
end
section
open Go Go.RowKit
theorem Ay{P:Program}{f:FuncId}{fn:Func}{c:Code}(hf:P.funcs[f]? =some fn)(hn: (fn.name== "runtime.NumGoroutine")=false)(hc:fn.body=some c)(args:Array Value)(w:World): (callFunc f args).run P w= .ok (.enter f args) w:=by
 have hname': ¬fn.name= "runtime.NumGoroutine" :=by simpa using hn
 simp[callFunc,hf,hname',hc]
end
section
open Go Go.RowKit
def Ty.scB:Ty->Bool| .i _=>true| .b=>true| .s=>true| .h=>true| _=>false
def jx.scB:jx->Bool| .ty t=>t.scB| _=>false
def Ty.val: (t:Ty)->t.D->Value| .i k,n=> .int k n| .b,y=> .bool y| .s,y=> .string y| .h,y=> .slice y.a y.n y.c| _,_=>undef
def jx.val: (p:jx)->p.D->Value| .ty t,x=>t.val x| _,_=>undef
def nT: (l:List jx)->fV.D l->List Value
 | [],_=> []
 |p::l,x=>p.val x.1::nT l x.2
def t9: (l:List Ty)->fK.D l->List Value
 | [],_=> []
 |t::l,x=>t.val x.1::t9 l x.2
def zf:List Value->Value| [v] =>v|l=> .tuple l.toArray
theorem ug{t:Ty}(h:t.scB=true)(x:t.D): (tf t x).av= .sc (t.val x)/\fW (t.val x)=true:=by
 cases t with
 |st n=>cases h
 |ls t=>cases h
 | _=>exact⟨rfl,rfl⟩
theorem yJ{t:Ty}(h:t.scB=true)(x:t.D)(n:Nat): (uV t x n).av= .sc (t.val x)/\gy (t.flat x)= [] :=by
 cases t with
 |st n=>cases h
 |ls t=>cases h
 | _=>exact⟨rfl,rfl⟩
theorem rM: ∀ (l:List jx),l.all jx.scB=true-> ∀x:fV.D l,(fp l x).map V1.av=(nT l x).map AV.sc
 | [],_,_=>rfl
 |p::l,h,x=>by
  simp only[bX,aj] at h;cases p with
  |ty t=>show (tf t x.1).av:: (fp l x.2).map V1.av= .sc (t.val x.1):: (nT l x.2).map AV.sc;rw[(ug h.1 x.1).1,rM l h.2 x.2]
  | _=>cases h.1
theorem rv: ∀ (l:List Ty),l.all Ty.scB=true-> ∀ (x:fK.D l) (n:Nat),(jY n (fr l x)).map V1.av=(t9 l x).map AV.sc/\i6 (fr l x)= []
 | [],_,_,_=>⟨rfl,rfl⟩
 |t::l,h,x,n=>by
  simp only[bX,aj] at h;obtain⟨h1,h2⟩:=yJ h.1 x.1 n;obtain⟨h3,h4⟩:=rv l h.2 x.2 (n+(gy (t.flat x.1)).length);constructor
  ·show (uV t x.1 n).av::_= .sc (t.val x.1)::_;rw[h1];exact congrArg _ h3
  ·show gy (t.flat x.1)++i6 (fr l x.2)= [];rw[h2,h4];rfl
theorem nF: ∀ (l:List Ty),l.all Ty.scB=true-> ∀ (x:fK.D l),∀v∈t9 l x,fW v=true
 | [],_,_,v,hv=>by cases hv
 |t::l,h,x,v,hv=>by
  simp only[bX,aj] at h;rcases aW.1 hv with rfl|hv
  ·exact (ug h.1 x.1).2
  ·exact nF l h.2 x.2 v hv
theorem uJ[dp]{w w':World}{W:Nat->Prop}{bt:Bt}(hI:dQ w W bt (fQ []) w)(h:Below w.heap.size w w'):dQ w W bt (fQ []) w':=
 { good:=hI.good,os:=h.os,tape:=h.tape,output:=h.output,size:=h.size,keep:=λb hb _=>h.block b hb,nb:=hI.nb,ng:=hI.ng
   bx:=λn cells h=>by cases h
   gh:=λr t h=>by simp[fQ] at h
   tr:=λp s rs h=>absurd h (fk p s rs)
   inj:=λp q s rs s' rs' h=>absurd h (fk p s rs)
   bbinj:=λn m cs cs' h=>by cases h
   bbtr:=λn cs p s rs h=>by cases h
   alt:=λb hb=>aJ (hI.alt b hb) h.size
   atr:=λp s rs h=>absurd h (fk p s rs)
   abb:=λn cs h=>by cases h }
theorem yl(vs:List V1)(l:List Value)(h:vs.map V1.av=l.map AV.sc)(hs: ∀v∈l,fW v=true)(w:World)(bt:Bt):VR w bt (pG vs).av (zf l):=by
 have tup: ∀ (vs:List V1) (l:List Value),vs.map V1.av=l.map AV.sc->(∀v∈l,fW v=true)->VR w bt (.tup (vs.map V1.av)) (.tuple l.toArray):=λvs l h hs=>by rw[h];refine .tup (by simp) λk c u h1 h2=> ?_;rw[aq,h2] at h1;cases h1;exact .sc (hs u (ax h2))
 match vs,l,h,hs with
 | [],[],_,_=>exact tup [] [] rfl (λv hv=>by cases hv)
 | [a],[v],h,hs=>
   have h:a.av= .sc v:=by simpa using h
   show VR w bt a.av v;rw[h];exact .sc (hs v aH)
 |a::b::vs,u::v::l,h,hs=>exact tup _ _ h hs
 | [],_::_,h,_=>cases h
 | _::_,[],h,_=>cases h
 | [_],_::_::_,h,_=>simp at h
 | _::_::_,[_],h,_=>simp at h
def Ca[dp]{P:Program}(f:FuncId)(hk:Nat.blt f 1048576=true)(enter: ∀ (args:Array Value) (w:World),(callFunc f args).run P w= .ok (.enter f args) w)(ps:List jx)(rs:List Ty)(hp:ps.all jx.scB=true)(hr:rs.all Ty.scB=true)(G:fV.D ps->Option (fK.D rs))
    (h: ∀x y,G x=some y-> ∀w,Calls P f (nT ps x).toArray w λe w'=>e= .returned (zf (t9 rs y))/\Below w.heap.size w w'):pX P:=
 ⟨f,ux ps rs G,by
   intro args ρ κ r hr';unfold ux at hr';obtain⟨x,hn,hr2⟩:=fJ hr';obtain⟨y,h1,hr3⟩:=af.1 hr2;obtain⟨a1,a2⟩:=rv rs hr y 0;refine⟨_,_,.of_fn (gD.norm hn ?_) (ar hk),sK _,hr3⟩;rw[rM ps hp x,a2];intro w W bt0 vals hI hl hv
   have e:vals=nT ps x:=by
    refine bu λk=> ?_;cases hk:vals[k]? with
    |none=>have:=List.getElem?_eq_none_iff.1 hk;rw[aF] at hl;rw[ck (by omega)]
    |some u=>
     have hlt:=(ah.1 hk).1;have hlt':k< (nT ps x).length:=by rw[aF] at hl;omega
     have g1:=ao hlt';have g2:=hv k (.sc (nT ps x)[k]) u (by rw[aq,g1];rfl) hk;cases g2 with
     |sc _=>exact g1.symm
   subst e;refine⟨enter _ w,(h x y h1 w).mono λe w' he=> ?_⟩;obtain⟨rfl,hb⟩:=he;exact⟨_,bt0,rfl,uJ hI hb,bL _,λp hp=>absurd hp (Nat.not_lt_zero _),yl _ _ a1 (nF rs hr y) w' bt0⟩⟩
end
section
open Go Go.ChangeShapes Go.WideShapes Go.RowKit
def kf[dp](x:Hd):Option (List Int):=if x.n=0 then some [] else match x.a with
 |some ad=>(List.range x.n).mapM λk=>match dp.w.cell? (ad.add k) with |some (.int .u8 m)=>some m| _=>none
 |none=>none
theorem q8{α β:Type}{f:α->Option β}: ∀ {l:List α} {m:List β},l.length=m.length->(∀ (k:Nat) a b,l[k]? =some a->m[k]? =some b->f a=some b)->l.mapM f=some m
 | [],[],_,_=>rfl
 |a::l,b::m,hl,h=>by rw[cu,h 0 a b rfl rfl,q8 (by simpa using hl) λk x y hx hy=>h (k+1) x y (by simpa using hx) (by simpa using hy)];rfl
theorem zG[dp]{x:Hd}{l:List Int}(h:kf x=some l):l.length=x.n/\ ∀ (k:Nat) c,l[k]? =some c-> ∃ad,x.a=some ad/\dp.w.cell? (ad.add k)=some (.int .u8 c):=by
 unfold kf at h;split at h
 ·rename_i h0;cases h;exact⟨h0.symm,λk c hk=>by simp at hk⟩
 ·split at h
  ·rename_i ad ha
   have eX: ∀ (n:Nat) (l0:List Nat) (m:List Int),l0.mapM (λk=>match dp.w.cell? (ad.add k) with |some (.int .u8 m)=>some m| _=>none)=some m->m.length=l0.length/\ ∀ (k:Nat) c j,m[k]? =some c->l0[k]? =some j->dp.w.cell? (ad.add j)=some (.int .u8 c):=by
    intro n l0
    induction l0 with
    |nil=>intro m hm;cases hm;exact⟨rfl,λk c j hk=>by simp at hk⟩
    |cons a l0 ih=>
     intro m hm;rw[cu] at hm;simp only[cK,af] at hm;obtain⟨b,h1,r,h2,h3⟩:=hm;cases h3;obtain⟨i1,i2⟩:=ih r h2;refine⟨by simp[i1],λk c j hk hj=> ?_⟩;cases k with
     |zero=>
      simp only[aG,ae] at hk hj;subst hk hj;split at h1
      ·rename_i hc;cases h1;exact hc
      ·cases h1
     |succ k=>exact i2 k c j (by simpa using hk) (by simpa using hj)
   obtain⟨k1,k2⟩:=eX 0 _ _ h;refine⟨by simpa using k1,λk c hk=>⟨ad,ha,k2 k c k hk ?_⟩⟩;have:=(ah.1 hk).1;rw[k1] at this;simp at this;simp[this]
  ·cases h
def xz(h:Int):Int:=RowKit.wrap64 (RowKit.wrap64 (h*6364136223846793005)+1442695040888963407)
def Aw(h:Int):Int:=bits .and .i64 (bits .xor .i64 (h / 8589934592) (h / 35184372088832)) 255
def Bh[dp](c:o0):Option (o0×Int):=if c.i< (c.b.n:Int) then (if 0<=c.i then ((kf c.b).bind λl=>l[c.i.toNat]?).map λm=>(⟨c.b,RowKit.wrap64 (c.i+1),xz c.h⟩,bits .and .i64 (RowKit.wrap64 (Aw (xz c.h)+RowKit.wrap64 m)) 255) else none) else some (⟨c.b,c.i,xz c.h⟩,Aw (xz c.h))
def BJ(h m:Int):Int:=bits .and .i64 (RowKit.wrap64 (RowKit.wrap64 (RowKit.wrap64 (h*131)+RowKit.wrap64 m)+7)) 1073741823
def BF[dp](x:Hd):Option o0:=(kf x).map λl=>⟨x,0,(l.take 4000).foldl BJ (RowKit.wrap64 (10101+x.n))⟩
section
variable {H:Type} {enc:TypeId×Value->H} {P:Program} {W:World} {Θ:fw} {base:Nat}
theorem zJ[dp](hW:dp.w=W)(hΘ:dR P Θ){f:FuncId}{G:fV.D [.ty .h] ->Option (fK.D [.b])}(he:jS P f (ux [.ty .h] [.b] G))(hG: ∀ (x:Hd) l,kf x=some l->l.length<=maxLen->(∀c∈l,0<=c/\c<=255)->G (x,())=some (true,()))
  {ts:List TypeId} {vs:List Value} {ds:List (DataW H)} {p:List MemPlace} (hp:oO P Θ ts [.ls (.i .u8)] =true) (hv: ∀ (j:Nat) t v,ts[j]? =some t->vs[j]? =some v->Value.okWide P W .any base t v) (h:DataW.TrodAll enc P W 0 (λ_=>true) true ts vs ds p) (hk:Nat.blt f 1048576=true:=by rfl):
  Calls P f vs.toArray W λe W'=>e= .returned (.bool true)/\Below W.heap.size W W':=by
 let bt:Bt:=⟨λ_=>(0,0),λ_=>0,λ_=>0,0,0,λb=>b<W.heap.size⟩
 obtain⟨⟨l,u⟩,h1,h2,h3,_⟩:=tg (bt:=bt) hΘ rfl hp hv h
 match vs,h1,h2 with
 | [v0],_,h2=>
   have hvr:VR W bt (.ro 1 (l.map λn=> [T.sc (.int .u8 n)])) v0:=h2 0 _ v0 rfl rfl
   have hbd:l.length<=maxLen/\ ∀c∈l,0<=c/\c<=255:=by
    have:=h3 (.sl 1 (l.map λn=> [T.sc (.int .u8 n)])) (aI.2 rfl);cases this with
    |sl hl hr=>
     refine⟨by simpa using hl,λc hc=> ?_⟩;have:=hr [T.sc (.int .u8 c)] (aD.2 ⟨c,hc,rfl⟩) _ aH;cases this with
     |int h=>exact h
   obtain⟨x,hx,hb⟩: ∃x:Hd,v0= .slice x.a x.n x.c/\kf x=some l:=by
    cases hvr with
    |ro hro=>
     generalize hrows:l.map (λn=> [T.sc (.int .u8 n)])=rows at hro;cases hro with
     |em _ a cap=>have :l= [] :=List.map_eq_nil_iff.1 hrows;subst this;exact⟨⟨a,0,cap⟩,rfl,rfl⟩
     |sl cs hc hs hA' hl hr' ht=>
      rename_i ad cap hu;have hlen:rows.length=l.length:=by rw[<-hrows,aF]
      refine⟨⟨some ad,rows.length,cap⟩,rfl,?_⟩;unfold kf;simp only;split
      ·rename_i h0;rw[hlen] at h0;rw[aY h0]
      ·refine q8 (by simpa using hlen) λk a c ha hc=> ?_
       have hak:a=k:=by have:=ah.1 ha;obtain⟨q1,q2⟩:=this;simp at q2;exact q2.symm
       subst hak;have hrow:rows[a]? =some [T.sc (.int .u8 c)] :=by rw[<-hrows,aq,hc];rfl
       have g1:=hr' a _ 0 _ hrow rfl;have g2:=ht a _ 0 _ hrow rfl;rw[Nat.mul_one,bF] at g1;rw[hW];generalize cs a 0=u at g1 g2;cases g2 with
       |sc _=>rw[g1]
   subst hx;have hg:=hG x l hb hbd.1 hbd.2
   obtain⟨res,out,k1,k2,k3⟩:=he (fp [.ty .h] (x,())) (V×List dx) (λv g=>some (v,g)) (.v (.cl (.c (.sc (.bool true)))),[]) (by show (G (x,())).bind _=_;rw[hg];rfl)
   cases k3
   have:=k1.fn (ar hk) W (λ_=>False) bt [.slice x.a x.n x.c] (tM ⟨by rw[hW];exact aw _,λb _=>⟨by rw[hW],λh=>h⟩⟩ bt λb hb=>hb) rfl (λk v u hk hu=>by
    cases k with
    |zero=>have hk:some (AV.sc (.slice x.a x.n x.c))=some v:=hk;cases hk;cases hu;exact .sc rfl
    |succ k=>cases hu)
   refine this.2.mono λe W' hx=> ?_;obtain⟨v,btn,rfl,hI,_,_,hvr⟩:=hx;refine⟨?_,iC hI⟩;cases hvr with
   |sc=>rfl
end
end
section
open Go Go.RowKit
theorem yX(v:Value): ∀ (l:List (Nat×Nat)) (s:Nat) (rs:List (List T)),(T.sc v).go l≠ .sl s rs:=λl s rs h=>by
 cases l with
 |nil=>cases h
 |cons x l=>
  have h':T.dd.go l= .sl s rs:=h
  have : ∀l:List (Nat×Nat),T.dd.go l= .dd:=λl=>by
   induction l with
   |nil=>rfl
   |cons x l ih=>exact ih
  rw[this] at h';cases h'
theorem fZ{n:Nat}{rows:List (List T)}(hf: ∀r∈rows,∀x∈r,∃v,x=T.sc v){p:dA}{s:Nat}{rs:List (List T)}(h: (fQ [.sl n rows]).look p= .sl s rs):p=⟨0,[]⟩/\s=n/\rs=rows:=by
 obtain⟨r,l⟩:=p;cases r with
 |succ r=>exact absurd h (by simp[St.look,fQ])
 |zero=>
  cases l with
  |nil=>have h:T.sl n rows= .sl s rs:=h;cases h;exact⟨rfl,rfl,rfl⟩
  |cons x l=>
   obtain⟨i,j⟩:=x;have h: ((rows.getD i []).getD j .dd).go l= .sl s rs:=h;generalize hr:rows.getD i [] =r0 at h;by_cases hj:j<r0.length
   ·have hi:i<rows.length:=by
     by_cases hi:i<rows.length
     ·exact hi
     ·rw[ay,ck (by omega)] at hr;subst hr;cases hj
    obtain⟨v,hv⟩:=hf r0 (by rw[<-hr,ay,ao hi];exact List.getElem_mem hi) r0[j] (List.getElem_mem hj);rw[ay,ao hj,aQ,hv] at h;exact absurd h (yX v l s rs)
   ·rw[ay,ck (by omega)] at h;exact absurd (show (T.sc undef).go ((0,0)::l)= .sl s rs from h) (yX _ _ _ _)
theorem fi(c:o0): ∀r∈ [fE c],∀x∈r,∃v,x=T.sc v:=λr hr x hx=>by rw[aI.1 hr] at hx;simp only[fE,aW,List.not_mem_nil,or_false] at hx;rcases hx with rfl|rfl|rfl<;>exact⟨_,rfl⟩
theorem ly[dp]{w:World}{W:Nat->Prop}(h:rT w W){a:Addr}{v:Value}(hc:dp.w.cell? a=some v):w.cell? a=some v/\ ¬W a.block:=by
 have hb:a.block<dp.w.heap.size:=by
  unfold World.cell? at hc;cases hh:dp.w.heap[a.block]? with
  |none=>rw[hh] at hc;simp at hc
  |some o=>exact (az.1 hh).1
 exact⟨by rw[j6 (h.2 _ hb).1,hc],(h.2 _ hb).2⟩
def ja(cs:Array Value)(O:Nat)(c:o0):Prop:=cs[O]? =some (.slice c.b.a c.b.n c.b.c)/\cs[O+1]? =some (.int .i64 c.i)/\cs[O+2]? =some (.int .i64 c.h)
theorem ja.blk{w:World}{bt:Bt}{cs:Array Value}{e:TypeId}{c:o0}(h:ja cs (bt.β ⟨0,[]⟩).2 c)(hh:w.heap[(bt.β ⟨0,[]⟩).1]? =some (.cells cs e (0,0)))(hk:Bv (bt.β ⟨0,[]⟩).2 (bt.κ ⟨0,[]⟩) 3 cs.size)(hone: ∀ (k:Nat) (u:Value),cs[k]? =some u->u.oneCell'=true):wZ w bt ⟨0,[]⟩ 3 [fE c] :=
 ⟨cs,e,hh,hk,hone,λi r hr=>by
  cases i with
  |succ i=>simp at hr
  |zero=>
   cases hr;refine⟨rfl,λj x hx=> ?_⟩
   match j,hx with
   | 0,hx=>cases hx;exact⟨_,by simpa using h.1,.sc rfl⟩
   | 1,hx=>cases hx;exact⟨_,by simpa using h.2.1,.sc rfl⟩
   | 2,hx=>cases hx;exact⟨_,by simpa using h.2.2,.sc rfl⟩
   |j+3,hx=>simp[fE] at hx⟩
theorem ja.of_blk{w:World}{bt:Bt}{c:o0}(h:wZ w bt ⟨0,[]⟩ 3 [fE c]): ∃cs e,w.heap[(bt.β ⟨0,[]⟩).1]? =some (.cells cs e (0,0))/\Bv (bt.β ⟨0,[]⟩).2 (bt.κ ⟨0,[]⟩) 3 cs.size/\(∀ (k:Nat) (u:Value),cs[k]? =some u->u.oneCell'=true)/\ja cs (bt.β ⟨0,[]⟩).2 c:=by
 obtain⟨cs,e,h1,h2,h3,h4⟩:=h;obtain⟨_,h5⟩:=h4 0 (fE c) rfl
 have eX: ∀ (j:Nat) (v:Value),(fE c)[j]? =some (.sc v)->cs[(bt.β ⟨0,[]⟩).2+j]? =some v:=λj v hj=>by obtain⟨u,q1,q2⟩:=h5 j _ hj;rw[bN,aM] at q1;cases q2;exact q1
 exact⟨cs,e,h1,h2,h3,eX 0 _ rfl,eX 1 _ rfl,eX 2 _ rfl⟩
theorem xY[dp]{w0 w w':World}{W:Nat->Prop}{bt:Bt}{c c':o0}(hI:dQ w0 W bt (fQ [.sl 3 [fE c]]) w)(hos:w'.os=w.os)(ht:w'.tape=w.tape)(ho:w'.output=w.output)(hs:w'.heap.size=w.heap.size)(hk: ∀b,b≠(bt.β ⟨0,[]⟩).1->w'.heap[b]? =w.heap[b]?)(hb:wZ w' bt ⟨0,[]⟩ 3 [fE c']):dQ w0 W bt (fQ [.sl 3 [fE c']]) w':=by
 obtain⟨h1,h2⟩:=hI.tr ⟨0,[]⟩ 3 [fE c] rfl;have hκ:0<bt.κ ⟨0,[]⟩:=h1
 exact { good:=hI.good,os:=hos.trans hI.os,tape:=ht.trans hI.tape,output:=ho.trans hI.output,size:=by rw[hs];exact hI.size
         keep:=λb hb hw=>(hk b λe=>by rcases (h2 hκ).1 with h|h;·omega
                                      ·exact hw (e ▸ h)).trans (hI.keep b hb hw)
         nb:=hI.nb,ng:=hI.ng
         bx:=λn cells h=>by cases h
         gh:=λr t h=>(ah.1 h).1
         tr:=λp s rs h=>by obtain⟨rfl,rfl,rfl⟩:=fZ (fi c') h;exact⟨h1,λhk=>⟨(h2 hk).1,hb⟩⟩
         inj:=λp q s rs s' rs' hp hq _ _ _=>by rw[(fZ (fi c') hp).1,(fZ (fi c') hq).1]
         bbinj:=λn m cs cs' h=>by cases h
         bbtr:=λn cs p s rs h=>by cases h
         alt:=λb hb=>by rw[hs];exact hI.alt b hb
         atr:=λp s rs h hk=>by obtain⟨rfl,rfl,rfl⟩:=fZ (fi c') h;exact hI.atr ⟨0,[]⟩ 3 [fE c] rfl hk
         abb:=λn cs h=>by cases h }
theorem Bi{w w1:World}{b O:Nat}{cs:Array Value}{e:TypeId}{c:o0}{i h:Int}(hb:w.heap[b]? =some (.cells cs e (0,0)))(hc:ja cs O c)
  (h1:w1.heap=((w.setCell ⟨b,O+2,none⟩ (.int .i64 h)).setCell ⟨b,O+1,none⟩ (.int .i64 i)).heap\/(i=c.i/\w1.heap=(w.setCell ⟨b,O+2,none⟩ (.int .i64 h)).heap)):
  w1.heap.size=w.heap.size/\(∀k,k≠b->w1.heap[k]? =w.heap[k]?)/\ ∃cs',w1.heap[b]? =some (.cells cs' e (0,0))/\cs'.size=cs.size/\ja cs' O ⟨c.b,i,h⟩/\ ∀k,(k<O\/O+3<=k)->cs'[k]? =cs[k]? :=by
 have hlt:=(az.1 hc.2.2).1;have far: ∀ (k:Nat),(k<O\/O+3<=k)->O+1≠k/\O+2≠k:=λk hk=>by omega
 rcases h1 with h1| ⟨rfl,h1⟩
 ·rw[h1];refine⟨by simp[World.setCell],λk hk=>by simp[World.setCell,cD,Ne.symm hk],(cs.setIfInBounds (O+2) (.int .i64 h)).setIfInBounds (O+1) (.int .i64 i),by simp[World.setCell,cD,hb],by simp,⟨?_,?_,?_⟩,λk hk=> ?_⟩
  ·simp[ba,hc.1]
  ·simp[ba];omega
  ·simp[ba];omega
  ·simp[ba,(far k hk).1,(far k hk).2]
 ·rw[h1];refine⟨by simp[World.setCell],λk hk=>by simp[World.setCell,cD,Ne.symm hk],cs.setIfInBounds (O+2) (.int .i64 h),by simp[World.setCell,cD,hb],by simp,⟨?_,?_,?_⟩,λk hk=> ?_⟩
  ·simp[ba,hc.1]
  ·simp[ba,hc.2.1]
  ·simp[ba];omega
  ·simp[ba,(far k hk).2]
def BE(G:o0->Option (o0×Int))(l:List o0):Option (List o0×Int×Unit):=match l with
 | [c] =>(G c).map λy=>([y.1],y.2,())
 | _=>none
def B4[dp]{P:Program}(f:FuncId)(hk:Nat.blt f 1048576=true)(enter: ∀ (args:Array Value) (w:World),(callFunc f args).run P w= .ok (.enter f args) w)(G:o0->Option (o0×Int))
    (h: ∀c y,G c=some y-> ∀ (w:World) (b O:Nat) (cs:Array Value) (e:TypeId),(∀a v,dp.w.cell? a=some v->w.cell? a=some v/\a.block≠b)->w.heap[b]? =some (.cells cs e (0,0))->ja cs O c->
      Calls P f #[.pointer (some ⟨b,O,none⟩)] w λr w'=>r= .returned (.int .i64 y.2)/\w'.os=w.os/\w'.tape=w.tape/\w'.output=w.output/\w'.heap.size=w.heap.size/\(∀k,k≠b->w'.heap[k]? =w.heap[k]?)/\ ∃cs',w'.heap[b]? =some (.cells cs' e (0,0))/\cs'.size=cs.size/\ja cs' O y.1/\ ∀k,(k<O\/O+3<=k)->cs'[k]? =cs[k]?):pX P:=
 ⟨ny f,qw (.st .cur) [] [.i .i64] (λl _=>BE G l),by
  intro args ρ κ r hr;unfold qw at hr;split at hr
  ·rename_i t l tl;split at hr
   ·rename_i l' hl;obtain⟨e,hl⟩:=dW hl;subst e;have hl:l=l':=hl;subst hl;obtain⟨x,hn,hr2⟩:=fJ hr;obtain⟨y,h1,hr3⟩:=af.1 hr2;refine⟨_,_,.of_pt ⟨_,l,_,rfl,eB.norm (rP.cons (.inl rfl) hn) ?_⟩ (ar hk),pL _ _ (fr [.i .i64] y.2),hr3⟩
    match l,h1 with
    | [],h1=>cases h1
    | _::_::_,h1=>cases h1
    | [c],h1=>
      obtain⟨z,h2,rfl⟩:=ai.1 h1;intro w W bt0 vals hI hlen hv
      match vals,hlen with
      | [v0],_=>
        have hv0:VR w bt0 (.ptrT ⟨0,[]⟩ 3 0 0) v0:=hv 0 _ v0 rfl rfl;cases hv0 with
        |ptrT _ _ _ hp hκ=>
         have hI:dQ w W bt0 (fQ [.sl 3 [fE c]]) w:=hI;obtain⟨_,g⟩:=hI.tr ⟨0,[]⟩ 3 [fE c] rfl;obtain⟨cs,e,q1,q2,q3,q4⟩:=ja.of_blk (g hκ).2;refine⟨enter _ _,(h c z h2 w _ _ cs e (λa v hc=>⟨(ly hI.good hc).1,λe=> ?_⟩) q1 q4).mono ?_⟩
         ·have hlt:=(az.1 q1).1;rcases (g hκ).1 with h|h
          ·omega
          ·exact (ly hI.good hc).2 (e ▸ h)
         rintro r w' ⟨rfl,a1,a2,a3,a4,a5,cs',a6,a7,a8,a9⟩
         refine⟨_,bt0,rfl,xY hI a1 a2 a3 a4 a5 (a8.blk a6 (by rw[a7];exact q2) λk u hu=> ?_),aw _,λ_ _=>⟨rfl,rfl⟩,.sc rfl⟩;generalize (bt0.β ⟨0,[]⟩).2=O at a8 a9;by_cases k0:k<O\/O+3<=k
         ·exact q3 k u (by rw[<-a9 k k0];exact hu)
         ·obtain rfl|rfl|rfl:k=O\/k=O+1\/k=O+2:=by omega
          ·rw[a8.1] at hu;cases hu;rfl
          ·rw[a8.2.1] at hu;cases hu;rfl
          ·rw[a8.2.2] at hu;cases hu;rfl
   ·cases hr
  ·cases hr⟩
def B0[dp]{P:Program}(f:FuncId)(hk:Nat.blt f 1048576=true)(enter: ∀ (args:Array Value) (w:World),(callFunc f args).run P w= .ok (.enter f args) w)(G:Hd->Option o0)
    (h: ∀x c,G x=some c-> ∀ (w:World),(∀a v,dp.w.cell? a=some v->w.cell? a=some v)->
      Calls P f #[.slice x.a x.n x.c] w λr w'=> ∃b cs e,r= .returned (.pointer (some ⟨b,0,none⟩))/\Below w.heap.size w w'/\w.heap.size<=b/\w'.heap[b]? =some (.cells cs e (0,0))/\cs.size=3/\ja cs 0 c):pX P:=
 ⟨f,Ax (.st .cur) [.ty .h] [] (λx=>(G x.1).map λc=>([c],())),by
   intro args ρ κ r hr;unfold Ax at hr;obtain⟨x,hn,hr2⟩:=fJ hr;obtain⟨y,h1,hr3⟩:=af.1 hr2;obtain⟨c,h2,rfl⟩:=ai.1 h1;refine⟨.v (.cl (.ptrT ⟨0,[]⟩ 3 0 0)),[⟨.st .cur,[c],none⟩],.of_fn (gD.norm hn ?_) (ar hk),Nat.succ_pos 0,hr3⟩;intro w W bt0 vals hI hlen hv
   match vals,hlen with
   | [v0],_=>
     have hv0:VR w bt0 (.sc (.slice x.1.a x.1.n x.1.c)) v0:=hv 0 _ v0 rfl rfl;cases hv0 with
     |sc _=>
      refine⟨enter _ _,(h x.1 c h2 w λa v hc=>(ly hI.good hc).1).mono ?_⟩
      rintro r w' ⟨b,cs,e,rfl,a1,a2,a3,a4,a5⟩
      let btn:Bt:={ bt0 with β:=λ_=>(b,0),κ:=λp=>if p.l= [] then 1 else 0,ng:=1 }
      refine⟨_,btn,rfl,?_,bL _,λp hp=>absurd hp (Nat.not_lt_zero _),.ptrT (bt:=btn) 3 0 0 Nat.one_pos Nat.one_pos⟩
      exact { good:=hI.good,os:=a1.os,tape:=a1.tape,output:=a1.output,size:=a1.size,keep:=λb hb _=>a1.block b hb,nb:=hI.nb,ng:=rfl
              bx:=λn cells h=>by cases h
              gh:=λr t h=>(ah.1 h).1
              tr:=λp s rs h=>by
               obtain⟨rfl,rfl,rfl⟩:=fZ (fi c) h;refine⟨aw _,λ_=>⟨.inl a2,ja.blk (bt:=btn) a5 a3 ⟨by rw[a4];exact aw _,.inl rfl⟩ λk u hu=> ?_⟩⟩
               match k,hu with
               | 0,hu=>rw[a5.1] at hu;cases hu;rfl
               | 1,hu=>rw[a5.2.1] at hu;cases hu;rfl
               | 2,hu=>rw[a5.2.2] at hu;cases hu;rfl
               |k+3,hu=>rw[Array.getElem?_eq_none (by omega)] at hu;cases hu
              inj:=λp q s rs s' rs' hp hq _ _ _=>by rw[(fZ (fi c) hp).1,(fZ (fi c) hq).1]
              bbinj:=λn m cs cs' h=>by cases h
              bbtr:=λn cs p s rs h=>by cases h
              alt:=λb hb=>aJ (hI.alt b hb) a1.size
              atr:=λp s rs h _ hA=>by have :b<w.heap.size:=hI.alt b hA;omega
              abb:=λn cs h=>by cases h }⟩
end
end Go.Proofs.YtkghndikalnipaaGreat.En
