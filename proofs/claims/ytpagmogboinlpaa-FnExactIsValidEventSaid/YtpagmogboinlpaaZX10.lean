import Derived.Test.YtpagmogboinlpaaZX9
import Derived.Test.YtpagmogboinlpaaZX6
import Derived.Shelf.RegionOpenPlain
import Derived.WalkKit
import Derived.Lib.Walk
import Derived.Lib.SliceRun
import Derived.Laws.Externs
import Derived.Laws.IdiomCopy
import Derived.Lib.Strings
import Derived.Lib.Slices
import Derived.Lib.Bytealg
namespace Go.Proofs.Ytpagmogboinlpaa.En
section
open Go Go.RowKit
theorem pb {P:Program} {f:FuncId} {fn:Func} {c:Code} (hf:P.funcs[f]? =some fn) (hn: (fn.name== "runtime.NumGoroutine")=false) (hc:fn.body=some c) (args:Array Value) (w:World): (callFunc f args).run P w= .ok (.enter f args) w:=by
 have hname': ¬fn.name= "runtime.NumGoroutine" :=by simpa using hn
 simp[callFunc,hf,hname',hc]
end
section
open Go Go.RowKit
def Ty.scB:Ty->Bool| .i _=>true| .b=>true| .s=>true| _=>false
def kC.scB:kC->Bool| .ty t=>t.scB| _=>false
def Ty.val: (t:Ty)->t.D->Value| .i k,n=> .int k n| .b,y=> .bool y| .s,y=> .string y| _,_=>undef
def kC.val: (p:kC)->p.D->Value| .ty t,x=>t.val x| _,_=>undef
def lT: (l:List kC)->gV.D l->List Value
 | [],_=> []
 |p::l,x=>p.val x.1::lT l x.2
def qL: (l:List Ty)->iH.D l->List Value
 | [],_=> []
 |t::l,x=>t.val x.1::qL l x.2
def vd:List Value->Value| [v] =>v|l=> .tuple l.toArray
theorem qM {t:Ty} (h:t.scB=true) (x:t.D): (ny t x).av= .sc (t.val x)/\eV (t.val x)=true:=by
 cases t with
 |st n=>cases h
 |ls t=>cases h
 | _=>exact⟨rfl,rfl⟩
theorem uI {t:Ty} (h:t.scB=true) (x:t.D) (n:Nat): (rk t x n).av= .sc (t.val x)/\fD (t.flat x)= [] :=by
 cases t with
 |st n=>cases h
 |ls t=>cases h
 | _=>exact⟨rfl,rfl⟩
theorem pc: ∀ (l:List kC),l.all kC.scB=true-> ∀x:gV.D l,(fb l x).map V1.av=(lT l x).map AV.sc
 | [],_,_=>rfl
 |p::l,h,x=>by
  simp only[bN,al] at h;cases p with
  |ty t=>show (ny t x.1).av:: (fb l x.2).map V1.av= .sc (t.val x.1):: (lT l x.2).map AV.sc;rw[(qM h.1 x.1).1,pc l h.2 x.2]
  | _=>cases h.1
theorem pd: ∀ (l:List Ty),l.all Ty.scB=true-> ∀ (x:iH.D l) (n:Nat),(mB n (iM l x)).map V1.av=(qL l x).map AV.sc/\jr (iM l x)= []
 | [],_,_,_=>⟨rfl,rfl⟩
 |t::l,h,x,n=>by
  simp only[bN,al] at h;obtain⟨h1,h2⟩:=uI h.1 x.1 n;obtain⟨h3,h4⟩:=pd l h.2 x.2 (n+(fD (t.flat x.1)).length);constructor
  ·show (rk t x.1 n).av::_= .sc (t.val x.1)::_;rw[h1];exact congrArg _ h3
  ·show fD (t.flat x.1)++jr (iM l x.2)= [];rw[h2,h4];rfl
theorem lU: ∀ (l:List Ty),l.all Ty.scB=true-> ∀ (x:iH.D l),∀v∈qL l x,eV v=true
 | [],_,_,v,hv=>by cases hv
 |t::l,h,x,v,hv=>by
  simp only[bN,al] at h;rcases aV.1 hv with rfl|hv
  ·exact (qM h.1 x.1).2
  ·exact lU l h.2 x.2 v hv
theorem rD {w w':World} {W:Nat->Prop} {bt:Bt} (hI:dn w W bt (eU []) w) (h:Below w.heap.size w w'):dn w W bt (eU []) w':=
 { os:=h.os,tape:=h.tape,output:=h.output,size:=h.size,keep:=fun b hb _=>h.block b hb,nb:=hI.nb,ng:=hI.ng
   bx:=fun n cells h=>by cases h
   gh:=fun r t h=>by simp[eU] at h
   tr:=fun p s rs h=>absurd h (eB p s rs)
   inj:=fun p q s rs s' rs' h=>absurd h (eB p s rs)
   bbinj:=fun n m cs cs' h=>by cases h
   bbtr:=fun n cs p s rs h=>by cases h
   alt:=fun b hb=>aO (hI.alt b hb) h.size
   atr:=fun p s rs h=>absurd h (eB p s rs)
   abb:=fun n cs h=>by cases h }
theorem uJ (vs:List V1) (l:List Value) (h:vs.map V1.av=l.map AV.sc) (hs: ∀v∈l,eV v=true) (w:World) (bt:Bt):VR w bt (pV vs).av (vd l):=by
 have tup: ∀ (vs:List V1) (l:List Value),vs.map V1.av=l.map AV.sc->(∀v∈l,eV v=true)->VR w bt (.tup (vs.map V1.av)) (.tuple l.toArray):=fun vs l h hs=>by rw[h];refine .tup (by simp) fun k c u h1 h2=> ?_;rw[an,h2] at h1;cases h1;exact .sc (hs u (aq h2))
 match vs,l,h,hs with
 | [],[],_,_=>exact tup [] [] rfl (fun v hv=>by cases hv)
 | [a],[v],h,hs=>
   have h:a.av= .sc v:=by simpa using h
   show VR w bt a.av v;rw[h];exact .sc (hs v aE)
 |a::b::vs,u::v::l,h,hs=>exact tup _ _ h hs
 | [],_::_,h,_=>cases h
 | _::_,[],h,_=>cases h
 | [_],_::_::_,h,_=>simp at h
 | _::_::_,[_],h,_=>simp at h
def wg {P:Program} (f:FuncId) (hk:Nat.blt f 1048576=true) (enter: ∀ (args:Array Value) (w:World),(callFunc f args).run P w= .ok (.enter f args) w) (ps:List kC) (rs:List Ty) (hp:ps.all kC.scB=true) (hr:rs.all Ty.scB=true) (G:gV.D ps->Option (iH.D rs))
    (h: ∀x y,G x=some y-> ∀w,Calls P f (lT ps x).toArray w fun e w'=>e= .returned (vd (qL rs y))/\Below w.heap.size w w'):wd P:=
 ⟨f,p9 ps rs G,by
   intro args ρ κ r hr';unfold p9 at hr';obtain⟨x,hn,hr2⟩:=j6 hr';obtain⟨y,h1,hr3⟩:=ah.1 hr2;obtain⟨a1,a2⟩:=pd rs hr y 0;refine⟨_,_, .of_fn (fM.norm hn ?_) (aw hk),tc _,hr3⟩;rw[pc ps hp x,a2];intro w W bt0 vals hI hl hv
   have e:vals=lT ps x:=by
    refine bB fun k=> ?_;cases hk:vals[k]? with
    |none=>have:=List.getElem?_eq_none_iff.1 hk;rw[ay] at hl;rw[bA (by omega)]
    |some u=>
     have hlt:=(af.1 hk).1;have hlt':k< (lT ps x).length:=by rw[ay] at hl; omega
     have g1:=ai hlt';have g2:=hv k (.sc (lT ps x)[k]) u (by rw[an,g1]; rfl) hk;cases g2 with
     |sc _=>exact g1.symm
   subst e;refine⟨enter _ w,(h x y h1 w).mono fun e w' he=> ?_⟩;obtain⟨rfl,hb⟩:=he;exact⟨_,bt0,rfl,rD hI hb,cr _,fun p hp=>absurd hp (Nat.not_lt_zero _),uJ _ _ a1 (lU rs hr y) w' bt0⟩⟩
end
end Go.Proofs.Ytpagmogboinlpaa.En
