import Derived.Test.YtadpelkpdaohnaaGreatDoorZX10
import Derived.Test.YtadpelkpdaohnaaGreatDoorZX6
import Derived.Shelf.RegionOpenPlain
import Derived.WalkKit
import Derived.Lib.Walk
import Derived.Lib.SliceRun
import Derived.Laws.Externs
import Derived.Laws.IdiomCopy
import Derived.Lib.Strings
import Derived.Lib.Slices
import Derived.Lib.Bytealg
namespace Go.Proofs.YtadpelkpdaohnaaGreatDoor.En
section
open Go Go.RowKit
theorem AQ {P:Program} {f:FuncId} {fn:Func} {c:Code} (hf:P.funcs[f]? =some fn) (hn: (fn.name== "runtime.NumGoroutine")=false) (hc:fn.body=some c) (args:Array Value) (w:World): (callFunc f args).run P w= .ok (.enter f args) w:=by
 have hname': ¬fn.name= "runtime.NumGoroutine" :=by simpa using hn
 simp[callFunc,hf,hname',hc]
end
section
open Go Go.RowKit
def Ty.scB:Ty->Bool| .i _=>true| .b=>true| .s=>true| _=>false
def q9.scB:q9->Bool| .ty t=>t.scB| _=>false
def Ty.val: (t:Ty)->t.D->Value| .i k,n=> .int k n| .b,y=> .bool y| .s,y=> .string y| _,_=>undef
def q9.val: (p:q9)->p.D->Value| .ty t,x=>t.val x| _,_=>undef
def vo: (l:List q9)->kS.D l->List Value
 | [],_=> []
 |p::l,x=>p.val x.1::vo l x.2
def Dr: (l:List Ty)->lN.D l->List Value
 | [],_=> []
 |t::l,x=>t.val x.1::Dr l x.2
def IG:List Value->Value| [v] =>v|l=> .tuple l.toArray
theorem Ds {t:Ty} (h:t.scB=true) (x:t.D): (ym t x).av= .sc (t.val x)/\kt (t.val x)=true:=by
 cases t with
 |st n=>cases h
 |ls t=>cases h
 | _=>exact⟨rfl,rfl⟩
theorem H0 {t:Ty} (h:t.scB=true) (x:t.D) (n:Nat): (D5 t x n).av= .sc (t.val x)/\l6 (t.flat x)= [] :=by
 cases t with
 |st n=>cases h
 |ls t=>cases h
 | _=>exact⟨rfl,rfl⟩
theorem AR: ∀ (l:List q9),l.all q9.scB=true-> ∀x:kS.D l,(iI l x).map V1.av=(vo l x).map AV.sc
 | [],_,_=>rfl
 |p::l,h,x=>by
  simp only[cd,ao] at h;cases p with
  |ty t=>show (ym t x.1).av:: (iI l x.2).map V1.av= .sc (t.val x.1):: (vo l x.2).map AV.sc;rw[(Ds h.1 x.1).1,AR l h.2 x.2]
  | _=>cases h.1
theorem vp: ∀ (l:List Ty),l.all Ty.scB=true-> ∀ (x:lN.D l) (n:Nat),(rC n (ln l x)).map V1.av=(Dr l x).map AV.sc/\pj (ln l x)= []
 | [],_,_,_=>⟨rfl,rfl⟩
 |t::l,h,x,n=>by
  simp only[cd,ao] at h;obtain⟨h1,h2⟩:=H0 h.1 x.1 n;obtain⟨h3,h4⟩:=vp l h.2 x.2 (n+(l6 (t.flat x.1)).length);constructor
  ·show (D5 t x.1 n).av::_= .sc (t.val x.1)::_;rw[h1];exact congrArg _ h3
  ·show l6 (t.flat x.1)++pj (ln l x.2)= [];rw[h2,h4];rfl
theorem rd: ∀ (l:List Ty),l.all Ty.scB=true-> ∀ (x:lN.D l),∀v∈Dr l x,kt v=true
 | [],_,_,v,hv=>by cases hv
 |t::l,h,x,v,hv=>by
  simp only[cd,ao] at h;rcases aR.1 hv with rfl|hv
  ·exact (Ds h.1 x.1).2
  ·exact rd l h.2 x.2 v hv
theorem xA {w w':World} {W:Nat->Prop} {bt:Bt} (hI:eK w W bt (jY []) w) (h:Below w.heap.size w w'):eK w W bt (jY []) w':=
 { os:=h.os,tape:=h.tape,output:=h.output,size:=h.size,keep:=fun b hb _=>h.block b hb,nb:=hI.nb,ng:=hI.ng
   bx:=fun n cells h=>by cases h
   gh:=fun r t h=>by simp[jY] at h
   tr:=fun p s rs h=>absurd h (jy p s rs)
   inj:=fun p q s rs s' rs' h=>absurd h (jy p s rs)
   bbinj:=fun n m cs cs' h=>by cases h
   bbtr:=fun n cs p s rs h=>by cases h
   alt:=fun b hb=>aW (hI.alt b hb) h.size
   atr:=fun p s rs h=>absurd h (jy p s rs)
   abb:=fun n cs h=>by cases h }
theorem Dt (vs:List V1) (l:List Value) (h:vs.map V1.av=l.map AV.sc) (hs: ∀v∈l,kt v=true) (w:World) (bt:Bt):VR w bt (rB vs).av (IG l):=by
 have tup: ∀ (vs:List V1) (l:List Value),vs.map V1.av=l.map AV.sc->(∀v∈l,kt v=true)->VR w bt (.tup (vs.map V1.av)) (.tuple l.toArray):=fun vs l h hs=>by rw[h];refine .tup (by simp) fun k c u h1 h2=> ?_;rw[an,h2] at h1;cases h1;exact .sc (hs u (aq h2))
 match vs,l,h,hs with
 | [],[],_,_=>exact tup [] [] rfl (fun v hv=>by cases hv)
 | [a],[v],h,hs=>
   have h:a.av= .sc v:=by simpa using h
   show VR w bt a.av v;rw[h];exact .sc (hs v aH)
 |a::b::vs,u::v::l,h,hs=>exact tup _ _ h hs
 | [],_::_,h,_=>cases h
 | _::_,[],h,_=>cases h
 | [_],_::_::_,h,_=>simp at h
 | _::_::_,[_],h,_=>simp at h
def KY {P:Program} (f:FuncId) (hk:Nat.blt f 1048576=true) (enter: ∀ (args:Array Value) (w:World),(callFunc f args).run P w= .ok (.enter f args) w) (ps:List q9) (rs:List Ty) (hp:ps.all q9.scB=true) (hr:rs.all Ty.scB=true) (G:kS.D ps->Option (lN.D rs))
    (h: ∀x y,G x=some y-> ∀w,Calls P f (vo ps x).toArray w fun e w'=>e= .returned (IG (Dr rs y))/\Below w.heap.size w w'):Ek P:=
 ⟨f,yF ps rs G,by
   intro args ρ κ r hr';unfold yF at hr';obtain⟨x,hn,hr2⟩:=mi hr';obtain⟨y,h1,hr3⟩:=aj.1 hr2;obtain⟨a1,a2⟩:=vp rs hr y 0;refine⟨_,_, .of_fn (lK.norm hn ?_) (ax hk),yA _,hr3⟩;rw[AR ps hp x,a2];intro w W bt0 vals hI hl hv
   have e:vals=vo ps x:=by
    refine bK fun k=> ?_;cases hk:vals[k]? with
    |none=>have:=List.getElem?_eq_none_iff.1 hk;rw[aB] at hl;rw[bA (by omega)]
    |some u=>
     have hlt:=(ai.1 hk).1;have hlt':k< (vo ps x).length:=by rw[aB] at hl; omega
     have g1:=ah hlt';have g2:=hv k (.sc (vo ps x)[k]) u (by rw[an,g1]; rfl) hk;cases g2 with
     |sc _=>exact g1.symm
   subst e;refine⟨enter _ w,(h x y h1 w).mono fun e w' he=> ?_⟩;obtain⟨rfl,hb⟩:=he;exact⟨_,bt0,rfl,xA hI hb,ba _,fun p hp=>absurd hp (Nat.not_lt_zero _),Dt _ _ a1 (rd rs hr y) w' bt0⟩⟩
def Gt (w:World) (xs:List ByteArray) (a:Option Addr) (c:Nat):Prop:=xs.length<=c/\(xs≠ [] -> ∃b o,a=some ⟨b,o,none⟩/\b<w.heap.size/\ ∀ (j:Nat) (x:ByteArray),xs[j]? =some x->w.cell? ⟨b,o+j,none⟩=some (.string x))
theorem Co {w:World} {A:Nat->Prop} (hA: ∀b,A b->b<w.heap.size) {xs:List ByteArray} {u:Value} (h:RO w A (.sl 1 (xs.map fun x=> [T.sc (.string x)])) u): ∃a c,u= .slice a xs.length c/\Gt w xs a c:=by
 generalize hr:xs.map (fun x=> [T.sc (.string x)])=rows at h;cases h with
 |em _ a cap=>have hx:xs= [] :=List.map_eq_nil_iff.1 hr;subst hx;exact⟨a,cap,rfl,ba _,fun h=>absurd rfl h⟩
 |sl cs hc hs hA' hl hr' ht=>
  rename_i ad cap;obtain⟨b,o,sp⟩:=ad;have hs:sp=none:=hs;subst hs;have hlen:rows.length=xs.length:=by rw[<-hr,aB]
  refine⟨some ⟨b,o,none⟩,cap,by rw[hlen],by rw[<-hlen]; exact hc,fun _=>⟨b,o,rfl,hA b hA',fun j x hj=> ?_⟩⟩;have hrow:rows[j]? =some [T.sc (.string x)] :=by rw[<-hr,an,hj]; rfl
  have g1:=hr' j _ 0 _ hrow rfl;have g2:=ht j _ 0 _ hrow rfl;rw[show (⟨b,o,none⟩:Addr).add (j*1+0)=⟨b,o+j,none⟩ by rw[Go.Proofs.YtadpelkpdaohnaaGreatDoor.En.add_lit]; simp] at g1;cases hc0:cs j 0 with
  |string y=>
   rw[hc0] at g1 g2;cases g2 with
   |sc _=>exact g1
  | _=>rw[hc0] at g2; cases g2
def KZ {P:Program} (f:FuncId) (hk:Nat.blt f 1048576=true) (enter: ∀ (args:Array Value) (w:World),(callFunc f args).run P w= .ok (.enter f args) w) (G:List ByteArray->ByteArray->Option (ByteArray×Unit))
    (h: ∀xs s y,G xs s=some y-> ∀w a c,Gt w xs a c->Calls P f #[.slice a xs.length c, .string s] w fun e w'=>e= .returned (.string y.1)/\Below w.heap.size w w'):Ek P:=
 ⟨f,yF [.ty (.ls .s), .ty .s] [.s] (fun x=>G x.1 x.2.1),by
   intro args ρ κ r hr';unfold yF at hr';obtain⟨x,hn,hr2⟩:=mi hr';obtain⟨y,h1,hr3⟩:=aj.1 hr2;obtain⟨a1,a2⟩:=vp [.s] rfl y 0;refine⟨_,_, .of_fn (lK.norm hn ?_) (ax hk),yA _,hr3⟩;rw[a2];intro w W bt0 vals hI hl hv;obtain⟨xs,s,u⟩:=x
   match vals,hl,hv with
   | [u0,u1],_,hv=>
     have v0:VR w bt0 (.ro 1 (xs.map fun x=> [T.sc (.string x)])) u0:=hv 0 _ u0 rfl rfl;have v1:VR w bt0 (.sc (.string s)) u1:=hv 1 _ u1 rfl rfl;cases v1 with
     |sc _=>
      cases v0 with
      |ro hro=>obtain⟨a,c,rfl,hst⟩:=Co hI.alt hro;refine⟨enter _ w,(h xs s y h1 w a c hst).mono fun e w' he=> ?_⟩;obtain⟨rfl,hb⟩:=he;exact⟨_,bt0,rfl,xA hI hb,ba _,fun p hp=>absurd hp (Nat.not_lt_zero _),Dt _ _ a1 (rd [.s] rfl y) w' bt0⟩⟩
end
end Go.Proofs.YtadpelkpdaohnaaGreatDoor.En
