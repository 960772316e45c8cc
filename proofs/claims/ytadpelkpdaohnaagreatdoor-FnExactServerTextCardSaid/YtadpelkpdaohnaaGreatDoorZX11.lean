import Derived.Test.YtadpelkpdaohnaaGreatDoorZX10
import Derived.Test.YtadpelkpdaohnaaGreatDoorZX6
import Derived.Shelf.RegionOpenPlain
import Derived.WalkKit
import Derived.Lib.Walk
import Derived.Lib.SliceRun
import Derived.Laws.Externs
import Derived.Laws.IdiomCopy
import Derived.Lib.Strings
import Derived.Lib.Slices
import Derived.Lib.Bytealg
namespace Go.Proofs.YtadpelkpdaohnaaGreatDoor.En
section
open Go Go.RowKit
theorem tB {P:Program} {f:FuncId} {fn:Func} {c:Code} (hf:P.funcs[f]? =some fn) (hn: (fn.name== "runtime.NumGoroutine")=false) (hc:fn.body=some c) (args:Array Value) (w:World): (callFunc f args).run P w= .ok (.enter f args) w:=by
 have hname': ¬fn.name= "runtime.NumGoroutine" :=by simpa using hn
 simp[callFunc,hf,hname',hc]
end
section
open Go Go.RowKit
def Ty.scB:Ty->Bool| .i _=>true| .b=>true| .s=>true| _=>false
def pw.scB:pw->Bool| .ty t=>t.scB| _=>false
def Ty.val: (t:Ty)->t.D->Value| .i k,n=> .int k n| .b,y=> .bool y| .s,y=> .string y| _,_=>undef
def pw.val: (p:pw)->p.D->Value| .ty t,x=>t.val x| _,_=>undef
def tC: (l:List pw)->jL.D l->List Value
 | [],_=> []
 |p::l,x=>p.val x.1::tC l x.2
def Bv: (l:List Ty)->ky.D l->List Value
 | [],_=> []
 |t::l,x=>t.val x.1::Bv l x.2
def GD:List Value->Value| [v] =>v|l=> .tuple l.toArray
theorem Bw {t:Ty} (h:t.scB=true) (x:t.D): (wc t x).av= .sc (t.val x)/\jl (t.val x)=true:=by
 cases t with
 |st n=>cases h
 |ls t=>cases h
 | _=>exact⟨rfl,rfl⟩
theorem F3 {t:Ty} (h:t.scB=true) (x:t.D) (n:Nat): (B9 t x n).av= .sc (t.val x)/\kO (t.flat x)= [] :=by
 cases t with
 |st n=>cases h
 |ls t=>cases h
 | _=>exact⟨rfl,rfl⟩
theorem yE: ∀ (l:List pw),l.all pw.scB=true-> ∀x:jL.D l,(gK l x).map V1.av=(tC l x).map AV.sc
 | [],_,_=>rfl
 |p::l,h,x=>by
  simp only[b8,an] at h;cases p with
  |ty t=>show (wc t x.1).av:: (gK l x.2).map V1.av= .sc (t.val x.1):: (tC l x.2).map AV.sc;rw[(Bw h.1 x.1).1,yE l h.2 x.2]
  | _=>cases h.1
theorem tD: ∀ (l:List Ty),l.all Ty.scB=true-> ∀ (x:ky.D l) (n:Nat),(pS n (kb l x)).map V1.av=(Bv l x).map AV.sc/\nG (kb l x)= []
 | [],_,_,_=>⟨rfl,rfl⟩
 |t::l,h,x,n=>by
  simp only[b8,an] at h;obtain⟨h1,h2⟩:=F3 h.1 x.1 n;obtain⟨h3,h4⟩:=tD l h.2 x.2 (n+(kO (t.flat x.1)).length);constructor
  ·show (B9 t x.1 n).av::_= .sc (t.val x.1)::_;rw[h1];exact congrArg _ h3
  ·show kO (t.flat x.1)++nG (kb l x.2)= [];rw[h2,h4];rfl
theorem pA: ∀ (l:List Ty),l.all Ty.scB=true-> ∀ (x:ky.D l),∀v∈Bv l x,jl v=true
 | [],_,_,v,hv=>by cases hv
 |t::l,h,x,v,hv=>by
  simp only[b8,an] at h;rcases aX.1 hv with rfl|hv
  ·exact (Bw h.1 x.1).2
  ·exact pA l h.2 x.2 v hv
theorem vp {w w':World} {W:Nat->Prop} {bt:Bt} (hI:eg w W bt (i6 []) w) (h:Below w.heap.size w w'):eg w W bt (i6 []) w':=
 { os:=h.os,tape:=h.tape,output:=h.output,size:=h.size,keep:=fun b hb _=>h.block b hb,nb:=hI.nb,ng:=hI.ng
   bx:=fun n cells h=>by cases h
   gh:=fun r t h=>by simp[i6] at h
   tr:=fun p s rs h=>absurd h (iC p s rs)
   inj:=fun p q s rs s' rs' h=>absurd h (iC p s rs)
   bbinj:=fun n m cs cs' h=>by cases h
   bbtr:=fun n cs p s rs h=>by cases h
   alt:=fun b hb=>aQ (hI.alt b hb) h.size
   atr:=fun p s rs h=>absurd h (iC p s rs)
   abb:=fun n cs h=>by cases h }
theorem Bx (vs:List V1) (l:List Value) (h:vs.map V1.av=l.map AV.sc) (hs: ∀v∈l,jl v=true) (w:World) (bt:Bt):VR w bt (pR vs).av (GD l):=by
 have tup: ∀ (vs:List V1) (l:List Value),vs.map V1.av=l.map AV.sc->(∀v∈l,jl v=true)->VR w bt (.tup (vs.map V1.av)) (.tuple l.toArray):=fun vs l h hs=>by rw[h];refine .tup (by simp) fun k c u h1 h2=> ?_;rw[al,h2] at h1;cases h1;exact .sc (hs u (ap h2))
 match vs,l,h,hs with
 | [],[],_,_=>exact tup [] [] rfl (fun v hv=>by cases hv)
 | [a],[v],h,hs=>
   have h:a.av= .sc v:=by simpa using h
   show VR w bt a.av v;rw[h];exact .sc (hs v aG)
 |a::b::vs,u::v::l,h,hs=>exact tup _ _ h hs
 | [],_::_,h,_=>cases h
 | _::_,[],h,_=>cases h
 | [_],_::_::_,h,_=>simp at h
 | _::_::_,[_],h,_=>simp at h
def HX {P:Program} (f:FuncId) (hk:Nat.blt f 1048576=true) (enter: ∀ (args:Array Value) (w:World),(callFunc f args).run P w= .ok (.enter f args) w) (ps:List pw) (rs:List Ty) (hp:ps.all pw.scB=true) (hr:rs.all Ty.scB=true) (G:jL.D ps->Option (ky.D rs))
    (h: ∀x y,G x=some y-> ∀w,Calls P f (tC ps x).toArray w fun e w'=>e= .returned (GD (Bv rs y))/\Below w.heap.size w w'):Cp P:=
 ⟨f,wx ps rs G,by
   intro args ρ κ r hr';unfold wx at hr';obtain⟨x,hn,hr2⟩:=la hr';obtain⟨y,h1,hr3⟩:=aj.1 hr2;obtain⟨a1,a2⟩:=tD rs hr y 0;refine⟨_,_, .of_fn (ku.norm hn ?_) (aw hk),wq _,hr3⟩;rw[yE ps hp x,a2];intro w W bt0 vals hI hl hv
   have e:vals=tC ps x:=by
    refine bC fun k=> ?_;cases hk:vals[k]? with
    |none=>have:=List.getElem?_eq_none_iff.1 hk;rw[az] at hl;rw[bn (by omega)]
    |some u=>
     have hlt:=(ai.1 hk).1;have hlt':k< (tC ps x).length:=by rw[az] at hl; omega
     have g1:=ah hlt';have g2:=hv k (.sc (tC ps x)[k]) u (by rw[al,g1]; rfl) hk;cases g2 with
     |sc _=>exact g1.symm
   subst e;refine⟨enter _ w,(h x y h1 w).mono fun e w' he=> ?_⟩;obtain⟨rfl,hb⟩:=he;exact⟨_,bt0,rfl,vp hI hb,bm _,fun p hp=>absurd hp (Nat.not_lt_zero _),Bx _ _ a1 (pA rs hr y) w' bt0⟩⟩
def Et (w:World) (xs:List ByteArray) (a:Option Addr) (c:Nat):Prop:=xs.length<=c/\(xs≠ [] -> ∃b o,a=some ⟨b,o,none⟩/\b<w.heap.size/\ ∀ (j:Nat) (x:ByteArray),xs[j]? =some x->w.cell? ⟨b,o+j,none⟩=some (.string x))
theorem Aj {w:World} {A:Nat->Prop} (hA: ∀b,A b->b<w.heap.size) {xs:List ByteArray} {u:Value} (h:RO w A (.sl 1 (xs.map fun x=> [T.sc (.string x)])) u): ∃a c,u= .slice a xs.length c/\Et w xs a c:=by
 generalize hr:xs.map (fun x=> [T.sc (.string x)])=rows at h;cases h with
 |em _ a cap=>have hx:xs= [] :=List.map_eq_nil_iff.1 hr;subst hx;exact⟨a,cap,rfl,bm _,fun h=>absurd rfl h⟩
 |sl cs hc hs hA' hl hr' ht=>
  rename_i ad cap;obtain⟨b,o,sp⟩:=ad;have hs:sp=none:=hs;subst hs;have hlen:rows.length=xs.length:=by rw[<-hr,az]
  refine⟨some ⟨b,o,none⟩,cap,by rw[hlen],by rw[<-hlen]; exact hc,fun _=>⟨b,o,rfl,hA b hA',fun j x hj=> ?_⟩⟩;have hrow:rows[j]? =some [T.sc (.string x)] :=by rw[<-hr,al,hj]; rfl
  have g1:=hr' j _ 0 _ hrow rfl;have g2:=ht j _ 0 _ hrow rfl;rw[show (⟨b,o,none⟩:Addr).add (j*1+0)=⟨b,o+j,none⟩ by rw[Go.Proofs.YtadpelkpdaohnaaGreatDoor.En.add_lit]; simp] at g1;cases hc0:cs j 0 with
  |string y=>
   rw[hc0] at g1 g2;cases g2 with
   |sc _=>exact g1
  | _=>rw[hc0] at g2; cases g2
def IX {P:Program} (f:FuncId) (hk:Nat.blt f 1048576=true) (enter: ∀ (args:Array Value) (w:World),(callFunc f args).run P w= .ok (.enter f args) w) (G:List ByteArray->ByteArray->Option (ByteArray×Unit))
    (h: ∀xs s y,G xs s=some y-> ∀w a c,Et w xs a c->Calls P f #[.slice a xs.length c, .string s] w fun e w'=>e= .returned (.string y.1)/\Below w.heap.size w w'):Cp P:=
 ⟨f,wx [.ty (.ls .s), .ty .s] [.s] (fun x=>G x.1 x.2.1),by
   intro args ρ κ r hr';unfold wx at hr';obtain⟨x,hn,hr2⟩:=la hr';obtain⟨y,h1,hr3⟩:=aj.1 hr2;obtain⟨a1,a2⟩:=tD [.s] rfl y 0;refine⟨_,_, .of_fn (ku.norm hn ?_) (aw hk),wq _,hr3⟩;rw[a2];intro w W bt0 vals hI hl hv;obtain⟨xs,s,u⟩:=x
   match vals,hl,hv with
   | [u0,u1],_,hv=>
     have v0:VR w bt0 (.ro 1 (xs.map fun x=> [T.sc (.string x)])) u0:=hv 0 _ u0 rfl rfl;have v1:VR w bt0 (.sc (.string s)) u1:=hv 1 _ u1 rfl rfl;cases v1 with
     |sc _=>
      cases v0 with
      |ro hro=>obtain⟨a,c,rfl,hst⟩:=Aj hI.alt hro;refine⟨enter _ w,(h xs s y h1 w a c hst).mono fun e w' he=> ?_⟩;obtain⟨rfl,hb⟩:=he;exact⟨_,bt0,rfl,vp hI hb,bm _,fun p hp=>absurd hp (Nat.not_lt_zero _),Bx _ _ a1 (pA [.s] rfl y) w' bt0⟩⟩
end
end Go.Proofs.YtadpelkpdaohnaaGreatDoor.En
