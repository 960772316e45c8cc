import Derived.Test.YtadabkgmdllbfaaGreatZX9
import Derived.Test.YtadabkgmdllbfaaGreatZX6
import Derived.Shelf.RegionOpenPlain
import Derived.WalkKit
import Derived.Lib.Walk
import Derived.Lib.SliceRun
import Derived.Laws.Externs
import Derived.Laws.IdiomCopy
import Derived.Lib.Strings
import Derived.Lib.Slices
import Derived.Lib.Bytealg
namespace Go.Proofs.YtadabkgmdllbfaaGreat.En
section
open Go Go.RowKit
theorem BA {P:Program} {f:FuncId} {fn:Func} {c:Code} (hf:P.funcs[f]? =some fn) (hn: (fn.name== "runtime.NumGoroutine")=false) (hc:fn.body=some c) (args:Array Value) (w:World): (callFunc f args).run P w= .ok (.enter f args) w:=by
 have hname': ¬fn.name= "runtime.NumGoroutine" :=by simpa using hn
 simp[callFunc,hf,hname',hc]
end
section
open Go Go.RowKit
def Ty.scB:Ty->Bool| .i _=>true| .b=>true| .s=>true| .h=>true| _=>false
def t4.scB:t4->Bool| .ty t=>t.scB| _=>false
def Ty.val: (t:Ty)->t.D->Value| .i k,n=> .int k n| .b,y=> .bool y| .s,y=> .string y| .h,y=> .slice y.a y.n y.c| _,_=>undef
def t4.val: (p:t4)->p.D->Value| .ty t,x=>t.val x| _,_=>undef
def BB: (l:List t4)->mQ.D l->List Value
 | [],_=> []
 |p::l,x=>p.val x.1::BB l x.2
def JW: (l:List Ty)->l5.D l->List Value
 | [],_=> []
 |t::l,x=>t.val x.1::JW l x.2
def PW:List Value->Value| [v] =>v|l=> .tuple l.toArray
theorem JX {t:Ty} (h:t.scB=true) (x:t.D): (Ju t x).av= .sc (t.val x)/\ou (t.val x)=true:=by
 cases t with
 |st n=>cases h
 |ls t=>cases h
 | _=>exact⟨rfl,rfl⟩
theorem Pe {t:Ty} (h:t.scB=true) (x:t.D) (n:Nat): (KF t x n).av= .sc (t.val x)/\pQ (t.flat x)= [] :=by
 cases t with
 |st n=>cases h
 |ls t=>cases h
 | _=>exact⟨rfl,rfl⟩
theorem GU: ∀ (l:List t4),l.all t4.scB=true-> ∀x:mQ.D l,(kW l x).map V1.av=(BB l x).map AV.sc
 | [],_,_=>rfl
 |p::l,h,x=>by
  simp only[co,al] at h;cases p with
  |ty t=>show (Ju t x.1).av:: (kW l x.2).map V1.av= .sc (t.val x.1):: (BB l x.2).map AV.sc;rw[(JX h.1 x.1).1,GU l h.2 x.2]
  | _=>cases h.1
theorem GV: ∀ (l:List Ty),l.all Ty.scB=true-> ∀ (x:l5.D l) (n:Nat),(tN n (kA l x)).map V1.av=(JW l x).map AV.sc/\rV (kA l x)= []
 | [],_,_,_=>⟨rfl,rfl⟩
 |t::l,h,x,n=>by
  simp only[co,al] at h;obtain⟨h1,h2⟩:=Pe h.1 x.1 n;obtain⟨h3,h4⟩:=GV l h.2 x.2 (n+(pQ (t.flat x.1)).length);constructor
  ·show (KF t x.1 n).av::_= .sc (t.val x.1)::_;rw[h1];exact congrArg _ h3
  ·show pQ (t.flat x.1)++rV (kA l x.2)= [];rw[h2,h4];rfl
theorem BC: ∀ (l:List Ty),l.all Ty.scB=true-> ∀ (x:l5.D l),∀v∈JW l x,ou v=true
 | [],_,_,v,hv=>by cases hv
 |t::l,h,x,v,hv=>by
  simp only[co,al] at h;rcases bc.1 hv with rfl|hv
  ·exact (JX h.1 x.1).2
  ·exact BC l h.2 x.2 v hv
theorem KV [dP] {w w':World} {W:Nat->Prop} {bt:Bt} (hI:fR w W bt (nx []) w) (h:Below w.heap.size w w'):fR w W bt (nx []) w':=
 { good:=hI.good,os:=h.os,tape:=h.tape,output:=h.output,size:=h.size,keep:=fun b hb _=>h.block b hb,nb:=hI.nb,ng:=hI.ng
   bx:=fun n cells h=>by cases h
   gh:=fun r t h=>by simp[nx] at h
   tr:=fun p s rs h=>absurd h (lK p s rs)
   inj:=fun p q s rs s' rs' h=>absurd h (lK p s rs)
   bbinj:=fun n m cs cs' h=>by cases h
   bbtr:=fun n cs p s rs h=>by cases h
   alt:=fun b hb=>aQ (hI.alt b hb) h.size
   atr:=fun p s rs h=>absurd h (lK p s rs)
   abb:=fun n cs h=>by cases h }
theorem Pf (vs:List V1) (l:List Value) (h:vs.map V1.av=l.map AV.sc) (hs: ∀v∈l,ou v=true) (w:World) (bt:Bt):VR w bt (Em vs).av (PW l):=by
 have tup: ∀ (vs:List V1) (l:List Value),vs.map V1.av=l.map AV.sc->(∀v∈l,ou v=true)->VR w bt (.tup (vs.map V1.av)) (.tuple l.toArray):=fun vs l h hs=>by rw[h];refine .tup (by simp) fun k c u h1 h2=> ?_;rw[ap,h2] at h1;cases h1;exact .sc (hs u (au h2))
 match vs,l,h,hs with
 | [],[],_,_=>exact tup [] [] rfl (fun v hv=>by cases hv)
 | [a],[v],h,hs=>
   have h:a.av= .sc v:=by simpa using h
   show VR w bt a.av v;rw[h];exact .sc (hs v aL)
 |a::b::vs,u::v::l,h,hs=>exact tup _ _ h hs
 | [],_::_,h,_=>cases h
 | _::_,[],h,_=>cases h
 | [_],_::_::_,h,_=>simp at h
 | _::_::_,[_],h,_=>simp at h
def SW [dP] {P:Program} (f:FuncId) (hk:Nat.blt f 1048576=true) (enter: ∀ (args:Array Value) (w:World),(callFunc f args).run P w= .ok (.enter f args) w) (ps:List t4) (rs:List Ty) (hp:ps.all t4.scB=true) (hr:rs.all Ty.scB=true) (G:mQ.D ps->Option (l5.D rs))
    (h: ∀x y,G x=some y-> ∀w,Calls P f (BB ps x).toArray w fun e w'=>e= .returned (PW (JW rs y))/\Below w.heap.size w w'):Fv P:=
 ⟨f,KT ps rs G,by
   intro args ρ κ r hr';unfold KT at hr';obtain⟨x,hn,hr2⟩:=lM hr';obtain⟨y,h1,hr3⟩:=ai.1 hr2;obtain⟨a1,a2⟩:=GV rs hr y 0;refine⟨_,_, .of_fn (pw.norm hn ?_) (ar hk),Im _,hr3⟩;rw[GU ps hp x,a2];intro w W bt0 vals hI hl hv
   have e:vals=BB ps x:=by
    refine bA fun k=> ?_;cases hk:vals[k]? with
    |none=>have:=List.getElem?_eq_none_iff.1 hk;rw[aK] at hl;rw[b6 (by omega)]
    |some u=>
     have hlt:=(aj.1 hk).1;have hlt':k< (BB ps x).length:=by rw[aK] at hl; omega
     have g1:=ah hlt';have g2:=hv k (.sc (BB ps x)[k]) u (by rw[ap,g1]; rfl) hk;cases g2 with
     |sc _=>exact g1.symm
   subst e;refine⟨enter _ w,(h x y h1 w).mono fun e w' he=> ?_⟩;obtain⟨rfl,hb⟩:=he;exact⟨_,bt0,rfl,KV hI hb,ay _,fun p hp=>absurd hp (Nat.not_lt_zero _),Pf _ _ a1 (BC rs hr y) w' bt0⟩⟩
end
section
open Go Go.ChangeShapes Go.WideShapes Go.RowKit
def l6 [dP] (x:Hd):Option (List Int):=if x.n=0 then some [] else match x.a with
 |some ad=>(List.range x.n).mapM fun k=>match dP.w.cell? (ad.add k) with |some (.int .u8 m)=>some m| _=>none
 |none=>none
theorem GW {α β:Type} {f:α->Option β}: ∀ {l:List α} {m:List β},l.length=m.length->(∀ (k:Nat) a b,l[k]? =some a->m[k]? =some b->f a=some b)->l.mapM f=some m
 | [],[],_,_=>rfl
 |a::l,b::m,hl,h=>by rw[cJ,h 0 a b rfl rfl,GW (by simpa using hl) fun k x y hx hy=>h (k+1) x y (by simpa using hx) (by simpa using hy)];rfl
theorem wz [dP] {x:Hd} {l:List Int} (h:l6 x=some l):l.length=x.n/\ ∀ (k:Nat) c,l[k]? =some c-> ∃ad,x.a=some ad/\dP.w.cell? (ad.add k)=some (.int .u8 c):=by
 unfold l6 at h;split at h
 ·rename_i h0;cases h;exact⟨h0.symm,fun k c hk=>by simp at hk⟩
 ·split at h
  ·rename_i ad ha
   have gi: ∀ (n:Nat) (l0:List Nat) (m:List Int),l0.mapM (fun k=>match dP.w.cell? (ad.add k) with |some (.int .u8 m)=>some m| _=>none)=some m->m.length=l0.length/\ ∀ (k:Nat) c j,m[k]? =some c->l0[k]? =some j->dP.w.cell? (ad.add j)=some (.int .u8 c):=by
    intro n l0
    induction l0 with
    |nil=>intro m hm; cases hm; exact⟨rfl,fun k c j hk=>by simp at hk⟩
    |cons a l0 ih=>
     intro m hm;rw[cJ] at hm;simp only[de,ai] at hm;obtain⟨b,h1,r,h2,h3⟩:=hm;cases h3;obtain⟨i1,i2⟩:=ih r h2;refine⟨by simp[i1],fun k c j hk hj=> ?_⟩;cases k with
     |zero=>
      simp only[aN,af] at hk hj;subst hk hj;split at h1
      ·rename_i hc;cases h1;exact hc
      ·cases h1
     |succ k=>exact i2 k c j (by simpa using hk) (by simpa using hj)
   obtain⟨k1,k2⟩:=gi 0 _ _ h;refine⟨by simpa using k1,fun k c hk=>⟨ad,ha,k2 k c k hk ?_⟩⟩;have:=(aj.1 hk).1;rw[k1] at this;simp at this;simp[this]
  ·cases h
def Pg (h:Int):Int:=RowKit.wrap64 (RowKit.wrap64 (h*6364136223846793005)+1442695040888963407)
def RG (h:Int):Int:=bits .and .i64 (bits .xor .i64 (h / 8589934592) (h / 35184372088832)) 255
def vn [dP] (c:fT):Option (fT×Int):=if c.i< (c.b.n:Int) then (if 0<=c.i then ((l6 c.b).bind fun l=>l[c.i.toNat]?).map fun m=>(⟨c.b,RowKit.wrap64 (c.i+1),Pg c.h⟩,bits .and .i64 (RowKit.wrap64 (RG (Pg c.h)+RowKit.wrap64 m)) 255) else none) else some (⟨c.b,c.i,Pg c.h⟩,RG (Pg c.h))
def KW (h m:Int):Int:=bits .and .i64 (RowKit.wrap64 (RowKit.wrap64 (RowKit.wrap64 (h*131)+RowKit.wrap64 m)+7)) 1073741823
def EK [dP] (x:Hd):Option fT:=(l6 x).map fun l=>⟨x,0,(l.take 4000).foldl KW (RowKit.wrap64 (10101+x.n))⟩
section
variable {H:Type} {enc:TypeId×Value->H} {P:Program} {W:World} {Θ:mN} {base:Nat}
theorem Ir [dP] (hW:dP.w=W) (hΘ:fS P Θ) {f:FuncId} {G:mQ.D [.ty .h] ->Option (l5.D [.b])} (he:zy P f (KT [.ty .h] [.b] G)) (hG: ∀ (x:Hd) l,l6 x=some l->l.length<=maxLen->(∀c∈l,0<=c/\c<=255)->G (x,())=some (true,()))
  {ts:List TypeId} {vs:List Value} {ds:List (DataW H)} {p:List MemPlace} (hp:Bz P Θ ts [.ls (.i .u8)] =true) (hv: ∀ (j:Nat) t v,ts[j]? =some t->vs[j]? =some v->Value.okWide P W .any base t v) (h:DataW.TrodAll enc P W 0 (fun _=>true) true ts vs ds p) (hk:Nat.blt f 1048576=true:=by rfl):
  Calls P f vs.toArray W fun e W'=>e= .returned (.bool true)/\Below W.heap.size W W':=by
 let bt:Bt:=⟨fun _=>(0,0),fun _=>0,fun _=>0,0,0,fun b=>b<W.heap.size⟩
 obtain⟨⟨l,u⟩,h1,h2,h3,_⟩:=JU (bt:=bt) hΘ rfl hp hv h
 match vs,h1,h2 with
 | [v0],_,h2=>
   have hvr:VR W bt (.ro 1 (l.map fun n=> [T.sc (.int .u8 n)])) v0:=h2 0 _ v0 rfl rfl
   have hbd:l.length<=maxLen/\ ∀c∈l,0<=c/\c<=255:=by
    have:=h3 (.sl 1 (l.map fun n=> [T.sc (.int .u8 n)])) (aE.2 rfl);cases this with
    |sl hl hr=>
     refine⟨by simpa using hl,fun c hc=> ?_⟩;have:=hr [T.sc (.int .u8 c)] (aJ.2 ⟨c,hc,rfl⟩) _ aL;cases this with
     |int h=>exact h
   obtain⟨x,hx,hb⟩: ∃x:Hd,v0= .slice x.a x.n x.c/\l6 x=some l:=by
    cases hvr with
    |ro hro=>
     generalize hrows:l.map (fun n=> [T.sc (.int .u8 n)])=rows at hro;cases hro with
     |em _ a cap=>have :l= [] :=List.map_eq_nil_iff.1 hrows;subst this;exact⟨⟨a,0,cap⟩,rfl,rfl⟩
     |sl cs hc hs hA' hl hr' ht=>
      rename_i ad cap hu;have hlen:rows.length=l.length:=by rw[<-hrows,aK]
      refine⟨⟨some ad,rows.length,cap⟩,rfl,?_⟩;unfold l6;simp only;split
      ·rename_i h0;rw[hlen] at h0;rw[bq h0]
      ·refine GW (by simpa using hlen) fun k a c ha hc=> ?_
       have hak:a=k:=by have:=aj.1 ha;obtain⟨q1,q2⟩:=this;simp at q2;exact q2.symm
       subst hak;have hrow:rows[a]? =some [T.sc (.int .u8 c)] :=by rw[<-hrows,ap,hc]; rfl
       have g1:=hr' a _ 0 _ hrow rfl;have g2:=ht a _ 0 _ hrow rfl;rw[Nat.mul_one,b0] at g1;rw[hW];generalize cs a 0=u at g1 g2;cases g2 with
       |sc _=>rw[g1]
   subst hx;have hg:=hG x l hb hbd.1 hbd.2
   obtain⟨res,out,k1,k2,k3⟩:=he (kW [.ty .h] (x,())) (V×List eB) (fun v g=>some (v,g)) (.v (.cl (.c (.sc (.bool true)))),[]) (by show (G (x,())).bind _=_;rw[hg];rfl)
   cases k3
   have:=k1.fn (ar hk) W (fun _=>False) bt [.slice x.a x.n x.c] (Je ⟨by rw[hW]; exact aq _,fun b _=>⟨by rw[hW],fun h=>h⟩⟩ bt fun b hb=>hb) rfl (fun k v u hk hu=>by
    cases k with
    |zero=>have hk:some (AV.sc (.slice x.a x.n x.c))=some v:=hk;cases hk;cases hu;exact .sc rfl
    |succ k=>cases hu)
   refine this.2.mono fun e W' hx=> ?_;obtain⟨v,btn,rfl,hI,_,_,hvr⟩:=hx;refine⟨?_,sY hI⟩;cases hvr with
   |sc=>rfl
end
end
section
open Go Go.RowKit
theorem PX (v:Value): ∀ (l:List (Nat×Nat)) (s:Nat) (rs:List (List T)),(T.sc v).go l≠ .sl s rs:=fun l s rs h=>by
 cases l with
 |nil=>cases h
 |cons x l=>
  have h':T.dd.go l= .sl s rs:=h
  have : ∀l:List (Nat×Nat),T.dd.go l= .dd:=fun l=>by
   induction l with
   |nil=>rfl
   |cons x l ih=>exact ih
  rw[this] at h';cases h'
theorem ow {n:Nat} {rows:List (List T)} (hf: ∀r∈rows,∀x∈r,∃v,x=T.sc v) {p:eK} {s:Nat} {rs:List (List T)} (h: (nx [.sl n rows]).look p= .sl s rs):p=⟨0,[]⟩/\s=n/\rs=rows:=by
 obtain⟨r,l⟩:=p;cases r with
 |succ r=>exact absurd h (by simp[St.look,nx])
 |zero=>
  cases l with
  |nil=>have h:T.sl n rows= .sl s rs:=h;cases h;exact⟨rfl,rfl,rfl⟩
  |cons x l=>
   obtain⟨i,j⟩:=x;have h: ((rows.getD i []).getD j .dd).go l= .sl s rs:=h;generalize hr:rows.getD i [] =r0 at h;by_cases hj:j<r0.length
   ·have hi:i<rows.length:=by
     by_cases hi:i<rows.length
     ·exact hi
     ·rw[aD,b6 (by omega)] at hr;subst hr;cases hj
    obtain⟨v,hv⟩:=hf r0 (by rw[<-hr,aD,ah hi]; exact bw hi) r0[j] (bw hj);rw[aD,ah hj,bi,hv] at h;exact absurd h (PX v l s rs)
   ·rw[aD,b6 (by omega)] at h;exact absurd (show (T.sc undef).go ((0,0)::l)= .sl s rs from h) (PX _ _ _ _)
theorem lp (c:fT): ∀r∈ [mM c],∀x∈r,∃v,x=T.sc v:=fun r hr x hx=>by rw[aE.1 hr] at hx;simp only[mM,bc,List.not_mem_nil,or_false] at hx;rcases hx with rfl|rfl|rfl<;>exact⟨_,rfl⟩
theorem yF [dP] {w:World} {W:Nat->Prop} (h:HD w W) {a:Addr} {v:Value} (hc:dP.w.cell? a=some v):w.cell? a=some v/\ ¬W a.block:=by
 have hb:a.block<dP.w.heap.size:=by
  unfold World.cell? at hc;cases hh:dP.w.heap[a.block]? with
  |none=>rw[hh] at hc; simp at hc
  |some o=>exact (aF.1 hh).1
 exact⟨by rw[v6 (h.2 _ hb).1,hc],(h.2 _ hb).2⟩
def rt (cs:Array Value) (O:Nat) (c:fT):Prop:=cs[O]? =some (.slice c.b.a c.b.n c.b.c)/\cs[O+1]? =some (.int .i64 c.i)/\cs[O+2]? =some (.int .i64 c.h)
theorem rt.blk {w:World} {bt:Bt} {cs:Array Value} {e:TypeId} {c:fT} (h:rt cs (bt.β ⟨0,[]⟩).2 c) (hh:w.heap[(bt.β ⟨0,[]⟩).1]? =some (.cells cs e (0,0))) (hk:SC (bt.β ⟨0,[]⟩).2 (bt.κ ⟨0,[]⟩) 3 cs.size) (hone: ∀ (k:Nat) (u:Value),cs[k]? =some u->u.oneCell'=true):NT w bt ⟨0,[]⟩ 3 [mM c] :=
 ⟨cs,e,hh,hk,hone,fun i r hr=>by
  cases i with
  |succ i=>simp at hr
  |zero=>
   cases hr;refine⟨rfl,fun j x hx=> ?_⟩
   match j,hx with
   | 0,hx=>cases hx; exact⟨_,by simpa using h.1, .sc rfl⟩
   | 1,hx=>cases hx; exact⟨_,by simpa using h.2.1, .sc rfl⟩
   | 2,hx=>cases hx; exact⟨_,by simpa using h.2.2, .sc rfl⟩
   |j+3,hx=>simp[mM] at hx⟩
theorem rt.of_blk {w:World} {bt:Bt} {c:fT} (h:NT w bt ⟨0,[]⟩ 3 [mM c]): ∃cs e,w.heap[(bt.β ⟨0,[]⟩).1]? =some (.cells cs e (0,0))/\SC (bt.β ⟨0,[]⟩).2 (bt.κ ⟨0,[]⟩) 3 cs.size/\(∀ (k:Nat) (u:Value),cs[k]? =some u->u.oneCell'=true)/\rt cs (bt.β ⟨0,[]⟩).2 c:=by
 obtain⟨cs,e,h1,h2,h3,h4⟩:=h;obtain⟨_,h5⟩:=h4 0 (mM c) rfl
 have gi: ∀ (j:Nat) (v:Value),(mM c)[j]? =some (.sc v)->cs[(bt.β ⟨0,[]⟩).2+j]? =some v:=fun j v hj=>by obtain⟨u,q1,q2⟩:=h5 j _ hj;rw[ce,aR] at q1;cases q2;exact q1
 exact⟨cs,e,h1,h2,h3,gi 0 _ rfl,gi 1 _ rfl,gi 2 _ rfl⟩
theorem Ph [dP] {w0 w w':World} {W:Nat->Prop} {bt:Bt} {c c':fT} (hI:fR w0 W bt (nx [.sl 3 [mM c]]) w) (hos:w'.os=w.os) (ht:w'.tape=w.tape) (ho:w'.output=w.output) (hs:w'.heap.size=w.heap.size) (hk: ∀b,b≠(bt.β ⟨0,[]⟩).1->w'.heap[b]? =w.heap[b]?) (hb:NT w' bt ⟨0,[]⟩ 3 [mM c']):fR w0 W bt (nx [.sl 3 [mM c']]) w':=by
 obtain⟨h1,h2⟩:=hI.tr ⟨0,[]⟩ 3 [mM c] rfl;have hκ:0<bt.κ ⟨0,[]⟩:=h1
 exact { good:=hI.good,os:=hos.trans hI.os,tape:=ht.trans hI.tape,output:=ho.trans hI.output,size:=by rw[hs]; exact hI.size
         keep:=fun b hb hw=>(hk b fun e=>by rcases (h2 hκ).1 with h|h; ·omega
                                            ·exact hw (e ▸ h)).trans (hI.keep b hb hw)
         nb:=hI.nb,ng:=hI.ng
         bx:=fun n cells h=>by cases h
         gh:=fun r t h=>(aj.1 h).1
         tr:=fun p s rs h=>by obtain⟨rfl,rfl,rfl⟩:=ow (lp c') h;exact⟨h1,fun hk=>⟨(h2 hk).1,hb⟩⟩
         inj:=fun p q s rs s' rs' hp hq _ _ _=>by rw[(ow (lp c') hp).1,(ow (lp c') hq).1]
         bbinj:=fun n m cs cs' h=>by cases h
         bbtr:=fun n cs p s rs h=>by cases h
         alt:=fun b hb=>by rw[hs]; exact hI.alt b hb
         atr:=fun p s rs h hk=>by obtain⟨rfl,rfl,rfl⟩:=ow (lp c') h;exact hI.atr ⟨0,[]⟩ 3 [mM c] rfl hk
         abb:=fun n cs h=>by cases h }
theorem JY {w w1:World} {b O:Nat} {cs:Array Value} {e:TypeId} {c:fT} {i h:Int} (hb:w.heap[b]? =some (.cells cs e (0,0))) (hc:rt cs O c)
  (h1:w1.heap=((w.setCell ⟨b,O+2,none⟩ (.int .i64 h)).setCell ⟨b,O+1,none⟩ (.int .i64 i)).heap\/(i=c.i/\w1.heap=(w.setCell ⟨b,O+2,none⟩ (.int .i64 h)).heap)):
  w1.heap.size=w.heap.size/\(∀k,k≠b->w1.heap[k]? =w.heap[k]?)/\ ∃cs',w1.heap[b]? =some (.cells cs' e (0,0))/\cs'.size=cs.size/\rt cs' O ⟨c.b,i,h⟩/\ ∀k,(k<O\/O+3<=k)->cs'[k]? =cs[k]? :=by
 have hlt:=(aF.1 hc.2.2).1;have far: ∀ (k:Nat),(k<O\/O+3<=k)->O+1≠k/\O+2≠k:=fun k hk=>by omega
 rcases h1 with h1| ⟨rfl,h1⟩
 ·rw[h1];refine⟨by simp[World.setCell],fun k hk=>by simp[World.setCell,cW,Ne.symm hk],(cs.setIfInBounds (O+2) (.int .i64 h)).setIfInBounds (O+1) (.int .i64 i),by simp[World.setCell,cW,hb],by simp,⟨?_,?_,?_⟩,fun k hk=> ?_⟩
  ·simp[bG,hc.1]
  ·simp[bG]; omega
  ·simp[bG]; omega
  ·simp[bG,(far k hk).1,(far k hk).2]
 ·rw[h1];refine⟨by simp[World.setCell],fun k hk=>by simp[World.setCell,cW,Ne.symm hk],cs.setIfInBounds (O+2) (.int .i64 h),by simp[World.setCell,cW,hb],by simp,⟨?_,?_,?_⟩,fun k hk=> ?_⟩
  ·simp[bG,hc.1]
  ·simp[bG,hc.2.1]
  ·simp[bG]; omega
  ·simp[bG,(far k hk).2]
def RH (G:fT->Option (fT×Int)) (l:List fT):Option (List fT×Int×Unit):=match l with
 | [c] =>(G c).map fun y=>([y.1],y.2,())
 | _=>none
def RI [dP] {P:Program} (f:FuncId) (hk:Nat.blt f 1048576=true) (enter: ∀ (args:Array Value) (w:World),(callFunc f args).run P w= .ok (.enter f args) w) (G:fT->Option (fT×Int))
    (h: ∀c y,G c=some y-> ∀ (w:World) (b O:Nat) (cs:Array Value) (e:TypeId),(∀a v,dP.w.cell? a=some v->w.cell? a=some v/\a.block≠b)->w.heap[b]? =some (.cells cs e (0,0))->rt cs O c->
      Calls P f #[.pointer (some ⟨b,O,none⟩)] w fun r w'=>r= .returned (.int .i64 y.2)/\w'.os=w.os/\w'.tape=w.tape/\w'.output=w.output/\w'.heap.size=w.heap.size/\(∀k,k≠b->w'.heap[k]? =w.heap[k]?)/\ ∃cs',w'.heap[b]? =some (.cells cs' e (0,0))/\cs'.size=cs.size/\rt cs' O y.1/\ ∀k,(k<O\/O+3<=k)->cs'[k]? =cs[k]?):Fv P:=
 ⟨A5 f,GP (.st .cur) [] [.i .i64] (fun l _=>RH G l),by
  intro args ρ κ r hr;unfold GP at hr;split at hr
  ·rename_i t l tl;split at hr
   ·rename_i l' hl;obtain⟨e,hl⟩:=gx hl;subst e;have hl:l=l':=hl;subst hl;obtain⟨x,hn,hr2⟩:=lM hr;obtain⟨y,h1,hr3⟩:=ai.1 hr2;refine⟨_,_, .of_pt ⟨_,l,_,rfl,jb.norm (HA.cons (.inl rfl) hn) ?_⟩ (ar hk),EG _ _ (kA [.i .i64] y.2),hr3⟩
    match l,h1 with
    | [],h1=>cases h1
    | _::_::_,h1=>cases h1
    | [c],h1=>
      obtain⟨z,h2,rfl⟩:=ak.1 h1;intro w W bt0 vals hI hlen hv
      match vals,hlen with
      | [v0],_=>
        have hv0:VR w bt0 (.ptrT ⟨0,[]⟩ 3 0 0) v0:=hv 0 _ v0 rfl rfl;cases hv0 with
        |ptrT _ _ _ hp hκ=>
         have hI:fR w W bt0 (nx [.sl 3 [mM c]]) w:=hI;obtain⟨_,g⟩:=hI.tr ⟨0,[]⟩ 3 [mM c] rfl;obtain⟨cs,e,q1,q2,q3,q4⟩:=rt.of_blk (g hκ).2;refine⟨enter _ _,(h c z h2 w _ _ cs e (fun a v hc=>⟨(yF hI.good hc).1,fun e=> ?_⟩) q1 q4).mono ?_⟩
         ·have hlt:=(aF.1 q1).1;rcases (g hκ).1 with h|h
          ·omega
          ·exact (yF hI.good hc).2 (e ▸ h)
         rintro r w' ⟨rfl,a1,a2,a3,a4,a5,cs',a6,a7,a8,a9⟩
         refine⟨_,bt0,rfl,Ph hI a1 a2 a3 a4 a5 (a8.blk a6 (by rw[a7]; exact q2) fun k u hu=> ?_),aq _,fun _ _=>⟨rfl,rfl⟩, .sc rfl⟩;generalize (bt0.β ⟨0,[]⟩).2=O at a8 a9;by_cases k0:k<O\/O+3<=k
         ·exact q3 k u (by rw[<-a9 k k0]; exact hu)
         ·obtain rfl|rfl|rfl:k=O\/k=O+1\/k=O+2:=by omega
          ·rw[a8.1] at hu; cases hu; rfl
          ·rw[a8.2.1] at hu; cases hu; rfl
          ·rw[a8.2.2] at hu; cases hu; rfl
   ·cases hr
  ·cases hr⟩
def RJ [dP] {P:Program} (f:FuncId) (hk:Nat.blt f 1048576=true) (enter: ∀ (args:Array Value) (w:World),(callFunc f args).run P w= .ok (.enter f args) w) (G:Hd->Option fT)
    (h: ∀x c,G x=some c-> ∀ (w:World),(∀a v,dP.w.cell? a=some v->w.cell? a=some v)->
      Calls P f #[.slice x.a x.n x.c] w fun r w'=> ∃b cs e,r= .returned (.pointer (some ⟨b,0,none⟩))/\Below w.heap.size w w'/\w.heap.size<=b/\w'.heap[b]? =some (.cells cs e (0,0))/\cs.size=3/\rt cs 0 c):Fv P:=
 ⟨f,MX (.st .cur) [.ty .h] [] (fun x=>(G x.1).map fun c=>([c],())),by
   intro args ρ κ r hr;unfold MX at hr;obtain⟨x,hn,hr2⟩:=lM hr;obtain⟨y,h1,hr3⟩:=ai.1 hr2;obtain⟨c,h2,rfl⟩:=ak.1 h1;refine⟨.v (.cl (.ptrT ⟨0,[]⟩ 3 0 0)),[⟨.st .cur,[c],none⟩], .of_fn (pw.norm hn ?_) (ar hk),Nat.succ_pos 0,hr3⟩;intro w W bt0 vals hI hlen hv
   match vals,hlen with
   | [v0],_=>
     have hv0:VR w bt0 (.sc (.slice x.1.a x.1.n x.1.c)) v0:=hv 0 _ v0 rfl rfl;cases hv0 with
     |sc _=>
      refine⟨enter _ _,(h x.1 c h2 w fun a v hc=>(yF hI.good hc).1).mono ?_⟩
      rintro r w' ⟨b,cs,e,rfl,a1,a2,a3,a4,a5⟩
      let btn:Bt:= { bt0 with β:=fun _=>(b,0),κ:=fun p=>if p.l= [] then 1 else 0,ng:=1 }
      refine⟨_,btn,rfl,?_,ay _,fun p hp=>absurd hp (Nat.not_lt_zero _), .ptrT (bt:=btn) 3 0 0 dI dI⟩
      exact { good:=hI.good,os:=a1.os,tape:=a1.tape,output:=a1.output,size:=a1.size,keep:=fun b hb _=>a1.block b hb,nb:=hI.nb,ng:=rfl
              bx:=fun n cells h=>by cases h
              gh:=fun r t h=>(aj.1 h).1
              tr:=fun p s rs h=>by
               obtain⟨rfl,rfl,rfl⟩:=ow (lp c) h;refine⟨aq _,fun _=>⟨.inl a2,rt.blk (bt:=btn) a5 a3 ⟨by rw[a4]; exact aq _, .inl rfl⟩ fun k u hu=> ?_⟩⟩
               match k,hu with
               | 0,hu=>rw[a5.1] at hu; cases hu; rfl
               | 1,hu=>rw[a5.2.1] at hu; cases hu; rfl
               | 2,hu=>rw[a5.2.2] at hu; cases hu; rfl
               |k+3,hu=>rw[Array.getElem?_eq_none (by omega)] at hu; cases hu
              inj:=fun p q s rs s' rs' hp hq _ _ _=>by rw[(ow (lp c) hp).1,(ow (lp c) hq).1]
              bbinj:=fun n m cs cs' h=>by cases h
              bbtr:=fun n cs p s rs h=>by cases h
              alt:=fun b hb=>aQ (hI.alt b hb) a1.size
              atr:=fun p s rs h _ hA=>by have :b<w.heap.size:=hI.alt b hA;omega
              abb:=fun n cs h=>by cases h }⟩
end
end Go.Proofs.YtadabkgmdllbfaaGreat.En
