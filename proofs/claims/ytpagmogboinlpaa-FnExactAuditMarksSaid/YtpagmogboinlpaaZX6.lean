import Derived.Test.YtpagmogboinlpaaZX5
import Derived.Lib.Overlaps
namespace Go.Proofs.Ytpagmogboinlpaa.En
section
open Go Go.RowKit
section
variable {P:Program} {w w':World} {W:Nat->Prop} {bt:Bt}
def CH:T->Value| .sc v=>v| _=>undef
def iI (sz:Nat) (rows:List (List T)):Prop:= ∀r∈rows,r.length=sz/\ ∀x∈r,∃v,x= .sc v/\it v=true
def ep:List (List T)->List Value
 | [] => []
 |r::l=>r.map CH++ep l
theorem iI.tail {sz:Nat} {r:List T} {l:List (List T)} (h:iI sz (r::l)):iI sz l:=fun x hx=>h x (aA _ hx)
theorem ii {sz:Nat}: ∀ {rows:List (List T)},iI sz rows->(ep rows).length=rows.length*sz
 | [],_=>by simp[ep]
 |r::l,h=>by simp only[ep,aP,ax,aY,ii h.tail,(h r aD).1,bi];omega
theorem ly: ∀a b:List (List T),ep (a++b)=ep a++ep b
 | [],b=>rfl
 |r::a,b=>by simp[ep,ly a b]
theorem lz {sz:Nat}: ∀ {rows:List (List T)},iI sz rows-> ∀ (i:Nat) (r:List T) (j:Nat) (x:T),rows[i]? =some r->r[j]? =some x->(ep rows)[i*sz+j]? =some (CH x)
 | [],_,i,r,j,x,hi,_=>by simp at hi
 |r0::l,h,0,r,j,x,hi,hj=>by
  obtain rfl:r0=r:=by simpa using hi
  have hl:=(ah.1 hj).1;rw[bU,aN,ep,az (by simpa using hl),al,hj];rfl
 |r0::l,h,i+1,r,j,x,hi,hj=>by have h0:=(h r0 aD).1;rw[ep,aH (by rw[ax,h0,bi]; omega),ax,h0,show (i+1)*sz+j-sz=i*sz+j by rw[bi]; omega];exact lz h.tail i r j x (by simpa using hi) hj
theorem qP {sz:Nat}: ∀ {rows:List (List T)},iI sz rows-> ∀u∈ep rows,it u=true
 | [],_,u,hu=>by cases hu
 |r::l,h,u,hu=>by
  rcases aZ.1 hu with hu|hu
  ·obtain⟨x,hx,rfl⟩:=aG.1 hu;obtain⟨v,rfl,hv⟩:=(h r aD).2 x hx;exact hv
  ·exact qP h.tail u hu
theorem yl {sz:Nat} {rows:List (List T)} (hf:iI sz rows) {p:dC} {cur:Array Value} (g: ∀ (i:Nat) (r:List T),rows[i]? =some r->r.length=sz/\ ∀ (j:Nat) (x:T),r[j]? =some x-> ∃c,cur[i*sz+j]? =some c/\HR bt (p.sub i j) x c) (k:Nat) (u:Value) (hk: (ep rows)[k]? =some u):cur[k]? =some u:=by
 have hlt:=(ah.1 hk).1;rw[ii hf] at hlt
 have hsz:0<sz:=by
  rcases bf sz with h|h
  ·subst h; simp at hlt
  ·exact h
 have e:k / sz*sz+k % sz=k:=by rw[da]; exact Nat.div_add_mod k sz
 have hi:k / sz<rows.length:=Nat.div_lt_of_lt_mul (by rw[da]; exact hlt);have hr:=af hi;obtain⟨g1,g2⟩:=g _ _ hr;have hj:k % sz< (rows[k / sz]).length:=by rw[g1]; exact cQ _ hsz
 have hx:=af hj;obtain⟨c,c1,c2⟩:=g2 _ _ hx;have hv:=lz hf _ _ _ _ hr hx;rw[e] at c1 hv;rw[hk] at hv;obtain⟨v,hv1,_⟩:=(hf _ (ap hr)).2 _ (ap hx);rw[hv1] at c2 hv;cases c2 with
 |sc _=>rw[c1,Option.some.inj hv];rfl
theorem An {sz:Nat} {rows:List (List T)} (hf:iI sz rows) {l:List (Nat×Nat)} {s:Nat} {rs:List (List T)} (h: (T.sl sz rows).go l= .sl s rs):l= [] /\s=sz/\rs=rows:=by
 cases l with
 |nil=>have h:T.sl sz rows= .sl s rs:=h;cases h;exact⟨rfl,rfl,rfl⟩
 |cons z l=>
  obtain⟨i,j⟩:=z;exfalso
  have eD: ∀ (l:List (Nat×Nat)) (t:T),(t= .dd\/ ∃v,t= .sc v)->t.go l≠ .sl s rs:=by
   intro l
   induction l with
   |nil=>rintro t (rfl| ⟨v,rfl⟩) h<;>cases h
   |cons y l ih=>rintro t (rfl| ⟨v,rfl⟩) h<;>exact ih .dd (.inl rfl) h
  refine eD l _ ?_ h;simp only[T.cell,aq];cases hr:rows[i]? with
  |none=>exact .inl (by simp)
  |some r=>
   simp only[aJ];cases hx:r[j]? with
   |none=>exact .inl rfl
   |some x=>obtain⟨v,rfl,_⟩:=(hf r (ap hr)).2 x (ap hx);exact .inr ⟨v,rfl⟩
theorem rT {sz:Nat} {rows rows':List (List T)} (hI:dY w W bt (gH [.sl sz rows]) w) (hf:iI sz rows') {b cap:Nat} {cs:Array Value} {e:TypeId} (h1:w'.os=w.os) (h2:w'.tape=w.tape) (h3:w'.output=w.output) (h4:w.heap.size<=w'.heap.size)
  (hb:b=w.heap.size\/(0<bt.κ ⟨0,[]⟩/\b=bt.β ⟨0,[]⟩)) (hkeep: ∀k,k<w.heap.size->w'.heap[k]? =w.heap[k]? \/k=b\/(0<bt.κ ⟨0,[]⟩/\k=bt.β ⟨0,[]⟩)) (hh:w'.heap[b]? =some (.cells cs e (0,0))) (hk:cap*sz<=cs.size) (ho: ∀ (k:Nat) (u:Value),cs[k]? =some u->u.oneCell'=true)
  (hr:rows'.length<=cap) (hv: ∀ (k:Nat) (u:Value),(ep rows')[k]? =some u->cs[k]? =some u):
  ∃btn,dY w W btn (gH [.sl sz rows']) w'/\VR w' btn (.own ⟨0,[]⟩ sz 0 rows'.length) (.slice (some ⟨b,0,none⟩) rows'.length cap):=by
 have ng:bt.ng=1:=hI.ng;have old: (gH [T.sl sz rows]).look ⟨0,[]⟩= .sl sz rows:=rfl
 have look: ∀ (p:dC) (s:Nat) (rs:List (List T)),(gH [T.sl sz rows']).look p= .sl s rs->p=⟨0,[]⟩/\s=sz/\rs=rows':=by intro p s rs h;obtain⟨e0,h⟩:=tV h;obtain⟨e1,e2,e3⟩:=An hf h;obtain⟨r,l⟩:=p;simp only at e0 e1;exact⟨by rw[e0,e1],e2,e3⟩
 have place:w.heap.size<=b\/W b:=by
  rcases hb with h| ⟨h,h'⟩
  ·exact .inl (Nat.le_of_eq h.symm)
  ·rw[h'];exact ((hI.tr _ _ _ old).2 h).1
 refine⟨{ bt with β:=fun _=>b,κ:=fun _=>cap },{ os:=h1,tape:=h2,output:=h3,size:=h4,keep:=fun k hk' hW=> ?_,nb:=hI.nb,ng:=hI.ng,bx:=fun n cells h=>(by cases h),gh:=fun r t h=> ?_,tr:=fun p s rs h=> ?_,inj:=fun p q s rs s' rs' h h' _ _ _=> ?_,bbinj:=fun n m c c' h=>(by cases h),bbtr:=fun n c p s rs h=>(by cases h),alt:=fun k hA=>aU (hI.alt k hA) h4,atr:=fun p s rs h _ hA=> ?_,abb:=fun n c h=>(by cases h) },?_⟩
 ·rcases hkeep k hk' with h|rfl| ⟨h,rfl⟩
  ·exact h
  ·rcases place with h|h
   ·omega
   ·exact absurd h hW
  ·rcases ((hI.tr _ _ _ old).2 h).1 with h'|h'
   ·omega
   ·exact absurd h' hW
 ·have :r<1:=by
   have:=(ah.1 (show [T.sl sz rows'][r]? =some t from h)).1;simpa using this
  exact this
 ·obtain⟨rfl,rfl,rfl⟩:=look p s rs h;refine⟨hr,fun _=>⟨place,cs,e,hh,hk,ho,fun i r hi=>⟨(hf r (ap hi)).1,fun j x hx=> ?_⟩⟩⟩;obtain⟨v,rfl,hs⟩:=(hf r (ap hi)).2 x (ap hx);exact⟨v,hv _ _ (lz hf i r j _ hi hx), .sc hs⟩
 ·rw[(look p s rs h).1,(look q s' rs' h').1]
 ·have hA:bt.A b:=hA;rcases hb with h'| ⟨h',h''⟩
  ·have:=hI.alt b hA;omega
  ·rw[h''] at hA;exact hI.atr _ _ _ old h' hA
 ·exact .own (by show 0<bt.ng; omega) hr (by show 0+cap<=cap; omega) (fun _=>by simp)
theorem jy (w:World) (dT sT ty elem:TypeId) {i:TypeInfo} (g o dLen dCap:Nat) (a:Addr) (sLen sCap:Nat) (cur:Array Value) (t:TypeId) (cs:List Value)
  (hu:P.underlying dT=some (.slice elem)) (hi:P.info? elem=some i)
  (hg:w.heap[g]? =some (.cells cur t (0,0))) (hn:cs.length=Nat.min sLen dLen*i.size)
  (hsrc: ∀ (j:Nat) (v:Value),cs[j]? =some v->w.cell? (a.add j)=some v) (hfit:o+cs.length<=cur.size) (h1: ∀v∈cs,v.oneCell'=true):
  (Builtin.copy_ #[dT,sT] ty #[.slice (some ⟨g,o,none⟩) dLen dCap, .slice (some a) sLen sCap]).run P w=
    .ok (goInt (Nat.min sLen dLen)) (w.setRow g (cur.toList.take o++cs++cur.toList.drop (o+cs.length)).toArray):=by
 have hl:=run_loadCells_list (P:=P) w a cs hsrc;have hst:=run_storeCells_at P g o t cs 0 cur w hg (by simpa using hfit) h1;simp[Builtin.copy_,run_underlying hu,Builtin.lenOf,Builtin.firstCells,sizeOf,typeInfo,hi,<-hn,hl,hst]
theorem rU (w:World) (tS tR e:TypeId) (ht:P.underlying tS=some (.slice e)) {i:TypeInfo} (hi:P.info? e=some i) (a b:Addr) (la ca lb cb:Nat) (hne:a.block≠b.block) {ra rb:Array Value} {ta tb:TypeId} {fa:Nat×Nat}
  (ha:w.heap[a.block]? =some (.cells ra ta fa)) (hra:0<ra.size) (hb:w.heap[b.block]? =some (.cells rb tb (0,0))):
  (Extern.SlicesOverlaps.overlaps #[tS,tS] #[tR] #[.slice (some a) la ca, .slice (some b) lb cb]).run P w= .ok (.bool false) w:=by
 have hnb: (a.block != b.block)=true:=by simpa using hne
 have hnb': (a.block==b.block)=false:=by simpa using hne
 have hz: ∀w,(Go.sizeOf e).run P w= .ok i.size w:=fun w=>by simp[sizeOf,typeInfo,hi]
 have sa:w.shape? a.block=some (ta,ra.size):=by simp[World.shape?,ha]
 have sb:w.shape? b.block=some (tb,rb.size):=by simp[World.shape?,hb]
 have fb: ∀o s,w.frozen? ⟨b.block,o,s⟩=false:=fun o s=>by simp[World.frozen?,hb]
 obtain⟨n,hn⟩: ∃n,ra.size=n+1:=⟨ra.size-1,by omega⟩
 rw[hn] at sa
 change Sem.run P (α:=Value) (do
  let some t:=(#[tS,tS]:Array TypeId)[0]? |stuck "slices.overlaps: no parameter types"
  let .slice elem <-underlying t|stuck "slices.overlaps: slice type expected"
  let size <-sizeOf elem
  match (some a:Option Addr),(some b:Option Addr) with
  |some a,some b=>
   if la=0\/lb=0\/size=0 then pure (Value.bool false)
   else if a.block != b.block&&(<-frozen a)&&(<-frozen b) then unsupported .addressObserved
   else do
    if a.block != b.block then do
     noView a; noView b
     if <-mayBeOne a b then return Value.bool ((<-choose (.extern "sameAddr.stringBytes" 2))==1)
    pure (Value.bool (a.block==b.block&&a.off<b.off+lb*size&&b.off<a.off+la*size))
  | _,_=>pure (Value.bool false)) w=_
 by_cases h0:la=0\/lb=0\/i.size=0
 ·simp[run_underlying ht,hz,h0]
 ·cases h1:w.frozen? a<;>cases h2:w.frozen? { block:=a.block,off:=n+1 }<;>
   simp[run_underlying ht,hz,h0,hnb,hnb',frozen,noView,viewAt,mayBeOne,stringish,shape,Sem.run,sa,sb,h1,h2,fb]
structure rV (P:Program) (f t e tn:Nat) (sz:Nat) (i:TypeInfo) (z:Value):Prop where
 enter: ∀ (args:Array Value) (w:World),(callFunc f args).run P w= .ok (.enter f args) w
 ht:P.underlying t=some (.slice e)
 hi:P.info? e=some i
 hz:i.zero=some z
 zs:z.cells.size=i.size
 z1: ∀u∈z.cells.toList,u.oneCell'=true
 hs:i.size=sz
 pos:0<sz
 htn:P.underlying tn=some (.int .i64)
 toEnd: ∀ (ab:Option Addr) (n c:Nat) (ad:Addr) (vc:Nat) (w w':World) (v:Value),n<=c->(ab=none->n=0)->n<=2 ^ 40->
  (∀ty,(Builtin.append_ #[t,t] ty #[.slice ab n c, .slice (some ad) 1 vc]).run P w= .ok v w')->
  Calls P f #[.slice ab n c, .int .i64 n, .slice (some ad) 1 vc] w fun e w1=>e= .returned v/\w1=w'
 shift: ∀ (b n c i:Nat) (ad:Addr) (vc:Nat) (w W1 W2:World) (u1 u2:Value),i<n->n+1<=c->n<=2 ^ 40->ad.block≠b->
  (∃ra ta fa,w.heap[ad.block]? =some (.cells ra ta fa)/\0<ra.size)->(∃rb tb,w.heap[b]? =some (.cells rb tb (0,0)))->
  (∀ty dc sc,(Builtin.copy_ #[t,t] ty #[.slice (some ⟨b,(i+1)*sz,none⟩) (n-i) dc, .slice (some ⟨b,i*sz,none⟩) (n+1-i) sc]).run P w.drew= .ok u1 W1)->
  (∀ty dc,(Builtin.copy_ #[t,t] ty #[.slice (some ⟨b,i*sz,none⟩) (n+1-i) dc, .slice (some ad) 1 vc]).run P W1= .ok u2 W2)->
  Calls P f #[.slice (some ⟨b,0,none⟩) n c, .int .i64 i, .slice (some ad) 1 vc] w fun e w1=>e= .returned (.slice (some ⟨b,0,none⟩) (n+1) c)/\w1=W2
 grow: ∀ (b g n c G i:Nat) (ad:Addr) (vc:Nat) (w W0 W1 W2:World) (u1 u2:Value),i<n->n<=c->c<n+1->n+1<=G->n<=2 ^ 40->
  (∀ty,(Builtin.append_ #[t,tn] ty #[.slice (some ⟨b,0,none⟩) i c, .int .i64 ((n:Int)+1-(i:Int))]).run P w= .ok (.slice (some ⟨g,0,none⟩) (n+1) G) W0)->
  (∀ty dc,(Builtin.copy_ #[t,t] ty #[.slice (some ⟨g,i*sz,none⟩) (n+1-i) dc, .slice (some ad) 1 vc]).run P W0= .ok u1 W1)->
  (∀ty dc sc,(Builtin.copy_ #[t,t] ty #[.slice (some ⟨g,(i+1)*sz,none⟩) (n-i) dc, .slice (some ⟨b,i*sz,none⟩) (n-i) sc]).run P W1.drew= .ok u2 W2)->
  Calls P f #[.slice (some ⟨b,0,none⟩) n c, .int .i64 i, .slice (some ad) 1 vc] w fun e w1=>e= .returned (.slice (some ⟨g,0,none⟩) (n+1) G)/\w1=W2
theorem iI.ins {sz:Nat} {rows:List (List T)} {row:List T} (h:iI sz rows) (hr:iI sz [row]) (i:Nat):iI sz (rows.take i++row::rows.drop i):=fun r hm=>by
 rcases aZ.1 hm with hm|hm
 ·exact h r (bI hm)
 ·rcases aV.1 hm with rfl|hm
  ·exact hr r aD
  ·exact h r (bg hm)
theorem ym {α:Type}: ∀ (l m:List α),(∀ (k:Nat) (u:α),l[k]? =some u->m[k]? =some u)-> ∃C,m=l++C
 | [],m,_=>⟨m,rfl⟩
 |a::l,m,h=>by
  have h0:=h 0 a rfl;cases m with
  |nil=>cases h0
  |cons b m=>
   obtain rfl:b=a:=by simpa using h0
   obtain⟨C,rfl⟩:=ym l m (fun k u hk=>by simpa using h (k+1) u (by simpa using hk));exact⟨C,rfl⟩
theorem tY {w:World} {a:Addr} (hs:a.spot=none) {c:Value} (h:w.cell? a=some c): ∃ra ta fa,w.heap[a.block]? =some (.cells ra ta fa)/\0<ra.size:=by
 unfold World.cell? at h;split at h
 ·rename_i ra ta fa hb;rw[hs] at h;refine⟨ra,ta,fa,hb,?_⟩;have:=(aI.1 (by simpa using h)).1;omega
 ·cases h
theorem yn {α:Type} {A X:List α} {n k:Nat} (h:A.length=n): (A++X).take (n+k)=A++X.take k:=by subst h;exact List.take_length_add_append k
theorem pu {α:Type} {A X:List α} {n k:Nat} (h:A.length=n): (A++X).drop (n+k)=X.drop k:=by subst h;exact List.drop_length_add_append k
theorem rX {f t e tn sz:Nat} {i0:TypeInfo} {z:Value} (hw:rV P f t e tn sz i0 z) {rows:List (List T)} {row:List T} (hf:iI sz rows) (hf1:iI sz [row]) {i:Nat} (hi:i<=rows.length) (hb: (rows.length+1)*i0.bytes<=2 ^ 40) (hn:rows.length<2 ^ 40):
  iE P f [.own ⟨0,[]⟩ sz 0 rows.length, .sc (.int .i64 i), .ro sz [row]] [.sl sz rows] 0 (.own ⟨0,[]⟩ sz 0 (rows.length+1)) [.sl sz (rows.take i++row::rows.drop i)] :=by
 intro w W bt0 vals hI hl hv
 obtain⟨s,iv,vv,rfl⟩: ∃s iv vv,vals= [s,iv,vv] :=by
  match vals,hl with
  | [a,b,c],_=>exact⟨a,b,c,rfl⟩
 have v1:=hv 0 _ s rfl rfl;have v2:=hv 1 _ iv rfl rfl;have v3:=hv 2 _ vv rfl rfl;refine⟨hw.enter _ w,?_⟩;have old: (gH [T.sl sz rows]).look ⟨0,[]⟩= .sl sz rows:=rfl;have hfi:=hf.ins hf1 i;have hli: (rows.take i++row::rows.drop i).length=rows.length+1:=by simp; omega
 cases v2 with
 |sc _=>
 cases v3 with
 |ro h3=>
 cases h3 with
 |sl cs hcv hs3 hA hl3 hr3 ht3=>
 rename_i ad vc;cases v1 with
 |own hp hnc hk ha=>
 rename_i ab cap;have hrow:=hf1 row aD
 have newc: ∀ (j:Nat) (u:Value),(ep [row])[j]? =some u->w.cell? (ad.add j)=some u:=fun j u hj=>by
  have hj':j<row.length:=by have:=(ah.1 hj).1;rw[ii hf1] at this;rw[hrow.1];simpa using this
  have hx:=af hj';have h1:=lz hf1 0 row j _ rfl hx;rw[bU,aN,hj] at h1;have h2:=hr3 0 row j _ rfl hx;have h4:=ht3 0 row j _ rfl hx;obtain⟨v,hv',_⟩:=hrow.2 _ (ap hx);rw[hv'] at h1 h4;cases h4 with
  |sc _=>rw[bU,aN] at h2;exact h2.trans (congrArg some (Option.some.inj h1).symm)
 have newl: (ep [row]).length=1*i0.size:=by rw[ii hf1,hw.hs]; rfl
 have newo: ∀u∈ep [row],u.oneCell'=true:=fun u hu=>o4 (qP hf1 u hu);have pos:=hw.pos;have hnl:0< (ep [row]).length:=by rw[newl,hw.hs]; omega
 have blk:0<cap-> ∃cur e',ab=some ⟨bt0.β ⟨0,[]⟩,0,none⟩/\w.heap[bt0.β ⟨0,[]⟩]? =some (.cells cur e' (0,0))/\cap*sz<=cur.size/\(∀ (k:Nat) (u:Value),cur[k]? =some u->u.oneCell'=true)/\ ∀ (k:Nat) (u:Value),(ep rows)[k]? =some u->cur[k]? =some u:=fun h=>by obtain⟨_,cur,e',g1,g2,g3,g4⟩:=(hI.tr _ _ _ old).2 (by omega);refine⟨cur,e',by rw[ha h]; simp,g1,bA (bn _ (by omega)) g2,g3,yl hf g4⟩
 have hvl:=ii hf;have hsplit:ep rows=ep (rows.take i)++ep (rows.drop i):=by rw[<-ly,c7]
 have hA1: (ep (rows.take i)).length=i*sz:=by rw[ii (sz:=sz) (fun r hr=>hf r (bI hr)),aW,Nat.min_eq_left hi]
 have hB1: (ep (rows.drop i)).length=(rows.length-i)*sz:=by rw[ii (sz:=sz) (fun r hr=>hf r (bg hr)),bu]
 have hnews:ep (rows.take i++row::rows.drop i)=ep (rows.take i)++(ep [row] ++ep (rows.drop i)):=by rw[show row::rows.drop i= [row] ++rows.drop i from rfl,ly,ly]
 by_cases hin:i=rows.length
 ·
  subst hin
  have hn0:ab=none->rows.length=0:=fun h=>by
   rcases bf cap with h0|h0
   ·omega
   ·rw[ha h0] at h; cases h
  have olen: (ep rows).length=rows.length*i0.size:=by rw[hvl,hw.hs]
  obtain⟨v,w',b,cap',g1,g2⟩:=md (P:=P) (w:=w) (t:=t) (ty:=t) hw.ht hw.hi hw.hz hw.zs hw.z1 (by rw[hw.hs]; exact pos) (ab:=ab) (len:=rows.length) (cap:=cap) (m:=1) (x:= .slice (some ad) 1 vc) hnc olen newl
   (fun h=>by obtain⟨cur,e',k1,k2,k3,k4,k5⟩:=blk h;exact⟨_,cur,e',k1,k2,by rw[hw.hs]; exact k3,k4,k5⟩)
   (.inr ⟨ad,vc,rfl,newc⟩) newo (by omega) hb
  have gty: ∀ty,(Builtin.append_ #[t,t] ty #[.slice ab rows.length cap, .slice (some ad) 1 vc]).run P w= .ok v w':=fun ty=>g1;refine (hw.toEnd ab rows.length cap ad vc w w' v hnc hn0 (by omega) gty).mono fun e1 w1 h=> ?_;obtain⟨rfl,rfl⟩:=h;obtain⟨ad',hv',had'⟩:=g2.val;have hc':0<cap':=by have:=g2.le; omega
  obtain⟨q1,arr,e',q2,q3,q4,q5,q6⟩:=g2.root hc';rw[had' hc'] at hv'
  obtain⟨btn,r1,r2⟩:=rT (w':=w1) hI hfi (b:=b) (cap:=cap') g2.os g2.tape g2.output g2.size
   (by
     rcases q1 with h| ⟨h,h',_⟩
     ·exact .inl h
     ·refine .inr ⟨by omega,?_⟩;rw[ha h] at h';exact (congrArg Addr.block (Option.some.inj h')).symm)
   (fun k hk'=>by
     rcases g2.block k hk' with h| ⟨h,h'⟩
     ·exact .inl h
     ·refine .inr (.inr ⟨by omega,?_⟩);rw[ha h] at h';exact (congrArg Addr.block (Option.some.inj h')).symm)
   q2 (by rw[<-hw.hs]; exact q3) q4 (by rw[hli]; exact g2.le)
   (fun k u hk=>by
     rw[hnews,b6,List.drop_length] at hk;simp only[ep,bz] at hk;rcases b0 k (ep rows).length with h|h
     ·rw[az h] at hk;exact q5 k u hk
     ·rw[aH h] at hk;have:=q6 _ u (by simpa [ep] using hk)
      rwa [<-olen,show (ep rows).length+(k-(ep rows).length)=k by omega] at this)
  rw[hli] at r2;exact⟨v,btn,rfl,r1,bG _,fun p hp=>by omega,by rw[hv']; exact r2⟩
 ·
  have hlt:i<rows.length:=by omega
  have hcap:0<cap:=by omega
  obtain⟨cur,e',k1,k2,k3,k4,k5⟩:=blk hcap;rw[k1];obtain⟨C,hC⟩:=ym (ep rows) cur.toList (fun k u hk=>by simpa using k5 k u hk);rw[hsplit,aK] at hC;have hbt:0<bt0.κ ⟨0,[]⟩:=by omega
  generalize hβ:bt0.β ⟨0,[]⟩=b at*;generalize hA0:ep (rows.take i)=A at*;generalize hB0:ep (rows.drop i)=B at*;generalize hN0:ep [row] =N at*;have hne:ad.block≠b:=fun h=>hI.atr _ _ _ old hbt (by rw[hβ,<-h]; exact hA)
  have hAone: ∀u∈A,u.oneCell'=true:=fun u hu=>by obtain⟨k,hk,e⟩:=aR hu;exact k4 k u (by rw[<-bc,hC,az hk,af hk,e])
  have hBone: ∀u∈B,u.oneCell'=true:=fun u hu=>by obtain⟨k,hk,e⟩:=aR hu;exact k4 (A.length+k) u (by rw[<-bc,hC,aH (by omega),show A.length+k-A.length=k by omega,az hk,af hk,e])
  have hBcell: ∀ (w1:World),w1.heap[b]? =some (.cells cur e' (0,0))-> ∀ (j:Nat) (v:Value),B[j]? =some v->w1.cell? ((⟨b,i*sz,none⟩:Addr).add j)=some v:=fun w1 h j v hj=>by have hj':=(ah.1 hj).1;rw[Go.Proofs.Ytpagmogboinlpaa.En.add_lit,fB h,<-bc,hC,aH (by omega),show i*sz+j-A.length=j by omega,az hj'];exact hj
  have hsz:=hw.hs;have hN1:N.length=sz:=by rw[newl,hsz]; omega
  have hadd1: (i+1)*sz=i*sz+sz:=by rw[bi]; omega
  have hnn:rows.length*sz=i*sz+(rows.length-i)*sz:=by rw[<-bi,show i+(rows.length-i)=rows.length by omega]
  have hcl:cur.size=cur.toList.length:=by simp
  obtain⟨u0,hu0⟩: ∃u0,N[0]? =some u0:=⟨_,af (by omega)⟩
  have hblk:=tY (a:=ad.add 0) (by unfold Addr.add; split<;>simp_all) (newc 0 u0 hu0);rw[gG] at hblk;by_cases hroom:rows.length+1<=cap
  ·have hr1: (rows.length+1)*sz<=cap*sz:=bn _ hroom;have hr2: (rows.length+1)*sz=rows.length*sz+sz:=by rw[bi]; omega
   have c1: ∀ty dc sc,(Builtin.copy_ #[t,t] ty #[.slice (some ⟨b,(i+1)*sz,none⟩) (rows.length-i) dc, .slice (some ⟨b,i*sz,none⟩) (rows.length+1-i) sc]).run P w.drew= .ok (goInt (Nat.min (rows.length+1-i) (rows.length-i))) _:=fun ty dc sc=>jy w.drew t t ty e b ((i+1)*sz) (rows.length-i) dc ⟨b,i*sz,none⟩ (rows.length+1-i) sc cur e' B hw.ht hw.hi k2 (by rw[hB1,hsz,show Nat.min (rows.length+1-i) (rows.length-i)=rows.length-i from Nat.min_eq_right (by omega)]) (hBcell w.drew k2) (by rw[hB1]; omega) hBone
   obtain⟨cur1,hc1⟩: ∃x:Array Value,x=(cur.toList.take ((i+1)*sz)++B++cur.toList.drop ((i+1)*sz+B.length)).toArray:=⟨_,rfl⟩
   rw[<-hc1] at c1
   have hc1':cur1.toList=A++((B++C).take sz++(B++cur.toList.drop ((i+1)*sz+B.length))):=by rw[hc1];simp only[aK];rw[hadd1];rw[show cur.toList.take (i*sz+sz)=A++(B++C).take sz from by rw[hC]; exact yn hA1];simp only[aK]
   have hy: ((B++C).take sz).length=sz:=by
    have :cur.toList.length=A.length+(B++C).length:=by rw[hC,aP]
    rw[aW];omega
   have g2:=setRow_heap w.drew b cur cur1 e' (0,0) k2
   have hcs1:cur1.size=cur.size:=by rw[hc1,cr];simp only[aP,aW,bu,bK];omega
   have c2: ∀ty dc,(Builtin.copy_ #[t,t] ty #[.slice (some ⟨b,i*sz,none⟩) (rows.length+1-i) dc, .slice (some ad) 1 vc]).run P (w.drew.setRow b cur1)= .ok (goInt (Nat.min 1 (rows.length+1-i))) _:=fun ty dc=>
    jy _ t t ty e b (i*sz) (rows.length+1-i) dc ad 1 vc cur1 e' N hw.ht hw.hi g2 (by rw[newl,show Nat.min 1 (rows.length+1-i)=1 from Nat.min_eq_left (by omega)])
     (fun j v hj=>by rw[kr (w:=w)]; exact newc j v hj; rw[gG]; exact setRow_other w.drew b _ _ hne) (by omega) newo
   obtain⟨cur2,hc2⟩: ∃x:Array Value,x=(cur1.toList.take (i*sz)++N++cur1.toList.drop (i*sz+N.length)).toArray:=⟨_,rfl⟩
   rw[<-hc2] at c2
   have hc2':cur2.toList=A++(N++B)++cur.toList.drop ((i+1)*sz+B.length):=by rw[hc2];simp only;rw[hc1',List.take_left' hA1,pu hA1,hN1,List.drop_left' hy];simp only[aK]
   refine (hw.shift b rows.length cap i ad vc w _ _ _ _ hlt hroom (by omega) hne hblk ⟨cur,e',k2⟩ c1 c2).mono fun e1 w1 h=> ?_;obtain⟨rfl,rfl⟩:=h;have g3:=setRow_heap (w.drew.setRow b cur1) b cur1 cur2 e' (0,0) g2
   obtain⟨btn,r1,r2⟩:=rT (w':=(w.drew.setRow b cur1).setRow b cur2) hI hfi (b:=b) (cap:=cap) rfl rfl rfl (by simp[World.setRow])
    (.inr ⟨hbt,hβ.symm⟩)
    (fun k hk'=>by
      by_cases h:k=b
      ·exact .inr (.inl h)
      ·exact .inl ((setRow_other _ b k _ h).trans (setRow_other _ b k _ h)))
    g3 (by
     have :cur2.size=cur1.size:=by rw[hc2,cr];simp only[aP,aW,bu,bK];omega
     omega)
    (fun k u hk=>by
      rw[<-bc,hc2'] at hk;rcases aZ.1 (ap hk) with h|h
      ·rcases aZ.1 h with h|h
       ·exact hAone u h
       ·rcases aZ.1 h with h|h
        ·exact newo u h
        ·exact hBone u h
      ·obtain⟨q,hq,hqu⟩:=aR (bg h);exact k4 q u (by rw[<-bc,af hq,hqu]))
    (by rw[hli]; exact hroom)
    (fun k u hk=>by rw[hnews] at hk;rw[<-bc,hc2',az (ah.1 hk).1];exact hk)
   rw[hli] at r2;exact⟨_,btn,rfl,r1,bG _,fun p hp=>by omega,r2⟩
  ·obtain⟨k,hk0⟩: ∃k,k=rows.length+1-i:=⟨_,rfl⟩
   have hki:i+k=rows.length+1:=by omega
   have hkk: (rows.length:Int)+1-(i:Int)=((k:Nat):Int):=by omega
   have hpos:0<i0.size:=by omega
   have hold: (Builtin.firstCells i0.size i (.slice (some ⟨b,0,none⟩) i cap)).run P w.drew= .ok A.toArray w.drew:=
    run_firstCells_some (P:=P) w.drew i0.size i ⟨b,0,none⟩ i cap A (by rw[hA1,hsz]) (fun j v hj=>by have hj':=(ah.1 hj).1;rw[Go.Proofs.Ytpagmogboinlpaa.En.add_lit,fB (w:=w.drew) k2,aN,<-bc,hC,az hj'];exact hj)
   have hkb:k*i0.bytes<=(rows.length+1)*i0.bytes:=bn _ (by omega);have hrz: ∀ty,_:=fun ty=>Go.Lib.run_append_grow_zeros (P:=P) w t tn ty e i0 z .i64 .i64 hw.ht hw.htn hw.hi hw.hz (some ⟨b,0,none⟩) i cap A hold k (by omega) hpos (by omega) (by omega) (by omega) (growslice_fits (by omega) (by rw[hki]; omega));rw[hki] at hrz;have hG:=grownCap_ge w (rows.length+1) cap e;generalize grownCap w (rows.length+1) cap e=G at hrz hG;obtain⟨Z,hZ⟩: ∃Z:List Value,Z=(Builtin.zeroCells z.cells k++Builtin.zeroCells z.cells (G-(rows.length+1))).toList:=⟨_,rfl⟩
   obtain⟨row0,hr0⟩: ∃x:Array Value,x=A.toArray++Builtin.zeroCells z.cells k++Builtin.zeroCells z.cells (G-(rows.length+1)):=⟨_,rfl⟩
   rw[<-hr0] at hrz;have hr0':row0.toList=A++Z:=by rw[hr0,hZ]; simp
   have hZone: ∀u∈Z,u.oneCell'=true:=fun u hu=>by
    have eD: ∀n,∀u∈(Builtin.zeroCells z.cells n).toList,u.oneCell'=true:=fun n u hu=>by simp only[Builtin.zeroCells,Array.toList_map,aG] at hu;obtain⟨q,_,rfl⟩:=hu;have hlt:q % z.cells.size<z.cells.size:=cQ _ (by rw[hw.zs]; exact hpos);rw[getElem!_pos z.cells _ hlt];exact hw.z1 _ (by simp)
    rw[hZ,Array.toList_append] at hu;rcases aZ.1 hu with h|h
    ·exact eD _ u h
    ·exact eD _ u h
   have hZl:Z.length=k*sz+(G-(rows.length+1))*sz:=by rw[hZ];simp only[Array.toList_append,aP,bK,size_zeroCells,hw.zs,hsz]
   have hks:k*sz=sz+(rows.length-i)*sz:=by rw[show k=1+(rows.length-i) by omega,bi]; omega
   have hbw:b<w.heap.size:=(aI.1 k2).1;have haw:ad.block<w.heap.size:=hI.alt _ hA;have hs0:=heap_alloc_new w.drew (.cells row0 e);have o0: ∀q,q<w.heap.size->(w.drew.alloc (.cells row0 e)).heap[q]? =w.heap[q]? :=fun q hq=>heap_alloc_old w.drew _ q hq;generalize hW0:w.drew.alloc (.cells row0 e)=W0 at*;have hrow0:row0.size=row0.toList.length:=by simp
   have c1: ∀ty dc,(Builtin.copy_ #[t,t] ty #[.slice (some ⟨w.heap.size,i*sz,none⟩) (rows.length+1-i) dc, .slice (some ad) 1 vc]).run P W0= .ok (goInt (Nat.min 1 (rows.length+1-i))) _:=fun ty dc=>
    jy W0 t t ty e w.heap.size (i*sz) (rows.length+1-i) dc ad 1 vc row0 e N hw.ht hw.hi hs0 (by rw[newl,show Nat.min 1 (rows.length+1-i)=1 from Nat.min_eq_left (by omega)])
     (fun j v hj=>by rw[kr (w:=w)]; exact newc j v hj; rw[gG]; exact o0 _ haw) (by rw[hrow0,hr0',aP]; omega) newo
   obtain⟨row1,hr1⟩: ∃x:Array Value,x=(row0.toList.take (i*sz)++N++row0.toList.drop (i*sz+N.length)).toArray:=⟨_,rfl⟩
   rw[<-hr1] at c1
   have hr1':row1.toList=(A++N)++Z.drop sz:=by rw[hr1];simp only;rw[hr0',List.take_left' hA1,hN1,pu hA1]
   have hs1:=setRow_heap W0 w.heap.size row0 row1 e (0,0) hs0;have hAN: (A++N).length=(i+1)*sz:=by rw[aP,hA1,hN1,hadd1]
   have c2: ∀ty dc sc,(Builtin.copy_ #[t,t] ty #[.slice (some ⟨w.heap.size,(i+1)*sz,none⟩) (rows.length-i) dc, .slice (some ⟨b,i*sz,none⟩) (rows.length-i) sc]).run P (W0.setRow w.heap.size row1).drew= .ok (goInt (Nat.min (rows.length-i) (rows.length-i))) _:=fun ty dc sc=>
    jy (W0.setRow w.heap.size row1).drew t t ty e w.heap.size ((i+1)*sz) (rows.length-i) dc ⟨b,i*sz,none⟩ (rows.length-i) sc row1 e B hw.ht hw.hi hs1 (by rw[hB1,hsz,show Nat.min (rows.length-i) (rows.length-i)=rows.length-i from Nat.min_self _])
     (hBcell _ (((setRow_other W0 w.heap.size b _ (by omega)).trans (o0 b hbw)).trans k2))
     (by
       have :row1.size=row1.toList.length:=by simp
       rw[this,hr1',aP,hAN,bu];omega) hBone
   obtain⟨row2,hr2⟩: ∃x:Array Value,x=(row1.toList.take ((i+1)*sz)++B++row1.toList.drop ((i+1)*sz+B.length)).toArray:=⟨_,rfl⟩
   rw[<-hr2] at c2
   have hr2':row2.toList=A++(N++B)++(Z.drop sz).drop B.length:=by rw[hr2];simp only;rw[hr1',List.take_left' hAN,pu hAN];simp only[aK]
   refine (hw.grow b w.heap.size rows.length cap G i ad vc w W0 _ _ _ _ hlt hnc (by omega) hG (by omega) (by rw[hkk]; exact hrz) c1 c2).mono fun e1 w1 h=> ?_;obtain⟨rfl,rfl⟩:=h;have hs2:=setRow_heap (W0.setRow w.heap.size row1).drew w.heap.size row1 row2 e (0,0) hs1;have hsize:w.heap.size<=W0.heap.size:=by rw[<-hW0]; simp
   obtain⟨btn,r1,r2⟩:=rT (w':=(W0.setRow w.heap.size row1).drew.setRow w.heap.size row2) hI hfi (b:=w.heap.size) (cap:=G) (by subst hW0; rfl) (by subst hW0; rfl) (by subst hW0; rfl) (by simpa [World.setRow] using hsize)
    (.inl rfl)
    (fun q hq=> .inl (((setRow_other _ w.heap.size q _ (by omega)).trans (setRow_other W0 w.heap.size q _ (by omega))).trans (o0 q hq)))
    hs2 (by
     have :row2.size=row2.toList.length:=by simp
     rw[this,hr2'];simp only[aP,bu];have hg:G*sz=(G-(rows.length+1))*sz+(rows.length+1)*sz:=by rw[<-bi,show G-(rows.length+1)+(rows.length+1)=G by omega]
     have hg2: (rows.length+1)*sz=rows.length*sz+sz:=by rw[bi]; omega
     omega)
    (fun q u hq=>by
      rw[<-bc,hr2'] at hq;rcases aZ.1 (ap hq) with h|h
      ·rcases aZ.1 h with h|h
       ·exact hAone u h
       ·rcases aZ.1 h with h|h
        ·exact newo u h
        ·exact hBone u h
      ·exact hZone u (bg (bg h)))
    (by rw[hli]; exact hG)
    (fun q u hq=>by rw[hnews] at hq;rw[<-bc,hr2',az (ah.1 hq).1];exact hq)
   rw[hli] at r2;exact⟨_,btn,rfl,r1,bG _,fun p hp=>by omega,r2⟩
end
end
section
open Go
structure Op where
 client:Int
 seq:Int
 kind:Int
 object:Int
 old:Int
 value:Int
 deriving DecidableEq,Inhabited
structure Result where
 done:Bool
 value:Int
 deriving DecidableEq,Inhabited
structure dp where
 client:Int
 seq:Int
 result:Result
 deriving DecidableEq,Inhabited
structure dx where
 objects:List Int
 sessions:List dp
 deriving DecidableEq,Inhabited
structure dJ where
 epoch:Int
 op:Op
 deriving DecidableEq,Inhabited
structure pv where
 count:Int
 digest:Int
 machine:dx
 deriving DecidableEq,Inhabited
structure pw where
 epoch:Int
 primary:Int
 replicas:List Int
 witnesses:List Int
 deriving DecidableEq,Inhabited
structure wg where
 rack:Int
 capacity:Int
 load:Int
 deriving DecidableEq,Inhabited
structure lA where
 configs:List pw
 activated:Int
 deriving DecidableEq,Inhabited
structure wi where
 epoch:Int
 holder:Int
 ends:Int
 deriving DecidableEq,Inhabited
structure rY where
 up:Bool
 intact:Bool
 version:Int
 epoch:Int
 config:pw
 first:Int
 log:List dJ
 commit:Int
 learned:List dJ
 deriving DecidableEq,Inhabited
structure rZ where
 now:Int
 servers:List rY
 sides:List Int
 master:lA
 masterUp:Int
 lease:wi
 places:List wg
 deriving DecidableEq,Inhabited
structure yp where
 code:Int
 result:Result
 index:Int
 deriving DecidableEq,Inhabited
structure DB where
 op:Op
 index:Int
 deriving DecidableEq,Inhabited
structure yq where
 kind:Int
 server:Int
 other:Int
 n:Int
 op:Op
 deriving DecidableEq,Inhabited
structure fy where
 start:Int
 event:Int
 read:Bool
 index:Int
 value:Int
 op:Op
 deriving DecidableEq,Inhabited
inductive Sn where
 |op|result|session|machine|entry|snapshot|config|place|masterLog|lease|server|cluster|reply|ack|event|mark
 deriving DecidableEq,Inhabited
abbrev Sn.D:Sn->Type
 | .op=>Op
 | .result=>Result
 | .session=>dp
 | .machine=>dx
 | .entry=>dJ
 | .snapshot=>pv
 | .config=>pw
 | .place=>wg
 | .masterLog=>lA
 | .lease=>wi
 | .server=>rY
 | .cluster=>rZ
 | .reply=>yp
 | .ack=>DB
 | .event=>yq
 | .mark=>fy
inductive Ty where|i (k:IntKind)|b|s|st (n:Sn)|ls (t:Ty)
 deriving DecidableEq,Inhabited
abbrev Ty.D:Ty->Type
 | .i _=>Int| .b=>Bool| .s=>ByteArray| .st n=>n.D| .ls t=>List t.D
inductive C where|sc (v:Value)|ls (t:Ty) (l:List t.D)
 deriving Inhabited
def Sn.flat: (n:Sn)->n.D->List C
 | .op,x=> [.sc (.int .i64 x.client), .sc (.int .i64 x.seq), .sc (.int .i64 x.kind), .sc (.int .i64 x.object), .sc (.int .i64 x.old), .sc (.int .i64 x.value)]
 | .result,x=> [.sc (.bool x.done), .sc (.int .i64 x.value)]
 | .session,x=> [.sc (.int .i64 x.client), .sc (.int .i64 x.seq), .sc (.bool x.result.done), .sc (.int .i64 x.result.value)]
 | .machine,x=> [.ls (.i .i64) x.objects, .ls (.st .session) x.sessions]
 | .entry,x=> [.sc (.int .i64 x.epoch), .sc (.int .i64 x.op.client), .sc (.int .i64 x.op.seq), .sc (.int .i64 x.op.kind), .sc (.int .i64 x.op.object), .sc (.int .i64 x.op.old), .sc (.int .i64 x.op.value)]
 | .snapshot,x=> [.sc (.int .i64 x.count), .sc (.int .i64 x.digest), .ls (.i .i64) x.machine.objects, .ls (.st .session) x.machine.sessions]
 | .config,x=> [.sc (.int .i64 x.epoch), .sc (.int .i64 x.primary), .ls (.i .i64) x.replicas, .ls (.i .i64) x.witnesses]
 | .place,x=> [.sc (.int .i64 x.rack), .sc (.int .i64 x.capacity), .sc (.int .i64 x.load)]
 | .masterLog,x=> [.ls (.st .config) x.configs, .sc (.int .i64 x.activated)]
 | .lease,x=> [.sc (.int .i64 x.epoch), .sc (.int .i64 x.holder), .sc (.int .i64 x.ends)]
 | .server,x=> [.sc (.bool x.up), .sc (.bool x.intact), .sc (.int .i64 x.version), .sc (.int .i64 x.epoch), .sc (.int .i64 x.config.epoch), .sc (.int .i64 x.config.primary), .ls (.i .i64) x.config.replicas, .ls (.i .i64) x.config.witnesses, .sc (.int .i64 x.first), .ls (.st .entry) x.log, .sc (.int .i64 x.commit), .ls (.st .entry) x.learned]
 | .cluster,x=> [.sc (.int .i64 x.now), .ls (.st .server) x.servers, .ls (.i .i64) x.sides, .ls (.st .config) x.master.configs, .sc (.int .i64 x.master.activated), .sc (.int .i64 x.masterUp), .sc (.int .i64 x.lease.epoch), .sc (.int .i64 x.lease.holder), .sc (.int .i64 x.lease.ends), .ls (.st .place) x.places]
 | .reply,x=> [.sc (.int .i64 x.code), .sc (.bool x.result.done), .sc (.int .i64 x.result.value), .sc (.int .i64 x.index)]
 | .ack,x=> [.sc (.int .i64 x.op.client), .sc (.int .i64 x.op.seq), .sc (.int .i64 x.op.kind), .sc (.int .i64 x.op.object), .sc (.int .i64 x.op.old), .sc (.int .i64 x.op.value), .sc (.int .i64 x.index)]
 | .event,x=> [.sc (.int .i64 x.kind), .sc (.int .i64 x.server), .sc (.int .i64 x.other), .sc (.int .i64 x.n), .sc (.int .i64 x.op.client), .sc (.int .i64 x.op.seq), .sc (.int .i64 x.op.kind), .sc (.int .i64 x.op.object), .sc (.int .i64 x.op.old), .sc (.int .i64 x.op.value)]
 | .mark,x=> [.sc (.int .i64 x.start), .sc (.int .i64 x.event), .sc (.bool x.read), .sc (.int .i64 x.index), .sc (.int .i64 x.value), .sc (.int .i64 x.op.client), .sc (.int .i64 x.op.seq), .sc (.int .i64 x.op.kind), .sc (.int .i64 x.op.object), .sc (.int .i64 x.op.old), .sc (.int .i64 x.op.value)]
def Ty.flat: (t:Ty)->t.D->List C
 | .i k,n=> [.sc (.int k n)] | .b,v=> [.sc (.bool v)] | .s,v=> [.sc (.string v)] | .st n,x=>n.flat x| .ls t,l=> [.ls t l]
def Sn.width:Sn->Nat
 | .op=>6| .result=>2| .session=>4| .machine=>2| .entry=>7| .snapshot=>4| .config=>4| .place=>3| .masterLog=>2| .lease=>3| .server=>12| .cluster=>10| .reply=>4| .ack=>7| .event=>10| .mark=>11
def Ty.width:Ty->Nat| .st n=>n.width| _=>1
def Sn.csh:Sn->List (Option Ty)
 | .op=> [none,none,none,none,none,none]
 | .result=> [none,none]
 | .session=> [none,none,none,none]
 | .machine=> [some (.i .i64),some (.st .session)]
 | .entry=> [none,none,none,none,none,none,none]
 | .snapshot=> [none,none,some (.i .i64),some (.st .session)]
 | .config=> [none,none,some (.i .i64),some (.i .i64)]
 | .place=> [none,none,none]
 | .masterLog=> [some (.st .config),none]
 | .lease=> [none,none,none]
 | .server=> [none,none,none,none,none,none,some (.i .i64),some (.i .i64),none,some (.st .entry),none,some (.st .entry)]
 | .cluster=> [none,some (.st .server),some (.i .i64),some (.st .config),none,none,none,none,none,some (.st .place)]
 | .reply=> [none,none,none,none]
 | .ack=> [none,none,none,none,none,none,none]
 | .event=> [none,none,none,none,none,none,none,none,none,none]
 | .mark=> [none,none,none,none,none,none,none,none,none,none,none]
def Ty.csh:Ty->List (Option Ty)| .st n=>n.csh| .ls t=> [some t] | _=> [none]
def Sn.zvs:Sn->List Value
 | .op=> [.int .i64 0, .int .i64 0, .int .i64 0, .int .i64 0, .int .i64 0, .int .i64 0]
 | .result=> [.bool false, .int .i64 0]
 | .session=> [.int .i64 0, .int .i64 0, .bool false, .int .i64 0]
 | .machine=> [.slice none 0 0, .slice none 0 0]
 | .entry=> [.int .i64 0, .int .i64 0, .int .i64 0, .int .i64 0, .int .i64 0, .int .i64 0, .int .i64 0]
 | .snapshot=> [.int .i64 0, .int .i64 0, .slice none 0 0, .slice none 0 0]
 | .config=> [.int .i64 0, .int .i64 0, .slice none 0 0, .slice none 0 0]
 | .place=> [.int .i64 0, .int .i64 0, .int .i64 0]
 | .masterLog=> [.slice none 0 0, .int .i64 0]
 | .lease=> [.int .i64 0, .int .i64 0, .int .i64 0]
 | .server=> [.bool false, .bool false, .int .i64 0, .int .i64 0, .int .i64 0, .int .i64 0, .slice none 0 0, .slice none 0 0, .int .i64 0, .slice none 0 0, .int .i64 0, .slice none 0 0]
 | .cluster=> [.int .i64 0, .slice none 0 0, .slice none 0 0, .slice none 0 0, .int .i64 0, .int .i64 0, .int .i64 0, .int .i64 0, .int .i64 0, .slice none 0 0]
 | .reply=> [.int .i64 0, .bool false, .int .i64 0, .int .i64 0]
 | .ack=> [.int .i64 0, .int .i64 0, .int .i64 0, .int .i64 0, .int .i64 0, .int .i64 0, .int .i64 0]
 | .event=> [.int .i64 0, .int .i64 0, .int .i64 0, .int .i64 0, .int .i64 0, .int .i64 0, .int .i64 0, .int .i64 0, .int .i64 0, .int .i64 0]
 | .mark=> [.int .i64 0, .int .i64 0, .bool false, .int .i64 0, .int .i64 0, .int .i64 0, .int .i64 0, .int .i64 0, .int .i64 0, .int .i64 0, .int .i64 0]
def Ty.zvs:Ty->List Value| .i k=> [.int k 0] | .b=> [.bool false] | .s=> [.string ByteArray.empty] | .st n=>n.zvs| .ls _=> [.slice none 0 0]
def gI (k:IntKind) {α:Type} (cs:List C) (f:Int->List C->Option α):Option α:=match cs with | .sc (.int k' n)::r=>if k'=k then f n r else none| _=>none
def gB {α:Type} (cs:List C) (f:Bool->List C->Option α):Option α:=match cs with | .sc (.bool v)::r=>f v r| _=>none
def gS {α:Type} (cs:List C) (f:ByteArray->List C->Option α):Option α:=match cs with | .sc (.string v)::r=>f v r| _=>none
def gL (t:Ty) {α:Type} (cs:List C) (f:List t.D->List C->Option α):Option α:=match cs with | .ls t' l::r=>if h:t'=t then f (h ▸ l) r else none| _=>none
def gN {α:Type} (cs:List C) (x:α):Option α:=match cs with | [] =>some x| _=>none
def Sn.unflat: (n:Sn)->List C->Option n.D
 | .op,cs=>gI .i64 cs fun a0 r0=>gI .i64 r0 fun a1 r1=>gI .i64 r1 fun a2 r2=>gI .i64 r2 fun a3 r3=>gI .i64 r3 fun a4 r4=>gI .i64 r4 fun a5 r5=>gN r5 (⟨a0,a1,a2,a3,a4,a5⟩:Op)
 | .result,cs=>gB cs fun a0 r0=>gI .i64 r0 fun a1 r1=>gN r1 (⟨a0,a1⟩:Result)
 | .session,cs=>gI .i64 cs fun a0 r0=>gI .i64 r0 fun a1 r1=>gB r1 fun a2 r2=>gI .i64 r2 fun a3 r3=>gN r3 (⟨a0,a1,⟨a2,a3⟩⟩:dp)
 | .machine,cs=>gL (.i .i64) cs fun a0 r0=>gL (.st .session) r0 fun a1 r1=>gN r1 (⟨a0,a1⟩:dx)
 | .entry,cs=>gI .i64 cs fun a0 r0=>gI .i64 r0 fun a1 r1=>gI .i64 r1 fun a2 r2=>gI .i64 r2 fun a3 r3=>gI .i64 r3 fun a4 r4=>gI .i64 r4 fun a5 r5=>gI .i64 r5 fun a6 r6=>gN r6 (⟨a0,⟨a1,a2,a3,a4,a5,a6⟩⟩:dJ)
 | .snapshot,cs=>gI .i64 cs fun a0 r0=>gI .i64 r0 fun a1 r1=>gL (.i .i64) r1 fun a2 r2=>gL (.st .session) r2 fun a3 r3=>gN r3 (⟨a0,a1,⟨a2,a3⟩⟩:pv)
 | .config,cs=>gI .i64 cs fun a0 r0=>gI .i64 r0 fun a1 r1=>gL (.i .i64) r1 fun a2 r2=>gL (.i .i64) r2 fun a3 r3=>gN r3 (⟨a0,a1,a2,a3⟩:pw)
 | .place,cs=>gI .i64 cs fun a0 r0=>gI .i64 r0 fun a1 r1=>gI .i64 r1 fun a2 r2=>gN r2 (⟨a0,a1,a2⟩:wg)
 | .masterLog,cs=>gL (.st .config) cs fun a0 r0=>gI .i64 r0 fun a1 r1=>gN r1 (⟨a0,a1⟩:lA)
 | .lease,cs=>gI .i64 cs fun a0 r0=>gI .i64 r0 fun a1 r1=>gI .i64 r1 fun a2 r2=>gN r2 (⟨a0,a1,a2⟩:wi)
 | .server,cs=>gB cs fun a0 r0=>gB r0 fun a1 r1=>gI .i64 r1 fun a2 r2=>gI .i64 r2 fun a3 r3=>gI .i64 r3 fun a4 r4=>gI .i64 r4 fun a5 r5=>gL (.i .i64) r5 fun a6 r6=>gL (.i .i64) r6 fun a7 r7=>gI .i64 r7 fun a8 r8=>gL (.st .entry) r8 fun a9 r9=>gI .i64 r9 fun a10 r10=>gL (.st .entry) r10 fun a11 r11=>gN r11 (⟨a0,a1,a2,a3,⟨a4,a5,a6,a7⟩,a8,a9,a10,a11⟩:rY)
 | .cluster,cs=>gI .i64 cs fun a0 r0=>gL (.st .server) r0 fun a1 r1=>gL (.i .i64) r1 fun a2 r2=>gL (.st .config) r2 fun a3 r3=>gI .i64 r3 fun a4 r4=>gI .i64 r4 fun a5 r5=>gI .i64 r5 fun a6 r6=>gI .i64 r6 fun a7 r7=>gI .i64 r7 fun a8 r8=>gL (.st .place) r8 fun a9 r9=>gN r9 (⟨a0,a1,a2,⟨a3,a4⟩,a5,⟨a6,a7,a8⟩,a9⟩:rZ)
 | .reply,cs=>gI .i64 cs fun a0 r0=>gB r0 fun a1 r1=>gI .i64 r1 fun a2 r2=>gI .i64 r2 fun a3 r3=>gN r3 (⟨a0,⟨a1,a2⟩,a3⟩:yp)
 | .ack,cs=>gI .i64 cs fun a0 r0=>gI .i64 r0 fun a1 r1=>gI .i64 r1 fun a2 r2=>gI .i64 r2 fun a3 r3=>gI .i64 r3 fun a4 r4=>gI .i64 r4 fun a5 r5=>gI .i64 r5 fun a6 r6=>gN r6 (⟨⟨a0,a1,a2,a3,a4,a5⟩,a6⟩:DB)
 | .event,cs=>gI .i64 cs fun a0 r0=>gI .i64 r0 fun a1 r1=>gI .i64 r1 fun a2 r2=>gI .i64 r2 fun a3 r3=>gI .i64 r3 fun a4 r4=>gI .i64 r4 fun a5 r5=>gI .i64 r5 fun a6 r6=>gI .i64 r6 fun a7 r7=>gI .i64 r7 fun a8 r8=>gI .i64 r8 fun a9 r9=>gN r9 (⟨a0,a1,a2,a3,⟨a4,a5,a6,a7,a8,a9⟩⟩:yq)
 | .mark,cs=>gI .i64 cs fun a0 r0=>gI .i64 r0 fun a1 r1=>gB r1 fun a2 r2=>gI .i64 r2 fun a3 r3=>gI .i64 r3 fun a4 r4=>gI .i64 r4 fun a5 r5=>gI .i64 r5 fun a6 r6=>gI .i64 r6 fun a7 r7=>gI .i64 r7 fun a8 r8=>gI .i64 r8 fun a9 r9=>gI .i64 r9 fun a10 r10=>gN r10 (⟨a0,a1,a2,a3,a4,⟨a5,a6,a7,a8,a9,a10⟩⟩:fy)
def Ty.unflat: (t:Ty)->List C->Option t.D
 | .i k,cs=>gI k cs fun n r=>gN r n| .b,cs=>gB cs fun n r=>gN r n| .s,cs=>gS cs fun n r=>gN r n| .st n,cs=>n.unflat cs| .ls t,cs=>gL t cs fun l r=>gN r l
def CI (x:Op):List T:= [.sc (.int .i64 x.client), .sc (.int .i64 x.seq), .sc (.int .i64 x.kind), .sc (.int .i64 x.object), .sc (.int .i64 x.old), .sc (.int .i64 x.value)]
def xf (x:Result):List T:= [.sc (.bool x.done), .sc (.int .i64 x.value)]
def mn (x:dp):List T:= [.sc (.int .i64 x.client), .sc (.int .i64 x.seq), .sc (.bool x.result.done), .sc (.int .i64 x.result.value)]
def vy (x:dx):List T:= [.sl 1 (x.objects.map fun n=> [.sc (.int .i64 n)]), .sl 4 (x.sessions.map mn)]
def pz (x:dJ):List T:= [.sc (.int .i64 x.epoch), .sc (.int .i64 x.op.client), .sc (.int .i64 x.op.seq), .sc (.int .i64 x.op.kind), .sc (.int .i64 x.op.object), .sc (.int .i64 x.op.old), .sc (.int .i64 x.op.value)]
def tZ (x:pv):List T:= [.sc (.int .i64 x.count), .sc (.int .i64 x.digest), .sl 1 (x.machine.objects.map fun n=> [.sc (.int .i64 n)]), .sl 4 (x.machine.sessions.map mn)]
def nH (x:pw):List T:= [.sc (.int .i64 x.epoch), .sc (.int .i64 x.primary), .sl 1 (x.replicas.map fun n=> [.sc (.int .i64 n)]), .sl 1 (x.witnesses.map fun n=> [.sc (.int .i64 n)])]
def t4 (x:wg):List T:= [.sc (.int .i64 x.rack), .sc (.int .i64 x.capacity), .sc (.int .i64 x.load)]
def sd (x:lA):List T:= [.sl 4 (x.configs.map nH), .sc (.int .i64 x.activated)]
def yr (x:wi):List T:= [.sc (.int .i64 x.epoch), .sc (.int .i64 x.holder), .sc (.int .i64 x.ends)]
def qQ (x:rY):List T:= [.sc (.bool x.up), .sc (.bool x.intact), .sc (.int .i64 x.version), .sc (.int .i64 x.epoch), .sc (.int .i64 x.config.epoch), .sc (.int .i64 x.config.primary), .sl 1 (x.config.replicas.map fun n=> [.sc (.int .i64 n)]), .sl 1 (x.config.witnesses.map fun n=> [.sc (.int .i64 n)]), .sc (.int .i64 x.first), .sl 7 (x.log.map pz), .sc (.int .i64 x.commit), .sl 7 (x.learned.map pz)]
def vz (x:rZ):List T:= [.sc (.int .i64 x.now), .sl 12 (x.servers.map qQ), .sl 1 (x.sides.map fun n=> [.sc (.int .i64 n)]), .sl 4 (x.master.configs.map nH), .sc (.int .i64 x.master.activated), .sc (.int .i64 x.masterUp), .sc (.int .i64 x.lease.epoch), .sc (.int .i64 x.lease.holder), .sc (.int .i64 x.lease.ends), .sl 3 (x.places.map t4)]
def yt (x:yp):List T:= [.sc (.int .i64 x.code), .sc (.bool x.result.done), .sc (.int .i64 x.result.value), .sc (.int .i64 x.index)]
def B3 (x:DB):List T:= [.sc (.int .i64 x.op.client), .sc (.int .i64 x.op.seq), .sc (.int .i64 x.op.kind), .sc (.int .i64 x.op.object), .sc (.int .i64 x.op.old), .sc (.int .i64 x.op.value), .sc (.int .i64 x.index)]
def yu (x:yq):List T:= [.sc (.int .i64 x.kind), .sc (.int .i64 x.server), .sc (.int .i64 x.other), .sc (.int .i64 x.n), .sc (.int .i64 x.op.client), .sc (.int .i64 x.op.seq), .sc (.int .i64 x.op.kind), .sc (.int .i64 x.op.object), .sc (.int .i64 x.op.old), .sc (.int .i64 x.op.value)]
def Ao (x:fy):List T:= [.sc (.int .i64 x.start), .sc (.int .i64 x.event), .sc (.bool x.read), .sc (.int .i64 x.index), .sc (.int .i64 x.value), .sc (.int .i64 x.op.client), .sc (.int .i64 x.op.seq), .sc (.int .i64 x.op.kind), .sc (.int .i64 x.op.object), .sc (.int .i64 x.op.old), .sc (.int .i64 x.op.value)]
def Sn.row: (n:Sn)->n.D->List T
 | .op,x=>CI x
 | .result,x=>xf x
 | .session,x=>mn x
 | .machine,x=>vy x
 | .entry,x=>pz x
 | .snapshot,x=>tZ x
 | .config,x=>nH x
 | .place,x=>t4 x
 | .masterLog,x=>sd x
 | .lease,x=>yr x
 | .server,x=>qQ x
 | .cluster,x=>vz x
 | .reply,x=>yt x
 | .ack,x=>B3 x
 | .event,x=>yu x
 | .mark,x=>Ao x
def Ty.row: (t:Ty)->t.D->List T
 | .i k,n=> [.sc (.int k n)] | .b,v=> [.sc (.bool v)] | .s,v=> [.sc (.string v)] | .st n,x=>n.row x| .ls t,l=> [.sl t.width (l.map t.row)]
def C.tree:C->T| .sc v=> .sc v| .ls t l=> .sl t.width (l.map t.row)
def C.good:C->Bool| .sc v=>it v| .ls _ _=>true
theorem Ty.row_flat (t:Ty) (x:t.D):t.row x=(t.flat x).map C.tree:=by
 cases t with
 |st n=>cases n<;>rfl
 | _=>rfl
theorem Ty.flat_good (t:Ty) (x:t.D): ∀c∈t.flat x,c.good=true:=by
 rw[<-ar];cases t with
 |st n=>cases n<;>rfl
 | _=>rfl
theorem Ty.flat_length (t:Ty) (x:t.D): (t.flat x).length=t.width:=by
 cases t with
 |st n=>cases n<;>rfl
 | _=>rfl
theorem Ty.row_length (t:Ty) (x:t.D): (t.row x).length=t.width:=by rw[t.row_flat,ax,t.flat_length]
theorem dv {k:IntKind} {α:Type} {cs:List C} {f:Int->List C->Option α} {y:α} (h:gI k cs f=some y): ∃n r,cs= .sc (.int k n)::r/\f n r=some y:=by
 unfold gI at h;split at h
 ·split at h
  ·rename_i hk; subst hk; exact⟨_,_,rfl,h⟩
  ·cases h
 ·cases h
theorem kz {α:Type} {cs:List C} {f:Bool->List C->Option α} {y:α} (h:gB cs f=some y): ∃n r,cs= .sc (.bool n)::r/\f n r=some y:=by
 unfold gB at h;split at h
 ·exact⟨_,_,rfl,h⟩
 ·cases h
theorem Ap {α:Type} {cs:List C} {f:ByteArray->List C->Option α} {y:α} (h:gS cs f=some y): ∃n r,cs= .sc (.string n)::r/\f n r=some y:=by
 unfold gS at h;split at h
 ·exact⟨_,_,rfl,h⟩
 ·cases h
theorem fi {t:Ty} {α:Type} {cs:List C} {f:List t.D->List C->Option α} {y:α} (h:gL t cs f=some y): ∃n r,cs= .ls t n::r/\f n r=some y:=by
 unfold gL at h;split at h
 ·split at h
  ·rename_i hk; subst hk; exact⟨_,_,rfl,h⟩
  ·cases h
 ·cases h
theorem eE {α:Type} {cs:List C} {x y:α} (h:gN cs x=some y):cs= [] /\x=y:=by
 unfold gN at h;split at h
 ·simp only[ae] at h; exact⟨rfl,h⟩
 ·cases h
theorem Sn.unflat_some: ∀ (n:Sn) (cs:List C) (x:n.D),n.unflat cs=some x->n.flat x=cs
 | .op,cs,x,h=>by unfold Sn.unflat at h;obtain⟨a0,r0,h0,h⟩:=dv h;obtain⟨a1,r1,h1,h⟩:=dv h;obtain⟨a2,r2,h2,h⟩:=dv h;obtain⟨a3,r3,h3,h⟩:=dv h;obtain⟨a4,r4,h4,h⟩:=dv h;obtain⟨a5,r5,h5,h⟩:=dv h;obtain⟨e,h⟩:=eE h;subst h e h5 h4 h3 h2 h1 h0;rfl
 | .result,cs,x,h=>by unfold Sn.unflat at h;obtain⟨a0,r0,h0,h⟩:=kz h;obtain⟨a1,r1,h1,h⟩:=dv h;obtain⟨e,h⟩:=eE h;subst h e h1 h0;rfl
 | .session,cs,x,h=>by unfold Sn.unflat at h;obtain⟨a0,r0,h0,h⟩:=dv h;obtain⟨a1,r1,h1,h⟩:=dv h;obtain⟨a2,r2,h2,h⟩:=kz h;obtain⟨a3,r3,h3,h⟩:=dv h;obtain⟨e,h⟩:=eE h;subst h e h3 h2 h1 h0;rfl
 | .machine,cs,x,h=>by unfold Sn.unflat at h;obtain⟨a0,r0,h0,h⟩:=fi h;obtain⟨a1,r1,h1,h⟩:=fi h;obtain⟨e,h⟩:=eE h;subst h e h1 h0;rfl
 | .entry,cs,x,h=>by unfold Sn.unflat at h;obtain⟨a0,r0,h0,h⟩:=dv h;obtain⟨a1,r1,h1,h⟩:=dv h;obtain⟨a2,r2,h2,h⟩:=dv h;obtain⟨a3,r3,h3,h⟩:=dv h;obtain⟨a4,r4,h4,h⟩:=dv h;obtain⟨a5,r5,h5,h⟩:=dv h;obtain⟨a6,r6,h6,h⟩:=dv h;obtain⟨e,h⟩:=eE h;subst h e h6 h5 h4 h3 h2 h1 h0;rfl
 | .snapshot,cs,x,h=>by unfold Sn.unflat at h;obtain⟨a0,r0,h0,h⟩:=dv h;obtain⟨a1,r1,h1,h⟩:=dv h;obtain⟨a2,r2,h2,h⟩:=fi h;obtain⟨a3,r3,h3,h⟩:=fi h;obtain⟨e,h⟩:=eE h;subst h e h3 h2 h1 h0;rfl
 | .config,cs,x,h=>by unfold Sn.unflat at h;obtain⟨a0,r0,h0,h⟩:=dv h;obtain⟨a1,r1,h1,h⟩:=dv h;obtain⟨a2,r2,h2,h⟩:=fi h;obtain⟨a3,r3,h3,h⟩:=fi h;obtain⟨e,h⟩:=eE h;subst h e h3 h2 h1 h0;rfl
 | .place,cs,x,h=>by unfold Sn.unflat at h;obtain⟨a0,r0,h0,h⟩:=dv h;obtain⟨a1,r1,h1,h⟩:=dv h;obtain⟨a2,r2,h2,h⟩:=dv h;obtain⟨e,h⟩:=eE h;subst h e h2 h1 h0;rfl
 | .masterLog,cs,x,h=>by unfold Sn.unflat at h;obtain⟨a0,r0,h0,h⟩:=fi h;obtain⟨a1,r1,h1,h⟩:=dv h;obtain⟨e,h⟩:=eE h;subst h e h1 h0;rfl
 | .lease,cs,x,h=>by unfold Sn.unflat at h;obtain⟨a0,r0,h0,h⟩:=dv h;obtain⟨a1,r1,h1,h⟩:=dv h;obtain⟨a2,r2,h2,h⟩:=dv h;obtain⟨e,h⟩:=eE h;subst h e h2 h1 h0;rfl
 | .server,cs,x,h=>by unfold Sn.unflat at h;obtain⟨a0,r0,h0,h⟩:=kz h;obtain⟨a1,r1,h1,h⟩:=kz h;obtain⟨a2,r2,h2,h⟩:=dv h;obtain⟨a3,r3,h3,h⟩:=dv h;obtain⟨a4,r4,h4,h⟩:=dv h;obtain⟨a5,r5,h5,h⟩:=dv h;obtain⟨a6,r6,h6,h⟩:=fi h;obtain⟨a7,r7,h7,h⟩:=fi h;obtain⟨a8,r8,h8,h⟩:=dv h;obtain⟨a9,r9,h9,h⟩:=fi h;obtain⟨a10,r10,h10,h⟩:=dv h;obtain⟨a11,r11,h11,h⟩:=fi h;obtain⟨e,h⟩:=eE h;subst h e h11 h10 h9 h8 h7 h6 h5 h4 h3 h2 h1 h0;rfl
 | .cluster,cs,x,h=>by unfold Sn.unflat at h;obtain⟨a0,r0,h0,h⟩:=dv h;obtain⟨a1,r1,h1,h⟩:=fi h;obtain⟨a2,r2,h2,h⟩:=fi h;obtain⟨a3,r3,h3,h⟩:=fi h;obtain⟨a4,r4,h4,h⟩:=dv h;obtain⟨a5,r5,h5,h⟩:=dv h;obtain⟨a6,r6,h6,h⟩:=dv h;obtain⟨a7,r7,h7,h⟩:=dv h;obtain⟨a8,r8,h8,h⟩:=dv h;obtain⟨a9,r9,h9,h⟩:=fi h;obtain⟨e,h⟩:=eE h;subst h e h9 h8 h7 h6 h5 h4 h3 h2 h1 h0;rfl
 | .reply,cs,x,h=>by unfold Sn.unflat at h;obtain⟨a0,r0,h0,h⟩:=dv h;obtain⟨a1,r1,h1,h⟩:=kz h;obtain⟨a2,r2,h2,h⟩:=dv h;obtain⟨a3,r3,h3,h⟩:=dv h;obtain⟨e,h⟩:=eE h;subst h e h3 h2 h1 h0;rfl
 | .ack,cs,x,h=>by unfold Sn.unflat at h;obtain⟨a0,r0,h0,h⟩:=dv h;obtain⟨a1,r1,h1,h⟩:=dv h;obtain⟨a2,r2,h2,h⟩:=dv h;obtain⟨a3,r3,h3,h⟩:=dv h;obtain⟨a4,r4,h4,h⟩:=dv h;obtain⟨a5,r5,h5,h⟩:=dv h;obtain⟨a6,r6,h6,h⟩:=dv h;obtain⟨e,h⟩:=eE h;subst h e h6 h5 h4 h3 h2 h1 h0;rfl
 | .event,cs,x,h=>by unfold Sn.unflat at h;obtain⟨a0,r0,h0,h⟩:=dv h;obtain⟨a1,r1,h1,h⟩:=dv h;obtain⟨a2,r2,h2,h⟩:=dv h;obtain⟨a3,r3,h3,h⟩:=dv h;obtain⟨a4,r4,h4,h⟩:=dv h;obtain⟨a5,r5,h5,h⟩:=dv h;obtain⟨a6,r6,h6,h⟩:=dv h;obtain⟨a7,r7,h7,h⟩:=dv h;obtain⟨a8,r8,h8,h⟩:=dv h;obtain⟨a9,r9,h9,h⟩:=dv h;obtain⟨e,h⟩:=eE h;subst h e h9 h8 h7 h6 h5 h4 h3 h2 h1 h0;rfl
 | .mark,cs,x,h=>by unfold Sn.unflat at h;obtain⟨a0,r0,h0,h⟩:=dv h;obtain⟨a1,r1,h1,h⟩:=dv h;obtain⟨a2,r2,h2,h⟩:=kz h;obtain⟨a3,r3,h3,h⟩:=dv h;obtain⟨a4,r4,h4,h⟩:=dv h;obtain⟨a5,r5,h5,h⟩:=dv h;obtain⟨a6,r6,h6,h⟩:=dv h;obtain⟨a7,r7,h7,h⟩:=dv h;obtain⟨a8,r8,h8,h⟩:=dv h;obtain⟨a9,r9,h9,h⟩:=dv h;obtain⟨a10,r10,h10,h⟩:=dv h;obtain⟨e,h⟩:=eE h;subst h e h10 h9 h8 h7 h6 h5 h4 h3 h2 h1 h0;rfl
theorem Ty.unflat_some (t:Ty) (cs:List C) (x:t.D) (h:t.unflat cs=some x):t.flat x=cs:=by
 cases t with
 |i k=>obtain⟨n,r,h1,h⟩:=dv h; obtain⟨h2,h⟩:=eE h; subst h h2 h1; rfl
 |b=>obtain⟨n,r,h1,h⟩:=kz h; obtain⟨h2,h⟩:=eE h; subst h h2 h1; rfl
 |s=>obtain⟨n,r,h1,h⟩:=Ap h; obtain⟨h2,h⟩:=eE h; subst h h2 h1; rfl
 |st n=>exact n.unflat_some cs x h
 |ls t=>have h:gL t cs (fun l r=>gN r l)=some x:=h; obtain⟨n,r,h1,h⟩:=fi h; obtain⟨h2,h⟩:=eE h; subst h h2 h1; rfl
end
section
open Go
inductive Cl where
 |c (x:C)
 |em
 |own (p:dC) (sz lo len:Nat) (w:Bool)
 |pro (cs:List C)
 |ptrB (n j:Nat)
 |ptrT (p:dC) (sz i j:Nat)
 |dead
 deriving Inhabited
inductive V1 where
 |cl (x:Cl)
 |agg (cs:List Cl)
 |fn (f:FuncId) (cs:List Cl)
 deriving Inhabited
inductive V where
 |v (x:V1)
 |tup (l:List V1)
 deriving Inhabited
structure dI where
 t:Ty
 l:List t.D
 hole:Option (Nat×Nat)
structure TS where
 env:List (Nat×V)
 bx:List (List Cl)
 gh:List (Option dI)
 fz:Nat
 nt:Nat
structure TI where
 ty:Ty
 el:Nat
 fds:List (Nat×Nat×Bool)
 bytes:Nat
abbrev iC:=List (Nat×TI)
@[reducible] def V.c (x:C):V:= .v (.cl (.c x))
@[reducible] def V.sc (x:Value):V:= .v (.cl (.c (.sc x)))
@[reducible] def V.dead:V:= .v (.cl .dead)
def eT:List (Nat×V)->Nat->V
 | [],_=>V.dead
 | (t,v)::l,u=>bif Nat.beq t u then v else eT l u
def gn:iC->Nat->Option TI
 | [],_=>none
 | (t,v)::l,u=>bif Nat.beq t u then some v else gn l u
def hQ {α:Type}:List α->Nat->Option α
 | [],_=>none
 |a::l,n=>bif Nat.beq n 0 then some a else hQ l (n-1)
def cC (v:Value):Cl:=bif it v then .c (.sc v) else match v with | .slice none 0 0=> .em| _=> .dead
def cV:Value->V
 | .agg cs=>bif cs.toList.all Value.oneCell' then .v (.agg (cs.toList.map cC)) else V.dead
 |v=> .v (.cl (cC v))
def TS.opd (S:TS):Operand->V
 | .tmp t=>eT S.env t
 | .const v=>cV v
 | .func f=>V.sc (.func (.func f) #[] #[])
 | .global _=>V.dead
def V1.cells:V1->List Cl
 | .cl x=> [x]
 | .agg cs=>cs
 | .fn _ _=> [.dead]
def C.flatB:C->Bool| .sc _=>true| _=>false
def Ty.flatB (t:Ty):Bool:=t.csh.all (·.isNone)
section
variable {ρ:Type}
def br {α:Type} (b:Bool) (x y:α):α:=cond b x y
def dy {α:Type} (c:Prop) [Decidable c] (x y:α):α:=if c then x else y
def t5 (S:TS) (x:Operand) (κ:Bool->TS->Option ρ):Option ρ:=match x with
 | .tmp t=>match eT S.env t with
   | .v (.cl (.c (.sc (.bool b))))=>br b (κ true { S with env:=(t,V.sc (.bool true))::S.env }) (κ false { S with env:=(t,V.sc (.bool false))::S.env })
   | _=>none
 | .const (.bool b)=>κ b S
 | _=>none
def vA (v:V) (κ:Int->Option ρ):Option ρ:=match v with | .v (.cl (.c (.sc (.int _ n))))=>κ n| _=>none
def jZ (S:TS) (p:dC) (κ: (t:Ty)->List t.D->Option ρ):Option ρ:=match hQ S.gh p.r with
 |some (some tr)=>match tr.hole with
  |none=>match p.l with
   | [] =>κ tr.t tr.l
   | [(i,j)] =>(tr.l[i]?).bind fun x=>match hQ (tr.t.flat x) j with
     |some (.ls t l)=>κ t l
     | _=>none
   | _=>none
  |some _=>none
 | _=>none
def C.ro:C->Cl:=Cl.c
def vB (p:dC) (i j:Nat):C->Cl
 | .sc v=> .c (.sc v)
 | .ls t l=> .own ⟨p.r,p.l++ [(i,j)]⟩ t.width 0 l.length false
def nI {α β:Type} (f:Nat->α->β):Nat->List α->List β
 | _,[] => []
 |n,a::l=>f n a::nI f (n+1) l
def vC (S:TS) (n:Nat) (v:Cl) (κ:List Cl->Option ρ):Option ρ:=match v with
 | .ptrB b j=>match hQ S.bx b with
   |some cs=>bif Nat.ble (j+n) cs.length then κ ((cs.drop j).take n) else none
   |none=>none
 | .pro cells=>bif Nat.ble n cells.length then κ ((cells.take n).map Cl.c) else none
 | .ptrT p sz i j=>jZ S p fun t l=>bif Nat.beq t.width sz&&Nat.ble (j+n) sz then (l[i]?).bind fun x=>κ (nI (vB p i) j (((t.flat x).drop j).take n)) else none
 | _=>none
def Ds (ag:Bool) (cs:List Cl) (κ:V->Option ρ):Option ρ:=bif ag then κ (.v (.agg cs)) else match cs with | [c] =>κ (.v (.cl c))| _=>none
def Ty.ag:Ty->Bool| .st _=>true| _=>false
def t6 (Θ:iC) (S:TS) (t:TypeId) (v:V) (κ:V->Option ρ):Option ρ:=match gn Θ t with
 |some ti=>match v with | .v (.cl a)=>vC S ti.ty.width a fun cs=>Ds ti.ty.ag cs κ| _=>none
 |none=>none
def yw (S:TS) (p:dC) (κ:Int->Option ρ):Option ρ:=match p.l with
 | [] =>(match hQ S.gh p.r with |some (some tr)=>κ tr.l.length| _=>none)
 | _=>none
def B4 (n:Nat) (i:Int) (S:TS) (v:Cl) (κ:Cl->Option ρ):Option ρ:=match v with
 | .c (.ls t l)=>bif Nat.beq t.width n then dy (0<=i) ((l[i.toNat]?).bind fun x=>κ (.pro (t.flat x))) none else none
 | .own p sz _ _ true=>bif Nat.beq sz n then yw S p fun m=>dy (0<=i/\i<m) (κ (.ptrT p sz i.toNat 0)) none else none
 | .own p sz lo len false=>bif Nat.beq sz n then dy (0<=i/\i<len) (κ (.ptrT p sz (lo+i.toNat) 0)) none else none
 | _=>none
def Aq (S:TS) (v:Cl) (κ:Int->Option ρ):Option ρ:=match v with
 | .c (.ls _ l)=>κ l.length
 | .own p _ _ _ true=>jZ S p fun _ l=>κ l.length
 | .own _ _ _ len false=>κ len
 | .em=>κ 0
 | _=>none
def B5 (n:Nat) (lo hi:Int) (v:Cl) (κ:Cl->Option ρ):Option ρ:=match v with
 | .em=>dy (lo=0/\hi=0) (κ .em) none
 | .c (.ls t l)=>bif Nat.beq t.width n then dy (0<=lo/\lo<=hi/\hi<=l.length) (κ (.c (.ls t ((l.drop lo.toNat).take (hi.toNat-lo.toNat))))) none else none
 | .own p sz l len _=>bif Nat.beq sz n then dy (0<=lo/\lo<=hi/\hi<=len) (κ (.own p sz (l+lo.toNat) (hi.toNat-lo.toNat) false)) none else none
 | _=>none
def se (S:TS) (d:Int) (x:Option Operand) (κ:Int->Option ρ):Option ρ:=match x with
 |none=>κ d
 |some x=>vA (S.opd x) κ
def xg:List (Nat×Nat×Bool)->List Cl->List (Nat×V)->Option (List Cl)
 | _,cs,[] =>some cs
 |pl,cs,(k,v)::r=>match hQ pl k with
  |some (off,n,_)=>match v with
   | .v x=>match x with
     | .cl .dead=>none
     | .fn _ _=>none
     |x=>bif Nat.beq x.cells.length n&&Nat.ble (off+n) cs.length then xg pl (cs.take off++x.cells++cs.drop (off+n)) r else none
   | _=>none
  |none=>none
def t7:Value->Value->Option Bool
 | .int _ a, .int _ b=>some (a==b)
 | .bool a, .bool b=>some (a==b)
 | _,_=>none
def lB:List Cl->List Cl->Option Bool
 | [],[] =>some true
 | .c (.sc a)::l, .c (.sc b)::m=>match t7 a b,lB l m with
   |some x,some y=>some (x&&y)
   | _,_=>none
 | _,_=>none
def fP:List Value->List Cl->Bool
 | [],[] =>true
 | .int k _::zs, .c (.sc (.int k' _))::cs=>bif decide (k=k') then fP zs cs else false
 | .bool _::zs, .c (.sc (.bool _))::cs=>fP zs cs
 | _,_=>false
def V.ints (f:IntKind->Int->Int->Option ρ):V->V->Option ρ
 | .v (.cl (.c (.sc (.int k a)))), .v (.cl (.c (.sc (.int k' b))))=>if k=k' then f k a b else none
 | _,_=>none
def CA (Θ:iC) (t:TypeId) (x y:V) (κ:Bool->Option ρ):Option ρ:=match x,y with
 | .v (.cl (.c (.sc (.int k a)))), .v (.cl (.c (.sc (.int k' b))))=>if k=k' then κ (a==b) else none
 | .v (.cl (.c (.sc (.bool a)))), .v (.cl (.c (.sc (.bool b))))=>match gn Θ t with
   |some ti=>match ti.ty with | .b=>κ (a==b)| _=>none
   |none=>none
 | .v (.agg a), .v (.agg b)=>match gn Θ t with
   |some ti=>bif ti.ty.ag&&ti.ty.flatB&&fP ti.ty.zvs a&&fP ti.ty.zvs b then (match lB a b with |some r=>κ r|none=>none) else none
   |none=>none
 | _,_=>none
def B6 (Θ:iC) (op:BinOp) (t:TypeId) (x y:V) (κ:V->Option ρ):Option ρ:=match op with
 | .lss=>V.ints (fun _ a b=>κ (V.sc (.bool (decide (a<b))))) x y
 | .leq=>V.ints (fun _ a b=>κ (V.sc (.bool (decide (a<=b))))) x y
 | .gtr=>V.ints (fun _ a b=>κ (V.sc (.bool (decide (a>b))))) x y
 | .geq=>V.ints (fun _ a b=>κ (V.sc (.bool (decide (a≥b))))) x y
 | .add=>V.ints (fun k a b=>κ (V.sc (.int k (k.wrap (a+b))))) x y
 | .sub=>V.ints (fun k a b=>κ (V.sc (.int k (k.wrap (a-b))))) x y
 | .mul=>V.ints (fun k a b=>κ (V.sc (.int k (k.wrap (a*b))))) x y
 | .quo=>V.ints (fun k a b=>if b=0 then none else κ (V.sc (.int k (k.wrap (a.tdiv b))))) x y
 | .rem=>V.ints (fun k a b=>if b=0 then none else κ (V.sc (.int k (a.tmod b)))) x y
 | .eql=>CA Θ t x y fun r=>κ (V.sc (.bool r))
 | .neq=>CA Θ t x y fun r=>κ (V.sc (.bool (!r)))
 | _=>none
def t8:List V->Option (List Cl)
 | [] =>some []
 | .v (.cl c)::l=>match t8 l with |some r=>some (c::r)|none=>none
 | _=>none
def pA (Θ:iC) (S:TS) (o:Oper) (κ:V->TS->Option ρ):Option ρ:=
 let e:=S.opd
 match o.op with
 | .move x| .assign x=>κ (e x) S
 | .pick c a b=>t5 S c fun t S=>bif t then κ (S.opd a) S else κ (S.opd b) S
 | .load t a=>t6 Θ S t (e a) (fun v=>κ v S)
 | .nilCheck x=>match e x with
   | .v (.cl (.ptrB n j))=>κ (.v (.cl (.ptrB n j))) S
   | .v (.cl (.ptrT p sz i j))=>κ (.v (.cl (.ptrT p sz i j))) S
   | .v (.cl (.pro cs))=>κ (.v (.cl (.pro cs))) S
   | .v (.fn f cs)=>κ (.v (.fn f cs)) S
   | .v (.cl (.c (.sc (.func (.func f) a b))))=>κ (.v (.cl (.c (.sc (.func (.func f) a b))))) S
   | _=>none
 | .fieldAddr t x k=>match gn Θ t with
   |some ti=>match hQ ti.fds k with
    |some (off,n,_)=>bif Nat.beq n 0 then none else match e x with
     | .v (.cl (.ptrB b j))=>κ (.v (.cl (.ptrB b (j+off)))) S
     | .v (.cl (.ptrT p sz i j))=>κ (.v (.cl (.ptrT p sz i (j+off)))) S
     | .v (.cl (.pro cs))=>κ (.v (.cl (.pro (cs.drop off)))) S
     | _=>none
    |none=>none
   |none=>none
 | .field t x k=>match gn Θ t with
   |some ti=>match hQ ti.fds k with
    |some (off,n,ag)=>match e x with
     | .v (.agg cs)=>bif Nat.ble (off+n) cs.length&&Nat.blt 0 n then Ds ag ((cs.drop off).take n) (fun v=>κ v S) else none
     | _=>none
    |none=>none
   |none=>none
 | .indexAddr t x ix=>match gn Θ t with
   |some ti=>match ti.ty with
    | .ls el=>vA (e ix) fun i=>match e x with | .v (.cl a)=>B4 el.width i S a (fun c=>κ (.v (.cl c)) S)| _=>none
    | _=>none
   |none=>none
 | .build t parts=>match gn Θ t with
   |some ti=>bif ti.ty.ag then (match xg ti.fds (ti.ty.zvs.map cC) (parts.toList.map fun x=>(x.1,e x.2)) with |some cs=>κ (.v (.agg cs)) S|none=>none) else none
   |none=>none
 | .slice t x lo hi none=>match gn Θ t with
   |some ti=>match ti.ty with
    | .ls el=>match e x with
      | .v (.cl a)=>Aq S a fun n=>se S 0 lo fun l=>se S n hi fun h=>B5 el.width l h a (fun c=>κ (.v (.cl c)) S)
      | _=>none
    | _=>none
   |none=>none
 | .convert s d x=>match gn Θ s,gn Θ d with
   |some _,some di=>match di.ty with
    | .i k'=>(match e x with | .v (.cl (.c (.sc (.int _ n))))=>κ (V.sc (.int k' (k'.wrap n))) S| _=>none)
    | _=>none
   | _,_=>none
 | .index t x ix=>match gn Θ t with
   |some ti=>match ti.ty with
    | .s=>(match e x,e ix with | .v (.cl (.c (.sc (.string s)))), .v (.cl (.c (.sc (.int _ i))))=>dy (0<=i) ((s[i.toNat]?).bind fun b=>κ (V.sc (.int .u8 b.toNat)) S) none| _,_=>none)
    | _=>none
   |none=>none
 | .extract x k=>match e x with | .tup vs=>(match hQ vs k with |some v=>κ (.v v) S|none=>none)| _=>none
 | .makeFunc (.func f) first caps=>bif first.isEmpty then (match t8 (caps.toList.map e) with |some cs=>κ (.v (.fn f cs)) S|none=>none) else none
 | .call { callee:= .builtin .len,args:=as,argTypes:=ts } =>match as.toList,ts.toList with
   | [x],[t] =>match gn Θ t with
     |some ti=>match ti.ty with
      | .ls _=>(match e x with | .v (.cl a)=>Aq S a fun n=>κ (V.sc (.int .i64 n)) S| _=>none)
      | _=>none
     |none=>none
   | _,_=>none
 | .call { callee:= .builtin .cap,args:=as,argTypes:=ts } =>match as.toList,ts.toList with
   | [x],[t] =>match gn Θ t with
     |some ti=>match ti.ty with
      | .ls _=>(match e x with | .v (.cl .em)=>κ (V.sc (.int .i64 0)) S| _=>none)
      | _=>none
     |none=>none
   | _,_=>none
 | .call { callee:= .builtin .max,args:=as,argTypes:=_ } =>match as.toList with
   | [x,y] =>V.ints (fun k a b=>κ (V.sc (.int k (if b>a then b else a))) S) (e x) (e y)
   | _=>none
 | .call { callee:= .builtin .min,args:=as,argTypes:=_ } =>match as.toList with
   | [x,y] =>V.ints (fun k a b=>κ (V.sc (.int k (if b<a then b else a))) S) (e x) (e y)
   | _=>none
 | .binOp op t x y _=>B6 Θ op t (e x) (e y) (fun v=>κ v S)
 | .unOp .not _ x=>match e x with | .v (.cl (.c (.sc (.bool b))))=>κ (V.sc (.bool (!b))) S| _=>none
 | _=>none
end
end
section
open Go
def C.av:C->AV
 | .sc v=> .sc v
 | .ls t l=> .ro t.width (l.map t.row)
def Cl.av:Cl->AV
 | .c x=>x.av
 | .em=> .em
 | .own p sz lo len _=> .own p sz lo len
 | .pro cs=> .pro (cs.map C.tree)
 | .ptrB n j=> .ptrB n j
 | .ptrT p sz i j=> .ptrT p sz i j
 | .dead=> .dead
def V1.av:V1->AV
 | .cl x=>x.av
 | .agg cs=> .agg (cs.map Cl.av)
 | .fn f cs=> .fn f (cs.map Cl.av)
def V.av:V->AV
 | .v x=>x.av
 | .tup l=> .tup (l.map V1.av)
def dI.tree (x:dI):T:=match x.hole with
 |none=> .sl x.t.width (x.l.map x.t.row)
 |some (i,j)=> .sl x.t.width ((x.l.map x.t.row).set i (((x.l.map x.t.row).getD i []).set j .dd))
def ea (G:List (Option dI)) (r:Nat):Option dI:=(hQ G r).getD none
def TS.st (S:TS):St where
 env:=fun t=>(eT S.env t).av
 bx:=fun n=>(hQ S.bx n).map fun cs=>cs.map Cl.av
 gh:=fun r=>(ea S.gh r).map dI.tree
 nb:=S.bx.length
 ng:=S.gh.length
 fz:=S.fz
 orc:=none
 nt:=S.nt
structure oP where
 f:FuncId->List V1->(ρ:Type)->(V->List dI->Option ρ)->Option ρ
 kd:FuncId->Nat
instance:CoeFun oP fun _=>FuncId->List V1->(ρ:Type)->(V->List dI->Option ρ)->Option ρ:=⟨oP.f⟩
def ft:Nat:=1048576
def qR:Nat:=ft+ft
def t9 (g:Nat):Nat:=g+ft
def vD (g:Nat):Nat:=g+qR
def sf (n:Nat):Cl->Cl
 | .own p sz lo len w=> .own ⟨p.r+n,p.l⟩ sz lo len w
 | .c (.sc v)=> .c (.sc v)
 | _=> .dead
def lC (n:Nat):V1->V1
 | .agg cs=> .agg (cs.map (sf n))
 | .cl c=> .cl (sf n c)
 | .fn _ _=> .cl .dead
def kA (n:Nat):V->V
 | .tup vs=> .tup (vs.map (lC n))
 | .v x=> .v (lC n x)
def dR {α:Type}:List α->Nat->α->List α
 | [],_,_=> []
 |a::l,n,x=>bif Nat.beq n 0 then x::l else a::dR l (n-1) x
def lX (t t':Ty) (l:List t.D):Option (List t'.D):=if h:t=t' then some (h ▸ l) else none
def iJ (r j:Nat):Cl->Cl
 | .own p sz lo len w=>match p.l with | (_,j')::_=>bif Nat.beq p.r r&&Nat.beq j j' then .dead else .own p sz lo len w| [] => .own p sz lo len w
 | .ptrT p sz a b=>match p.l with | (_,j')::_=>bif Nat.beq p.r r&&Nat.beq j j' then .dead else .ptrT p sz a b| [] => .ptrT p sz a b
 |c=>c
def jL (r j:Nat):V1->V1
 | .cl c=> .cl (iJ r j c)
 | .agg cs=> .agg (cs.map (iJ r j))
 | .fn f cs=> .fn f (cs.map (iJ r j))
def qS (r j:Nat):V->V
 | .v x=> .v (jL r j x)
 | .tup vs=> .tup (vs.map (jL r j))
def TS.kill (S:TS) (r j:Nat):TS:= { S with env:=S.env.map fun x=>(x.1,qS r j x.2),bx:=S.bx.map fun cs=>cs.map (iJ r j) }
def eU (S:TS) (no j:Nat) (et:Option Ty) (c:Cl):Option (C×TS):=match c,et with
 | .c (.sc v),none=>some (.sc v,S)
 | .em,some t=>some (.ls t [],S.kill no j)
 | .own p sz _ _ true,some t=>match p.l with
   | [] =>bif Nat.beq t.width sz&&Nat.ble S.fz p.r&& !(Nat.beq p.r no) then match hQ S.gh p.r with
     |some (some tr)=>match tr.hole with
      |none=>bif Nat.beq tr.t.width sz then some (.ls tr.t tr.l,{ S with gh:=dR S.gh p.r none }.kill no j) else none
      |some _=>none
     | _=>none else none
   | _=>none
 | _,_=>none
def iK (no:Nat):Nat->TS->List (Option Ty)->List Cl->Option (List C×TS)
 |j,S,et::ets,c::cs=>match eU S no j et c with
  |some (x,S1)=>match iK no (j+1) S1 ets cs with
   |some (xs,S2)=>some (x::xs,S2)
   |none=>none
  |none=>none
 | _,S,[],[] =>some ([],S)
 | _,_,_,_=>none
def DY (et:Option Ty) (v:Value):C:=match et with |some t=> .ls t [] |none=> .sc v
def Ty.zcs (t:Ty):List C:=List.zipWith DY t.csh t.zvs
def B7:List Cl->Option (List C)
 | [] =>some []
 | .c (.sc v)::l=>match B7 l with |some r=>some (.sc v::r)|none=>none
 | _=>none
section
variable {ρ:Type}
def pB {α β:Type} (f:α->(β->Option ρ)->Option ρ):List α->(List β->Option ρ)->Option ρ
 | [],κ=>κ []
 |a::l,κ=>f a fun b=>pB f l fun bs=>κ (b::bs)
def vE (Θ:iC) (S:TS) (t:TypeId) (a v:V) (κ:TS->Option ρ):Option ρ:=match gn Θ t with
 |none=>none
 |some ti=>match v with
  | .tup _=>none
  | .v (.cl .dead)=>none
  | .v (.fn _ _)=>none
  | .v x=>bif Nat.beq x.cells.length ti.ty.width then match a with
    | .v (.cl (.ptrB b j))=>match hQ S.bx b with
      |some cs=>bif Nat.ble (j+x.cells.length) cs.length then κ { S with bx:=dR S.bx b (cs.take j++x.cells++cs.drop (j+x.cells.length)) } else none
      |none=>none
    | .v (.cl (.ptrT p sz i j))=>match p.l with
      | [] =>match hQ S.gh p.r with
        |some (some tr)=>bif Nat.beq tr.t.width sz&&Nat.ble (j+ti.ty.width) sz&&Nat.beq x.cells.length ti.ty.width then
         bif ti.ty.flatB then
          match tr.hole,B7 x.cells with
          |none,some vs=>(tr.l[i]?).bind fun y=>match tr.t.unflat ((tr.t.flat y).take j++vs++(tr.t.flat y).drop (j+ti.ty.width)) with
           |some z=>κ { S with gh:=dR S.gh p.r (some ⟨tr.t,tr.l.set i z,none⟩) }
           |none=>none
          | _,_=>none
         else bif Nat.ble S.fz p.r then match iK p.r j S ti.ty.csh x.cells with
          |some (vs,S1)=>(tr.l[i]?).bind fun y=>match tr.t.unflat ((tr.t.flat y).take j++vs++(tr.t.flat y).drop (j+ti.ty.width)) with
           |some z=>match tr.hole with
            |none=>κ { S1 with gh:=dR S1.gh p.r (some ⟨tr.t,tr.l.set i z,none⟩) }
            |some (i0,j0)=>bif Nat.beq j j0&&Nat.beq ti.ty.width 1 then dy (i=i0) (κ { S1 with gh:=dR S1.gh p.r (some ⟨tr.t,tr.l.set i z,none⟩) }) none else none
           |none=>none
          |none=>none else none
         else none
        | _=>none
      | _=>none
    | _=>none
    else none
def xh (S:TS) (et:Option Ty) (c:Cl) (κ:Cl->Option ρ):Option ρ:=match c with
 | .c x=>κ (.c x)
 | .em=>match et with |some t=>κ (.c (.ls t []))|none=>none
 | .own p sz _ _ true=>jZ S p fun t l=>bif Nat.beq t.width sz then κ (.c (.ls t l)) else none
 | .own p sz lo len false=>jZ S p fun t l=>bif Nat.beq t.width sz then dy (lo+len<=l.length) (κ (.c (.ls t ((l.drop lo).take len)))) none else none
 | .pro cs=>κ (.pro cs)
 | .ptrT p sz i j=>jZ S p fun t l=>bif Nat.beq t.width sz then (l[i]?).bind fun x=>κ (.pro ((t.flat x).drop j)) else none
 | .ptrB b j=>match hQ S.bx b with
   |some cs=>pB (fun c κ=>match c with
    | .c x=>κ x
    | .own p sz _ _ true=>jZ S p fun t l=>bif Nat.beq t.width sz then κ (.ls t l) else none
    | _=>none) (cs.drop j) fun cs=>κ (.pro cs)
   |none=>none
 | .dead=>κ .dead
def Ar (S:TS):List (Option Ty)->List Cl->(List Cl->Option ρ)->Option ρ
 |et::ets,c::cs,κ=>xh S et c fun c'=>Ar S ets cs fun cs'=>κ (c'::cs')
 | [],[],κ=>κ []
 | _,_,_=>none
def DC (Θ:iC) (S:TS) (t:TypeId) (v:V) (κ:V1->Option ρ):Option ρ:=match v with
 | .tup _=>none
 | .v (.fn f cs)=>pB (xh S none) cs fun cs'=>κ (.fn f cs')
 | .v (.agg cs)=>match gn Θ t with |some ti=>Ar S ti.ty.csh cs fun cs'=>κ (.agg cs')|none=>none
 | .v (.cl .em)=>κ (.cl .em)
 | .v (.cl c)=>match gn Θ t with |some ti=>xh S (ti.ty.csh.headD none) c fun c'=>κ (.cl c')|none=>xh S none c fun c'=>κ (.cl c')
def j4 (Θ:iC) (S:TS):List TypeId->List Operand->(List V1->Option ρ)->Option ρ
 |t::ts,a::as,κ=>DC Θ S t (S.opd a) fun v=>j4 Θ S ts as fun vs=>κ (v::vs)
 | [],[],κ=>κ []
 | _,_,_=>none
def wj (Θ:iC) (Y:oP) (S:TS) (f:Operand) (ts:List TypeId) (as:List Operand) (κ:V->TS->Option ρ):Option ρ:=match S.opd f with
 | .v (.cl (.c (.sc (.func (.func g) _ _))))=>bif Nat.blt g ft then j4 Θ S ts as fun vs=>Y g vs ρ fun res out=>κ (kA S.gh.length res) { S with gh:=S.gh++out.map some } else none
 | .v (.fn g caps)=>bif Nat.blt g ft then j4 Θ S ts as fun vs=>pB (xh S none) caps fun cs=>Y g (vs++cs.map .cl) ρ fun res out=>κ (kA S.gh.length res) { S with gh:=S.gh++out.map some } else none
 | _=>none
def yx (S:TS) (el:Ty) (v:Cl) (κ:List el.D->TS->Option ρ):Option ρ:=match v with
 | .em=>κ [] S
 | .c (.ls t l)=>bif el.flatB then match lX t el l with |some l=>κ l S|none=>none else none
 | .own p sz lo len w=>bif Nat.beq el.width sz then (bif el.flatB then jZ S p fun t l=>match lX t el l with
   |some l=>bif w then κ l S else dy (lo+len<=l.length) (κ ((l.drop lo).take len) S) none
   |none=>none
   else match p.l with
   | [] =>bif w&&Nat.ble S.fz p.r then jZ S p fun t l=>match lX t el l with |some l=>κ l { S with gh:=dR S.gh p.r none } |none=>none else none
   | _=>none) else none
 | _=>none
def ua (S:TS) (el:Ty) (v:Cl) (more:List el.D) (κ:List el.D->TS->Option ρ):Option ρ:=match v with
 | .em=>κ more S
 | .own p sz lo len w=>bif Nat.ble S.fz p.r&&Nat.beq el.width sz then match p.l with
   | [] =>jZ S p fun t l=>match lX t el l with
     |some l=>bif w then κ (l++more) { S with gh:=dR S.gh p.r none }
      else dy (lo=0) (dy (l.length<len) none (κ (l.take len++more) { S with gh:=dR S.gh p.r none })) none
     |none=>none
   | [(i,j)] =>match hQ S.gh p.r with
     |some (some tr)=>match tr.hole with
      |none=>jZ S p fun t l=>match lX t el l with
       |some l=>dy (lo=0) (dy (l.length<len) none (κ (l.take len++more) { S with gh:=dR S.gh p.r (some ⟨tr.t,tr.l,some (i,j)⟩) })) none
       |none=>none
      |some _=>none
     | _=>none
   | _=>none else none
 | _=>none
def Au (Θ:iC) (S:TS) (t:TypeId) (s x:V) (κ:V->TS->Option ρ):Option ρ:=match gn Θ t with
 |some ti=>match ti.ty,s,x with
  | .ls el, .v (.cl s), .v (.cl x)=>yx S el x fun more S1=>ua S1 el s more fun l S2=>dy (l.length*ti.el<=2 ^ 40) (κ (.v (.cl (.own ⟨S2.gh.length,[]⟩ el.width 0 l.length true))) { S2 with gh:=S2.gh++ [some ⟨el,l,none⟩] }) none
  | _,_,_=>none
 |none=>none
def CJ:List Nat->List Nat->Bool
 | [],[] =>true
 |a::l,b::m=>bif Nat.beq a b then CJ l m else false
 | _,_=>false
def jM (el:Ty):TS->List V->Option (List el.D×TS)
 |S,[] =>some ([],S)
 |S, .v x::r=>match iK S.gh.length 0 S el.csh x.cells with
  |some (vs,S1)=>match el.unflat vs,jM el S1 r with
   |some y,some (ys,S2)=>some (y::ys,S2)
   | _,_=>none
  |none=>none
 | _,_=>none
def vF:Cl->Bool| .c (.ls _ _)=>true| _=>false
def pC:V->Bool| .v x=>x.cells.any vF| _=>false
def gr:List (Option Ty)->List Cl->Option (List C)
 | _::ets, .c x::cs=>(match gr ets cs with |some r=>some (x::r)|none=>none)
 |some t::ets, .em::cs=>(match gr ets cs with |some r=>some (.ls t []::r)|none=>none)
 | [],[] =>some []
 | _,_=>none
def j5 (el:Ty):List V->Option (List el.D)
 | [] =>some []
 | .v x::r=>(match gr el.csh x.cells with
   |some xs=>(match el.unflat xs,j5 el r with |some y,some ys=>some (y::ys)| _,_=>none)
   |none=>none)
 | _=>none
def BF (Θ:iC) (S:TS) (t:TypeId) (s x:V) (κ:V->TS->Option ρ):Option ρ:=match gn Θ t with
 |some ti=>match ti.ty,s with
  | .ls el, .v (.cl .em)=>vA x fun n=>match el.unflat el.zcs with
    |some z=>dy (0<n/\n*ti.el<=2 ^ 40) (κ (.v (.cl (.own ⟨S.gh.length,[]⟩ el.width 0 n.toNat true))) { S with gh:=S.gh++ [some ⟨el,List.replicate n.toNat z,none⟩] }) none
    |none=>none
  | _,_=>none
 |none=>none
def mZ (Θ:iC) (Y:oP) (S:TS) (o:Oper) (κ:V->TS->Option ρ):Option ρ:=
 let e:=S.opd
 match o.op with
 | .alloc t=>match gn Θ t with |some ti=>κ (.v (.cl (.ptrB S.bx.length 0))) { S with bx:=S.bx++ [ti.ty.zvs.map cC] } |none=>none
 | .box _ x=>match e x with
   | .v (.cl .dead)=>none
   | .v (.cl c)=>κ (.v (.cl (.ptrB S.bx.length 0))) { S with bx:=S.bx++ [[c]] }
   | .v (.agg cs)=>κ (.v (.cl (.ptrB S.bx.length 0))) { S with bx:=S.bx++ [cs] }
   | _=>none
 | .store t a x=>vE Θ S t (e a) (e x) fun S'=>κ V.dead S'
 | .makeSlice t l c=>match gn Θ t with
   |some ti=>match ti.ty with
    | .ls el=>vA (e l) fun n=>vA (e c) fun m=>match el.unflat el.zcs with
      |some z=>dy (0<=n/\n=m/\n*ti.el<=2 ^ 40) (κ (.v (.cl (.own ⟨S.gh.length,[]⟩ el.width 0 n.toNat true))) { S with gh:=S.gh++ [some ⟨el,List.replicate n.toNat z,none⟩] }) none
      |none=>none
    | _=>none
   |none=>none
 | .buildSlice t len parts=>match gn Θ t with
   |some ti=>match ti.ty with
    | .ls el=>bif Nat.ble (len*el.width) 1048576&&CJ (parts.toList.map (·.1)) (List.range len) then (bif (parts.toList.map fun x=>e x.2).any pC then (match j5 el (parts.toList.map fun x=>e x.2) with |some l=>κ (.v (.cl (.c (.ls el l)))) S|none=>none) else match jM el S (parts.toList.map fun x=>e x.2) with
      |some (l,S1)=>κ (.v (.cl (.own ⟨S1.gh.length,[]⟩ el.width 0 l.length true))) { S1 with gh:=S1.gh++ [some ⟨el,l,none⟩] }
      |none=>none) else none
    | _=>none
   |none=>none
 | .call { callee:= .builtin .append,args:=as,argTypes:=ts } =>match as.toList,ts.toList with
   | [s,x],[t,t'] =>bif Nat.beq t t' then Au Θ S t (e s) (e x) κ else BF Θ S t (e s) (e x) κ
   | _,_=>none
 | .call { callee:= .value f,args:=as,argTypes:=ts } =>wj Θ Y S f ts.toList as.toList κ
 | _=>pA Θ S o κ
def j6 (S:TS) (d:Option Tmp) (v:V) (κ:TS->Option ρ):Option ρ:=match d with
 |some t=>bif Nat.blt t S.nt then κ { S with env:=(t,v)::S.env } else none
 |none=>κ S
def wk (S:TS) (all:List Oper) (o:Oper) (κ:Bool->TS->Option ρ):Option ρ:=match o.guard with
 |none=>κ true S
 |some (j,want)=>match hQ all j with
  |some oj=>match oj.dst with
   |some d=>match eT S.env d with
    | .tup [] =>κ false S
    | _=>t5 S (.tmp d) fun b S1=>κ (b==want) S1
   |none=>none
  |none=>none
noncomputable def Av {α:Type} (x y:α) (z:α):α:=open Classical in if x=y then x else z
def B8 {α β:Type} (l:List α) (x y:β):β:=match l with | [] =>x| _::_=>y
def oQ (o:Oper):Option (TypeId×Operand):=match o.op with
 | .binOp .eql t x (.const (.slice none 0 0)) _=>(match o.guard with |none=>some (t,x)|some _=>none)
 | _=>none
def CK (Θ:iC) (t:TypeId):Bool:=match gn Θ t with |some ti=>(match ti.ty with | .ls _=>true| _=>false)|none=>false
def ub (Y:oP) (S:TS) (o:Oper):Option (Nat×FuncId×List Cl×Nat×Nat×List TypeId×List Operand):=match o.op with
 | .call { callee:= .value f,args:=as,argTypes:=ts } =>(match o.guard with
   |some _=>none
   |none=>match as.toList,ts.toList with
    |x::xs,_::us=>(match S.opd x with
     | .v (.cl (.own ⟨r,[]⟩ sz _ _ true))=>(match S.opd f with
       | .v (.cl (.c (.sc (.func (.func g) _ _))))=>bif Nat.blt g ft&& !Nat.beq (Y.kd g) 0 then some (Y.kd g,g,[],r,sz,us,xs) else none
       | .v (.fn g caps)=>bif Nat.blt g ft&& !Nat.beq (Y.kd g) 0 then some (Y.kd g,g,caps,r,sz,us,xs) else none
       | _=>none)
     | _=>none)
    | _,_=>none)
 | _=>none
def vG:V->Bool
 | .v (.cl (.c (.sc _)))=>true
 | .tup [] =>true
 | _=>false
def yy (Θ:iC) (Y:oP) (S:TS) (k:Nat) (g:FuncId) (caps:List Cl) (r sz:Nat) (us:List TypeId) (xs:List Operand) (dst:Option Tmp) (κ:TS->Option ρ):Option ρ:=match ea S.gh r with
 |some ⟨el,l,none⟩=>bif Nat.beq sz el.width then j4 Θ { S with gh:=dR S.gh r none } us xs fun vs=>pB (xh { S with gh:=dR S.gh r none } none) caps fun cs=>
  bif Nat.beq k 1 then Y (t9 g) (.cl (.c (.ls el l)):: (vs++cs.map .cl)) ρ fun res out=>(match out with
   | [⟨t,l',none⟩] =>bif decide (t=el)&&vG res then dy (l'.length=l.length) (j6 { S with gh:=dR S.gh r (some ⟨t,l',none⟩) } dst res κ) none else none
   | _=>none)
  else bif Nat.ble S.fz r then Y (vD g) (.cl (.c (.ls el l)):: (vs++cs.map .cl)) ρ fun res out=>j6 { S with gh:=dR S.gh r none++out.map some } dst (kA S.gh.length res) κ
  else none else none
 | _=>none
inductive vH where
 |nest (r i j sz lo len:Nat)
 |agg (cs:List Cl)
def sg:V->Option vH
 | .v (.cl (.own ⟨r,[(i,j)]⟩ sz lo len _))=>some (.nest r i j sz lo len)
 | .v (.agg cs)=>some (.agg cs)
 | _=>none
def pD (Y:oP) (S:TS) (o:Oper):Option (FuncId×List Cl×vH×List TypeId×List Operand):=match o.op with
 | .call { callee:= .value f,args:=as,argTypes:=ts } =>(match o.guard with
   |some _=>none
   |none=>match as.toList,ts.toList with
    |x::xs,_::us=>(match sg (S.opd x) with
     |some a=>(match S.opd f with
      | .v (.cl (.c (.sc (.func (.func g) _ _))))=>bif Nat.blt g ft&&Nat.beq (Y.kd g) 1 then some (g,[],a,us,xs) else none
      | .v (.fn g caps)=>bif Nat.blt g ft&&Nat.beq (Y.kd g) 1 then some (g,caps,a,us,xs) else none
      | _=>none)
     |none=>none)
    | _,_=>none)
 | _=>none
def lD (S:TS):List Cl->Option (List C×List Nat)
 | [] =>some ([],[])
 | .c (.sc v)::cs=>(match lD S cs with |some (xs,L)=>some (.sc v::xs,L)|none=>none)
 | .own ⟨r,[]⟩ sz _ _ true::cs=>(match ea S.gh r with
   |some ⟨el,l,none⟩=>bif Nat.beq sz el.width then (match lD S cs with |some (xs,L)=>some (.ls el l::xs,r::L)|none=>none) else none
   | _=>none)
 | _=>none
def yz (G:List (Option dI)) (L:List Nat):List (Option dI):=L.foldl (fun G r=>dR G r none) G
def pE (S:TS):List Nat->List dI->(TS->Option ρ)->Option ρ
 | [],[],κ=>κ S
 |r::L,⟨t,l',none⟩::out,κ=>(match ea S.gh r with
  |some ⟨el,l,none⟩=>bif decide (t=el) then dy (l'.length=l.length) (pE { S with gh:=dR S.gh r (some ⟨t,l',none⟩) } L out κ) none else none
  | _=>none)
 | _,_,_=>none
def sj (Θ:iC) (Y:oP) (S:TS) (g:FuncId) (caps:List Cl) (a:vH) (us:List TypeId) (xs:List Operand) (dst:Option Tmp) (κ:TS->Option ρ):Option ρ:=match a with
 | .agg cs=>(match lD S cs with
   |some (ys,L)=>bif BS L then j4 Θ { S with gh:=yz S.gh L } us xs fun vs=>pB (xh { S with gh:=yz S.gh L } none) caps fun ks=>Y (t9 g) (.agg (ys.map .c):: (vs++ks.map .cl)) ρ fun res out=>bif vG res then pE S L out fun S3=>j6 S3 dst res κ else none else none
   |none=>none)
 | .nest r i j sz lo len=>(match ea S.gh r with
   |some ⟨t,l,none⟩=>(l[i]?).bind fun y=>(match hQ (t.flat y) j with
    |some (.ls el v)=>bif Nat.beq sz el.width then dy (lo=0/\len=v.length) (j4 Θ { S with gh:=dR S.gh r (some ⟨t,l,some (i,j)⟩) } us xs fun vs=>pB (xh { S with gh:=dR S.gh r (some ⟨t,l,some (i,j)⟩) } none) caps fun ks=>
     Y (t9 g) (.cl (.c (.ls el v)):: (vs++ks.map .cl)) ρ fun res out=>(match out with
       | [⟨t',v',none⟩] =>bif decide (t'=el)&&vG res then dy (v'.length=v.length) (match t.unflat (dR (t.flat y) j (.ls t' v')) with
         |some z=>j6 { S with gh:=dR S.gh r (some ⟨t,l.set i z,none⟩) } dst res κ
         |none=>none) none else none
       | _=>none)) none else none
    | _=>none)
   | _=>none)
def sk (S:TS) (o:Oper):Option (TypeId×Nat×Nat×Nat×Nat):=match o.op with
 | .call { callee:= .builtin .clear,args:=as,argTypes:=ts } =>(match o.guard with
   |some _=>none
   |none=>match as.toList,ts.toList with
    | [x],[t] =>(match S.opd x with
      | .v (.cl (.own ⟨r,[]⟩ sz lo len _))=>some (t,r,sz,lo,len)
      | _=>none)
    | _,_=>none)
 | _=>none
def vI (Θ:iC) (S:TS) (t:TypeId) (r sz lo len:Nat) (dst:Option Tmp) (κ:TS->Option ρ):Option ρ:=match gn Θ t with
 |some ti=>match ea S.gh r with
  |some ⟨el,l,none⟩=>bif decide (ti.ty= .ls el)&&Nat.beq el.width 1&&Nat.beq sz 1&&el.flatB then (match el.unflat el.zcs with
   |some z=>dy (lo+len<=l.length) (j6 { S with gh:=dR S.gh r (some ⟨el,l.take lo++List.replicate len z++l.drop (lo+len),none⟩) } dst (.tup []) κ) none
   |none=>none) else none
  | _=>none
 |none=>none
def uc (b:Bool):V:= .v (.cl (.c (.sc (.bool b))))
noncomputable def oI (Θ:iC) (Y:oP) (all:List Oper):List Oper->TS->(TS->Option ρ)->Option ρ
 | [],S,κ=>κ S
 |o::os,S,κ=>match oQ o with
  |some (t,x)=>bif CK Θ t then (match S.opd x with
   | .v (.cl (.c (.ls _ l)))=>B8 l (Av (j6 S o.dst (uc true) fun S3=>oI Θ Y all os S3 κ) (j6 S o.dst (uc false) fun S3=>oI Θ Y all os S3 κ) none) (j6 S o.dst (uc false) fun S3=>oI Θ Y all os S3 κ)
   | _=>none) else none
  |none=>match sk S o with
  |some (t,r,sz,lo,len)=>vI Θ S t r sz lo len o.dst fun S3=>oI Θ Y all os S3 κ
  |none=>match ub Y S o with
  |some (k,g,caps,r,sz,us,xs)=>yy Θ Y S k g caps r sz us xs o.dst fun S3=>oI Θ Y all os S3 κ
  |none=>match pD Y S o with
  |some (g,caps,a,us,xs)=>sj Θ Y S g caps a us xs o.dst fun S3=>oI Θ Y all os S3 κ
  |none=>wk S all o fun b S1=>bif b then mZ Θ Y S1 o fun v S2=>j6 S2 o.dst v fun S3=>oI Θ Y all os S3 κ else j6 S1 o.dst (V.tup []) fun S3=>oI Θ Y all os S3 κ
def gone:Nat->List (Option dI)->List (Option dI)->List Nat
 |n,some _::l,none::m=>n::gone (n+1) l m
 |n,_::l,_::m=>gone (n+1) l m
 | _,_,_=> []
def yA (l:List (Option dI)):List T:=l.map fun x=>match x with |some tr=>tr.tree|none=> .dd
def nJ (S S':TS):eO:=⟨S.gh.length,yA (S'.gh.drop S.gh.length),gone 0 S.gh S'.gh⟩
def BG (d:Nat) (o:Oper):Bool:=match o.dst with |some d'=> !(Nat.beq d d')|none=>true
def CL (o:Oper) (os:List Oper):Bool:=match o.dst with |some d=>os.all (BG d)|none=>false
def Dt (Θ:iC) (t:TypeId):Bool:=match gn Θ t with
 |some ti=>(match ti.ty with | .ls _=>true| _=>false)
 |none=>false
def CM (Θ:iC) (o:Oper):Bool:=match o.op with
 | .buildSlice t _ _=>Dt Θ t
 | .call { callee:= .builtin .append,args:=_,argTypes:=ts } =>(match ts.toList with |t::_=>Dt Θ t| [] =>false)
 | _=>true
def wl:V->Bool
 | .v (.cl (.own p _ _ _ _))=>(match p.l with | [] =>true| _=>false)
 | _=>true
def BH (S:TS) (o:Oper):Bool:=match o.op with
 | .buildSlice _ _ parts=> !(parts.toList.map fun x=>S.opd x.2).any pC
 | .call { callee:= .builtin .append,args:=as,argTypes:=ts } =>(match ts.toList with | [t,t'] =>Nat.beq t t'| _=>true)&&(match as.toList with |s::_=>wl (S.opd s)| [] =>true)
 | _=>true
def yB (Θ:iC):List Oper->TS->(TS->Option ρ)->Option ρ
 | [],S,κ=>κ S
 |o::os,S,κ=>match o.op with
  | .alloc t=>match gn Θ t with |some ti=>yB Θ os { S with bx:=S.bx++ [ti.ty.zvs.map cC] } κ|none=>none
  | _=>yB Θ os S κ
def ud (Θ:iC) (Y:oP) (all:List Oper):List Oper->TS->List eO->(TS->List eO->Option ρ)->Option ρ
 | [],S,ms,κ=>κ S ms
 |o::os,S,ms,κ=>bif dq o then ud Θ Y all os S (ms++ [⟨S.gh.length,[],[]⟩]) κ else bif dZ o then (bif o.guard.isNone then j6 S o.dst (V.v (.cl (.ptrB (S.bx.length-1-dU os) 0))) fun S3=>ud Θ Y all os S3 (ms++ [⟨S.gh.length,[],[]⟩]) κ else none) else
   wk S all o fun b S1=>bif b then
    (bif ff o then (bif CL o os&&CM Θ o&&BH S1 o then mZ Θ Y S1 o fun v S2=>j6 S2 o.dst v fun S3=>ud Θ Y all os S3 (ms++ [nJ S1 S2]) κ else none)
    else pA Θ S1 o fun v S2=>j6 S2 o.dst v fun S3=>ud Θ Y all os S3 (ms++ [⟨S1.gh.length,[],[]⟩]) κ)
    else j6 S1 o.dst (V.tup []) fun S3=>ud Θ Y all os S3 (ms++ [⟨S1.gh.length,[],[]⟩]) κ
def yC (Θ:iC) (Y:oP):List Oper->TS->(TS->Option ρ)->Option ρ
 | [],S,κ=>κ S
 |o::os,S,κ=>bif dq o then (bif o.guard.isNone&&o.dst.isNone then mZ Θ Y S o fun _ S1=>yC Θ Y os S1 κ else none) else yC Θ Y os S κ
def yD (Θ:iC) (t:TypeId):Bool:=match gn Θ t with |some ti=>ti.ty.flatB|none=>false
def B9 (Θ:iC) (Y:oP) (ops:List Oper) (S:TS) (κ:TS->Option ρ):Option ρ:=
 yB Θ ops S fun S0=>ud Θ Y ops ops S0 [] fun SV ms=>bif u7 (yD Θ) ops (eG ops) S0.st ms SV.st then yC Θ Y ops SV κ else none
def eD:Code->Nat
 | .region id _ _=>id
 | .seq a _=>eD a
 | .block _ c=>eD c
 | .loop c=>eD c
 | _=>0
abbrev lY:=Nat->TS->(ρ:Type)->(X->TS->Option ρ)->Option ρ
noncomputable def nK (Θ:iC) (Y:oP) (Λ:lY):Code->TS->(X->TS->Option ρ)->Option ρ
 | .skip,S,κ=>κ .nor S
 | .region _ ops false,S,κ=>oI Θ Y ops.toList ops.toList S (κ .nor)
 | .region _ ops true,S,κ=>B9 Θ Y ops.toList S (κ .nor)
 | .seq a b,S,κ=>nK Θ Y Λ a S fun x S1=>match x with | .nor=>nK Θ Y Λ b S1 κ|x=>κ x S1
 | .cond c a b,S,κ=>t5 S c fun t S1=>bif t then nK Θ Y Λ a S1 κ else nK Θ Y Λ b S1 κ
 | .block id c,S,κ=>nK Θ Y Λ c S fun x S1=>match x with | .ext i=>bif Nat.beq i id then κ .nor S1 else κ (.ext i) S1|x=>κ x S1
 | .loop c,S,κ=>Λ (eD c) S ρ κ
 | .exit id,S,κ=>κ (.ext id) S
 | .ret,S,κ=>κ .ret S
 | _,_,_=>none
def Aw (S:TS) (gs:List dI) (et:Option Ty) (c:Cl) (κ:Cl->List dI->TS->Option ρ):Option ρ:=match c,et with
 | .c (.sc v),_=>κ (.c (.sc v)) gs S
 | .em,some t=>κ (.own ⟨gs.length,[]⟩ t.width 0 0 true) (gs++ [⟨t,[],none⟩]) S
 | .own p sz lo len w,some t'=>match p.l with
   | [] =>bif Nat.ble S.fz p.r&&Nat.beq t'.width sz then jZ S p fun t l=>bif Nat.beq t.width sz then
     (bif w then κ (.own ⟨gs.length,[]⟩ sz 0 l.length true) (gs++ [⟨t,l,none⟩]) { S with gh:=dR S.gh p.r none }
     else dy (lo=0/\len<=l.length) (κ (.own ⟨gs.length,[]⟩ sz 0 (l.take len).length true) (gs++ [⟨t,l.take len,none⟩]) { S with gh:=dR S.gh p.r none }) none) else none
     else none
   | _=>none
 | _,_=>none
def wm:TS->List dI->List (Option Ty)->List Cl->(List Cl->List dI->TS->Option ρ)->Option ρ
 |S,gs,et::ets,c::cs,κ=>Aw S gs et c fun c' gs' S'=>wm S' gs' ets cs fun cs' gs'' S''=>κ (c'::cs') gs'' S''
 |S,gs,[],[],κ=>κ [] gs S
 | _,_,_,_,_=>none
def Ca (Θ:iC) (S:TS) (gs:List dI) (t:TypeId) (v:V) (κ:V1->List dI->TS->Option ρ):Option ρ:=match gn Θ t with
 |none=>none
 |some ti=>match v with
  | .v (.agg cs)=>wm S gs ti.ty.csh cs fun cs' gs' S'=>κ (.agg cs') gs' S'
  | .v (.cl c)=>Aw S gs (ti.ty.csh.headD none) c fun c' gs' S'=>κ (.cl c') gs' S'
  | _=>none
def qT (Θ:iC):TS->List dI->List (TypeId×V)->(List V1->List dI->Option ρ)->Option ρ
 | _,gs,[],κ=>κ [] gs
 |S,gs,(t,v)::r,κ=>Ca Θ S gs t v fun v' gs' S'=>qT Θ S' gs' r fun vs gs''=>κ (v'::vs) gs''
def ue (Θ:iC) (S:TS):List ResultVar->List TypeId->(List (TypeId×V)->Option ρ)->Option ρ
 | .tmp a::rs,t::ts,κ=>ue Θ S rs ts fun l=>κ ((t,eT S.env a)::l)
 | .cell a t'::rs,t::ts,κ=>t6 Θ S t' (eT S.env a) fun v=>ue Θ S rs ts fun l=>κ ((t,v)::l)
 | [],[],κ=>κ []
 | _,_,_=>none
def xi:List V1->V
 | [v] => .v v
 |vs=> .tup vs
def jN:Nat->List V1->List (Nat×V)
 | _,[] => []
 |n,v::l=>(n, .v v)::jN (n+1) l
noncomputable def CN (Θ:iC) (Y:oP) (Λ:lY) (fn:Func) (args:List V1) (κ:V->List dI->Option ρ):Option ρ:=match fn.body with
 |none=>none
 |some c=>nK Θ Y Λ c { env:=jN 0 args,bx:= [],gh:= [],fz:=0,nt:=args.length+(fn.ntmps-args.length) } fun x S=>match x with
  | .ext _=>none
  | _=>ue Θ S fn.results.toList fn.resultTypes.toList fun rs=>qT Θ S [] rs fun vs gs=>κ (xi vs) gs
def sn:List Cl->Option (List C)
 | [] =>some []
 | .c x::l=>match sn l with |some r=>some (x::r)|none=>none
 | _=>none
def un (t:Ty) (a:V1) (κ:t.D->Option ρ):Option ρ:=match a with
 | .agg cs=>bif t.ag then (match sn cs with
   |some xs=>(match t.unflat xs with |some x=>κ x|none=>none)
   |none=>none) else none
 | .cl (.c y)=>bif t.ag then none else (match t.unflat [y] with |some x=>κ x|none=>none)
 | _=>none
def mp:List C->Nat->List Cl
 | [],_=> []
 | .sc v::r,n=> .c (.sc v)::mp r n
 | .ls t l::r,n=> .own ⟨n,[]⟩ t.width 0 l.length true::mp r (n+1)
def jO:List C->List dI
 | [] => []
 | .sc _::r=>jO r
 | .ls t l::r=>⟨t,l,none⟩::jO r
def Ax (t:Ty) (x:t.D) (n:Nat):V1:=bif t.ag then .agg (mp (t.flat x) n) else match mp (t.flat x) n with | [c] => .cl c| _=> .cl .dead
def uf:Nat->List ((t:Ty)×t.D)->List V1
 | _,[] => []
 |n,⟨t,x⟩::r=>Ax t x n::uf (n+(jO (t.flat x)).length) r
def pF:List ((t:Ty)×t.D)->List dI
 | [] => []
 | ⟨t,x⟩::r=>jO (t.flat x)++pF r
def ret (l:List ((t:Ty)×t.D)) (κ:V->List dI->Option ρ):Option ρ:=κ (xi (uf 0 l)) (pF l)
end
abbrev z4:=List V1->(ρ:Type)->(V->List dI->Option ρ)->Option ρ
def Cb:List (Nat×z4)->FuncId->List V1->(ρ:Type)->(V->List dI->Option ρ)->Option ρ
 | [],_,_,_,_=>none
 | (g,e)::l,f,as,ρ,κ=>bif Nat.beq g f then e as ρ κ else Cb l f as ρ κ
def Cc:List (Nat×z4)->Nat->Bool
 | [],_=>false
 | (g,_)::l,f=>bif Nat.beq g f then true else Cc l f
def vJ (l:List (Nat×z4)):oP:=⟨Cb l,fun g=>bif Cc l (t9 g) then 1 else bif Cc l (vD g) then 2 else 0⟩
def ug (t:Ty) (x:t.D):V1:=bif t.ag then .agg ((t.flat x).map .c) else match (t.flat x).map Cl.c with | [c] => .cl c| _=> .cl .dead
end
section
open Go
theorem ec {α:Type}: ∀ (l:List α) (n:Nat),hQ l n=l[n]?
 | [],n=>by simp[hQ]
 |a::l,0=>by simp[hQ]
 |a::l,n+1=>by show hQ l n=_; rw[ec l]; simp
theorem ex {α:Type}: ∀ (l:List α) (n:Nat) (x:α),dR l n x=l.set n x
 | [],n,x=>by simp[dR]
 |a::l,0,x=>by simp[dR]
 |a::l,n+1,x=>by show a::dR l n x=_; rw[ex l]; simp
theorem uh: ∀ {l:List (Nat×V)} {t:Nat},eT l t=V.dead\/(t,eT l t)∈l
 | [],t=> .inl rfl
 | (u,v)::l,t=>by
   simp only[eT];cases h:Nat.beq u t with
   |true=>have :u=t:=ao h;subst this;exact .inr (aD)
   |false=>
    rcases uh (l:=l) (t:=t) with h'|h'
    ·exact .inl h'
    ·exact .inr (aA _ h')
def Cl.ok (G:List (Option dI)):Cl->Prop
 | .own p _ lo len w=>p.r<G.length/\(w=true->p.l= [] /\lo=0/\ ∀tr,ea G p.r=some tr->len=tr.l.length)
 | .ptrT p _ _ _=>p.r<G.length
 | _=>True
def V1.ok (G:List (Option dI)):V1->Prop
 | .cl c=>c.ok G
 | .agg cs=> ∀c∈cs,c.ok G
 | .fn _ cs=> ∀c∈cs,c.ok G
def V.ok (G:List (Option dI)):V->Prop
 | .v x=>x.ok G
 | .tup l=> ∀x∈l,x.ok G
structure TS.ok (S:TS):Prop where
 env: ∀x∈S.env,x.2.ok S.gh
 bx: ∀cs∈S.bx,∀c∈cs,c.ok S.gh
def eK (G G':List (Option dI)):Prop:=G.length<=G'.length/\ ∀r tr',r<G.length->ea G' r=some tr'-> ∃tr,ea G r=some tr/\tr.l.length=tr'.l.length
theorem eK.refl (G:List (Option dI)):eK G G:=⟨au _,fun _ tr _ h=>⟨tr,h,rfl⟩⟩
theorem eK.trans {G H K:List (Option dI)} (h:eK G H) (k:eK H K):eK G K:=⟨bA h.1 k.1,fun r tr hr hK=>by obtain⟨t1,h1,h2⟩:=k.2 r tr (aU hr h.1) hK;obtain⟨t2,h3,h4⟩:=h.2 r t1 hr h1;exact⟨t2,h3,h4.trans h2⟩⟩
theorem Cl.ok_mono {G G':List (Option dI)} (h:eK G G') {c:Cl} (hc:c.ok G):c.ok G':=by
 cases c with
 |own p sz lo len w=>obtain⟨h1,h2⟩:=hc;refine⟨aU h1 h.1,fun hw=> ?_⟩;obtain⟨a,b,c⟩:=h2 hw;refine⟨a,b,fun tr htr=> ?_⟩;obtain⟨tr0,k1,k2⟩:=h.2 _ tr h1 htr;rw[c tr0 k1,k2]
 |ptrT p sz i j=>exact aU hc h.1
 | _=>trivial
theorem V1.ok_mono {G G':List (Option dI)} (h:eK G G') {v:V1} (hv:v.ok G):v.ok G':=by
 cases v with
 |cl c=>exact Cl.ok_mono h hv
 |agg cs=>exact fun c hc=>Cl.ok_mono h (hv c hc)
 |fn f cs=>exact fun c hc=>Cl.ok_mono h (hv c hc)
theorem V.ok_mono {G G':List (Option dI)} (h:eK G G') {v:V} (hv:v.ok G):v.ok G':=by
 cases v with
 |v x=>exact V1.ok_mono h hv
 |tup l=>exact fun x hx=>V1.ok_mono h (hv x hx)
theorem V.ok_dead (G:List (Option dI)):V.dead.ok G:=trivial
theorem V.ok_sc (G:List (Option dI)) (v:Value): (V.sc v).ok G:=trivial
theorem oS {S:TS} (hS:S.ok) (t:Nat): (eT S.env t).ok S.gh:=by
 rcases uh (l:=S.env) (t:=t) with h|h
 ·rw[h]; trivial
 ·exact hS.env _ h
theorem iL (v:Value): (cC v).av=oL v:=by
 unfold cC oL;cases h:it v with
 |true=>rfl
 |false=>
  simp only[cond_false,aO,if_false];split
  ·rfl
  ·split
   ·exact absurd rfl ‹_›
   ·rfl
theorem CO (v:Value): (cV v).av=qe v:=by
 cases v with
 |agg cs=>
  simp only[cV,qe];cases h:cs.toList.all Value.oneCell' with
  |true=>
   simp only[cond_true,if_true];simp only[V.av,V1.av,be]
   congr 1
   exact aF fun x _=>iL x
  |false=>rfl
 |bool b=>exact iL (.bool b)
 |int k n=>exact iL (.int k n)
 |float k n=>exact iL (.float k n)
 |complex k n m=>exact iL (.complex k n m)
 |string x=>exact iL (.string x)
 |pointer x=>exact iL (.pointer x)
 |slice x y z=>exact iL (.slice x y z)
 |map x=>exact iL (.map x)
 |chan x=>exact iL (.chan x)
 |func x y z=>exact iL (.func x y z)
 |nilFunc=>exact iL .nilFunc
 |iface x y=>exact iL (.iface x y)
 |nilIface=>exact iL .nilIface
 |tuple x=>exact iL (.tuple x)
theorem wn (G:List (Option dI)) (v:Value): (cC v).ok G:=by
 unfold cC;cases it v with
 |true=>trivial
 |false=>simp only[cond_false]; split<;>trivial
theorem CP (G:List (Option dI)) (v:Value): (cV v).ok G:=by
 unfold cV;split
 ·rename_i cs;cases cs.toList.all Value.oneCell' with
  |true=>intro c hc; simp only[aG] at hc; obtain⟨x,_,rfl⟩:=hc; exact wn _ _
  |false=>trivial
 ·exact wn _ _
theorem dw {S:TS} (x:Operand):opd S.st x=(S.opd x).av:=by
 cases x with
 |tmp t=>rfl
 |const v=>exact (CO v).symm
 |func f=>rfl
 |global g=>rfl
theorem fW {S:TS} (hS:S.ok) (x:Operand): (S.opd x).ok S.gh:=by
 cases x with
 |tmp t=>exact oS hS t
 |const v=>exact CP _ _
 |func f=>trivial
 |global g=>trivial
section
variable {ρ:Type}
theorem Ay {α:Type} {b:Bool} {x y:Option α} {r:α} (h:br b x y=some r): (b=true/\x=some r)\/(b=false/\y=some r):=by
 cases b with
 |true=>exact .inl ⟨rfl,h⟩
 |false=>exact .inr ⟨rfl,h⟩
theorem dN {α:Type} {c:Prop} [Decidable c] {x:Option α} {r:α} (h:dy c x none=some r):c/\x=some r:=by
 unfold dy at h;split at h
 ·exact⟨‹_›,h⟩
 ·cases h
theorem nL {α:Type} {c:Prop} [Decidable c] {x:Option α} {r:α} (h:dy c none x=some r): ¬c/\x=some r:=by
 unfold dy at h;split at h
 ·cases h
 ·exact⟨‹_›,h⟩
theorem dt {α:Type} {c:Bool} {x:Option α} {r:α} (h: (bif c then x else none)=some r):c=true/\x=some r:=by
 cases c with
 |true=>exact⟨rfl,h⟩
 |false=>cases h
theorem uj {S:TS} {t:Nat} {b:Bool} (h:eT S.env t=V.sc (.bool b)): ({ S with env:=(t,V.sc (.bool b))::S.env }:TS).st=S.st:=by
 unfold TS.st;simp only
 congr 1
 funext u
 simp only[eT];cases hb:Nat.beq t u with
 |true=>have :t=u:=ao hb;subst this;rw[h];rfl
 |false=>rfl
theorem uk {S:TS} (hS:S.ok) (t:Nat) (b:Bool): ({ S with env:=(t,V.sc (.bool b))::S.env }:TS).ok:=
 ⟨fun x hx=>by
  simp only[aV] at hx;rcases hx with rfl|hx
  ·trivial
  ·exact hS.env x hx,hS.bx⟩
theorem pG {S:TS} (hS:S.ok) {x:Operand} {κ:Bool->TS->Option ρ} {r:ρ} (h:t5 S x κ=some r):
  ∃b S',opd S.st x= .sc (.bool b)/\S'.st=S.st/\S'.ok/\S'.gh=S.gh/\κ b S'=some r:=by
 unfold t5 at h;split at h
 ·rename_i t;split at h
  ·rename_i b hb;rcases Ay h with ⟨rfl,h⟩| ⟨rfl,h⟩
   ·exact⟨true,_,by show (eT S.env t).av=_; rw[hb]; rfl,uj hb,uk hS _ _,rfl,h⟩
   ·exact⟨false,_,by show (eT S.env t).av=_; rw[hb]; rfl,uj hb,uk hS _ _,rfl,h⟩
  ·cases h
 ·rename_i b;exact⟨b,S,rfl,rfl,hS,rfl,h⟩
 ·cases h
theorem m0 {v:V} {κ:Int->Option ρ} {r:ρ} (h:vA v κ=some r): ∃n,oY v.av=some n/\κ n=some r:=by
 unfold vA at h;split at h
 ·exact⟨_,rfl,h⟩
 ·cases h
theorem dI.look {G:List (Option dI)} {r:Nat} {tr:dI} (h:hQ G r=some (some tr)):ea G r=some tr:=by unfold ea;rw[h];rfl
theorem ez {S:TS} {p:dC} {κ: (t:Ty)->List t.D->Option ρ} {r:ρ} (h:jZ S p κ=some r):
  ∃ (t:Ty) (l:List t.D),S.st.look p= .sl t.width (l.map t.row)/\(p.l= [] ->ea S.gh p.r=some ⟨t,l,none⟩)/\κ t l=some r:=by
 unfold jZ at h;split at h
 ·rename_i tr htr;have hg:=dI.look htr;split at h
  ·rename_i hh;obtain⟨t,l,hole⟩:=tr;simp only at hh;subst hh;split at h
   ·rename_i hp;refine⟨t,l,?_,fun _=>hg,h⟩;unfold St.look;have :S.st.gh p.r=some (.sl t.width (l.map t.row)):=by show (ea S.gh p.r).map dI.tree=_; rw[hg]; rfl
    rw[this,hp];rfl
   ·rename_i i j hp;simp only[aj] at h;obtain⟨x,hx,h⟩:=h;split at h
    ·rename_i t' l' hj;refine⟨t',l',?_,(fun h0=>by rw[hp] at h0; cases h0),h⟩;unfold St.look;have :S.st.gh p.r=some (.sl t.width (l.map t.row)):=by show (ea S.gh p.r).map dI.tree=_; rw[hg]; rfl
     rw[this,hp];simp only[T.go,T.cell];have e1: (l.map t.row).getD i [] =t.row x:=by simp[aq,hx]
     rw[e1,t.row_flat];rw[ec] at hj;simp[aq,hj,C.tree]
    ·cases h
   ·cases h
  ·cases h
 ·cases h
end
end
section
open Go
def Ty.shs (t:Ty):List Nat:=t.csh.map fun |some e=>e.width|none=>0
structure TI.ok (P:Program) (t:TypeId) (ti:TI):Prop where
 ag:qd P t=some ti.ty.ag
 cells:P.cellsOf t=ti.ty.width
 sh:hO P 9 t=ti.ty.shs
 ze:nu P t=some ti.ty.zvs
 fd: ∀k,xP P t k=hQ ti.fds k
 pl:ti.ty.ag=true->CB P t=some (ti.fds.map fun x=>(x.1,x.2.1))
 el: ∀e,ti.ty= .ls e-> ∃el,lQ P t=some el/\P.cellsOf el=e.width/\P.bytesOf el=ti.el/\0<ti.el/\hO P 9 el=e.shs/\nu P el=some e.zvs
 bool:ti.ty= .b->P.underlying t=some .bool
 gu:ti.ty.ag=true->ti.ty.flatB=true->P.eqGuardType P.depth t=false
 eq:ti.ty.ag=true-> ∀ (a b:List Cl) (r:Bool) (xs ys:List Value),fP ti.ty.zvs a=true->fP ti.ty.zvs b=true->lB a b=some r->a=xs.map (fun x=> .c (.sc x))->b=ys.map (fun x=> .c (.sc x))->dA P (Op.equal t (.agg xs.toArray) (.agg ys.toArray))=some r
 str:ry P t=(match ti.ty with | .s=>true| _=>false)
 int: ∀k,ti.ty= .i k->P.underlying t=some (.int k)
def en (P:Program) (Θ:iC):Prop:= ∀t ti,gn Θ t=some ti->ti.ok P t
theorem Ty.width_pos (t:Ty):0<t.width:=by
 cases t with
 |st n=>cases n<;>decide
 | _=>exact Nat.one_pos
theorem C.ro_tree (c:C):T.ro c.tree=c.av:=by cases c<;>rfl
theorem C.own_tree (p:dC) (i m:Nat) (c:C):xQ p i m c.tree=(vB p i m c).av:=by
 cases c with
 |sc v=>rfl
 |ls t l=>simp[xQ,C.tree,vB,Cl.av]
theorem nM {α β:Type} (f:Nat->α->β): ∀ (j:Nat) (l:List α) (k:Nat),(nI f j l)[k]? =(l[k]?).map (f (j+k))
 |j,[],k=>by simp[nI]
 |j,a::l,0=>by simp[nI]
 |j,a::l,k+1=>by simp only[nI,bS]; rw[nM f (j+1) l k]; congr 2; omega
section
variable {ρ:Type} {P:Program} {Θ:iC} {S:TS}
theorem fL {p:dC} {sz:Nat} {rows:List (List T)} (h:S.st.look p= .sl sz rows):S.st.rows p sz=some rows:=by unfold St.rows;rw[h];simp
theorem xj (hS:S.ok) {n:Nat} {v:Cl} (hv:v.ok S.gh) {κ:List Cl->Option ρ} {r:ρ} (h:vC S n v κ=some r):
  ∃cs:List Cl,dM S.st n v.av=some (cs.map Cl.av)/\(∀c∈cs,c.ok S.gh)/\κ cs=some r:=by
 unfold vC at h;split at h
 ·rename_i b j;split at h
  ·rename_i cs hcs;obtain⟨h1,h⟩:=dt h;have h1:j+n<=cs.length:=aw h1;refine⟨_,?_,fun c hc=> ?_,h⟩
   ·simp only[Cl.av,dM,TS.st,hcs,ay,ai,ax];rw[if_pos h1];simp[bC,bJ]
   ·rw[ec] at hcs;exact hS.bx cs (ap hcs) c (bg (bI hc))
  ·cases h
 ·rename_i cells;obtain⟨h1,h⟩:=dt h;have h1:n<=cells.length:=aw h1;refine⟨_,?_,fun c hc=> ?_,h⟩
  ·simp only[Cl.av,dM,ax];rw[if_pos h1]
   congr 1
   rw[<-bC,be,be];exact aF fun c _=>C.ro_tree c
  ·obtain⟨x,_,rfl⟩:=aG.1 hc;trivial
 ·rename_i p sz i j;obtain⟨t,l,h1,_,h5⟩:=ez h;obtain⟨h2,h6⟩:=dt h5;clear h h5;simp only[an] at h2;have h3:t.width=sz:=ao h2.1;have h4:j+n<=sz:=aw h2.2;subst h3;obtain⟨x,hx,h⟩:=aj.1 h6;have hil:i<l.length:=(ah.1 hx).1;have hfl: (t.flat x).length=t.width:=t.flat_length x;refine⟨_,?_,fun c hc=> ?_,h⟩
  ·have e1: (l.map t.row).getD i [] =t.row x:=by simp[aq,hx]
   simp only[Cl.av,dM,fL h1];rw[e1,if_pos ⟨by simpa using hil,by rw[t.row_length]; exact h4⟩]
   congr 1
   apply bO;intro k;rw[al,al,nM];by_cases hk:k<n
   ·have hjk:j+k< (t.flat x).length:=by omega
    rw[List.getElem?_range hk,aX,if_pos hk,aM,af hjk];simp only[ay];rw[t.row_flat,aq,al,af hjk];simp only[ay,aJ];rw[C.own_tree]
   ·rw[aX,if_neg hk,bR (by simp; omega)];rfl
  ·obtain⟨k,hk⟩:=List.getElem?_of_mem hc;rw[nM] at hk;simp only[ak] at hk;obtain⟨y,_,rfl⟩:=hk;cases y with
   |sc v=>trivial
   |ls t' l'=>exact⟨hv,fun h=>by cases h⟩
 ·cases h
theorem yE {G:List (Option dI)} {ag:Bool} {cs:List Cl} (hcs: ∀c∈cs,c.ok G) {κ:V->Option ρ} {r:ρ} (h:Ds ag cs κ=some r): ∃v,Bz ag (cs.map Cl.av)=some v.av/\v.ok G/\κ v=some r:=by
 unfold Ds at h;cases ag with
 |true=>refine⟨_,rfl,?_,h⟩; exact hcs
 |false=>
  simp only[cond_false] at h;split at h
  ·rename_i c;refine⟨_,rfl,?_,h⟩; exact hcs c (by simp)
  ·cases h
theorem ul (hΘ:en P Θ) (hS:S.ok) {t:TypeId} {v:V} (hv:v.ok S.gh) {κ:V->Option ρ} {r:ρ} (h:t6 Θ S t v κ=some r):
  ∃u,load P S.st t v.av=some u.av/\u.ok S.gh/\κ u=some r:=by
 unfold t6 at h;split at h
 ·rename_i ti hti;have hok:=hΘ _ _ hti;split at h
  ·rename_i a;obtain⟨cs,h1,h2,h⟩:=xj hS hv h;obtain⟨u,h3,h4,h⟩:=yE h2 h;refine⟨u,?_,h4,h⟩;unfold load;rw[hok.ag,hok.cells];simp only[ai,V.av,V1.av,h1];exact h3
  ·cases h
 ·cases h
theorem yF {p:dC} {κ:Int->Option ρ} {r:ρ} (h:yw S p κ=some r): ∃tr,ea S.gh p.r=some tr/\κ tr.l.length=some r:=by
 unfold yw at h;split at h
 ·split at h
  ·rename_i tr htr;exact⟨tr,dI.look htr,h⟩
  ·cases h
 ·cases h
theorem Az {n:Nat} {i:Int} {v:Cl} (hv:v.ok S.gh) {κ:Cl->Option ρ} {r:ρ} (h:B4 n i S v κ=some r): ∃c,mJ n i v.av=some c.av/\c.ok S.gh/\κ c=some r:=by
 unfold B4 at h;split at h
 ·rename_i t l;obtain⟨h1,h⟩:=dt h;have h1:t.width=n:=ao h1;obtain⟨h2,h⟩:=dN h;obtain⟨x,hx,h⟩:=aj.1 h;have hil:=(ah.1 hx).1;refine⟨_,?_,?_,h⟩
  rotate_left
  ·trivial
  simp only[Cl.av,C.av,mJ,ax];rw[if_pos ⟨h2,by omega,h1⟩]
  congr 1
  simp[aq,hx,t.row_flat]
 ·rename_i p sz lo len;obtain⟨h1,h⟩:=dt h;have h1:sz=n:=ao h1;obtain⟨tr,h3,h⟩:=yF h;obtain⟨h4,h⟩:=dN h;obtain⟨h5,h6⟩:=hv;obtain⟨h7,h8,h9⟩:=h6 rfl;have h10:=h9 _ h3;refine⟨_,?_,?_,h⟩
  rotate_left
  ·exact h5
  simp only[Cl.av,mJ];rw[if_pos ⟨h4.1,by omega,h1⟩,h8,aN]
 ·rename_i p sz lo len;obtain⟨h1,h⟩:=dt h;have h1:sz=n:=ao h1;obtain⟨h4,h⟩:=dN h;refine⟨_,?_,?_,h⟩
  rotate_left
  ·exact hv.1
  simp only[Cl.av,mJ];rw[if_pos ⟨h4.1,h4.2,h1⟩]
 ·cases h
theorem wo {v:Cl} (hv:v.ok S.gh) {κ:Int->Option ρ} {r:ρ} (h:Aq S v κ=some r): ∃n,kJ v.av=some n/\κ n=some r:=by
 unfold Aq at h;split at h
 ·exact⟨_,by simp[Cl.av,C.av,kJ],h⟩
 ·obtain⟨t,l,h2,h3,h⟩:=ez h;obtain⟨h5,h6⟩:=hv;obtain⟨h7,h8,h9⟩:=h6 rfl;have h10:=h9 _ (h3 h7);simp only at h10;exact⟨_,by simp[Cl.av,kJ,h10],h⟩
 ·exact⟨_,rfl,h⟩
 ·exact⟨_,rfl,h⟩
 ·cases h
theorem AA {n:Nat} {lo hi:Int} {v:Cl} (hv:v.ok S.gh) {κ:Cl->Option ρ} {r:ρ} (h:B5 n lo hi v κ=some r): ∃c,BA n lo hi v.av=some c.av/\c.ok S.gh/\κ c=some r:=by
 unfold B5 at h;split at h
 ·obtain⟨h1,h⟩:=dN h;exact⟨.em,by simp[Cl.av,BA,h1],trivial,h⟩
 ·rename_i t l;obtain⟨h1,h⟩:=dt h;have h1:t.width=n:=ao h1;obtain⟨h2,h⟩:=dN h;refine⟨_,?_,?_,h⟩
  rotate_left
  ·trivial
  simp only[Cl.av,C.av,BA,ax];rw[if_pos ⟨h1,h2⟩];simp[bC,bJ]
 ·rename_i p sz l len w;obtain⟨h1,h⟩:=dt h;have h1:sz=n:=ao h1;obtain⟨h2,h⟩:=dN h;refine⟨_,?_,?_,h⟩
  rotate_left
  ·exact⟨hv.1,fun h=>by cases h⟩
  simp only[Cl.av,BA];rw[if_pos ⟨h1,h2⟩]
 ·cases h
theorem qU {d:Int} {x:Option Operand} {κ:Int->Option ρ} {r:ρ} (h:se S d x κ=some r): ∃n,fK S.st d x=some n/\κ n=some r:=by
 unfold se at h;split at h
 ·exact⟨_,rfl,h⟩
 ·obtain⟨n,h1,h⟩:=m0 h;exact⟨n,by simp only[fK,dw]; exact h1,h⟩
theorem AB {G:List (Option dI)}: ∀ (parts:List (Nat×V)) (pl:List (Nat×Nat×Bool)) (cs cs':List Cl),(∀c∈cs,c.ok G)->(∀x∈parts,x.2.ok G)->xg pl cs parts=some cs'->
  z5 (pl.map fun x=>(x.1,x.2.1)) (cs.map Cl.av) (parts.map fun x=>(x.1,x.2.av))=some (cs'.map Cl.av)/\ ∀c∈cs',c.ok G:=by
 intro parts
 induction parts with
 |nil=>intro pl cs cs' hcs _ h;simp only[xg,ae] at h;subst h;exact⟨rfl,hcs⟩
 |cons x parts ih=>
  intro pl cs cs' hcs hp h;obtain⟨k,v⟩:=x;simp only[xg] at h;split at h
  ·rename_i off n ag hk;split at h
   ·rename_i x;have hx:x.ok G:=hp (k, .v x) (by simp)
    have eD: ∀ (hd: (V.v x).av.isDead=false) (hcell: (V.v x).av.cells=x.cells.map Cl.av) (hcok: ∀c∈x.cells,c.ok G)
      (h: (bif Nat.beq x.cells.length n&&Nat.ble (off+n) cs.length then xg pl (cs.take off++x.cells++cs.drop (off+n)) parts else none)=some cs'),
      z5 (pl.map fun x=>(x.1,x.2.1)) (cs.map Cl.av) (((k,V.v x)::parts).map fun x=>(x.1,x.2.av))=some (cs'.map Cl.av)/\ ∀c∈cs',c.ok G:=by
     intro hd hcell hcok h;obtain⟨h1,h⟩:=dt h;simp only[an] at h1;have h2:x.cells.length=n:=ao h1.1;have h3:off+n<=cs.length:=aw h1.2
     obtain⟨g1,g2⟩:=ih pl _ cs' (fun c hc=>by
      simp only[aZ] at hc;rcases hc with (hc|hc)|hc
      ·exact hcs c (bI hc)
      ·exact hcok c hc
      ·exact hcs c (bg hc)) (fun y hy=>hp y (aA _ hy)) h
     refine⟨?_,g2⟩;rw[ec] at hk;simp only[aL,z5,al,hk,ay];rw[if_pos ⟨hd,by rw[hcell]; simpa using h2,by simpa using h3⟩,<-g1,hcell];simp[bC,bJ]
    cases x with
    |cl c=>cases c with
     |dead=>cases h
     |c y=>cases y<;>exact eD rfl rfl (fun c hc=>by simp only[V1.cells,aE] at hc; subst hc; exact hx) h
     |em=>exact eD rfl rfl (fun c hc=>by simp only[V1.cells,aE] at hc; subst hc; exact hx) h
     |own p sz lo len w=>exact eD rfl rfl (fun c hc=>by simp only[V1.cells,aE] at hc; subst hc; exact hx) h
     |pro cs=>exact eD rfl rfl (fun c hc=>by simp only[V1.cells,aE] at hc; subst hc; exact hx) h
     |ptrB n j=>exact eD rfl rfl (fun c hc=>by simp only[V1.cells,aE] at hc; subst hc; exact hx) h
     |ptrT p sz i j=>exact eD rfl rfl (fun c hc=>by simp only[V1.cells,aE] at hc; subst hc; exact hx) h
    |agg cs2=>exact eD rfl rfl hx h
    |fn f cs2=>cases h
   ·cases h
  ·cases h
end
end
end Go.Proofs.Ytpagmogboinlpaa.En
