import Derived.Test.YtkghndikalnipaaGreatZX5
import Derived.Lib.Overlaps
set_option linter.unusedSimpArgs false
set_option linter.unusedVariables false
namespace Go.Proofs.YtkghndikalnipaaGreat.En
section
open Go Go.RowKit
section
variable {P:Program} {w w':World} {W:Nat->Prop} {bt:Bt}
def Dj:T->Value| .sc v=>v| _=>undef
def ij(sz:Nat)(rows:List (List T)):Prop:=∀r∈rows,r.length=sz/\ ∀x∈r,∃v,x= .sc v/\gQ v=true
def eP:List (List T)->List Value
 | [] => []
 |r::l=>r.map Dj++eP l
theorem ij.tail{sz:Nat}{r:List T}{l:List (List T)}(h:ij sz (r::l)):ij sz l:=λx hx=>h x (aK _ hx)
theorem gY{sz:Nat}: ∀ {rows:List (List T)},ij sz rows->(eP rows).length=rows.length*sz
 | [],_=>by simp[eP]
 |r::l,h=>by simp only[eP,be,aE,bD,gY h.tail,(h r aG).1,bc];omega
theorem kV: ∀a b:List (List T),eP (a++b)=eP a++eP b
 | [],b=>rfl
 |r::a,b=>by simp[eP,kV a b]
theorem kW{sz:Nat}: ∀ {rows:List (List T)},ij sz rows-> ∀ (i:Nat) (r:List T) (j:Nat) (x:T),rows[i]? =some r->r[j]? =some x->(eP rows)[i*sz+j]? =some (Dj x)
 | [],_,i,r,j,x,hi,_=>by simp at hi
 |r0::l,h,0,r,j,x,hi,hj=>by
  obtain rfl:r0=r:=by simpa using hi
  have hl:=(ai.1 hj).1;rw[bM,aM,eP,aU (by simpa using hl),aw,hj];rfl
 |r0::l,h,i+1,r,j,x,hi,hj=>by have h0:=(h r0 aG).1;rw[eP,aV (by rw[aE,h0,bc];omega),aE,h0,show (i+1)*sz+j-sz=i*sz+j by rw[bc];omega];exact kW h.tail i r j x (by simpa using hi) hj
theorem qL{sz:Nat}: ∀ {rows:List (List T)},ij sz rows-> ∀u∈eP rows,gQ u=true
 | [],_,u,hu=>by cases hu
 |r::l,h,u,hu=>by
  rcases bi.1 hu with hu|hu
  ·obtain⟨x,hx,rfl⟩:=aI.1 hu;obtain⟨v,rfl,hv⟩:=(h r aG).2 x hx;exact hv
  ·exact qL h.tail u hu
theorem zz{sz:Nat}{rows:List (List T)}(hf:ij sz rows){p:dW}{cur:Array Value}(g: ∀ (i:Nat) (r:List T),rows[i]? =some r->r.length=sz/\ ∀ (j:Nat) (x:T),r[j]? =some x-> ∃c,cur[i*sz+j]? =some c/\HR bt (p.sub i j) x c)(k:Nat)(u:Value)(hk: (eP rows)[k]? =some u):cur[k]? =some u:=by
 have hlt:=(ai.1 hk).1;rw[gY hf] at hlt
 have hsz:0<sz:=by
  rcases bu sz with h|h
  ·subst h;simp at hlt
  ·exact h
 have e:k / sz*sz+k % sz=k:=by rw[Nat.mul_comm];exact Nat.div_add_mod k sz
 have hi:k / sz<rows.length:=Nat.div_lt_of_lt_mul (by rw[Nat.mul_comm];exact hlt);have hr:=an hi;obtain⟨g1,g2⟩:=g _ _ hr;have hj:k % sz< (rows[k / sz]).length:=by rw[g1];exact dB _ hsz
 have hx:=an hj;obtain⟨c,c1,c2⟩:=g2 _ _ hx;have hv:=kW hf _ _ _ _ hr hx;rw[e] at c1 hv;rw[hk] at hv;obtain⟨v,hv1,_⟩:=(hf _ (ay hr)).2 _ (ay hx);rw[hv1] at c2 hv;cases c2 with
 |sc _=>rw[c1,Option.some.inj hv];rfl
theorem Av{sz:Nat}{rows:List (List T)}(hf:ij sz rows){l:List (Nat×Nat)}{s:Nat}{rs:List (List T)}(h: (T.sl sz rows).go l= .sl s rs):l= [] /\s=sz/\rs=rows:=by
 cases l with
 |nil=>have h:T.sl sz rows= .sl s rs:=h;cases h;exact⟨rfl,rfl,rfl⟩
 |cons z l=>
  obtain⟨i,j⟩:=z;exfalso
  have fm: ∀ (l:List (Nat×Nat)) (t:T),(t= .dd\/ ∃v,t= .sc v)->t.go l≠ .sl s rs:=by
   intro l
   induction l with
   |nil=>rintro t (rfl| ⟨v,rfl⟩) h<;>cases h
   |cons y l ih=>rintro t (rfl| ⟨v,rfl⟩) h<;>exact ih .dd (.inl rfl) h
  refine fm l _ ?_ h;simp only[T.cell,aB];cases hr:rows[i]? with
  |none=>exact .inl (by simp)
  |some r=>
   simp only[aZ];cases hx:r[j]? with
   |none=>exact .inl rfl
   |some x=>obtain⟨v,rfl,_⟩:=(hf r (ay hr)).2 x (ay hx);exact .inr ⟨v,rfl⟩
theorem rr[dL]{sz:Nat}{rows rows':List (List T)}(hI:eG w W bt (gn [.sl sz rows]) w)(hf:ij sz rows'){b cap:Nat}{cs:Array Value}{e:TypeId}(h1:w'.os=w.os)(h2:w'.tape=w.tape)(h3:w'.output=w.output)(h4:w.heap.size<=w'.heap.size)
  (hb:b=w.heap.size\/(0<bt.κ ⟨0,[]⟩/\b=(bt.β ⟨0,[]⟩).1)) (hkeep: ∀k,k<w.heap.size->w'.heap[k]? =w.heap[k]? \/k=b\/(0<bt.κ ⟨0,[]⟩/\k=(bt.β ⟨0,[]⟩).1)) (hh:w'.heap[b]? =some (.cells cs e (0,0))) (hk:cap*sz<=cs.size) (ho: ∀ (k:Nat) (u:Value),cs[k]? =some u->u.oneCell'=true)
  (hr:rows'.length<=cap) (hv: ∀ (k:Nat) (u:Value),(eP rows')[k]? =some u->cs[k]? =some u):
  ∃btn,eG w W btn (gn [.sl sz rows']) w'/\VR w' btn (.own ⟨0,[]⟩ sz 0 rows'.length) (.slice (some ⟨b,0,none⟩) rows'.length cap):=by
 have ng:bt.ng=1:=hI.ng;have old: (gn [T.sl sz rows]).look ⟨0,[]⟩= .sl sz rows:=rfl
 have look: ∀ (p:dW) (s:Nat) (rs:List (List T)),(gn [T.sl sz rows']).look p= .sl s rs->p=⟨0,[]⟩/\s=sz/\rs=rows':=by intro p s rs h;obtain⟨e0,h⟩:=yz h;obtain⟨e1,e2,e3⟩:=Av hf h;obtain⟨r,l⟩:=p;simp only at e0 e1;exact⟨by rw[e0,e1],e2,e3⟩
 have place:w.heap.size<=b\/W b:=by
  rcases hb with h| ⟨h,h'⟩
  ·exact .inl (Nat.le_of_eq h.symm)
  ·rw[h'];exact ((hI.tr _ _ _ old).2 h).1
 refine⟨{ bt with β:=λ_=>(b,0),κ:=λ_=>cap },{ good:=hI.good,os:=h1,tape:=h2,output:=h3,size:=h4,keep:=λk hk' hW=> ?_,nb:=hI.nb,ng:=hI.ng,bx:=λn cells h=>(by cases h),gh:=λr t h=> ?_,tr:=λp s rs h=> ?_,inj:=λp q s rs s' rs' h h' _ _ _=> ?_,bbinj:=λn m c c' h=>(by cases h),bbtr:=λn c p s rs h=>(by cases h),alt:=λk hA=>aN (hI.alt k hA) h4,atr:=λp s rs h _ hA=> ?_,abb:=λn c h=>(by cases h) },?_⟩
 ·rcases hkeep k hk' with h|rfl| ⟨h,rfl⟩
  ·exact h
  ·grind
  ·rcases ((hI.tr _ _ _ old).2 h).1 with h'|h'
   ·omega
   ·exact absurd h' hW
 ·have :r<1:=by
   have:=(ai.1 (show [T.sl sz rows'][r]? =some t from h)).1;simpa using this
  exact this
 ·obtain⟨rfl,rfl,rfl⟩:=look p s rs h;refine⟨hr,λ_=>⟨place,cs,e,hh,⟨by simpa using hk,.inl rfl⟩,ho,λi r hi=>⟨(hf r (ay hi)).1,λj x hx=> ?_⟩⟩⟩;obtain⟨v,rfl,hs⟩:=(hf r (ay hi)).2 x (ay hx);exact⟨v,(by show cs[0+_]? =_;rw[aM];exact hv _ _ (kW hf i r j _ hi hx)),.sc hs⟩
 ·rw[(look p s rs h).1,(look q s' rs' h').1]
 ·have hA:bt.A b:=hA;rcases hb with h'| ⟨h',h''⟩
  ·have:=hI.alt b hA;omega
  ·rw[h''] at hA;exact hI.atr _ _ _ old h' hA
 ·exact .own (by show 0<bt.ng;omega) hr (by show 0+cap<=cap;omega) (λ_=>by simp)
theorem i8(w:World)(dT sT ty elem:TypeId){i:TypeInfo}(g o dLen dCap:Nat)(a:Addr)(sLen sCap:Nat)(cur:Array Value)(t:TypeId)(cs:List Value)
  (hu:P.underlying dT=some (.slice elem)) (hi:P.info? elem=some i)
  (hg:w.heap[g]? =some (.cells cur t (0,0))) (hn:cs.length=Nat.min sLen dLen*i.size)
  (hsrc: ∀ (j:Nat) (v:Value),cs[j]? =some v->w.cell? (a.add j)=some v) (hfit:o+cs.length<=cur.size) (h1: ∀v∈cs,v.oneCell'=true):
  (Builtin.copy_ #[dT,sT] ty #[.slice (some ⟨g,o,none⟩) dLen dCap,.slice (some a) sLen sCap]).run P w=
    .ok (goInt (Nat.min sLen dLen)) (w.setRow g (cur.toList.take o++cs++cur.toList.drop (o+cs.length)).toArray):=by
 have hl:=run_loadCells_list (P:=P) w a cs hsrc;have hst:=run_storeCells_at P g o t cs 0 cur w hg (by simpa using hfit) h1
 simp_all [Builtin.copy_,run_underlying,Builtin.lenOf,Builtin.firstCells,sizeOf,typeInfo]
theorem A2(w:World)(tS tR e:TypeId)(ht:P.underlying tS=some (.slice e)){i:TypeInfo}(hi:P.info? e=some i)(a b:Addr)(la ca lb cb:Nat)(hne:a.block≠b.block){ra rb:Array Value}{ta tb:TypeId}{fa:Nat×Nat}
  (ha:w.heap[a.block]? =some (.cells ra ta fa)) (hra:0<ra.size) (hb:w.heap[b.block]? =some (.cells rb tb (0,0))):
  (Extern.SlicesOverlaps.overlaps #[tS,tS] #[tR] #[.slice (some a) la ca,.slice (some b) lb cb]).run P w= .ok (.bool false) w:=by
 have hnb: (a.block != b.block)=true:=by simpa using hne
 have hnb': (a.block==b.block)=false:=by simpa using hne
 have hz: ∀w,(Go.sizeOf e).run P w= .ok i.size w:=λw=>by simp[sizeOf,typeInfo,hi]
 have sa:w.shape? a.block=some (ta,ra.size):=by simp[World.shape?,ha]
 have sb:w.shape? b.block=some (tb,rb.size):=by simp[World.shape?,hb]
 have fb: ∀o s,w.frozen? ⟨b.block,o,s⟩=false:=λo s=>by simp[World.frozen?,hb]
 obtain⟨n,hn⟩: ∃n,ra.size=n+1:=⟨ra.size-1,by omega⟩
 rw[hn] at sa
 change Sem.run P (α:=Value) (do
  let some t:=(#[tS,tS]:Array TypeId)[0]? |stuck "slices.overlaps: no parameter types"
  let .slice elem <-underlying t|stuck "slices.overlaps: slice type expected"
  let size <-sizeOf elem
  match (some a:Option Addr),(some b:Option Addr) with
  |some a,some b=>
   if la=0\/lb=0\/size=0 then pure (Value.bool false)
   else if a.block != b.block&&(<-frozen a)&&(<-frozen b) then unsupported .addressObserved
   else do
    if a.block != b.block then do
     noView a;noView b
     if <-mayBeOne a b then return Value.bool ((<-choose (.extern "sameAddr.stringBytes" 2))==1)
    pure (Value.bool (a.block==b.block&&a.off<b.off+lb*size&&b.off<a.off+la*size))
  | _,_=>pure (Value.bool false)) w=_
 by_cases h0:la=0\/lb=0\/i.size=0
 ·simp[run_underlying ht,hz,h0]
 ·cases h1:w.frozen? a<;>cases h2:w.frozen? { block:=a.block,off:=n+1 }<;>
   simp[run_underlying ht,hz,h0,hnb,hnb',frozen,noView,viewAt,mayBeOne,stringish,shape,Sem.run,sa,sb,h1,h2,fb]
structure vy (P:Program) (f t e tn:Nat) (sz:Nat) (i:TypeInfo) (z:Value):Prop where
 enter: ∀ (args:Array Value) (w:World),(callFunc f args).run P w= .ok (.enter f args) w
 ht:P.underlying t=some (.slice e)
 hi:P.info? e=some i
 hz:i.zero=some z
 zs:z.cells.size=i.size
 z1: ∀u∈z.cells.toList,u.oneCell'=true
 hs:i.size=sz
 pos:0<sz
 htn:P.underlying tn=some (.int .i64)
 toEnd: ∀ (ab:Option Addr) (n c:Nat) (ad:Addr) (vc:Nat) (w w':World) (v:Value),n<=c->(ab=none->n=0)->n<=2 ^ 40->
  (∀ty,(Builtin.append_ #[t,t] ty #[.slice ab n c,.slice (some ad) 1 vc]).run P w= .ok v w')->
  Calls P f #[.slice ab n c,.int .i64 n,.slice (some ad) 1 vc] w λe w1=>e= .returned v/\w1=w'
 shift: ∀ (b n c i:Nat) (ad:Addr) (vc:Nat) (w W1 W2:World) (u1 u2:Value),i<n->n+1<=c->n<=2 ^ 40->ad.block≠b->
  (∃ra ta fa,w.heap[ad.block]? =some (.cells ra ta fa)/\0<ra.size)->(∃rb tb,w.heap[b]? =some (.cells rb tb (0,0)))->
  (∀ty dc sc,(Builtin.copy_ #[t,t] ty #[.slice (some ⟨b,(i+1)*sz,none⟩) (n-i) dc,.slice (some ⟨b,i*sz,none⟩) (n+1-i) sc]).run P w.drew= .ok u1 W1)->
  (∀ty dc,(Builtin.copy_ #[t,t] ty #[.slice (some ⟨b,i*sz,none⟩) (n+1-i) dc,.slice (some ad) 1 vc]).run P W1= .ok u2 W2)->
  Calls P f #[.slice (some ⟨b,0,none⟩) n c,.int .i64 i,.slice (some ad) 1 vc] w λe w1=>e= .returned (.slice (some ⟨b,0,none⟩) (n+1) c)/\w1=W2
 grow: ∀ (b g n c G i:Nat) (ad:Addr) (vc:Nat) (w W0 W1 W2:World) (u1 u2:Value),i<n->n<=c->c<n+1->n+1<=G->n<=2 ^ 40->
  (∀ty,(Builtin.append_ #[t,tn] ty #[.slice (some ⟨b,0,none⟩) i c,.int .i64 ((n:Int)+1-(i:Int))]).run P w= .ok (.slice (some ⟨g,0,none⟩) (n+1) G) W0)->
  (∀ty dc,(Builtin.copy_ #[t,t] ty #[.slice (some ⟨g,i*sz,none⟩) (n+1-i) dc,.slice (some ad) 1 vc]).run P W0= .ok u1 W1)->
  (∀ty dc sc,(Builtin.copy_ #[t,t] ty #[.slice (some ⟨g,(i+1)*sz,none⟩) (n-i) dc,.slice (some ⟨b,i*sz,none⟩) (n-i) sc]).run P W1.drew= .ok u2 W2)->
  Calls P f #[.slice (some ⟨b,0,none⟩) n c,.int .i64 i,.slice (some ad) 1 vc] w λe w1=>e= .returned (.slice (some ⟨g,0,none⟩) (n+1) G)/\w1=W2
theorem ij.ins{sz:Nat}{rows:List (List T)}{row:List T}(h:ij sz rows)(hr:ij sz [row])(i:Nat):ij sz (rows.take i++row::rows.drop i):=λr hm=>by
 rcases bi.1 hm with hm|hm
 ·exact h r (bJ hm)
 ·rcases aX.1 hm with rfl|hm
  ·exact hr r aG
  ·exact h r (bw hm)
theorem yJ{α:Type}: ∀ (l m:List α),(∀ (k:Nat) (u:α),l[k]? =some u->m[k]? =some u)-> ∃C,m=l++C
 | [],m,_=>⟨m,rfl⟩
 |a::l,m,h=>by
  have h0:=h 0 a rfl;cases m with
  |nil=>cases h0
  |cons b m=>
   obtain rfl:b=a:=by simpa using h0
   obtain⟨C,rfl⟩:=yJ l m (λk u hk=>by simpa using h (k+1) u (by simpa using hk));exact⟨C,rfl⟩
theorem xE{a:Addr}(n:Nat)(h:a.spot=none): (a.add n).spot=none:=by unfold Addr.add;split<;>simp_all
theorem sH{w:World}{a:Addr}(hs:a.spot=none){c:Value}(h:w.cell? a=some c): ∃ra ta fa,w.heap[a.block]? =some (.cells ra ta fa)/\0<ra.size:=by grind [World.cell?]
theorem zq{α:Type}{A X:List α}{n k:Nat}(h:A.length=n): (A++X).take (n+k)=A++X.take k:=by grind
theorem oI{α:Type}{A X:List α}{n k:Nat}(h:A.length=n): (A++X).drop (n+k)=X.drop k:=by subst h;exact List.drop_length_add_append k
theorem rp[dL]{f t e tn sz:Nat}{i0:TypeInfo}{z:Value}(hw:vy P f t e tn sz i0 z){rows:List (List T)}{row:List T}(hf:ij sz rows)(hf1:ij sz [row]){i:Nat}(hi:i<=rows.length)(hb: (rows.length+1)*i0.bytes<=2 ^ 40)(hn:rows.length<2 ^ 40)(h2:3<sz):
  eT P f [.own ⟨0,[]⟩ sz 0 rows.length,.sc (.int .i64 i),.ro sz [row]] [.sl sz rows] 0 (.own ⟨0,[]⟩ sz 0 (rows.length+1)) [.sl sz (rows.take i++row::rows.drop i)] :=by
 intro w W bt0 vals hI hl hv
 obtain⟨s,iv,vv,rfl⟩: ∃s iv vv,vals= [s,iv,vv] :=by
  match vals,hl with
  | [a,b,c],_=>exact⟨a,b,c,rfl⟩
 have v1:=hv 0 _ s rfl rfl;have v2:=hv 1 _ iv rfl rfl;have v3:=hv 2 _ vv rfl rfl;refine⟨hw.enter _ w,?_⟩;have old: (gn [T.sl sz rows]).look ⟨0,[]⟩= .sl sz rows:=rfl;have hfi:=hf.ins hf1 i;have hli: (rows.take i++row::rows.drop i).length=rows.length+1:=by simp;omega
 cases v2 with
 |sc _=>
 cases v3 with
 |ro h3=>
 cases h3 with
 |sl cs hcv hs3 hA hl3 hr3 ht3=>
 rename_i ad vc;cases v1 with
 |own hp hnc hk ha=>
 rename_i ab cap;have hrow:=hf1 row aG
 have newc: ∀ (j:Nat) (u:Value),(eP [row])[j]? =some u->w.cell? (ad.add j)=some u:=λj u hj=>by
  have hj':j<row.length:=by have:=(ai.1 hj).1;rw[gY hf1] at this;rw[hrow.1];simpa using this
  have hx:=an hj';have h1:=kW hf1 0 row j _ rfl hx;rw[bM,aM,hj] at h1;have h2:=hr3 0 row j _ rfl hx;have h4:=ht3 0 row j _ rfl hx;obtain⟨v,hv',_⟩:=hrow.2 _ (ay hx);rw[hv'] at h1 h4;cases h4 with
  |sc _=>rw[bM,aM] at h2;exact h2.trans (congrArg some (Option.some.inj h1).symm)
 have newl: (eP [row]).length=1*i0.size:=by rw[gY hf1,hw.hs];rfl
 have newo: ∀u∈eP [row],u.oneCell'=true:=λu hu=>pv (qL hf1 u hu);have pos:=hw.pos;have hnl:0< (eP [row]).length:=by rw[newl,hw.hs];omega
 have blk:0<cap-> ∃cur e',ab=some ⟨(bt0.β ⟨0,[]⟩).1,0,none⟩/\w.heap[(bt0.β ⟨0,[]⟩).1]? =some (.cells cur e' (0,0))/\cap*sz<=cur.size/\(∀ (k:Nat) (u:Value),cur[k]? =some u->u.oneCell'=true)/\ ∀ (k:Nat) (u:Value),(eP rows)[k]? =some u->cur[k]? =some u:=λh=>by
  obtain⟨_,cur,e',g1,⟨g2,g0⟩,g3,g4⟩:=(hI.tr _ _ _ old).2 (by omega);have g0: (bt0.β ⟨0,[]⟩).2=0:=by omega
  simp only[g0,aM] at g2 g4;refine⟨cur,e',by rw[ha h,g0];simp,g1,ba (bg _ (by omega)) g2,g3,zz hf g4⟩
 have hvl:=gY hf;have hsplit:eP rows=eP (rows.take i)++eP (rows.drop i):=by rw[<-kV,dx]
 have hA1: (eP (rows.take i)).length=i*sz:=by rw[gY (sz:=sz) (λr hr=>hf r (bJ hr)),ci,Nat.min_eq_left hi]
 have hB1: (eP (rows.drop i)).length=(rows.length-i)*sz:=by rw[gY (sz:=sz) (λr hr=>hf r (bw hr)),bR]
 have hnews:eP (rows.take i++row::rows.drop i)=eP (rows.take i)++(eP [row] ++eP (rows.drop i)):=by rw[show row::rows.drop i= [row] ++rows.drop i from rfl,kV,kV]
 by_cases hin:i=rows.length
 ·
  subst hin
  have hn0:ab=none->rows.length=0:=λh=>by grind
  have olen: (eP rows).length=rows.length*i0.size:=by rw[hvl,hw.hs]
  obtain⟨v,w',b,cap',g1,g2⟩:=lj (P:=P) (w:=w) (t:=t) (ty:=t) hw.ht hw.hi hw.hz hw.zs hw.z1 (by rw[hw.hs];exact pos) (ab:=ab) (len:=rows.length) (cap:=cap) (m:=1) (x:=.slice (some ad) 1 vc) hnc olen newl
   (λh=>by obtain⟨cur,e',k1,k2,k3,k4,k5⟩:=blk h;exact⟨_,0,cur,e',k1,k2,by rw[hw.hs,aM];exact k3,k4,λk u hk=>by rw[aM];exact k5 k u hk⟩)
   (.inr ⟨ad,vc,rfl,newc⟩) newo (by omega) hb
  have gty: ∀ty,(Builtin.append_ #[t,t] ty #[.slice ab rows.length cap,.slice (some ad) 1 vc]).run P w= .ok v w':=λty=>g1;refine (hw.toEnd ab rows.length cap ad vc w w' v hnc hn0 (by omega) gty).mono λe1 w1 h=> ?_;obtain⟨rfl,rfl⟩:=h;obtain⟨ad',hv',had'⟩:=g2.val;have hc':0<cap':=by have:=g2.le;omega
  obtain⟨q1,arr,e',q2,q3,q4,q5,q6⟩:=g2.root hc';rw[had' hc'] at hv';obtain⟨b,b0⟩:=b
  have hb0:b0=0:=by
   rcases q1 with h| ⟨h1,h2,_⟩
   ·exact (Prod.mk.inj h).2
   ·obtain⟨_,_,k1,_⟩:=blk h1;rw[k1] at h2;simp only[af,Addr.mk.injEq] at h2;exact h2.2.1.symm
  subst hb0;simp only[aM] at q3 q5 q6
  obtain⟨btn,r1,r2⟩:=rr (w':=w1) hI hfi (b:=b) (cap:=cap') g2.os g2.tape g2.output g2.size
   (by grind)
   (λk hk'=>by
     rcases g2.block k hk' with h| ⟨h,h'⟩
     all_goals grind)
   q2 (by rw[<-hw.hs];exact q3) q4 (by rw[hli];exact g2.le)
   (λk u hk=>by
     rw[hnews,List.take_length,dp] at hk;simp only[eP,bI] at hk;rcases cU k (eP rows).length with h|h
     ·grind
     ·rw[aV h] at hk;have:=q6 _ u (by simpa [eP] using hk)
      rwa [<-olen,show (eP rows).length+(k-(eP rows).length)=k by omega] at this)
  grind
 ·
  have hlt:i<rows.length:=by omega
  have hcap:0<cap:=by omega
  obtain⟨cur,e',k1,k2,k3,k4,k5⟩:=blk hcap;rw[k1];obtain⟨C,hC⟩:=yJ (eP rows) cur.toList (λk u hk=>by simpa using k5 k u hk);rw[hsplit,aY] at hC;have hbt:0<bt0.κ ⟨0,[]⟩:=by omega
  generalize hβ: (bt0.β ⟨0,[]⟩).1=b at*;generalize hA0:eP (rows.take i)=A at*;generalize hB0:eP (rows.drop i)=B at*;generalize hN0:eP [row] =N at*;have hne:ad.block≠b:=λh=>hI.atr _ _ _ old hbt (by rw[hβ,<-h];exact hA)
  have hAone: ∀u∈A,u.oneCell'=true:=λu hu=>by obtain⟨k,hk,e⟩:=aQ hu;exact k4 k u (by grind)
  have hBone: ∀u∈B,u.oneCell'=true:=λu hu=>by obtain⟨k,hk,e⟩:=aQ hu;exact k4 (A.length+k) u (by grind)
  have hBcell: ∀ (w1:World),w1.heap[b]? =some (.cells cur e' (0,0))-> ∀ (j:Nat) (v:Value),B[j]? =some v->w1.cell? ((⟨b,i*sz,none⟩:Addr).add j)=some v:=λw1 h j v hj=>by have hj':=(ai.1 hj).1;rw[Go.Proofs.YtkghndikalnipaaGreat.En.add_lit,gi h,<-bG,hC,aV (by omega),show i*sz+j-A.length=j by omega,aU hj'];exact hj
  have hsz:=hw.hs;have hN1:N.length=sz:=by rw[newl,hsz];omega
  have hadd1: (i+1)*sz=i*sz+sz:=by rw[bc];omega
  have hnn:rows.length*sz=i*sz+(rows.length-i)*sz:=by rw[<-bc,show i+(rows.length-i)=rows.length by omega]
  have hcl:cur.size=cur.toList.length:=by simp
  obtain⟨u0,hu0⟩: ∃u0,N[0]? =some u0:=⟨_,an (by omega)⟩
  have hblk:=sH (a:=ad.add 0) (xE 0 hs3) (newc 0 u0 hu0);rw[gV] at hblk;by_cases hroom:rows.length+1<=cap
  ·have hr1: (rows.length+1)*sz<=cap*sz:=bg _ hroom;have hr2: (rows.length+1)*sz=rows.length*sz+sz:=by rw[bc];omega
   have c1: ∀ty dc sc,(Builtin.copy_ #[t,t] ty #[.slice (some ⟨b,(i+1)*sz,none⟩) (rows.length-i) dc,.slice (some ⟨b,i*sz,none⟩) (rows.length+1-i) sc]).run P w.drew= .ok (goInt (Nat.min (rows.length+1-i) (rows.length-i))) _:=λty dc sc=>i8 w.drew t t ty e b ((i+1)*sz) (rows.length-i) dc ⟨b,i*sz,none⟩ (rows.length+1-i) sc cur e' B hw.ht hw.hi k2 (by grind) (hBcell w.drew k2) (by rw[hB1];omega) hBone
   obtain⟨cur1,hc1⟩: ∃x:Array Value,x=(cur.toList.take ((i+1)*sz)++B++cur.toList.drop ((i+1)*sz+B.length)).toArray:=⟨_,rfl⟩
   rw[<-hc1] at c1
   have hc1':cur1.toList=A++((B++C).take sz++(B++cur.toList.drop ((i+1)*sz+B.length))):=by rw[hc1];simp only[aY];rw[hadd1];rw[show cur.toList.take (i*sz+sz)=A++(B++C).take sz from by rw[hC];exact zq hA1];simp only[aY]
   have hy: ((B++C).take sz).length=sz:=by
    have :cur.toList.length=A.length+(B++C).length:=by rw[hC,be]
    rw[ci];omega
   have g2:=setRow_heap w.drew b cur cur1 e' (0,0) k2
   have hcs1:cur1.size=cur.size:=by rw[hc1,cP];simp only[be,ci,bR,cL];omega
   have c2: ∀ty dc,(Builtin.copy_ #[t,t] ty #[.slice (some ⟨b,i*sz,none⟩) (rows.length+1-i) dc,.slice (some ad) 1 vc]).run P (w.drew.setRow b cur1)= .ok (goInt (Nat.min 1 (rows.length+1-i))) _:=λty dc=>
    i8 _ t t ty e b (i*sz) (rows.length+1-i) dc ad 1 vc cur1 e' N hw.ht hw.hi g2 (by grind)
     (λj v hj=>by rw[iE (w:=w)];exact newc j v hj;rw[gV];exact setRow_other w.drew b _ _ hne) (by omega) newo
   obtain⟨cur2,hc2⟩: ∃x:Array Value,x=(cur1.toList.take (i*sz)++N++cur1.toList.drop (i*sz+N.length)).toArray:=⟨_,rfl⟩
   rw[<-hc2] at c2
   have hc2':cur2.toList=A++(N++B)++cur.toList.drop ((i+1)*sz+B.length):=by rw[hc2];simp only;rw[hc1',List.take_left' hA1,oI hA1,hN1,List.drop_left' hy];simp only[aY]
   refine (hw.shift b rows.length cap i ad vc w _ _ _ _ hlt hroom (by omega) hne hblk ⟨cur,e',k2⟩ c1 c2).mono λe1 w1 h=> ?_;obtain⟨rfl,rfl⟩:=h;have g3:=setRow_heap (w.drew.setRow b cur1) b cur1 cur2 e' (0,0) g2
   obtain⟨btn,r1,r2⟩:=rr (w':=(w.drew.setRow b cur1).setRow b cur2) hI hfi (b:=b) (cap:=cap) rfl rfl rfl (by simp[World.setRow])
    (.inr ⟨hbt,hβ.symm⟩)
    (λk hk'=>by
      by_cases h:k=b
      ·exact .inr (.inl h)
      ·exact .inl ((setRow_other _ b k _ h).trans (setRow_other _ b k _ h)))
    g3 (by grind)
    (λk u hk=>by
      rw[<-bG,hc2'] at hk;rcases bi.1 (ay hk) with h|h
      ·grind
      ·obtain⟨q,hq,hqu⟩:=aQ (bw h);exact k4 q u (by grind))
    (by rw[hli];exact hroom)
    (λk u hk=>by grind)
   grind
  ·obtain⟨k,hk0⟩: ∃k,k=rows.length+1-i:=⟨_,rfl⟩
   have hki:i+k=rows.length+1:=by omega
   have hkk: (rows.length:Int)+1-(i:Int)=((k:Nat):Int):=by omega
   have hpos:0<i0.size:=by omega
   have hold: (Builtin.firstCells i0.size i (.slice (some ⟨b,0,none⟩) i cap)).run P w.drew= .ok A.toArray w.drew:=
    run_firstCells_some (P:=P) w.drew i0.size i ⟨b,0,none⟩ i cap A (by rw[hA1,hsz]) (λj v hj=>by have hj':=(ai.1 hj).1;rw[Go.Proofs.YtkghndikalnipaaGreat.En.add_lit,gi (w:=w.drew) k2,aM,<-bG,hC,aU hj'];exact hj)
   have hkb:k*i0.bytes<=(rows.length+1)*i0.bytes:=bg _ (by omega);have hrz: ∀ty,_:=λty=>Go.Lib.run_append_grow_zeros (P:=P) w t tn ty e i0 z .i64 .i64 hw.ht hw.htn hw.hi hw.hz (some ⟨b,0,none⟩) i cap A hold k (by omega) hpos (by omega) (by omega) (by omega) (growslice_fits (by omega) (by rw[hki];omega));rw[hki] at hrz;have hG:=grownCap_ge w (rows.length+1) cap e;generalize grownCap w (rows.length+1) cap e=G at hrz hG;obtain⟨Z,hZ⟩: ∃Z:List Value,Z=(Builtin.zeroCells z.cells k++Builtin.zeroCells z.cells (G-(rows.length+1))).toList:=⟨_,rfl⟩
   obtain⟨row0,hr0⟩: ∃x:Array Value,x=A.toArray++Builtin.zeroCells z.cells k++Builtin.zeroCells z.cells (G-(rows.length+1)):=⟨_,rfl⟩
   rw[<-hr0] at hrz;have hr0':row0.toList=A++Z:=by rw[hr0,hZ];simp
   have hZone: ∀u∈Z,u.oneCell'=true:=λu hu=>by
    have fm: ∀n,∀u∈(Builtin.zeroCells z.cells n).toList,u.oneCell'=true:=λn u hu=>by simp only[Builtin.zeroCells,Array.toList_map,aI] at hu;obtain⟨q,_,rfl⟩:=hu;have hlt:q % z.cells.size<z.cells.size:=dB _ (by rw[hw.zs];exact hpos);rw[getElem!_pos z.cells _ hlt];exact hw.z1 _ (by simp)
    grind
   have hZl:Z.length=k*sz+(G-(rows.length+1))*sz:=by rw[hZ];simp only[Array.toList_append,be,cL,size_zeroCells,hw.zs,hsz]
   have hks:k*sz=sz+(rows.length-i)*sz:=by rw[show k=1+(rows.length-i) by omega,bc];omega
   have hbw:b<w.heap.size:=(aD.1 k2).1;have haw:ad.block<w.heap.size:=hI.alt _ hA;have hs0:=heap_alloc_new w.drew (.cells row0 e);have o0: ∀q,q<w.heap.size->(w.drew.alloc (.cells row0 e)).heap[q]? =w.heap[q]? :=λq hq=>heap_alloc_old w.drew _ q hq;generalize hW0:w.drew.alloc (.cells row0 e)=W0 at*;have hrow0:row0.size=row0.toList.length:=by simp
   have c1: ∀ty dc,(Builtin.copy_ #[t,t] ty #[.slice (some ⟨w.heap.size,i*sz,none⟩) (rows.length+1-i) dc,.slice (some ad) 1 vc]).run P W0= .ok (goInt (Nat.min 1 (rows.length+1-i))) _:=λty dc=>
    i8 W0 t t ty e w.heap.size (i*sz) (rows.length+1-i) dc ad 1 vc row0 e N hw.ht hw.hi hs0 (by grind)
     (λj v hj=>by grind [iE,gV]) (by rw[hrow0,hr0',be];omega) newo
   obtain⟨row1,hr1⟩: ∃x:Array Value,x=(row0.toList.take (i*sz)++N++row0.toList.drop (i*sz+N.length)).toArray:=⟨_,rfl⟩
   rw[<-hr1] at c1
   have hr1':row1.toList=(A++N)++Z.drop sz:=by rw[hr1];simp only;rw[hr0',List.take_left' hA1,hN1,oI hA1]
   have hs1:=setRow_heap W0 w.heap.size row0 row1 e (0,0) hs0;have hAN: (A++N).length=(i+1)*sz:=by rw[be,hA1,hN1,hadd1]
   have c2: ∀ty dc sc,(Builtin.copy_ #[t,t] ty #[.slice (some ⟨w.heap.size,(i+1)*sz,none⟩) (rows.length-i) dc,.slice (some ⟨b,i*sz,none⟩) (rows.length-i) sc]).run P (W0.setRow w.heap.size row1).drew= .ok (goInt (Nat.min (rows.length-i) (rows.length-i))) _:=λty dc sc=>
    i8 (W0.setRow w.heap.size row1).drew t t ty e w.heap.size ((i+1)*sz) (rows.length-i) dc ⟨b,i*sz,none⟩ (rows.length-i) sc row1 e B hw.ht hw.hi hs1 (by grind)
     (hBcell _ (((setRow_other W0 w.heap.size b _ (by omega)).trans (o0 b hbw)).trans k2))
     (by grind) hBone
   obtain⟨row2,hr2⟩: ∃x:Array Value,x=(row1.toList.take ((i+1)*sz)++B++row1.toList.drop ((i+1)*sz+B.length)).toArray:=⟨_,rfl⟩
   rw[<-hr2] at c2
   have hr2':row2.toList=A++(N++B)++(Z.drop sz).drop B.length:=by rw[hr2];simp only;rw[hr1',List.take_left' hAN,oI hAN];simp only[aY]
   refine (hw.grow b w.heap.size rows.length cap G i ad vc w W0 _ _ _ _ hlt hnc (by omega) hG (by omega) (by rw[hkk];exact hrz) c1 c2).mono λe1 w1 h=> ?_;obtain⟨rfl,rfl⟩:=h;have hs2:=setRow_heap (W0.setRow w.heap.size row1).drew w.heap.size row1 row2 e (0,0) hs1;have hsize:w.heap.size<=W0.heap.size:=by rw[<-hW0];simp
   obtain⟨btn,r1,r2⟩:=rr (w':=(W0.setRow w.heap.size row1).drew.setRow w.heap.size row2) hI hfi (b:=w.heap.size) (cap:=G) (by subst hW0;rfl) (by subst hW0;rfl) (by subst hW0;rfl) (by simpa [World.setRow] using hsize)
    (.inl rfl)
    (λq hq=> .inl (((setRow_other _ w.heap.size q _ (by omega)).trans (setRow_other W0 w.heap.size q _ (by omega))).trans (o0 q hq)))
    hs2 (by
     have :row2.size=row2.toList.length:=by simp
     rw[this,hr2'];simp only[be,bR];have hg:G*sz=(G-(rows.length+1))*sz+(rows.length+1)*sz:=by rw[<-bc,show G-(rows.length+1)+(rows.length+1)=G by omega]
     have hg2: (rows.length+1)*sz=rows.length*sz+sz:=by rw[bc];omega
     omega)
    (λq u hq=>by
      rw[<-bG,hr2'] at hq;rcases bi.1 (ay hq) with h|h
      all_goals grind)
    (by rw[hli];exact hG)
    (λq u hq=>by grind)
   grind
end
end
section
open Go
structure Hd where
 a:Option Addr
 n:Nat
 c:Nat
 deriving DecidableEq,Inhabited
structure Op where
 client:Int
 seq:Int
 kind:Int
 object:Int
 old:Int
 value:Int
 deriving DecidableEq,Inhabited
structure Result where
 done:Bool
 value:Int
 deriving DecidableEq,Inhabited
structure nY where
 client:Int
 seq:Int
 result:Result
 deriving DecidableEq,Inhabited
structure nX where
 objects:List Int
 sessions:List nY
 deriving DecidableEq,Inhabited
structure sf where
 epoch:Int
 op:Op
 deriving DecidableEq,Inhabited
structure oo where
 count:Int
 digest:Int
 machine:nX
 deriving DecidableEq,Inhabited
structure om where
 epoch:Int
 primary:Int
 replicas:List Int
 witnesses:List Int
 deriving DecidableEq,Inhabited
structure vB where
 rack:Int
 capacity:Int
 load:Int
 deriving DecidableEq,Inhabited
structure kB where
 configs:List om
 activated:Int
 deriving DecidableEq,Inhabited
structure vz where
 epoch:Int
 holder:Int
 ends:Int
 deriving DecidableEq,Inhabited
structure qQ where
 up:Bool
 intact:Bool
 version:Int
 epoch:Int
 config:om
 first:Int
 log:List sf
 commit:Int
 learned:List sf
 deriving DecidableEq,Inhabited
structure qN where
 now:Int
 servers:List qQ
 sides:List Int
 master:kB
 masterUp:Int
 lease:vz
 places:List vB
 deriving DecidableEq,Inhabited
structure xB where
 code:Int
 result:Result
 index:Int
 deriving DecidableEq,Inhabited
structure DR where
 op:Op
 index:Int
 deriving DecidableEq,Inhabited
structure xx where
 kind:Int
 server:Int
 other:Int
 n:Int
 op:Op
 deriving DecidableEq,Inhabited
structure uE where
 server:Int
 index:Int
 deriving DecidableEq,Inhabited
structure BG where
 start:Int
 event:Int
 read:Bool
 index:Int
 value:Int
 op:Op
 deriving DecidableEq,Inhabited
structure qO where
 b:Hd
 i:Int
 h:Int
 deriving DecidableEq,Inhabited
inductive Sn where
 |op|result|session|machine|entry|snapshot|config|place|masterLog|lease|server|cluster|reply|ack|event|damage|mark|cur
 deriving DecidableEq,Inhabited
abbrev Sn.D:Sn->Type
 | .op=>Op
 | .result=>Result
 | .session=>nY
 | .machine=>nX
 | .entry=>sf
 | .snapshot=>oo
 | .config=>om
 | .place=>vB
 | .masterLog=>kB
 | .lease=>vz
 | .server=>qQ
 | .cluster=>qN
 | .reply=>xB
 | .ack=>DR
 | .event=>xx
 | .damage=>uE
 | .mark=>BG
 | .cur=>qO
inductive Ty where|i (k:IntKind)|b|s|h|st (n:Sn)|ls (t:Ty)
 deriving DecidableEq,Inhabited
abbrev Ty.D:Ty->Type
 | .i _=>Int| .b=>Bool| .s=>ByteArray| .h=>Hd| .st n=>n.D| .ls t=>List t.D
inductive C where|sc (v:Value)|ls (t:Ty) (l:List t.D)
 deriving Inhabited
def Sn.flat: (n:Sn)->n.D->List C
 | .op,x=> [.sc (.int .i64 x.client),.sc (.int .i64 x.seq),.sc (.int .i64 x.kind),.sc (.int .i64 x.object),.sc (.int .i64 x.old),.sc (.int .i64 x.value)]
 | .result,x=> [.sc (.bool x.done),.sc (.int .i64 x.value)]
 | .session,x=> [.sc (.int .i64 x.client),.sc (.int .i64 x.seq),.sc (.bool x.result.done),.sc (.int .i64 x.result.value)]
 | .machine,x=> [.ls (.i .i64) x.objects,.ls (.st .session) x.sessions]
 | .entry,x=> [.sc (.int .i64 x.epoch),.sc (.int .i64 x.op.client),.sc (.int .i64 x.op.seq),.sc (.int .i64 x.op.kind),.sc (.int .i64 x.op.object),.sc (.int .i64 x.op.old),.sc (.int .i64 x.op.value)]
 | .snapshot,x=> [.sc (.int .i64 x.count),.sc (.int .i64 x.digest),.ls (.i .i64) x.machine.objects,.ls (.st .session) x.machine.sessions]
 | .config,x=> [.sc (.int .i64 x.epoch),.sc (.int .i64 x.primary),.ls (.i .i64) x.replicas,.ls (.i .i64) x.witnesses]
 | .place,x=> [.sc (.int .i64 x.rack),.sc (.int .i64 x.capacity),.sc (.int .i64 x.load)]
 | .masterLog,x=> [.ls (.st .config) x.configs,.sc (.int .i64 x.activated)]
 | .lease,x=> [.sc (.int .i64 x.epoch),.sc (.int .i64 x.holder),.sc (.int .i64 x.ends)]
 | .server,x=> [.sc (.bool x.up),.sc (.bool x.intact),.sc (.int .i64 x.version),.sc (.int .i64 x.epoch),.sc (.int .i64 x.config.epoch),.sc (.int .i64 x.config.primary),.ls (.i .i64) x.config.replicas,.ls (.i .i64) x.config.witnesses,.sc (.int .i64 x.first),.ls (.st .entry) x.log,.sc (.int .i64 x.commit),.ls (.st .entry) x.learned]
 | .cluster,x=> [.sc (.int .i64 x.now),.ls (.st .server) x.servers,.ls (.i .i64) x.sides,.ls (.st .config) x.master.configs,.sc (.int .i64 x.master.activated),.sc (.int .i64 x.masterUp),.sc (.int .i64 x.lease.epoch),.sc (.int .i64 x.lease.holder),.sc (.int .i64 x.lease.ends),.ls (.st .place) x.places]
 | .reply,x=> [.sc (.int .i64 x.code),.sc (.bool x.result.done),.sc (.int .i64 x.result.value),.sc (.int .i64 x.index)]
 | .ack,x=> [.sc (.int .i64 x.op.client),.sc (.int .i64 x.op.seq),.sc (.int .i64 x.op.kind),.sc (.int .i64 x.op.object),.sc (.int .i64 x.op.old),.sc (.int .i64 x.op.value),.sc (.int .i64 x.index)]
 | .event,x=> [.sc (.int .i64 x.kind),.sc (.int .i64 x.server),.sc (.int .i64 x.other),.sc (.int .i64 x.n),.sc (.int .i64 x.op.client),.sc (.int .i64 x.op.seq),.sc (.int .i64 x.op.kind),.sc (.int .i64 x.op.object),.sc (.int .i64 x.op.old),.sc (.int .i64 x.op.value)]
 | .damage,x=> [.sc (.int .i64 x.server),.sc (.int .i64 x.index)]
 | .mark,x=> [.sc (.int .i64 x.start),.sc (.int .i64 x.event),.sc (.bool x.read),.sc (.int .i64 x.index),.sc (.int .i64 x.value),.sc (.int .i64 x.op.client),.sc (.int .i64 x.op.seq),.sc (.int .i64 x.op.kind),.sc (.int .i64 x.op.object),.sc (.int .i64 x.op.old),.sc (.int .i64 x.op.value)]
 | .cur,x=> [.sc (.slice x.b.a x.b.n x.b.c),.sc (.int .i64 x.i),.sc (.int .i64 x.h)]
def Ty.flat: (t:Ty)->t.D->List C
 | .i k,n=> [.sc (.int k n)] | .b,v=> [.sc (.bool v)] | .s,v=> [.sc (.string v)] | .h,v=> [.sc (.slice v.a v.n v.c)] | .st n,x=>n.flat x| .ls t,l=> [.ls t l]
def Sn.width:Sn->Nat
 | .op=>6| .result=>2| .session=>4| .machine=>2| .entry=>7| .snapshot=>4| .config=>4| .place=>3| .masterLog=>2| .lease=>3| .server=>12| .cluster=>10| .reply=>4| .ack=>7| .event=>10| .damage=>2| .mark=>11| .cur=>3
def Ty.width:Ty->Nat| .st n=>n.width| _=>1
def Sn.csh:Sn->List (Option Ty)
 | .op=> [none,none,none,none,none,none]
 | .result=> [none,none]
 | .session=> [none,none,none,none]
 | .machine=> [some (.i .i64),some (.st .session)]
 | .entry=> [none,none,none,none,none,none,none]
 | .snapshot=> [none,none,some (.i .i64),some (.st .session)]
 | .config=> [none,none,some (.i .i64),some (.i .i64)]
 | .place=> [none,none,none]
 | .masterLog=> [some (.st .config),none]
 | .lease=> [none,none,none]
 | .server=> [none,none,none,none,none,none,some (.i .i64),some (.i .i64),none,some (.st .entry),none,some (.st .entry)]
 | .cluster=> [none,some (.st .server),some (.i .i64),some (.st .config),none,none,none,none,none,some (.st .place)]
 | .reply=> [none,none,none,none]
 | .ack=> [none,none,none,none,none,none,none]
 | .event=> [none,none,none,none,none,none,none,none,none,none]
 | .damage=> [none,none]
 | .mark=> [none,none,none,none,none,none,none,none,none,none,none]
 | .cur=> [none,none,none]
def Ty.csh:Ty->List (Option Ty)| .st n=>n.csh| .ls t=> [some t] | _=> [none]
def Sn.zvs:Sn->List Value
 | .op=> [.int .i64 0,.int .i64 0,.int .i64 0,.int .i64 0,.int .i64 0,.int .i64 0]
 | .result=> [.bool false,.int .i64 0]
 | .session=> [.int .i64 0,.int .i64 0,.bool false,.int .i64 0]
 | .machine=> [.slice none 0 0,.slice none 0 0]
 | .entry=> [.int .i64 0,.int .i64 0,.int .i64 0,.int .i64 0,.int .i64 0,.int .i64 0,.int .i64 0]
 | .snapshot=> [.int .i64 0,.int .i64 0,.slice none 0 0,.slice none 0 0]
 | .config=> [.int .i64 0,.int .i64 0,.slice none 0 0,.slice none 0 0]
 | .place=> [.int .i64 0,.int .i64 0,.int .i64 0]
 | .masterLog=> [.slice none 0 0,.int .i64 0]
 | .lease=> [.int .i64 0,.int .i64 0,.int .i64 0]
 | .server=> [.bool false,.bool false,.int .i64 0,.int .i64 0,.int .i64 0,.int .i64 0,.slice none 0 0,.slice none 0 0,.int .i64 0,.slice none 0 0,.int .i64 0,.slice none 0 0]
 | .cluster=> [.int .i64 0,.slice none 0 0,.slice none 0 0,.slice none 0 0,.int .i64 0,.int .i64 0,.int .i64 0,.int .i64 0,.int .i64 0,.slice none 0 0]
 | .reply=> [.int .i64 0,.bool false,.int .i64 0,.int .i64 0]
 | .ack=> [.int .i64 0,.int .i64 0,.int .i64 0,.int .i64 0,.int .i64 0,.int .i64 0,.int .i64 0]
 | .event=> [.int .i64 0,.int .i64 0,.int .i64 0,.int .i64 0,.int .i64 0,.int .i64 0,.int .i64 0,.int .i64 0,.int .i64 0,.int .i64 0]
 | .damage=> [.int .i64 0,.int .i64 0]
 | .mark=> [.int .i64 0,.int .i64 0,.bool false,.int .i64 0,.int .i64 0,.int .i64 0,.int .i64 0,.int .i64 0,.int .i64 0,.int .i64 0,.int .i64 0]
 | .cur=> [.nilFunc,.int .i64 0,.int .i64 0]
def Ty.zvs:Ty->List Value| .i k=> [.int k 0] | .b=> [.bool false] | .s=> [.string ByteArray.empty] | .h=> [.nilFunc] | .st n=>n.zvs| .ls _=> [.slice none 0 0]
def gI(k:IntKind){α:Type}(cs:List C)(f:Int->List C->Option α):Option α:=match cs with | .sc (.int k' n)::r=>if k'=k then f n r else none| _=>none
def gB{α:Type}(cs:List C)(f:Bool->List C->Option α):Option α:=match cs with | .sc (.bool v)::r=>f v r| _=>none
def gS{α:Type}(cs:List C)(f:ByteArray->List C->Option α):Option α:=match cs with | .sc (.string v)::r=>f v r| _=>none
def gH{α:Type}(cs:List C)(f:Hd->List C->Option α):Option α:=match cs with | .sc (.slice a n c)::r=>f ⟨a,n,c⟩ r| _=>none
def gL(t:Ty){α:Type}(cs:List C)(f:List t.D->List C->Option α):Option α:=match cs with | .ls t' l::r=>if h:t'=t then f (h ▸ l) r else none| _=>none
def gN{α:Type}(cs:List C)(x:α):Option α:=match cs with | [] =>some x| _=>none
def Sn.unflat: (n:Sn)->List C->Option n.D
 | .op,cs=>gI .i64 cs λa0 r0=>gI .i64 r0 λa1 r1=>gI .i64 r1 λa2 r2=>gI .i64 r2 λa3 r3=>gI .i64 r3 λa4 r4=>gI .i64 r4 λa5 r5=>gN r5 (⟨a0,a1,a2,a3,a4,a5⟩:Op)
 | .result,cs=>gB cs λa0 r0=>gI .i64 r0 λa1 r1=>gN r1 (⟨a0,a1⟩:Result)
 | .session,cs=>gI .i64 cs λa0 r0=>gI .i64 r0 λa1 r1=>gB r1 λa2 r2=>gI .i64 r2 λa3 r3=>gN r3 (⟨a0,a1,⟨a2,a3⟩⟩:nY)
 | .machine,cs=>gL (.i .i64) cs λa0 r0=>gL (.st .session) r0 λa1 r1=>gN r1 (⟨a0,a1⟩:nX)
 | .entry,cs=>gI .i64 cs λa0 r0=>gI .i64 r0 λa1 r1=>gI .i64 r1 λa2 r2=>gI .i64 r2 λa3 r3=>gI .i64 r3 λa4 r4=>gI .i64 r4 λa5 r5=>gI .i64 r5 λa6 r6=>gN r6 (⟨a0,⟨a1,a2,a3,a4,a5,a6⟩⟩:sf)
 | .snapshot,cs=>gI .i64 cs λa0 r0=>gI .i64 r0 λa1 r1=>gL (.i .i64) r1 λa2 r2=>gL (.st .session) r2 λa3 r3=>gN r3 (⟨a0,a1,⟨a2,a3⟩⟩:oo)
 | .config,cs=>gI .i64 cs λa0 r0=>gI .i64 r0 λa1 r1=>gL (.i .i64) r1 λa2 r2=>gL (.i .i64) r2 λa3 r3=>gN r3 (⟨a0,a1,a2,a3⟩:om)
 | .place,cs=>gI .i64 cs λa0 r0=>gI .i64 r0 λa1 r1=>gI .i64 r1 λa2 r2=>gN r2 (⟨a0,a1,a2⟩:vB)
 | .masterLog,cs=>gL (.st .config) cs λa0 r0=>gI .i64 r0 λa1 r1=>gN r1 (⟨a0,a1⟩:kB)
 | .lease,cs=>gI .i64 cs λa0 r0=>gI .i64 r0 λa1 r1=>gI .i64 r1 λa2 r2=>gN r2 (⟨a0,a1,a2⟩:vz)
 | .server,cs=>gB cs λa0 r0=>gB r0 λa1 r1=>gI .i64 r1 λa2 r2=>gI .i64 r2 λa3 r3=>gI .i64 r3 λa4 r4=>gI .i64 r4 λa5 r5=>gL (.i .i64) r5 λa6 r6=>gL (.i .i64) r6 λa7 r7=>gI .i64 r7 λa8 r8=>gL (.st .entry) r8 λa9 r9=>gI .i64 r9 λa10 r10=>gL (.st .entry) r10 λa11 r11=>gN r11 (⟨a0,a1,a2,a3,⟨a4,a5,a6,a7⟩,a8,a9,a10,a11⟩:qQ)
 | .cluster,cs=>gI .i64 cs λa0 r0=>gL (.st .server) r0 λa1 r1=>gL (.i .i64) r1 λa2 r2=>gL (.st .config) r2 λa3 r3=>gI .i64 r3 λa4 r4=>gI .i64 r4 λa5 r5=>gI .i64 r5 λa6 r6=>gI .i64 r6 λa7 r7=>gI .i64 r7 λa8 r8=>gL (.st .place) r8 λa9 r9=>gN r9 (⟨a0,a1,a2,⟨a3,a4⟩,a5,⟨a6,a7,a8⟩,a9⟩:qN)
 | .reply,cs=>gI .i64 cs λa0 r0=>gB r0 λa1 r1=>gI .i64 r1 λa2 r2=>gI .i64 r2 λa3 r3=>gN r3 (⟨a0,⟨a1,a2⟩,a3⟩:xB)
 | .ack,cs=>gI .i64 cs λa0 r0=>gI .i64 r0 λa1 r1=>gI .i64 r1 λa2 r2=>gI .i64 r2 λa3 r3=>gI .i64 r3 λa4 r4=>gI .i64 r4 λa5 r5=>gI .i64 r5 λa6 r6=>gN r6 (⟨⟨a0,a1,a2,a3,a4,a5⟩,a6⟩:DR)
 | .event,cs=>gI .i64 cs λa0 r0=>gI .i64 r0 λa1 r1=>gI .i64 r1 λa2 r2=>gI .i64 r2 λa3 r3=>gI .i64 r3 λa4 r4=>gI .i64 r4 λa5 r5=>gI .i64 r5 λa6 r6=>gI .i64 r6 λa7 r7=>gI .i64 r7 λa8 r8=>gI .i64 r8 λa9 r9=>gN r9 (⟨a0,a1,a2,a3,⟨a4,a5,a6,a7,a8,a9⟩⟩:xx)
 | .damage,cs=>gI .i64 cs λa0 r0=>gI .i64 r0 λa1 r1=>gN r1 (⟨a0,a1⟩:uE)
 | .mark,cs=>gI .i64 cs λa0 r0=>gI .i64 r0 λa1 r1=>gB r1 λa2 r2=>gI .i64 r2 λa3 r3=>gI .i64 r3 λa4 r4=>gI .i64 r4 λa5 r5=>gI .i64 r5 λa6 r6=>gI .i64 r6 λa7 r7=>gI .i64 r7 λa8 r8=>gI .i64 r8 λa9 r9=>gI .i64 r9 λa10 r10=>gN r10 (⟨a0,a1,a2,a3,a4,⟨a5,a6,a7,a8,a9,a10⟩⟩:BG)
 | .cur,cs=>gH cs λa0 r0=>gI .i64 r0 λa1 r1=>gI .i64 r1 λa2 r2=>gN r2 (⟨a0,a1,a2⟩:qO)
def Ty.unflat: (t:Ty)->List C->Option t.D
 | .i k,cs=>gI k cs λn r=>gN r n| .b,cs=>gB cs λn r=>gN r n| .s,cs=>gS cs λn r=>gN r n| .h,cs=>gH cs λn r=>gN r n| .st n,cs=>n.unflat cs| .ls t,cs=>gL t cs λl r=>gN r l
def Dh(x:Op):List T:=[.sc (.int .i64 x.client),.sc (.int .i64 x.seq),.sc (.int .i64 x.kind),.sc (.int .i64 x.object),.sc (.int .i64 x.old),.sc (.int .i64 x.value)]
def xk(x:Result):List T:=[.sc (.bool x.done),.sc (.int .i64 x.value)]
def lN(x:nY):List T:=[.sc (.int .i64 x.client),.sc (.int .i64 x.seq),.sc (.bool x.result.done),.sc (.int .i64 x.result.value)]
def vj(x:nX):List T:=[.sl 1 (x.objects.map λn=> [.sc (.int .i64 n)]),.sl 4 (x.sessions.map lN)]
def pp(x:sf):List T:=[.sc (.int .i64 x.epoch),.sc (.int .i64 x.op.client),.sc (.int .i64 x.op.seq),.sc (.int .i64 x.op.kind),.sc (.int .i64 x.op.object),.sc (.int .i64 x.op.old),.sc (.int .i64 x.op.value)]
def ub(x:oo):List T:=[.sc (.int .i64 x.count),.sc (.int .i64 x.digest),.sl 1 (x.machine.objects.map λn=> [.sc (.int .i64 n)]),.sl 4 (x.machine.sessions.map lN)]
def m8(x:om):List T:=[.sc (.int .i64 x.epoch),.sc (.int .i64 x.primary),.sl 1 (x.replicas.map λn=> [.sc (.int .i64 n)]),.sl 1 (x.witnesses.map λn=> [.sc (.int .i64 n)])]
def ua(x:vB):List T:=[.sc (.int .i64 x.rack),.sc (.int .i64 x.capacity),.sc (.int .i64 x.load)]
def rO(x:kB):List T:=[.sl 4 (x.configs.map m8),.sc (.int .i64 x.activated)]
def yW(x:vz):List T:=[.sc (.int .i64 x.epoch),.sc (.int .i64 x.holder),.sc (.int .i64 x.ends)]
def qH(x:qQ):List T:=[.sc (.bool x.up),.sc (.bool x.intact),.sc (.int .i64 x.version),.sc (.int .i64 x.epoch),.sc (.int .i64 x.config.epoch),.sc (.int .i64 x.config.primary),.sl 1 (x.config.replicas.map λn=> [.sc (.int .i64 n)]),.sl 1 (x.config.witnesses.map λn=> [.sc (.int .i64 n)]),.sc (.int .i64 x.first),.sl 7 (x.log.map pp),.sc (.int .i64 x.commit),.sl 7 (x.learned.map pp)]
def vi(x:qN):List T:=[.sc (.int .i64 x.now),.sl 12 (x.servers.map qH),.sl 1 (x.sides.map λn=> [.sc (.int .i64 n)]),.sl 4 (x.master.configs.map m8),.sc (.int .i64 x.master.activated),.sc (.int .i64 x.masterUp),.sc (.int .i64 x.lease.epoch),.sc (.int .i64 x.lease.holder),.sc (.int .i64 x.lease.ends),.sl 3 (x.places.map ua)]
def yX(x:xB):List T:=[.sc (.int .i64 x.code),.sc (.bool x.result.done),.sc (.int .i64 x.result.value),.sc (.int .i64 x.index)]
def Cq(x:DR):List T:=[.sc (.int .i64 x.op.client),.sc (.int .i64 x.op.seq),.sc (.int .i64 x.op.kind),.sc (.int .i64 x.op.object),.sc (.int .i64 x.op.old),.sc (.int .i64 x.op.value),.sc (.int .i64 x.index)]
def yV(x:xx):List T:=[.sc (.int .i64 x.kind),.sc (.int .i64 x.server),.sc (.int .i64 x.other),.sc (.int .i64 x.n),.sc (.int .i64 x.op.client),.sc (.int .i64 x.op.seq),.sc (.int .i64 x.op.kind),.sc (.int .i64 x.op.object),.sc (.int .i64 x.op.old),.sc (.int .i64 x.op.value)]
def xj(x:uE):List T:=[.sc (.int .i64 x.server),.sc (.int .i64 x.index)]
def A1(x:BG):List T:=[.sc (.int .i64 x.start),.sc (.int .i64 x.event),.sc (.bool x.read),.sc (.int .i64 x.index),.sc (.int .i64 x.value),.sc (.int .i64 x.op.client),.sc (.int .i64 x.op.seq),.sc (.int .i64 x.op.kind),.sc (.int .i64 x.op.object),.sc (.int .i64 x.op.old),.sc (.int .i64 x.op.value)]
def gE(x:qO):List T:=[.sc (.slice x.b.a x.b.n x.b.c),.sc (.int .i64 x.i),.sc (.int .i64 x.h)]
def Sn.row: (n:Sn)->n.D->List T
 | .op,x=>Dh x
 | .result,x=>xk x
 | .session,x=>lN x
 | .machine,x=>vj x
 | .entry,x=>pp x
 | .snapshot,x=>ub x
 | .config,x=>m8 x
 | .place,x=>ua x
 | .masterLog,x=>rO x
 | .lease,x=>yW x
 | .server,x=>qH x
 | .cluster,x=>vi x
 | .reply,x=>yX x
 | .ack,x=>Cq x
 | .event,x=>yV x
 | .damage,x=>xj x
 | .mark,x=>A1 x
 | .cur,x=>gE x
def Ty.row: (t:Ty)->t.D->List T
 | .i k,n=> [.sc (.int k n)] | .b,v=> [.sc (.bool v)] | .s,v=> [.sc (.string v)] | .h,v=> [.sc (.slice v.a v.n v.c)] | .st n,x=>n.row x| .ls t,l=> [.sl t.width (l.map t.row)]
def C.tree:C->T| .sc v=> .sc v| .ls t l=> .sl t.width (l.map t.row)
def C.good:C->Bool| .sc v=>gQ v| .ls _ _=>true
theorem Ty.row_flat(t:Ty)(x:t.D):t.row x=(t.flat x).map C.tree:=by
 cases t with
 |st n=>cases n<;>rfl
 | _=>rfl
theorem Ty.flat_good(t:Ty)(x:t.D): ∀c∈t.flat x,c.good=true:=by
 rw[<-aA];cases t with
 |st n=>cases n<;>rfl
 | _=>rfl
theorem Ty.flat_length(t:Ty)(x:t.D): (t.flat x).length=t.width:=by
 cases t with
 |st n=>cases n<;>rfl
 | _=>rfl
theorem Ty.row_length(t:Ty)(x:t.D): (t.row x).length=t.width:=by rw[t.row_flat,aE,t.flat_length]
theorem dN{k:IntKind}{α:Type}{cs:List C}{f:Int->List C->Option α}{y:α}(h:gI k cs f=some y): ∃n r,cs= .sc (.int k n)::r/\f n r=some y:=by
 unfold gI at h;split at h
 ·split at h
  ·rename_i hk;subst hk;exact⟨_,_,rfl,h⟩
  ·cases h
 ·cases h
theorem jB{α:Type}{cs:List C}{f:Bool->List C->Option α}{y:α}(h:gB cs f=some y): ∃n r,cs= .sc (.bool n)::r/\f n r=some y:=by
 unfold gB at h;split at h
 ·exact⟨_,_,rfl,h⟩
 ·cases h
theorem Au{α:Type}{cs:List C}{f:ByteArray->List C->Option α}{y:α}(h:gS cs f=some y): ∃n r,cs= .sc (.string n)::r/\f n r=some y:=by
 unfold gS at h;split at h
 ·exact⟨_,_,rfl,h⟩
 ·cases h
theorem vR{α:Type}{cs:List C}{f:Hd->List C->Option α}{y:α}(h:gH cs f=some y): ∃n r,cs= .sc (.slice n.a n.n n.c)::r/\f n r=some y:=by
 unfold gH at h;split at h
 ·exact⟨_,_,rfl,h⟩
 ·cases h
theorem fu{t:Ty}{α:Type}{cs:List C}{f:List t.D->List C->Option α}{y:α}(h:gL t cs f=some y): ∃n r,cs= .ls t n::r/\f n r=some y:=by
 unfold gL at h;split at h
 ·split at h
  ·rename_i hk;subst hk;exact⟨_,_,rfl,h⟩
  ·cases h
 ·cases h
theorem eN{α:Type}{cs:List C}{x y:α}(h:gN cs x=some y):cs= [] /\x=y:=by
 unfold gN at h;split at h
 ·simp only[af] at h;exact⟨rfl,h⟩
 ·cases h
theorem Sn.unflat_some: ∀ (n:Sn) (cs:List C) (x:n.D),n.unflat cs=some x->n.flat x=cs
 | .op,cs,x,h=>by unfold Sn.unflat at h;obtain⟨a0,r0,h0,h⟩:=dN h;obtain⟨a1,r1,h1,h⟩:=dN h;obtain⟨a2,r2,h2,h⟩:=dN h;obtain⟨a3,r3,h3,h⟩:=dN h;obtain⟨a4,r4,h4,h⟩:=dN h;obtain⟨a5,r5,h5,h⟩:=dN h;obtain⟨e,h⟩:=eN h;subst h e h5 h4 h3 h2 h1 h0;rfl
 | .result,cs,x,h=>by unfold Sn.unflat at h;obtain⟨a0,r0,h0,h⟩:=jB h;obtain⟨a1,r1,h1,h⟩:=dN h;obtain⟨e,h⟩:=eN h;subst h e h1 h0;rfl
 | .session,cs,x,h=>by unfold Sn.unflat at h;obtain⟨a0,r0,h0,h⟩:=dN h;obtain⟨a1,r1,h1,h⟩:=dN h;obtain⟨a2,r2,h2,h⟩:=jB h;obtain⟨a3,r3,h3,h⟩:=dN h;obtain⟨e,h⟩:=eN h;subst h e h3 h2 h1 h0;rfl
 | .machine,cs,x,h=>by unfold Sn.unflat at h;obtain⟨a0,r0,h0,h⟩:=fu h;obtain⟨a1,r1,h1,h⟩:=fu h;obtain⟨e,h⟩:=eN h;subst h e h1 h0;rfl
 | .entry,cs,x,h=>by unfold Sn.unflat at h;obtain⟨a0,r0,h0,h⟩:=dN h;obtain⟨a1,r1,h1,h⟩:=dN h;obtain⟨a2,r2,h2,h⟩:=dN h;obtain⟨a3,r3,h3,h⟩:=dN h;obtain⟨a4,r4,h4,h⟩:=dN h;obtain⟨a5,r5,h5,h⟩:=dN h;obtain⟨a6,r6,h6,h⟩:=dN h;obtain⟨e,h⟩:=eN h;subst h e h6 h5 h4 h3 h2 h1 h0;rfl
 | .snapshot,cs,x,h=>by unfold Sn.unflat at h;obtain⟨a0,r0,h0,h⟩:=dN h;obtain⟨a1,r1,h1,h⟩:=dN h;obtain⟨a2,r2,h2,h⟩:=fu h;obtain⟨a3,r3,h3,h⟩:=fu h;obtain⟨e,h⟩:=eN h;subst h e h3 h2 h1 h0;rfl
 | .config,cs,x,h=>by unfold Sn.unflat at h;obtain⟨a0,r0,h0,h⟩:=dN h;obtain⟨a1,r1,h1,h⟩:=dN h;obtain⟨a2,r2,h2,h⟩:=fu h;obtain⟨a3,r3,h3,h⟩:=fu h;obtain⟨e,h⟩:=eN h;subst h e h3 h2 h1 h0;rfl
 | .place,cs,x,h=>by unfold Sn.unflat at h;obtain⟨a0,r0,h0,h⟩:=dN h;obtain⟨a1,r1,h1,h⟩:=dN h;obtain⟨a2,r2,h2,h⟩:=dN h;obtain⟨e,h⟩:=eN h;subst h e h2 h1 h0;rfl
 | .masterLog,cs,x,h=>by unfold Sn.unflat at h;obtain⟨a0,r0,h0,h⟩:=fu h;obtain⟨a1,r1,h1,h⟩:=dN h;obtain⟨e,h⟩:=eN h;subst h e h1 h0;rfl
 | .lease,cs,x,h=>by unfold Sn.unflat at h;obtain⟨a0,r0,h0,h⟩:=dN h;obtain⟨a1,r1,h1,h⟩:=dN h;obtain⟨a2,r2,h2,h⟩:=dN h;obtain⟨e,h⟩:=eN h;subst h e h2 h1 h0;rfl
 | .server,cs,x,h=>by unfold Sn.unflat at h;obtain⟨a0,r0,h0,h⟩:=jB h;obtain⟨a1,r1,h1,h⟩:=jB h;obtain⟨a2,r2,h2,h⟩:=dN h;obtain⟨a3,r3,h3,h⟩:=dN h;obtain⟨a4,r4,h4,h⟩:=dN h;obtain⟨a5,r5,h5,h⟩:=dN h;obtain⟨a6,r6,h6,h⟩:=fu h;obtain⟨a7,r7,h7,h⟩:=fu h;obtain⟨a8,r8,h8,h⟩:=dN h;obtain⟨a9,r9,h9,h⟩:=fu h;obtain⟨a10,r10,h10,h⟩:=dN h;obtain⟨a11,r11,h11,h⟩:=fu h;obtain⟨e,h⟩:=eN h;subst h e h11 h10 h9 h8 h7 h6 h5 h4 h3 h2 h1 h0;rfl
 | .cluster,cs,x,h=>by unfold Sn.unflat at h;obtain⟨a0,r0,h0,h⟩:=dN h;obtain⟨a1,r1,h1,h⟩:=fu h;obtain⟨a2,r2,h2,h⟩:=fu h;obtain⟨a3,r3,h3,h⟩:=fu h;obtain⟨a4,r4,h4,h⟩:=dN h;obtain⟨a5,r5,h5,h⟩:=dN h;obtain⟨a6,r6,h6,h⟩:=dN h;obtain⟨a7,r7,h7,h⟩:=dN h;obtain⟨a8,r8,h8,h⟩:=dN h;obtain⟨a9,r9,h9,h⟩:=fu h;obtain⟨e,h⟩:=eN h;subst h e h9 h8 h7 h6 h5 h4 h3 h2 h1 h0;rfl
 | .reply,cs,x,h=>by unfold Sn.unflat at h;obtain⟨a0,r0,h0,h⟩:=dN h;obtain⟨a1,r1,h1,h⟩:=jB h;obtain⟨a2,r2,h2,h⟩:=dN h;obtain⟨a3,r3,h3,h⟩:=dN h;obtain⟨e,h⟩:=eN h;subst h e h3 h2 h1 h0;rfl
 | .ack,cs,x,h=>by unfold Sn.unflat at h;obtain⟨a0,r0,h0,h⟩:=dN h;obtain⟨a1,r1,h1,h⟩:=dN h;obtain⟨a2,r2,h2,h⟩:=dN h;obtain⟨a3,r3,h3,h⟩:=dN h;obtain⟨a4,r4,h4,h⟩:=dN h;obtain⟨a5,r5,h5,h⟩:=dN h;obtain⟨a6,r6,h6,h⟩:=dN h;obtain⟨e,h⟩:=eN h;subst h e h6 h5 h4 h3 h2 h1 h0;rfl
 | .event,cs,x,h=>by unfold Sn.unflat at h;obtain⟨a0,r0,h0,h⟩:=dN h;obtain⟨a1,r1,h1,h⟩:=dN h;obtain⟨a2,r2,h2,h⟩:=dN h;obtain⟨a3,r3,h3,h⟩:=dN h;obtain⟨a4,r4,h4,h⟩:=dN h;obtain⟨a5,r5,h5,h⟩:=dN h;obtain⟨a6,r6,h6,h⟩:=dN h;obtain⟨a7,r7,h7,h⟩:=dN h;obtain⟨a8,r8,h8,h⟩:=dN h;obtain⟨a9,r9,h9,h⟩:=dN h;obtain⟨e,h⟩:=eN h;subst h e h9 h8 h7 h6 h5 h4 h3 h2 h1 h0;rfl
 | .damage,cs,x,h=>by unfold Sn.unflat at h;obtain⟨a0,r0,h0,h⟩:=dN h;obtain⟨a1,r1,h1,h⟩:=dN h;obtain⟨e,h⟩:=eN h;subst h e h1 h0;rfl
 | .mark,cs,x,h=>by unfold Sn.unflat at h;obtain⟨a0,r0,h0,h⟩:=dN h;obtain⟨a1,r1,h1,h⟩:=dN h;obtain⟨a2,r2,h2,h⟩:=jB h;obtain⟨a3,r3,h3,h⟩:=dN h;obtain⟨a4,r4,h4,h⟩:=dN h;obtain⟨a5,r5,h5,h⟩:=dN h;obtain⟨a6,r6,h6,h⟩:=dN h;obtain⟨a7,r7,h7,h⟩:=dN h;obtain⟨a8,r8,h8,h⟩:=dN h;obtain⟨a9,r9,h9,h⟩:=dN h;obtain⟨a10,r10,h10,h⟩:=dN h;obtain⟨e,h⟩:=eN h;subst h e h10 h9 h8 h7 h6 h5 h4 h3 h2 h1 h0;rfl
 | .cur,cs,x,h=>by unfold Sn.unflat at h;obtain⟨a0,r0,h0,h⟩:=vR h;obtain⟨a1,r1,h1,h⟩:=dN h;obtain⟨a2,r2,h2,h⟩:=dN h;obtain⟨e,h⟩:=eN h;subst h e h2 h1 h0;rfl
theorem Ty.unflat_some(t:Ty)(cs:List C)(x:t.D)(h:t.unflat cs=some x):t.flat x=cs:=by
 cases t with
 |i k=>obtain⟨n,r,h1,h⟩:=dN h;obtain⟨h2,h⟩:=eN h;subst h h2 h1;rfl
 |b=>obtain⟨n,r,h1,h⟩:=jB h;obtain⟨h2,h⟩:=eN h;subst h h2 h1;rfl
 |s=>obtain⟨n,r,h1,h⟩:=Au h;obtain⟨h2,h⟩:=eN h;subst h h2 h1;rfl
 |h=>have h:gH cs (λn r=>gN r n)=some x:=h;obtain⟨n,r,h1,h⟩:=vR h;obtain⟨h2,h⟩:=eN h;subst h h2 h1;rfl
 |st n=>exact n.unflat_some cs x h
 |ls t=>have h:gL t cs (λl r=>gN r l)=some x:=h;obtain⟨n,r,h1,h⟩:=fu h;obtain⟨h2,h⟩:=eN h;subst h h2 h1;rfl
end
section
open Go
inductive Cl where
 |c (x:C)
 |em
 |own (p:dW) (sz lo len:Nat) (w:Bool)
 |pro (cs:List C)
 |ptrB (n j:Nat)
 |ptrT (p:dW) (sz i j:Nat)
 |dead
 deriving Inhabited
inductive V1 where
 |cl (x:Cl)
 |agg (cs:List Cl)
 |fn (f:FuncId) (cs:List Cl)
 deriving Inhabited
inductive V where
 |v (x:V1)
 |tup (l:List V1)
 deriving Inhabited
structure dS where
 t:Ty
 l:List t.D
 hole:Option (Nat×Nat)
structure TS where
 env:List (Nat×V)
 bx:List (List Cl)
 gh:List (Option dS)
 fz:Nat
 nt:Nat
structure TI where
 ty:Ty
 el:Nat
 fds:List (Nat×Nat×Bool)
 bytes:Nat
abbrev gq:=List (Nat×TI)
@[reducible] def V.c (x:C):V:=.v (.cl (.c x))
@[reducible] def V.sc (x:Value):V:=.v (.cl (.c (.sc x)))
@[reducible] def V.dead:V:=.v (.cl .dead)
def fh:List (Nat×V)->Nat->V
 | [],_=>V.dead
 | (t,v)::l,u=>bif Nat.beq t u then v else fh l u
def fU:gq->Nat->Option TI
 | [],_=>none
 | (t,v)::l,u=>bif Nat.beq t u then some v else fU l u
def gT{α:Type}:List α->Nat->Option α
 | [],_=>none
 |a::l,n=>bif Nat.beq n 0 then some a else gT l (n-1)
def cC(v:Value):Cl:=match v with | .slice none 0 0=> .em|v=>bif gQ v then .c (.sc v) else .dead
def cV:Value->V
 | .agg cs=>bif cs.toList.all Value.oneCell' then .v (.agg (cs.toList.map cC)) else V.dead
 |v=> .v (.cl (cC v))
def TS.opd(S:TS):Operand->V
 | .tmp t=>fh S.env t
 | .const v=>cV v
 | .func f=>V.sc (.func (.func f) #[] #[])
 | .global _=>V.dead
def V1.cells:V1->List Cl
 | .cl x=> [x]
 | .agg cs=>cs
 | .fn _ _=> [.dead]
def C.flatB:C->Bool| .sc _=>true| _=>false
def Ty.flatB(t:Ty):Bool:=t.csh.all (·.isNone)
section
variable {ρ:Type}
def br{α:Type}(b:Bool)(x y:α):α:=cond b x y
def iteP{α:Type}(c:Prop)[Decidable c](x y:α):α:=if c then x else y
def sy(S:TS)(x:Operand)(κ:Bool->TS->Option ρ):Option ρ:=match x with
 | .tmp t=>match fh S.env t with
   | .v (.cl (.c (.sc (.bool b))))=>br b (κ true { S with env:=(t,V.sc (.bool true))::S.env }) (κ false { S with env:=(t,V.sc (.bool false))::S.env })
   | _=>none
 | .const (.bool b)=>κ b S
 | _=>none
def uU(v:V)(κ:Int->Option ρ):Option ρ:=match v with | .v (.cl (.c (.sc (.int _ n))))=>κ n| _=>none
def iJ(S:TS)(p:dW)(κ: (t:Ty)->List t.D->Option ρ):Option ρ:=match gT S.gh p.r with
 |some (some tr)=>match tr.hole with
  |none=>match p.l with
   | [] =>κ tr.t tr.l
   | [(i,j)] =>(tr.l[i]?).bind λx=>match gT (tr.t.flat x) j with
     |some (.ls t l)=>κ t l
     | _=>none
   | _=>none
  |some _=>none
 | _=>none
def C.ro:C->Cl:=Cl.c
def vd(p:dW)(i j:Nat):C->Cl
 | .sc v=> .c (.sc v)
 | .ls t l=> .own ⟨p.r,p.l++ [(i,j)]⟩ t.width 0 l.length false
def mQ{α β:Type}(f:Nat->α->β):Nat->List α->List β
 | _,[] => []
 |n,a::l=>f n a::mQ f (n+1) l
def uM(S:TS)(n:Nat)(v:Cl)(κ:List Cl->Option ρ):Option ρ:=match v with
 | .ptrB b j=>match gT S.bx b with
   |some cs=>bif Nat.ble (j+n) cs.length then κ ((cs.drop j).take n) else none
   |none=>none
 | .pro cells=>bif Nat.ble n cells.length then κ ((cells.take n).map Cl.c) else none
 | .ptrT p sz i j=>iJ S p λt l=>bif Nat.beq t.width sz&&Nat.ble (j+n) sz then (l[i]?).bind λx=>κ (mQ (vd p i) j (((t.flat x).drop j).take n)) else none
 | _=>none
def DK(ag:Bool)(cs:List Cl)(κ:V->Option ρ):Option ρ:=bif ag then κ (.v (.agg cs)) else match cs with | [c] =>κ (.v (.cl c))| _=>none
def Ty.ag:Ty->Bool| .st _=>true| _=>false
def tE(Θ:gq)(S:TS)(t:TypeId)(v:V)(κ:V->Option ρ):Option ρ:=match fU Θ t with
 |some ti=>match v with | .v (.cl a)=>uM S ti.ty.width a λcs=>DK ti.ty.ag cs κ| _=>none
 |none=>none
def yY(S:TS)(p:dW)(κ:Int->Option ρ):Option ρ:=match p.l with
 | [] =>(match gT S.gh p.r with |some (some tr)=>κ tr.l.length| _=>none)
 | _=>none
def B6(n:Nat)(i:Int)(S:TS)(v:Cl)(κ:Cl->Option ρ):Option ρ:=match v with
 | .c (.ls t l)=>bif Nat.beq t.width n then iteP (0<=i) ((l[i.toNat]?).bind λx=>κ (.pro (t.flat x))) none else none
 | .own p sz _ _ true=>bif Nat.beq sz n then yY S p λm=>iteP (0<=i/\i<m) (κ (.ptrT p sz i.toNat 0)) none else none
 | .own p sz lo len false=>bif Nat.beq sz n then iteP (0<=i/\i<len) (κ (.ptrT p sz (lo+i.toNat) 0)) none else none
 | _=>none
def AE(S:TS)(v:Cl)(κ:Int->Option ρ):Option ρ:=match v with
 | .c (.ls _ l)=>κ l.length
 | .own p _ _ _ true=>iJ S p λ_ l=>κ l.length
 | .own _ _ _ len false=>κ len
 | .em=>κ 0
 | _=>none
def BQ(n:Nat)(lo hi:Int)(v:Cl)(κ:Cl->Option ρ):Option ρ:=match v with
 | .em=>iteP (lo=0/\hi=0) (κ .em) none
 | .c (.ls t l)=>bif Nat.beq t.width n then iteP (0<=lo/\lo<=hi/\hi<=l.length) (κ (.c (.ls t ((l.drop lo.toNat).take (hi.toNat-lo.toNat))))) none else none
 | .own p sz l len _=>bif Nat.beq sz n then iteP (0<=lo/\lo<=hi/\hi<=len) (κ (.own p sz (l+lo.toNat) (hi.toNat-lo.toNat) false)) none else none
 | _=>none
def qW(S:TS)(d:Int)(x:Option Operand)(κ:Int->Option ρ):Option ρ:=match x with
 |none=>κ d
 |some x=>uU (S.opd x) κ
def wF:List (Nat×Nat×Bool)->List Cl->List (Nat×V)->Option (List Cl)
 | _,cs,[] =>some cs
 |pl,cs,(k,v)::r=>match gT pl k with
  |some (off,n,_)=>match v with
   | .v x=>match x with
     | .cl .dead=>none
     | .fn _ _=>none
     |x=>bif Nat.beq x.cells.length n&&Nat.ble (off+n) cs.length then wF pl (cs.take off++x.cells++cs.drop (off+n)) r else none
   | _=>none
  |none=>none
def sR:Value->Value->Option Bool
 | .int _ a,.int _ b=>some (a==b)
 | .bool a,.bool b=>some (a==b)
 | _,_=>none
def kD:List Cl->List Cl->Option Bool
 | [],[] =>some true
 | .c (.sc a)::l,.c (.sc b)::m=>match sR a b,kD l m with
   |some x,some y=>some (x&&y)
   | _,_=>none
 | _,_=>none
def fT:List Value->List Cl->Bool
 | [],[] =>true
 | .int k _::zs,.c (.sc (.int k' _))::cs=>bif decide (k=k') then fT zs cs else false
 | .bool _::zs,.c (.sc (.bool _))::cs=>fT zs cs
 | _,_=>false
def V.ints(f:IntKind->Int->Int->Option ρ):V->V->Option ρ
 | .v (.cl (.c (.sc (.int k a)))),.v (.cl (.c (.sc (.int k' b))))=>if k=k' then f k a b else none
 | _,_=>none
def EC(a b:ByteArray):Bool:=a.toList==b.toList
def CL(Θ:gq)(t:TypeId)(x y:V)(κ:Bool->Option ρ):Option ρ:=match x,y with
 | .v (.cl (.c (.sc (.int k a)))),.v (.cl (.c (.sc (.int k' b))))=>if k=k' then κ (a==b) else none
 | .v (.cl (.c (.sc (.bool a)))),.v (.cl (.c (.sc (.bool b))))=>match fU Θ t with
   |some ti=>match ti.ty with | .b=>κ (a==b)| _=>none
   |none=>none
 | .v (.cl (.c (.sc (.string a)))),.v (.cl (.c (.sc (.string b))))=>κ (EC a b)
 | .v (.agg a),.v (.agg b)=>match fU Θ t with
   |some ti=>bif ti.ty.ag&&ti.ty.flatB&&fT ti.ty.zvs a&&fT ti.ty.zvs b then (match kD a b with |some r=>κ r|none=>none) else none
   |none=>none
 | _,_=>none
def BK(x y:V)(κ:V->Option ρ):Option ρ:=match x,y with
 | .v (.cl (.c (.sc (.string a)))),.v (.cl (.c (.sc (.string b))))=>iteP (a.size+b.size<=2 ^ 40) (κ (V.sc (.string (a++b)))) none
 | _,_=>V.ints (λk a b=>κ (V.sc (.int k (k.wrap (a+b))))) x y
def BO(Θ:gq)(op:BinOp)(t:TypeId)(x y:V)(κ:V->Option ρ):Option ρ:=match op with
 | .lss=>V.ints (λ_ a b=>κ (V.sc (.bool (decide (a<b))))) x y
 | .leq=>V.ints (λ_ a b=>κ (V.sc (.bool (decide (a<=b))))) x y
 | .gtr=>V.ints (λ_ a b=>κ (V.sc (.bool (decide (a>b))))) x y
 | .geq=>V.ints (λ_ a b=>κ (V.sc (.bool (decide (a≥b))))) x y
 | .add=>BK x y κ
 | .sub=>V.ints (λk a b=>κ (V.sc (.int k (k.wrap (a-b))))) x y
 | .mul=>V.ints (λk a b=>κ (V.sc (.int k (k.wrap (a*b))))) x y
 | .quo=>V.ints (λk a b=>if b=0 then none else κ (V.sc (.int k (k.wrap (a.tdiv b))))) x y
 | .rem=>V.ints (λk a b=>if b=0 then none else κ (V.sc (.int k (a.tmod b)))) x y
 | .eql=>CL Θ t x y λr=>κ (V.sc (.bool r))
 | .neq=>CL Θ t x y λr=>κ (V.sc (.bool (!r)))
 | _=>none
def sF:List V->Option (List Cl)
 | [] =>some []
 | .v (.cl c)::l=>match sF l with |some r=>some (c::r)|none=>none
 | _=>none
def lR(Θ:gq)(S:TS)(o:Oper)(κ:V->TS->Option ρ):Option ρ:=
 let e:=S.opd
 match o.op with
 | .move x| .assign x=>κ (e x) S
 | .pick c a b=>sy S c λt S=>bif t then κ (S.opd a) S else κ (S.opd b) S
 | .load t a=>tE Θ S t (e a) (λv=>κ v S)
 | .nilCheck x=>match e x with
   | .v (.cl (.ptrB n j))=>κ (.v (.cl (.ptrB n j))) S
   | .v (.cl (.ptrT p sz i j))=>κ (.v (.cl (.ptrT p sz i j))) S
   | .v (.cl (.pro cs))=>κ (.v (.cl (.pro cs))) S
   | .v (.fn f cs)=>κ (.v (.fn f cs)) S
   | .v (.cl (.c (.sc (.func (.func f) a b))))=>κ (.v (.cl (.c (.sc (.func (.func f) a b))))) S
   | _=>none
 | .fieldAddr t x k=>match fU Θ t with
   |some ti=>match gT ti.fds k with
    |some (off,n,_)=>bif Nat.beq n 0 then none else match e x with
     | .v (.cl (.ptrB b j))=>κ (.v (.cl (.ptrB b (j+off)))) S
     | .v (.cl (.ptrT p sz i j))=>κ (.v (.cl (.ptrT p sz i (j+off)))) S
     | .v (.cl (.pro cs))=>κ (.v (.cl (.pro (cs.drop off)))) S
     | _=>none
    |none=>none
   |none=>none
 | .field t x k=>match fU Θ t with
   |some ti=>match gT ti.fds k with
    |some (off,n,ag)=>match e x with
     | .v (.agg cs)=>bif Nat.ble (off+n) cs.length&&Nat.blt 0 n then DK ag ((cs.drop off).take n) (λv=>κ v S) else none
     | _=>none
    |none=>none
   |none=>none
 | .indexAddr t x ix=>match fU Θ t with
   |some ti=>match ti.ty with
    | .ls el=>uU (e ix) λi=>match e x with | .v (.cl a)=>B6 el.width i S a (λc=>κ (.v (.cl c)) S)| _=>none
    | _=>none
   |none=>none
 | .build t parts=>match fU Θ t with
   |some ti=>bif ti.ty.ag then (match wF ti.fds (ti.ty.zvs.map cC) (parts.toList.map λx=>(x.1,e x.2)) with |some cs=>κ (.v (.agg cs)) S|none=>none) else none
   |none=>none
 | .slice t x lo hi none=>match fU Θ t with
   |some ti=>match ti.ty with
    | .ls el=>match e x with
      | .v (.cl a)=>AE S a λn=>qW S 0 lo λl=>qW S n hi λh=>BQ el.width l h a (λc=>κ (.v (.cl c)) S)
      | _=>none
    | _=>none
   |none=>none
 | .convert s d x=>match fU Θ s,fU Θ d with
   |some _,some di=>match di.ty with
    | .i k'=>(match e x with | .v (.cl (.c (.sc (.int _ n))))=>κ (V.sc (.int k' (k'.wrap n))) S| _=>none)
    | _=>none
   | _,_=>none
 | .index t x ix=>match fU Θ t with
   |some ti=>match ti.ty with
    | .s=>(match e x,e ix with | .v (.cl (.c (.sc (.string s)))),.v (.cl (.c (.sc (.int _ i))))=>iteP (0<=i) ((s[i.toNat]?).bind λb=>κ (V.sc (.int .u8 b.toNat)) S) none| _,_=>none)
    | _=>none
   |none=>none
 | .extract x k=>match e x with | .tup vs=>(match gT vs k with |some v=>κ (.v v) S|none=>none)| _=>none
 | .makeFunc (.func f) first caps=>bif first.isEmpty then (match sF (caps.toList.map e) with |some cs=>κ (.v (.fn f cs)) S|none=>none) else none
 | .call { callee:=.builtin .len,args:=as,argTypes:=ts } =>match as.toList,ts.toList with
   | [x],[t] =>match fU Θ t with
     |some ti=>match ti.ty with
      | .ls _=>(match e x with | .v (.cl a)=>AE S a λn=>κ (V.sc (.int .i64 n)) S| _=>none)
      | .s=>(match e x with | .v (.cl (.c (.sc (.string s))))=>κ (V.sc (.int .i64 s.size)) S| _=>none)
      | _=>none
     |none=>none
   | _,_=>none
 | .call { callee:=.builtin .cap,args:=as,argTypes:=ts } =>match as.toList,ts.toList with
   | [x],[t] =>match fU Θ t with
     |some ti=>match ti.ty with
      | .ls _=>(match e x with | .v (.cl .em)=>κ (V.sc (.int .i64 0)) S| _=>none)
      | _=>none
     |none=>none
   | _,_=>none
 | .call { callee:=.builtin .max,args:=as,argTypes:=_ } =>match as.toList with
   | [x,y] =>V.ints (λk a b=>κ (V.sc (.int k (if b>a then b else a))) S) (e x) (e y)
   | _=>none
 | .call { callee:=.builtin .min,args:=as,argTypes:=_ } =>match as.toList with
   | [x,y] =>V.ints (λk a b=>κ (V.sc (.int k (if b<a then b else a))) S) (e x) (e y)
   | _=>none
 | .binOp op t x y _=>BO Θ op t (e x) (e y) (λv=>κ v S)
 | .unOp .neg _ x=>match e x with | .v (.cl (.c (.sc (.int k n))))=>κ (V.sc (.int k (k.wrap (0-n)))) S| _=>none
 | .unOp .not _ x=>match e x with | .v (.cl (.c (.sc (.bool b))))=>κ (V.sc (.bool (!b))) S| _=>none
 | _=>none
end
end
section
open Go
def C.av:C->AV
 | .sc v=> .sc v
 | .ls t l=> .ro t.width (l.map t.row)
def Cl.av:Cl->AV
 | .c x=>x.av
 | .em=> .em
 | .own p sz lo len _=> .own p sz lo len
 | .pro cs=> .pro (cs.map C.tree)
 | .ptrB n j=> .ptrB n j
 | .ptrT p sz i j=> .ptrT p sz i j
 | .dead=> .dead
def V1.av:V1->AV
 | .cl x=>x.av
 | .agg cs=> .agg (cs.map Cl.av)
 | .fn f cs=> .fn f (cs.map Cl.av)
def V.av:V->AV
 | .v x=>x.av
 | .tup l=> .tup (l.map V1.av)
def dS.tree(x:dS):T:=match x.hole with
 |none=> .sl x.t.width (x.l.map x.t.row)
 |some (i,j)=> .sl x.t.width ((x.l.map x.t.row).set i (((x.l.map x.t.row).getD i []).set j .dd))
def eA(G:List (Option dS))(r:Nat):Option dS:=(gT G r).getD none
def TS.st(S:TS):St where
 env:=λt=>(fh S.env t).av
 bx:=λn=>(gT S.bx n).map λcs=>cs.map Cl.av
 gh:=λr=>(eA S.gh r).map dS.tree
 nb:=S.bx.length
 ng:=S.gh.length
 fz:=S.fz
 orc:=none
 nt:=S.nt
structure kZ where
 f:FuncId->List V1->(ρ:Type)->(V->List dS->Option ρ)->Option ρ
 kd:FuncId->Nat
instance:CoeFun kZ λ_=>FuncId->List V1->(ρ:Type)->(V->List dS->Option ρ)->Option ρ:=⟨kZ.f⟩
def fi:Nat:=1048576
def tO:Nat:=fi+fi
def wi:Nat:=tO+fi
def l8(g:Nat):Nat:=g+fi
def oZ(g:Nat):Nat:=g+tO
def pi(g:Nat):Nat:=g+wi
def rP(n:Nat):Cl->Cl
 | .own p sz lo len w=> .own ⟨p.r+n,p.l⟩ sz lo len w
 | .ptrT p sz i j=> .ptrT ⟨p.r+n,p.l⟩ sz i j
 | .c (.sc v)=> .c (.sc v)
 | _=> .dead
def kP(n:Nat):V1->V1
 | .agg cs=> .agg (cs.map (rP n))
 | .cl c=> .cl (rP n c)
 | .fn _ _=> .cl .dead
def iT(n:Nat):V->V
 | .tup vs=> .tup (vs.map (kP n))
 | .v x=> .v (kP n x)
def nV:Cl->Cl
 | .own p sz lo len w=>bif Nat.ble 1 p.r then .own ⟨p.r-1,p.l⟩ sz lo len w else .dead
 | .ptrT p sz i j=>bif Nat.ble 1 p.r then .ptrT ⟨p.r-1,p.l⟩ sz i j else .dead
 | .c (.sc v)=> .c (.sc v)
 | _=> .dead
def tJ:V1->V1
 | .agg cs=> .agg (cs.map nV)
 | .cl c=> .cl (nV c)
 | .fn _ _=> .cl .dead
def yt:V->V
 | .tup vs=> .tup (vs.map tJ)
 | .v x=> .v (tJ x)
def ey{α:Type}:List α->Nat->α->List α
 | [],_,_=> []
 |a::l,n,x=>bif Nat.beq n 0 then x::l else a::ey l (n-1) x
def j8(t t':Ty)(l:List t.D):Option (List t'.D):=if h:t=t' then some (h ▸ l) else none
def ir(r j:Nat):Cl->Cl
 | .own p sz lo len w=>match p.l with | (_,j')::_=>bif Nat.beq p.r r&&Nat.beq j j' then .dead else .own p sz lo len w| [] => .own p sz lo len w
 | .ptrT p sz a b=>match p.l with | (_,j')::_=>bif Nat.beq p.r r&&Nat.beq j j' then .dead else .ptrT p sz a b| [] => .ptrT p sz a b
 |c=>c
def je(r j:Nat):V1->V1
 | .cl c=> .cl (ir r j c)
 | .agg cs=> .agg (cs.map (ir r j))
 | .fn f cs=> .fn f (cs.map (ir r j))
def qx(r j:Nat):V->V
 | .v x=> .v (je r j x)
 | .tup vs=> .tup (vs.map (je r j))
def TS.kill(S:TS)(r j:Nat):TS:={ S with env:=S.env.map λx=>(x.1,qx r j x.2),bx:=S.bx.map λcs=>cs.map (ir r j) }
def fj(S:TS)(no j:Nat)(et:Option Ty)(c:Cl):Option (C×TS):=match c,et with
 | .c (.sc v),none=>some (.sc v,S)
 | .em,some t=>some (.ls t [],S.kill no j)
 | .own p sz _ _ true,some t=>match p.l with
   | [] =>bif Nat.beq t.width sz&&Nat.ble S.fz p.r&& !(Nat.beq p.r no) then match gT S.gh p.r with
     |some (some tr)=>match tr.hole with
      |none=>bif Nat.beq tr.t.width sz then some (.ls tr.t tr.l,{ S with gh:=ey S.gh p.r none }.kill no j) else none
      |some _=>none
     | _=>none else none
   | _=>none
 | _,_=>none
def it(no:Nat):Nat->TS->List (Option Ty)->List Cl->Option (List C×TS)
 |j,S,et::ets,c::cs=>match fj S no j et c with
  |some (x,S1)=>match it no (j+1) S1 ets cs with
   |some (xs,S2)=>some (x::xs,S2)
   |none=>none
  |none=>none
 | _,S,[],[] =>some ([],S)
 | _,_,_,_=>none
def ED(et:Option Ty)(v:Value):C:=match et with |some t=> .ls t [] |none=> .sc v
def Ty.zcs(t:Ty):List C:=List.zipWith ED t.csh t.zvs
def Cr:List Cl->Option (List C)
 | [] =>some []
 | .c (.sc v)::l=>match Cr l with |some r=>some (.sc v::r)|none=>none
 | _=>none
section
variable {ρ:Type}
def tM{α β:Type}(f:α->(β->Option ρ)->Option ρ):List α->(List β->Option ρ)->Option ρ
 | [],κ=>κ []
 |a::l,κ=>f a λb=>tM f l λbs=>κ (b::bs)
def vu(Θ:gq)(S:TS)(t:TypeId)(a v:V)(κ:TS->Option ρ):Option ρ:=match fU Θ t with
 |none=>none
 |some ti=>match v with
  | .tup _=>none
  | .v (.cl .dead)=>none
  | .v (.fn _ _)=>none
  | .v x=>bif Nat.beq x.cells.length ti.ty.width then match a with
    | .v (.cl (.ptrB b j))=>match gT S.bx b with
      |some cs=>bif Nat.ble (j+x.cells.length) cs.length then κ { S with bx:=ey S.bx b (cs.take j++x.cells++cs.drop (j+x.cells.length)) } else none
      |none=>none
    | .v (.cl (.ptrT p sz i j))=>match p.l with
      | [] =>match gT S.gh p.r with
        |some (some tr)=>bif Nat.beq tr.t.width sz&&Nat.ble (j+ti.ty.width) sz&&Nat.beq x.cells.length ti.ty.width then
         bif ti.ty.flatB then
          match tr.hole,Cr x.cells with
          |none,some vs=>(tr.l[i]?).bind λy=>match tr.t.unflat ((tr.t.flat y).take j++vs++(tr.t.flat y).drop (j+ti.ty.width)) with
           |some z=>κ { S with gh:=ey S.gh p.r (some ⟨tr.t,tr.l.set i z,none⟩) }
           |none=>none
          | _,_=>none
         else bif Nat.ble S.fz p.r then match it p.r j S ti.ty.csh x.cells with
          |some (vs,S1)=>(tr.l[i]?).bind λy=>match tr.t.unflat ((tr.t.flat y).take j++vs++(tr.t.flat y).drop (j+ti.ty.width)) with
           |some z=>match tr.hole with
            |none=>κ { S1 with gh:=ey S1.gh p.r (some ⟨tr.t,tr.l.set i z,none⟩) }
            |some (i0,j0)=>bif Nat.beq j j0&&Nat.beq ti.ty.width 1 then iteP (i=i0) (κ { S1 with gh:=ey S1.gh p.r (some ⟨tr.t,tr.l.set i z,none⟩) }) none else none
           |none=>none
          |none=>none else none
         else none
        | _=>none
      | _=>none
    | _=>none
    else none
def zE(S:TS)(et:Option Ty)(c:Cl)(κ:Cl->Option ρ):Option ρ:=match c with
 | .c x=>κ (.c x)
 | .em=>match et with |some t=>κ (.c (.ls t []))|none=>none
 | .own p sz _ _ true=>iJ S p λt l=>bif Nat.beq t.width sz then κ (.c (.ls t l)) else none
 | .own p sz lo len false=>iJ S p λt l=>bif Nat.beq t.width sz then iteP (lo+len<=l.length) (κ (.c (.ls t ((l.drop lo).take len)))) none else none
 | .pro cs=>κ (.pro cs)
 | .ptrT p sz i j=>iJ S p λt l=>bif Nat.beq t.width sz then (l[i]?).bind λx=>κ (.pro ((t.flat x).drop j)) else none
 | .ptrB b j=>match gT S.bx b with
   |some cs=>tM (λc κ=>match c with
    | .c x=>κ x
    | .own p sz _ _ true=>iJ S p λt l=>bif Nat.beq t.width sz then κ (.ls t l) else none
    | _=>none) (cs.drop j) λcs=>κ (.pro cs)
   |none=>none
 | .dead=>κ .dead
def AU(S:TS):List (Option Ty)->List Cl->(List Cl->Option ρ)->Option ρ
 |et::ets,c::cs,κ=>zE S et c λc'=>AU S ets cs λcs'=>κ (c'::cs')
 | [],[],κ=>κ []
 | _,_,_=>none
def D9(Θ:gq)(S:TS)(t:TypeId)(v:V)(κ:V1->Option ρ):Option ρ:=match v with
 | .tup _=>none
 | .v (.fn f cs)=>tM (zE S none) cs λcs'=>κ (.fn f cs')
 | .v (.agg cs)=>match fU Θ t with |some ti=>AU S ti.ty.csh cs λcs'=>κ (.agg cs')|none=>none
 | .v (.cl .em)=>κ (.cl .em)
 | .v (.cl c)=>match fU Θ t with |some ti=>zE S (ti.ty.csh.headD none) c λc'=>κ (.cl c')|none=>zE S none c λc'=>κ (.cl c')
def lc(Θ:gq)(S:TS):List TypeId->List Operand->(List V1->Option ρ)->Option ρ
 |t::ts,a::as,κ=>D9 Θ S t (S.opd a) λv=>lc Θ S ts as λvs=>κ (v::vs)
 | [],[],κ=>κ []
 | _,_,_=>none
def vH(Θ:gq)(Y:kZ)(S:TS)(f:Operand)(ts:List TypeId)(as:List Operand)(κ:V->TS->Option ρ):Option ρ:=match S.opd f with
 | .v (.cl (.c (.sc (.func (.func g) _ _))))=>bif Nat.blt g fi then lc Θ S ts as λvs=>Y g vs ρ λres out=>κ (iT S.gh.length res) { S with gh:=S.gh++out.map some } else none
 | .v (.fn g caps)=>bif Nat.blt g fi then lc Θ S ts as λvs=>tM (zE S none) caps λcs=>Y g (vs++cs.map .cl) ρ λres out=>κ (iT S.gh.length res) { S with gh:=S.gh++out.map some } else none
 | _=>none
def zh(S:TS)(el:Ty)(v:Cl)(κ:List el.D->TS->Option ρ):Option ρ:=match v with
 | .em=>κ [] S
 | .c (.ls t l)=>bif el.flatB then match j8 t el l with |some l=>κ l S|none=>none else none
 | .own p sz lo len w=>bif Nat.beq el.width sz then (bif el.flatB then iJ S p λt l=>match j8 t el l with
   |some l=>bif w then κ l S else iteP (lo+len<=l.length) (κ ((l.drop lo).take len) S) none
   |none=>none
   else match p.l with
   | [] =>bif w&&Nat.ble S.fz p.r then iJ S p λt l=>match j8 t el l with |some l=>κ l { S with gh:=ey S.gh p.r none } |none=>none else none
   | _=>none) else none
 | _=>none
def sq(S:TS)(el:Ty)(v:Cl)(more:List el.D)(κ:List el.D->TS->Option ρ):Option ρ:=match v with
 | .em=>κ more S
 | .own p sz lo len w=>bif Nat.ble S.fz p.r&&Nat.beq el.width sz then match p.l with
   | [] =>iJ S p λt l=>match j8 t el l with
     |some l=>bif w then κ (l++more) { S with gh:=ey S.gh p.r none }
      else iteP (lo=0) (iteP (l.length<len) none (κ (l.take len++more) { S with gh:=ey S.gh p.r none })) none
     |none=>none
   | [(i,j)] =>match gT S.gh p.r with
     |some (some tr)=>match tr.hole with
      |none=>iJ S p λt l=>match j8 t el l with
       |some l=>iteP (lo=0) (iteP (l.length<len) none (κ (l.take len++more) { S with gh:=ey S.gh p.r (some ⟨tr.t,tr.l,some (i,j)⟩) })) none
       |none=>none
      |some _=>none
     | _=>none
   | _=>none else none
 | _=>none
def zL(Θ:gq)(S:TS)(t:TypeId)(s x:V)(κ:V->TS->Option ρ):Option ρ:=match fU Θ t with
 |some ti=>match ti.ty,s,x with
  | .ls el,.v (.cl s),.v (.cl x)=>zh S el x λmore S1=>sq S1 el s more λl S2=>iteP (l.length*ti.el<=2 ^ 40) (κ (.v (.cl (.own ⟨S2.gh.length,[]⟩ el.width 0 l.length true))) { S2 with gh:=S2.gh++ [some ⟨el,l,none⟩] }) none
  | _,_,_=>none
 |none=>none
def CZ:List Nat->List Nat->Bool
 | [],[] =>true
 |a::l,b::m=>bif Nat.beq a b then CZ l m else false
 | _,_=>false
def jh(el:Ty):TS->List V->Option (List el.D×TS)
 |S,[] =>some ([],S)
 |S,.v x::r=>match it S.gh.length 0 S el.csh x.cells with
  |some (vs,S1)=>match el.unflat vs,jh el S1 r with
   |some y,some (ys,S2)=>some (y::ys,S2)
   | _,_=>none
  |none=>none
 | _,_=>none
def uV:Cl->Bool| .c (.ls _ _)=>true| _=>false
def oU:V->Bool| .v x=>x.cells.any uV| _=>false
def gO:List (Option Ty)->List Cl->Option (List C)
 | _::ets,.c x::cs=>(match gO ets cs with |some r=>some (x::r)|none=>none)
 |some t::ets,.em::cs=>(match gO ets cs with |some r=>some (.ls t []::r)|none=>none)
 | [],[] =>some []
 | _,_=>none
def js(el:Ty):List V->Option (List el.D)
 | [] =>some []
 | .v x::r=>(match gO el.csh x.cells with
   |some xs=>(match el.unflat xs,js el r with |some y,some ys=>some (y::ys)| _,_=>none)
   |none=>none)
 | _=>none
def BD(Θ:gq)(S:TS)(t:TypeId)(s x:V)(κ:V->TS->Option ρ):Option ρ:=match fU Θ t with
 |some ti=>match ti.ty,s with
  | .ls el,.v (.cl .em)=>uU x λn=>match el.unflat el.zcs with
    |some z=>iteP (0<n/\n*ti.el<=2 ^ 40) (κ (.v (.cl (.own ⟨S.gh.length,[]⟩ el.width 0 n.toNat true))) { S with gh:=S.gh++ [some ⟨el,List.replicate n.toNat z,none⟩] }) none
    |none=>none
  | _,_=>none
 |none=>none
def Di(t:Ty)(l:List t.D)(sz lo len:Nat)(κ:ByteArray->Option ρ):Option ρ:=match t,l with
 | .i .u8,l=>bif Nat.beq sz 1 then iteP (0<len/\lo+len<=l.length) (κ (Cu ((l.drop lo).take len))) none else none
 | _,_=>none
def jT(Θ:gq)(Y:kZ)(S:TS)(o:Oper)(κ:V->TS->Option ρ):Option ρ:=
 let e:=S.opd
 match o.op with
 | .alloc t=>match fU Θ t with |some ti=>κ (.v (.cl (.ptrB S.bx.length 0))) { S with bx:=S.bx++ [ti.ty.zvs.map cC] } |none=>none
 | .box _ x=>match e x with
   | .v (.cl .dead)=>none
   | .v (.cl c)=>κ (.v (.cl (.ptrB S.bx.length 0))) { S with bx:=S.bx++ [[c]] }
   | .v (.agg cs)=>κ (.v (.cl (.ptrB S.bx.length 0))) { S with bx:=S.bx++ [cs] }
   | _=>none
 | .store t a x=>vu Θ S t (e a) (e x) λS'=>κ V.dead S'
 | .makeSlice t l c=>match fU Θ t with
   |some ti=>match ti.ty with
    | .ls el=>uU (e l) λn=>uU (e c) λm=>match el.unflat el.zcs with
      |some z=>iteP (0<=n/\n=m/\n*ti.el<=2 ^ 40) (κ (.v (.cl (.own ⟨S.gh.length,[]⟩ el.width 0 n.toNat true))) { S with gh:=S.gh++ [some ⟨el,List.replicate n.toNat z,none⟩] }) none
      |none=>none
    | _=>none
   |none=>none
 | .buildSlice t len parts=>match fU Θ t with
   |some ti=>match ti.ty with
    | .ls el=>bif Nat.ble (len*el.width) 1048576&&CZ (parts.toList.map (·.1)) (List.range len) then (bif (parts.toList.map λx=>e x.2).any oU then (match js el (parts.toList.map λx=>e x.2) with |some l=>κ (.v (.cl (.c (.ls el l)))) S|none=>none) else match jh el S (parts.toList.map λx=>e x.2) with
      |some (l,S1)=>κ (.v (.cl (.own ⟨S1.gh.length,[]⟩ el.width 0 l.length true))) { S1 with gh:=S1.gh++ [some ⟨el,l,none⟩] }
      |none=>none) else none
    | _=>none
   |none=>none
 | .call { callee:=.builtin .append,args:=as,argTypes:=ts } =>match as.toList,ts.toList with
   | [s,x],[t,t'] =>bif Nat.beq t t' then zL Θ S t (e s) (e x) κ else BD Θ S t (e s) (e x) κ
   | _,_=>none
 | .call { callee:=.value f,args:=as,argTypes:=ts } =>vH Θ Y S f ts.toList as.toList κ
 | .convert s d x=>match e x with
   | .v (.cl (.own p sz lo len _))=>match fU Θ s,fU Θ d with
     |some si,some di=>match si.ty,di.ty with
      | .ls (.i .u8),.s=>iJ S p λt l=>Di t l sz lo len λb=>κ (V.sc (.string b)) S
      | _,_=>none
     | _,_=>none
   | _=>lR Θ S o κ
 | _=>lR Θ S o κ
def iQ(S:TS)(d:Option Tmp)(v:V)(κ:TS->Option ρ):Option ρ:=match d with
 |some t=>bif Nat.blt t S.nt then κ { S with env:=(t,v)::S.env } else none
 |none=>κ S
def wB(S:TS)(all:List Oper)(o:Oper)(κ:Bool->TS->Option ρ):Option ρ:=match o.guard with
 |none=>κ true S
 |some (j,want)=>match gT all j with
  |some oj=>match oj.dst with
   |some d=>match fh S.env d with
    | .tup [] =>κ false S
    | _=>sy S (.tmp d) λb S1=>κ (b==want) S1
   |none=>none
  |none=>none
noncomputable def zK{α:Type}(x y:α)(z:α):α:=open Classical in if x=y then x else z
def Ch{α β:Type}(l:List α)(x y:β):β:=match l with | [] =>x| _::_=>y
def oa(o:Oper):Option (TypeId×Operand):=match o.op with
 | .binOp .eql t x (.const (.slice none 0 0)) _=>(match o.guard with |none=>some (t,x)|some _=>none)
 | _=>none
def C7(Θ:gq)(t:TypeId):Bool:=match fU Θ t with |some ti=>(match ti.ty with | .ls _=>true| _=>false)|none=>false
inductive qP where
 |own (r sz:Nat)
 |pt (r sz:Nat)
 |nest (r i j sz lo len:Nat)
 |agg (cs:List Cl)
def mO:V->Option qP
 | .v (.cl (.own ⟨r,[]⟩ sz _ _ true))=>some (.own r sz)
 | .v (.cl (.ptrT ⟨r,[]⟩ sz 0 0))=>some (.pt r sz)
 | .v (.cl (.own ⟨r,[(i,j)]⟩ sz lo len _))=>some (.nest r i j sz lo len)
 | .v (.agg cs)=>some (.agg cs)
 | _=>none
def qP.fit(k:Nat):qP->Bool
 | .own _ _=>Nat.beq k 1||Nat.beq k 2
 | .pt _ _=>Nat.beq k 3
 | _=>Nat.beq k 1
def oS(Y:kZ)(S:TS)(o:Oper):Option (Nat×FuncId×List Cl×qP×List TypeId×List Operand):=match o.op with
 | .call { callee:=.value f,args:=as,argTypes:=ts } =>(match as.toList,ts.toList with
   |x::xs,_::us=>(match mO (S.opd x) with
    |some a=>(match S.opd f with
     | .v (.cl (.c (.sc (.func (.func g) _ _))))=>bif Nat.blt g fi&&a.fit (Y.kd g) then some (Y.kd g,g,[],a,us,xs) else none
     | .v (.fn g caps)=>bif Nat.blt g fi&&a.fit (Y.kd g) then some (Y.kd g,g,caps,a,us,xs) else none
     | _=>none)
    |none=>none)
   | _,_=>none)
 | _=>none
def AK:V->Bool
 | .v (.cl (.c (.sc _)))=>true
 | .tup [] =>true
 | _=>false
def kH(S:TS):List Cl->Option (List C×List Nat)
 | [] =>some ([],[])
 | .c (.sc v)::cs=>(match kH S cs with |some (xs,L)=>some (.sc v::xs,L)|none=>none)
 | .own ⟨r,[]⟩ sz _ _ true::cs=>(match eA S.gh r with
   |some ⟨el,l,none⟩=>bif Nat.beq sz el.width then (match kH S cs with |some (xs,L)=>some (.ls el l::xs,r::L)|none=>none) else none
   | _=>none)
 | _=>none
def Bn(G:List (Option dS))(L:List Nat):List (Option dS):=L.foldl (λG r=>ey G r none) G
def ow(S:TS):List Nat->List dS->(TS->Option ρ)->Option ρ
 | [],[],κ=>κ S
 |r::L,⟨t,l',none⟩::out,κ=>(match eA S.gh r with
  |some ⟨el,l,none⟩=>bif decide (t=el) then iteP (l'.length=l.length) (ow { S with gh:=ey S.gh r (some ⟨t,l',none⟩) } L out κ) none else none
  | _=>none)
 | _,_,_=>none
def mg(Θ:gq)(S:TS)(us:List TypeId)(xs:List Operand)(caps:List Cl)(κ:List V1->Option ρ):Option ρ:=lc Θ S us xs λvs=>tM (zE S none) caps λks=>κ (vs++ks.map .cl)
def wo(S:TS)(r:Nat)(el:Ty)(l:List el.D)(res:V)(out:List dS)(dst:Option Tmp)(κ:TS->Option ρ):Option ρ:=match out with
 | ⟨t,l',none⟩::more=>bif decide (t=el) then iteP (l'.length=l.length) (iQ { S with gh:=ey S.gh r (some ⟨t,l',none⟩)++more.map some } dst (iT S.gh.length (yt res)) κ) none else none
 | _=>none
def oQ(Θ:gq)(Y:kZ)(S:TS)(k:Nat)(g:FuncId)(caps:List Cl)(a:qP)(us:List TypeId)(xs:List Operand)(dst:Option Tmp)(κ:TS->Option ρ):Option ρ:=match a with
 | .own r sz=>(match eA S.gh r with
   |some ⟨el,l,none⟩=>bif Nat.beq sz el.width then mg Θ { S with gh:=ey S.gh r none } us xs caps λvs=>
    bif Nat.beq k 1 then Y (l8 g) (.cl (.c (.ls el l))::vs) ρ λres out=>wo S r el l res out dst κ
    else bif Nat.ble S.fz r then Y (oZ g) (.cl (.c (.ls el l))::vs) ρ λres out=>iQ { S with gh:=ey S.gh r none++out.map some } dst (iT S.gh.length res) κ
    else none else none
   | _=>none)
 | .pt r sz=>(match eA S.gh r with
   |some ⟨el,l,none⟩=>bif Nat.beq sz el.width then mg Θ { S with gh:=ey S.gh r none } us xs caps λvs=>Y (pi g) (.cl (.c (.ls el l))::vs) ρ λres out=>wo S r el l res out dst κ else none
   | _=>none)
 | .agg cs=>(match kH S cs with
   |some (ys,L)=>bif Cg L then mg Θ { S with gh:=Bn S.gh L } us xs caps λvs=>Y (l8 g) (.agg (ys.map .c)::vs) ρ λres out=>bif AK res then ow S L out λS3=>iQ S3 dst res κ else none else none
   |none=>none)
 | .nest r i j sz lo len=>(match eA S.gh r with
   |some ⟨t,l,none⟩=>(l[i]?).bind λy=>(match gT (t.flat y) j with
    |some (.ls el v)=>bif Nat.beq sz el.width then iteP (lo=0/\len=v.length) (mg Θ { S with gh:=ey S.gh r (some ⟨t,l,some (i,j)⟩) } us xs caps λvs=>
     Y (l8 g) (.cl (.c (.ls el v))::vs) ρ λres out=>(match out with
       | [⟨t',v',none⟩] =>bif decide (t'=el)&&AK res then iteP (v'.length=v.length) (match t.unflat (ey (t.flat y) j (.ls t' v')) with
         |some z=>iQ { S with gh:=ey S.gh r (some ⟨t,l.set i z,none⟩) } dst res κ
         |none=>none) none else none
       | _=>none)) none else none
    | _=>none)
   | _=>none)
def q9(S:TS)(o:Oper):Option (TypeId×Nat×Nat×Nat×Nat):=match o.op with
 | .call { callee:=.builtin .clear,args:=as,argTypes:=ts } =>(match o.guard with
   |some _=>none
   |none=>match as.toList,ts.toList with
    | [x],[t] =>(match S.opd x with
      | .v (.cl (.own ⟨r,[]⟩ sz lo len _))=>some (t,r,sz,lo,len)
      | _=>none)
    | _,_=>none)
 | _=>none
def uN(Θ:gq)(S:TS)(t:TypeId)(r sz lo len:Nat)(dst:Option Tmp)(κ:TS->Option ρ):Option ρ:=match fU Θ t with
 |some ti=>match eA S.gh r with
  |some ⟨el,l,none⟩=>bif decide (ti.ty= .ls el)&&Nat.beq el.width 1&&Nat.beq sz 1&&el.flatB then (match el.unflat el.zcs with
   |some z=>iteP (lo+len<=l.length) (iQ { S with gh:=ey S.gh r (some ⟨el,l.take lo++List.replicate len z++l.drop (lo+len),none⟩) } dst (.tup []) κ) none
   |none=>none) else none
  | _=>none
 |none=>none
def sA(b:Bool):V:=.v (.cl (.c (.sc (.bool b))))
noncomputable def oJ(Θ:gq)(Y:kZ)(all:List Oper):List Oper->TS->(TS->Option ρ)->Option ρ
 | [],S,κ=>κ S
 |o::os,S,κ=>match oa o with
  |some (t,x)=>bif C7 Θ t then (match S.opd x with
   | .v (.cl (.c (.ls _ l)))=>Ch l (zK (iQ S o.dst (sA true) λS3=>oJ Θ Y all os S3 κ) (iQ S o.dst (sA false) λS3=>oJ Θ Y all os S3 κ) none) (iQ S o.dst (sA false) λS3=>oJ Θ Y all os S3 κ)
   | _=>none) else none
  |none=>match q9 S o with
  |some (t,r,sz,lo,len)=>uN Θ S t r sz lo len o.dst λS3=>oJ Θ Y all os S3 κ
  |none=>wB S all o λb S1=>bif b then (match oS Y S1 o with
   |some (k,g,caps,a,us,xs)=>oQ Θ Y S1 k g caps a us xs o.dst λS3=>oJ Θ Y all os S3 κ
   |none=>jT Θ Y S1 o λv S2=>iQ S2 o.dst v λS3=>oJ Θ Y all os S3 κ) else iQ S1 o.dst (V.tup []) λS3=>oJ Θ Y all os S3 κ
def gone:Nat->List (Option dS)->List (Option dS)->List Nat
 |n,some _::l,none::m=>n::gone (n+1) l m
 |n,_::l,_::m=>gone (n+1) l m
 | _,_,_=> []
def zt(l:List (Option dS)):List T:=l.map λx=>match x with |some tr=>tr.tree|none=> .dd
def lC(S S':TS):ff:=⟨S.gh.length,zt (S'.gh.drop S.gh.length),gone 0 S.gh S'.gh⟩
def Bx(d:Nat)(o:Oper):Bool:=match o.dst with |some d'=> !(Nat.beq d d')|none=>true
def Dc(o:Oper)(os:List Oper):Bool:=match o.dst with |some d=>os.all (Bx d)|none=>false
def CP(Θ:gq)(t:TypeId):Bool:=match fU Θ t with
 |some ti=>(match ti.ty with | .ls _=>true| _=>false)
 |none=>false
def Am(Θ:gq)(o:Oper):Bool:=match o.op with
 | .buildSlice t _ _=>CP Θ t
 | .call { callee:=.builtin .append,args:=_,argTypes:=ts } =>(match ts.toList with |t::_=>CP Θ t| [] =>false)
 | _=>true
def wk:V->Bool
 | .v (.cl (.own p _ _ _ _))=>(match p.l with | [] =>true| _=>false)
 | _=>true
def vE(S:TS)(o:Oper):Bool:=match o.op with
 | .buildSlice _ _ parts=> !(parts.toList.map λx=>S.opd x.2).any oU
 | .call { callee:=.builtin .append,args:=as,argTypes:=ts } =>(match ts.toList with | [t,t'] =>Nat.beq t t'| _=>true)&&(match as.toList with |s::_=>wk (S.opd s)| [] =>true)
 | _=>true
def yH(Θ:gq):List Oper->TS->(TS->Option ρ)->Option ρ
 | [],S,κ=>κ S
 |o::os,S,κ=>match o.op with
  | .alloc t=>match fU Θ t with |some ti=>yH Θ os { S with bx:=S.bx++ [ti.ty.zvs.map cC] } κ|none=>none
  | _=>yH Θ os S κ
def sU(Θ:gq)(Y:kZ)(all:List Oper):List Oper->TS->List ff->(TS->List ff->Option ρ)->Option ρ
 | [],S,ms,κ=>κ S ms
 |o::os,S,ms,κ=>bif dJ o then sU Θ Y all os S (ms++ [⟨S.gh.length,[],[]⟩]) κ else bif eC o then (bif o.guard.isNone then iQ S o.dst (V.v (.cl (.ptrB (S.bx.length-1-eH os) 0))) λS3=>sU Θ Y all os S3 (ms++ [⟨S.gh.length,[],[]⟩]) κ else none) else
   wB S all o λb S1=>bif b then
    (bif eL o then (bif Dc o os&&Am Θ o&&vE S1 o then jT Θ Y S1 o λv S2=>iQ S2 o.dst v λS3=>sU Θ Y all os S3 (ms++ [lC S1 S2]) κ else none)
    else lR Θ S1 o λv S2=>iQ S2 o.dst v λS3=>sU Θ Y all os S3 (ms++ [⟨S1.gh.length,[],[]⟩]) κ)
    else iQ S1 o.dst (V.tup []) λS3=>sU Θ Y all os S3 (ms++ [⟨S1.gh.length,[],[]⟩]) κ
def xW(Θ:gq)(Y:kZ):List Oper->TS->(TS->Option ρ)->Option ρ
 | [],S,κ=>κ S
 |o::os,S,κ=>bif dJ o then (bif o.guard.isNone&&o.dst.isNone then jT Θ Y S o λ_ S1=>xW Θ Y os S1 κ else none) else xW Θ Y os S κ
def vP(Θ:gq)(t:TypeId):Bool:=match fU Θ t with |some ti=>ti.ty.flatB|none=>false
def zf(Θ:gq)(S:TS)(o:Oper):Bool:=match o.op with
 | .store t x _=>(match S.opd x with | .v (.cl (.ptrB _ _))=>true| .v (.cl (.ptrT _ _ _ _))=>vP Θ t| _=>false)
 | _=>false
def rj(Θ:gq)(o:Oper):Bool:=match o.op with
 | .buildSlice t _ _=>(match fU Θ t with |some ti=>(match ti.ty with | .ls el=>el.flatB| _=>false)|none=>false)
 | _=>true
def sV(Θ:gq)(Y:kZ)(n0:Nat)(ops:List Oper)(B:List (List Nat)):Nat->List Oper->TS->(TS->Option ρ)->Option ρ
 | _,[],S,κ=>κ S
 |k,o::os,S,κ=>match oS Y S o with
  |some (kd,g,caps,a,us,xs)=>oQ Θ Y S kd g caps a us xs o.dst λS3=>sV Θ Y n0 ops B (k+1) os S3 κ
  |none=>bif dJ o then
    (bif zf Θ S o||(os.isEmpty&&(List.range k).all λj=>(B.getD k []).contains j) then jT Θ Y S o λv S2=>iQ S2 o.dst v λS3=>sV Θ Y n0 ops B (k+1) os S3 κ else none)
   else bif eL o then jT Θ Y S o λv S2=>bif (!iI o&&rj Θ o)||(Am Θ o&&vE S o&&(kh o||(gone 0 S.gh S2.gh).all λr=>Nat.ble n0 r)) then iQ S2 o.dst v λS3=>sV Θ Y n0 ops B (k+1) os S3 κ else none
   else bif uW n0 (yG ops B k) S.st o then lR Θ S o λv S2=>iQ S2 o.dst v λS3=>sV Θ Y n0 ops B (k+1) os S3 κ else none
def DL(Y:kZ)(o:Oper):Bool:=match o.op with
 | .call { callee:=.value (.func g), .. } =>Nat.beq (Y.kd g) 3
 | _=>false
def BS(Θ:gq)(Y:kZ)(ops:List Oper)(S:TS)(κ:TS->Option ρ):Option ρ:=
 bif sI ops.toArray||(ops.any (DL Y)&&BB ops.toArray) then sV Θ Y S.gh.length ops (eF ops) 0 ops S κ else
 bif vJ ops.toArray then yH Θ ops S λS0=>sU Θ Y ops ops S0 [] λSV ms=>bif uQ (vP Θ) ops (eF ops) S0.st ms SV.st then xW Θ Y ops SV κ else none else none
def fm:Code->Nat
 | .region id _ _=>id
 | .seq a _=>fm a
 | .block _ c=>fm c
 | .loop c=>fm c
 | _=>0
abbrev fW:=Nat->TS->(ρ:Type)->(X->TS->Option ρ)->Option ρ
noncomputable def mF(Θ:gq)(Y:kZ)(Λ:fW):Code->TS->(X->TS->Option ρ)->Option ρ
 | .skip,S,κ=>κ .nor S
 | .region _ ops false,S,κ=>oJ Θ Y ops.toList ops.toList S (κ .nor)
 | .region _ ops true,S,κ=>BS Θ Y ops.toList S (κ .nor)
 | .seq a b,S,κ=>mF Θ Y Λ a S λx S1=>match x with | .nor=>mF Θ Y Λ b S1 κ|x=>κ x S1
 | .cond c a b,S,κ=>sy S c λt S1=>bif t then mF Θ Y Λ a S1 κ else mF Θ Y Λ b S1 κ
 | .block id c,S,κ=>mF Θ Y Λ c S λx S1=>match x with | .ext i=>bif Nat.beq i id then κ .nor S1 else κ (.ext i) S1|x=>κ x S1
 | .loop c,S,κ=>Λ (fm c) S ρ κ
 | .exit id,S,κ=>κ (.ext id) S
 | .ret,S,κ=>κ .ret S
 | _,_,_=>none
def xX(S:TS)(gs:List dS)(et:Option Ty)(c:Cl)(κ:Cl->List dS->TS->Option ρ):Option ρ:=match c,et with
 | .c (.sc v),_=>κ (.c (.sc v)) gs S
 | .em,some t=>κ (.own ⟨gs.length,[]⟩ t.width 0 0 true) (gs++ [⟨t,[],none⟩]) S
 | .own p sz lo len w,some t'=>match p.l with
   | [] =>bif Nat.ble S.fz p.r&&Nat.beq t'.width sz then iJ S p λt l=>bif Nat.beq t.width sz then
     (bif w then κ (.own ⟨gs.length,[]⟩ sz 0 l.length true) (gs++ [⟨t,l,none⟩]) { S with gh:=ey S.gh p.r none }
     else iteP (lo=0/\len<=l.length) (κ (.own ⟨gs.length,[]⟩ sz 0 (l.take len).length true) (gs++ [⟨t,l.take len,none⟩]) { S with gh:=ey S.gh p.r none })
      (bif t.flatB&&Nat.ble sz 3 then iteP (lo+len<=l.length) (κ (.own ⟨gs.length,[]⟩ sz 0 ((l.drop lo).take len).length true) (gs++ [⟨t,(l.drop lo).take len,none⟩]) { S with gh:=ey S.gh p.r none }) none else none)) else none
     else none
   | _=>none
 | .ptrT p sz i j,none=>match p.l with
   | [] =>bif Nat.ble S.fz p.r then iJ S p λt l=>bif Nat.beq t.width sz then κ (.ptrT ⟨gs.length,[]⟩ sz i j) (gs++ [⟨t,l,none⟩]) { S with gh:=ey S.gh p.r none } else none else none
   | _=>none
 | _,_=>none
def vL:TS->List dS->List (Option Ty)->List Cl->(List Cl->List dS->TS->Option ρ)->Option ρ
 |S,gs,et::ets,c::cs,κ=>xX S gs et c λc' gs' S'=>vL S' gs' ets cs λcs' gs'' S''=>κ (c'::cs') gs'' S''
 |S,gs,[],[],κ=>κ [] gs S
 | _,_,_,_,_=>none
def BT(Θ:gq)(S:TS)(gs:List dS)(t:TypeId)(v:V)(κ:V1->List dS->TS->Option ρ):Option ρ:=match v with
 | .v (.cl (.ptrT p sz i j))=>xX S gs none (.ptrT p sz i j) λc' gs' S'=>κ (.cl c') gs' S'
 |v=>match fU Θ t with
  |none=>none
  |some ti=>match v with
   | .v (.agg cs)=>vL S gs ti.ty.csh cs λcs' gs' S'=>κ (.agg cs') gs' S'
   | .v (.cl c)=>xX S gs (ti.ty.csh.headD none) c λc' gs' S'=>κ (.cl c') gs' S'
   | _=>none
def sX(Θ:gq):TS->List dS->List (TypeId×V)->(List V1->List dS->Option ρ)->Option ρ
 | _,gs,[],κ=>κ [] gs
 |S,gs,(t,v)::r,κ=>BT Θ S gs t v λv' gs' S'=>sX Θ S' gs' r λvs gs''=>κ (v'::vs) gs''
def vf(Θ:gq)(S:TS):List ResultVar->List TypeId->(List (TypeId×V)->Option ρ)->Option ρ
 | .tmp a::rs,t::ts,κ=>vf Θ S rs ts λl=>κ ((t,fh S.env a)::l)
 | .cell a t'::rs,t::ts,κ=>tE Θ S t' (fh S.env a) λv=>vf Θ S rs ts λl=>κ ((t,v)::l)
 | [],[],κ=>κ []
 | _,_,_=>none
def p9:List V1->V
 | [v] => .v v
 |vs=> .tup vs
def iM:Nat->List V1->List (Nat×V)
 | _,[] => []
 |n,v::l=>(n,.v v)::iM (n+1) l
def kU(S:TS):Nat->Nat->Option (List dS)
 | _,0=>some []
 |r,n+1=>(match eA S.gh r with
  |some ⟨t,l,none⟩=>(match kU S (r+1) n with |some ts=>some (⟨t,l,none⟩::ts)|none=>none)
  | _=>none)
noncomputable def CM(Θ:gq)(Y:kZ)(Λ:fW)(fn:Func)(args:List V1)(G:List dS)(m:Nat)(κ:V->List dS->Option ρ):Option ρ:=match fn.body with
 |none=>none
 |some c=>mF Θ Y Λ c { env:=iM 0 args,bx:=[],gh:=G.map some,fz:=m,nt:=args.length+(fn.ntmps-args.length) } λx S=>match x with
  | .ext _=>none
  | _=>vf Θ S fn.results.toList fn.resultTypes.toList λrs=>match kU S 0 m with
    |some gs=>sX Θ S gs rs λvs gs'=>κ (p9 vs) gs'
    |none=>none
noncomputable abbrev CN(Θ:gq)(Y:kZ)(Λ:fW)(fn:Func)(args:List V1)(κ:V->List dS->Option ρ):Option ρ:=CM Θ Y Λ fn args [] 0 κ
def rX:List Cl->Option (List C)
 | [] =>some []
 | .c x::l=>match rX l with |some r=>some (x::r)|none=>none
 | _=>none
def un(t:Ty)(a:V1)(κ:t.D->Option ρ):Option ρ:=match a with
 | .agg cs=>bif t.ag then (match rX cs with
   |some xs=>(match t.unflat xs with |some x=>κ x|none=>none)
   |none=>none) else none
 | .cl (.c y)=>bif t.ag then none else (match t.unflat [y] with |some x=>κ x|none=>none)
 | _=>none
def jU:List C->Nat->List Cl
 | [],_=> []
 | .sc v::r,n=> .c (.sc v)::jU r n
 | .ls t l::r,n=> .own ⟨n,[]⟩ t.width 0 l.length true::jU r (n+1)
def fV:List C->List dS
 | [] => []
 | .sc _::r=>fV r
 | .ls t l::r=>⟨t,l,none⟩::fV r
def qd(t:Ty)(x:t.D)(n:Nat):V1:=bif t.ag then .agg (jU (t.flat x) n) else match jU (t.flat x) n with | [c] => .cl c| _=> .cl .dead
def i7:Nat->List ((t:Ty)×t.D)->List V1
 | _,[] => []
 |n,⟨t,x⟩::r=>qd t x n::i7 (n+(fV (t.flat x)).length) r
def iZ:List ((t:Ty)×t.D)->List dS
 | [] => []
 | ⟨t,x⟩::r=>fV (t.flat x)++iZ r
def ret(l:List ((t:Ty)×t.D))(κ:V->List dS->Option ρ):Option ρ:=κ (p9 (i7 0 l)) (iZ l)
end
abbrev uB:=List V1->(ρ:Type)->(V->List dS->Option ρ)->Option ρ
def BZ:List (Nat×uB)->FuncId->List V1->(ρ:Type)->(V->List dS->Option ρ)->Option ρ
 | [],_,_,_,_=>none
 | (g,e)::l,f,as,ρ,κ=>bif Nat.beq g f then e as ρ κ else BZ l f as ρ κ
def Aw:List (Nat×uB)->Nat->Bool
 | [],_=>false
 | (g,_)::l,f=>bif Nat.beq g f then true else Aw l f
def nT(l:List (Nat×uB)):kZ:=⟨BZ l,λg=>bif Aw l (l8 g) then 1 else bif Aw l (oZ g) then 2 else bif Aw l (pi g) then 3 else 0⟩
noncomputable abbrev ya{ρ:Type}(Θ:gq)(Y:kZ)(Λ:fW)(fn:Func)(m:Nat)(el:Ty)(l:List el.D)(args:List V1)(κ:V->List dS->Option ρ):Option ρ:=CM Θ Y Λ fn (.cl (.own ⟨0,[]⟩ el.width 0 l.length true)::args) [⟨el,l,none⟩] m κ
noncomputable abbrev BW{ρ:Type}(Θ:gq)(Y:kZ)(Λ:fW)(fn:Func)(el:Ty)(l:List el.D)(args:List V1)(κ:V->List dS->Option ρ):Option ρ:=CM Θ Y Λ fn (.cl (.ptrT ⟨0,[]⟩ el.width 0 0)::args) [⟨el,l,none⟩] 1 κ
noncomputable abbrev BV{ρ:Type}(Θ:gq)(Y:kZ)(Λ:fW)(fn:Func)(t:Ty)(x:t.D)(args:List V1)(κ:V->List dS->Option ρ):Option ρ:=CM Θ Y Λ fn (qd t x 0::args) (fV (t.flat x)) (fV (t.flat x)).length κ
def qU(t:Ty)(x:t.D):V1:=bif t.ag then .agg ((t.flat x).map .c) else match (t.flat x).map Cl.c with | [c] => .cl c| _=> .cl .dead
end
section
open Go
theorem eE{α:Type}: ∀ (l:List α) (n:Nat),gT l n=l[n]?
 | [],n=>by simp[gT]
 |a::l,0=>by simp[gT]
 |a::l,n+1=>by show gT l n=_;rw[eE l];simp
theorem eO{α:Type}: ∀ (l:List α) (n:Nat) (x:α),ey l n x=l.set n x
 | [],n,x=>by simp[ey]
 |a::l,0,x=>by simp[ey]
 |a::l,n+1,x=>by show a::ey l n x=_;rw[eO l];simp
theorem te: ∀ {l:List (Nat×V)} {t:Nat},fh l t=V.dead\/(t,fh l t)∈l
 | [],t=> .inl rfl
 | (u,v)::l,t=>by
   simp only[fh];cases h:Nat.beq u t with
   |true=>have :u=t:=aq h;subst this;exact .inr (aG)
   |false=>
    rcases te (l:=l) (t:=t) with h'|h'
    ·exact .inl h'
    ·exact .inr (aK _ h')
def Cl.ok(G:List (Option dS)):Cl->Prop
 | .own p _ lo len w=>p.r<G.length/\(w=true->p.l= [] /\lo=0/\ ∀tr,eA G p.r=some tr->len=tr.l.length)
 | .ptrT p _ _ _=>p.r<G.length
 | _=>True
def V1.ok(G:List (Option dS)):V1->Prop
 | .cl c=>c.ok G
 | .agg cs=> ∀c∈cs,c.ok G
 | .fn _ cs=> ∀c∈cs,c.ok G
def V.ok(G:List (Option dS)):V->Prop
 | .v x=>x.ok G
 | .tup l=> ∀x∈l,x.ok G
structure TS.ok (S:TS):Prop where
 env: ∀x∈S.env,x.2.ok S.gh
 bx: ∀cs∈S.bx,∀c∈cs,c.ok S.gh
def eY(G G':List (Option dS)):Prop:=G.length<=G'.length/\ ∀r tr',r<G.length->eA G' r=some tr'-> ∃tr,eA G r=some tr/\tr.l.length=tr'.l.length
theorem eY.refl(G:List (Option dS)):eY G G:=⟨az _,λ_ tr _ h=>⟨tr,h,rfl⟩⟩
theorem eY.trans{G H K:List (Option dS)}(h:eY G H)(k:eY H K):eY G K:=⟨ba h.1 k.1,λr tr hr hK=>by obtain⟨t1,h1,h2⟩:=k.2 r tr (aN hr h.1) hK;obtain⟨t2,h3,h4⟩:=h.2 r t1 hr h1;exact⟨t2,h3,h4.trans h2⟩⟩
theorem Cl.ok_mono{G G':List (Option dS)}(h:eY G G'){c:Cl}(hc:c.ok G):c.ok G':=by
 cases c with
 |own p sz lo len w=>obtain⟨h1,h2⟩:=hc;refine⟨aN h1 h.1,λhw=> ?_⟩;obtain⟨a,b,c⟩:=h2 hw;refine⟨a,b,λtr htr=> ?_⟩;obtain⟨tr0,k1,k2⟩:=h.2 _ tr h1 htr;rw[c tr0 k1,k2]
 |ptrT p sz i j=>exact aN hc h.1
 | _=>trivial
theorem V1.ok_mono{G G':List (Option dS)}(h:eY G G'){v:V1}(hv:v.ok G):v.ok G':=by
 cases v with
 |cl c=>exact Cl.ok_mono h hv
 |agg cs=>exactλc hc=>Cl.ok_mono h (hv c hc)
 |fn f cs=>exactλc hc=>Cl.ok_mono h (hv c hc)
theorem V.ok_mono{G G':List (Option dS)}(h:eY G G'){v:V}(hv:v.ok G):v.ok G':=by
 cases v with
 |v x=>exact V1.ok_mono h hv
 |tup l=>exactλx hx=>V1.ok_mono h (hv x hx)
theorem V.ok_dead(G:List (Option dS)):V.dead.ok G:=trivial
theorem V.ok_sc(G:List (Option dS))(v:Value): (V.sc v).ok G:=trivial
theorem n7{S:TS}(hS:S.ok)(t:Nat): (fh S.env t).ok S.gh:=by
 rcases te (l:=S.env) (t:=t) with h|h
 ·rw[h];trivial
 ·exact hS.env _ h
theorem ik(v:Value): (cC v).av=oc v:=by
 unfold cC oc;split
 ·rfl
 ·rename_i hn;split
  ·exact absurd rfl hn
  ·cases h:gQ v<;>rfl
theorem CV(v:Value): (cV v).av=pN v:=by
 cases v with
 |agg cs=>
  simp only[cV,pN];cases h:cs.toList.all Value.oneCell' with
  |true=>simp_all [V.av,V1.av,ik]
  |false=>rfl
 |bool b=>exact ik (.bool b)
 |int k n=>exact ik (.int k n)
 |float k n=>exact ik (.float k n)
 |complex k n m=>exact ik (.complex k n m)
 |string x=>exact ik (.string x)
 |pointer x=>exact ik (.pointer x)
 |slice x y z=>exact ik (.slice x y z)
 |map x=>exact ik (.map x)
 |chan x=>exact ik (.chan x)
 |func x y z=>exact ik (.func x y z)
 |nilFunc=>exact ik .nilFunc
 |iface x y=>exact ik (.iface x y)
 |nilIface=>exact ik .nilIface
 |tuple x=>exact ik (.tuple x)
theorem vG(G:List (Option dS))(v:Value): (cC v).ok G:=by
 unfold cC;split
 ·trivial
 ·cases gQ _<;>trivial
theorem CW(G:List (Option dS))(v:Value): (cV v).ok G:=by
 unfold cV;split
 ·rename_i cs;cases cs.toList.all Value.oneCell' with
  |true=>intro c hc;simp only[aI] at hc;obtain⟨x,_,rfl⟩:=hc;exact vG _ _
  |false=>trivial
 ·exact vG _ _
theorem dP{S:TS}(x:Operand):opd S.st x=(S.opd x).av:=by
 cases x with
 |tmp t=>rfl
 |const v=>exact (CV v).symm
 |func f=>rfl
 |global g=>rfl
theorem gD{S:TS}(hS:S.ok)(x:Operand): (S.opd x).ok S.gh:=by
 cases x with
 |tmp t=>exact n7 hS t
 |const v=>exact CW _ _
 |func f=>trivial
 |global g=>trivial
section
variable {ρ:Type}
theorem zW{α:Type}{b:Bool}{x y:Option α}{r:α}(h:br b x y=some r): (b=true/\x=some r)\/(b=false/\y=some r):=by
 cases b with
 |true=>exact .inl ⟨rfl,h⟩
 |false=>exact .inr ⟨rfl,h⟩
theorem dZ{α:Type}{c:Prop}[Decidable c]{x:Option α}{r:α}(h:iteP c x none=some r):c/\x=some r:=by grind [iteP]
theorem AD{α:Type}{c:Prop}[Decidable c]{x y:Option α}{r:α}(h:iteP c x y=some r):c/\x=some r\/ ¬c/\y=some r:=by grind [iteP]
theorem mU{α:Type}{c:Prop}[Decidable c]{x:Option α}{r:α}(h:iteP c none x=some r): ¬c/\x=some r:=by grind [iteP]
theorem dK{α:Type}{c:Bool}{x:Option α}{r:α}(h: (bif c then x else none)=some r):c=true/\x=some r:=by grind
theorem tB{S:TS}{t:Nat}{b:Bool}(h:fh S.env t=V.sc (.bool b)): ({ S with env:=(t,V.sc (.bool b))::S.env }:TS).st=S.st:=by
 unfold TS.st;simp only
 congr 1
 funext u
 simp only[fh];cases hb:Nat.beq t u with
 |true=>simp_all
 |false=>rfl
theorem tA{S:TS}(hS:S.ok)(t:Nat)(b:Bool): ({ S with env:=(t,V.sc (.bool b))::S.env }:TS).ok:=
 ⟨λx hx=>by
  simp only[aX] at hx;rcases hx with rfl|hx
  ·trivial
  ·exact hS.env x hx,hS.bx⟩
theorem oz{S:TS}(hS:S.ok){x:Operand}{κ:Bool->TS->Option ρ}{r:ρ}(h:sy S x κ=some r):
  ∃b S',opd S.st x= .sc (.bool b)/\S'.st=S.st/\S'.ok/\S'.gh=S.gh/\κ b S'=some r:=by
 unfold sy at h;split at h
 ·rename_i t;split at h
  ·rename_i b hb;rcases zW h with ⟨rfl,h⟩| ⟨rfl,h⟩
   ·exact⟨true,_,by show (fh S.env t).av=_;rw[hb];rfl,tB hb,tA hS _ _,rfl,h⟩
   ·exact⟨false,_,by show (fh S.env t).av=_;rw[hb];rfl,tB hb,tA hS _ _,rfl,h⟩
  ·cases h
 ·rename_i b;exact⟨b,S,rfl,rfl,hS,rfl,h⟩
 ·cases h
theorem jD{v:V}{κ:Int->Option ρ}{r:ρ}(h:uU v κ=some r): ∃n,mT v.av=some n/\κ n=some r:=by
 unfold uU at h;split at h
 ·exact⟨_,rfl,h⟩
 ·cases h
theorem dS.look{G:List (Option dS)}{r:Nat}{tr:dS}(h:gT G r=some (some tr)):eA G r=some tr:=by unfold eA;rw[h];rfl
theorem eM{S:TS}{p:dW}{κ: (t:Ty)->List t.D->Option ρ}{r:ρ}(h:iJ S p κ=some r):
  ∃ (t:Ty) (l:List t.D),S.st.look p= .sl t.width (l.map t.row)/\(p.l= [] ->eA S.gh p.r=some ⟨t,l,none⟩)/\κ t l=some r:=by
 unfold iJ at h;split at h
 ·rename_i tr htr;have hg:=dS.look htr;split at h
  ·rename_i hh;obtain⟨t,l,hole⟩:=tr;simp only at hh;subst hh;split at h
   ·rename_i hp;refine⟨t,l,?_,λ_=>hg,h⟩;unfold St.look;have :S.st.gh p.r=some (.sl t.width (l.map t.row)):=by show (eA S.gh p.r).map dS.tree=_;rw[hg];rfl
    rw[this,hp];rfl
   ·rename_i i j hp;simp only[ah] at h;obtain⟨x,hx,h⟩:=h;split at h
    ·rename_i t' l' hj;refine⟨t',l',?_,(λh0=>by rw[hp] at h0;cases h0),h⟩;unfold St.look;have :S.st.gh p.r=some (.sl t.width (l.map t.row)):=by show (eA S.gh p.r).map dS.tree=_;rw[hg];rfl
     rw[this,hp];simp only[T.go,T.cell];have e1: (l.map t.row).getD i [] =t.row x:=by simp[aB,hx]
     rw[e1,t.row_flat]
     grind [eE,C.tree]
    ·cases h
   ·cases h
  ·cases h
 ·cases h
end
end
section
open Go
def Ty.shs(t:Ty):List Nat:=t.csh.map λ|some e=>e.width|none=>0
structure TI.ok (P:Program) (t:TypeId) (ti:TI):Prop where
 ag:pM P t=some ti.ty.ag
 cells:P.cellsOf t=ti.ty.width
 sh:gJ P 9 t=ti.ty.shs
 ze:mw P t=some ti.ty.zvs
 fd: ∀k,xw P t k=gT ti.fds k
 pl:ti.ty.ag=true->Df P t=some (ti.fds.map λx=>(x.1,x.2.1))
 el: ∀e,ti.ty= .ls e-> ∃el,jz P t=some el/\P.cellsOf el=e.width/\P.bytesOf el=ti.el/\0<ti.el/\gJ P 9 el=e.shs/\mw P el=some e.zvs
 bool:ti.ty= .b->P.underlying t=some .bool
 gu:ti.ty.ag=true->ti.ty.flatB=true->P.eqGuardType P.depth t=false
 eq:ti.ty.ag=true-> ∀ (a b:List Cl) (r:Bool) (xs ys:List Value),fT ti.ty.zvs a=true->fT ti.ty.zvs b=true->kD a b=some r->a=xs.map (λx=> .c (.sc x))->b=ys.map (λx=> .c (.sc x))->dR P (Op.equal t (.agg xs.toArray) (.agg ys.toArray))=some r
 str:nj P t=(match ti.ty with | .s=>true| _=>false)
 int: ∀k,ti.ty= .i k->P.underlying t=some (.int k)
 el8: ∀k u,ti.ty= .ls (.i k)->jz P t=some u->P.underlying u=some (.int k)
def eB(P:Program)(Θ:gq):Prop:=∀t ti,fU Θ t=some ti->ti.ok P t
theorem Ty.width_pos(t:Ty):0<t.width:=by
 cases t with
 |st n=>cases n<;>decide
 | _=>exact Nat.one_pos
theorem C.ro_tree(c:C):T.ro c.tree=c.av:=by cases c<;>rfl
theorem C.own_tree(p:dW)(i m:Nat)(c:C):yD p i m c.tree=(vd p i m c).av:=by
 cases c with
 |sc v=>rfl
 |ls t l=>simp[yD,C.tree,vd,Cl.av]
theorem mR{α β:Type}(f:Nat->α->β): ∀ (j:Nat) (l:List α) (k:Nat),(mQ f j l)[k]? =(l[k]?).map (f (j+k))
 |j,[],k=>by simp[mQ]
 |j,a::l,0=>by simp[mQ]
 |j,a::l,k+1=>by simp only[mQ,cu];rw[mR f (j+1) l k];congr 2;omega
section
variable {ρ:Type} {P:Program} {Θ:gq} {S:TS}
theorem fJ{p:dW}{sz:Nat}{rows:List (List T)}(h:S.st.look p= .sl sz rows):S.st.rows p sz=some rows:=by unfold St.rows;rw[h];simp
theorem wJ(hS:S.ok){n:Nat}{v:Cl}(hv:v.ok S.gh){κ:List Cl->Option ρ}{r:ρ}(h:uM S n v κ=some r):
  ∃cs:List Cl,ef S.st n v.av=some (cs.map Cl.av)/\(∀c∈cs,c.ok S.gh)/\κ cs=some r:=by
 unfold uM at h;split at h
 ·rename_i b j;split at h
  ·rename_i cs hcs;obtain⟨h1,h⟩:=dK h;have h1:j+n<=cs.length:=ax h1;refine⟨_,?_,λc hc=> ?_,h⟩
   ·simp_all [Cl.av,ef,TS.st]
   ·rw[eE] at hcs;exact hS.bx cs (ay hcs) c (bw (bJ hc))
  ·cases h
 ·rename_i cells;obtain⟨h1,h⟩:=dK h;have h1:n<=cells.length:=ax h1;refine⟨_,?_,λc hc=> ?_,h⟩
  ·simp only[Cl.av,ef,aE];rw[if_pos h1]
   congr 1
   rw[<-cg,bq,bq];exact aH λc _=>C.ro_tree c
  ·obtain⟨x,_,rfl⟩:=aI.1 hc;trivial
 ·rename_i p sz i j;obtain⟨t,l,h1,_,h5⟩:=eM h;obtain⟨h2,h6⟩:=dK h5;clear h h5;simp only[ao] at h2;have h3:t.width=sz:=aq h2.1;have h4:j+n<=sz:=ax h2.2;subst h3;obtain⟨x,hx,h⟩:=ah.1 h6;have hil:i<l.length:=(ai.1 hx).1;have hfl: (t.flat x).length=t.width:=t.flat_length x;refine⟨_,?_,λc hc=> ?_,h⟩
  ·have e1: (l.map t.row).getD i [] =t.row x:=by simp[aB,hx]
   simp only[Cl.av,ef,fJ h1];rw[e1,if_pos ⟨by simpa using hil,by rw[t.row_length];exact h4⟩]
   congr 1
   apply bE;intro k;rw[aw,aw,mR];by_cases hk:k<n
   ·have hjk:j+k< (t.flat x).length:=by omega
    rw[List.getElem?_range hk,bz,if_pos hk,bn,an hjk];simp only[aF];rw[t.row_flat,aB,aw,an hjk]
    grind [C.own_tree]
   grind
  ·obtain⟨k,hk⟩:=List.getElem?_of_mem hc;rw[mR] at hk;simp only[aj] at hk;obtain⟨y,_,rfl⟩:=hk;cases y with
   |sc v=>trivial
   |ls t' l'=>exact⟨hv,λh=>by cases h⟩
 ·cases h
theorem yA{G:List (Option dS)}{ag:Bool}{cs:List Cl}(hcs: ∀c∈cs,c.ok G){κ:V->Option ρ}{r:ρ}(h:DK ag cs κ=some r): ∃v,BA ag (cs.map Cl.av)=some v.av/\v.ok G/\κ v=some r:=by
 unfold DK at h;cases ag with
 |true=>refine⟨_,rfl,?_,h⟩;exact hcs
 |false=>
  simp only[cond_false] at h;split at h
  ·rename_i c;refine⟨_,rfl,?_,h⟩;exact hcs c (by simp)
  ·cases h
theorem tF(hΘ:eB P Θ)(hS:S.ok){t:TypeId}{v:V}(hv:v.ok S.gh){κ:V->Option ρ}{r:ρ}(h:tE Θ S t v κ=some r):
  ∃u,load P S.st t v.av=some u.av/\u.ok S.gh/\κ u=some r:=by
 unfold tE at h;split at h
 ·rename_i ti hti;have hok:=hΘ _ _ hti;split at h
  ·rename_i a;obtain⟨cs,h1,h2,h⟩:=wJ hS hv h;obtain⟨u,h3,h4,h⟩:=yA h2 h;refine⟨u,?_,h4,h⟩;unfold load;rw[hok.ag,hok.cells]
   grind [V.av,V1.av]
  ·cases h
 ·cases h
theorem yZ{p:dW}{κ:Int->Option ρ}{r:ρ}(h:yY S p κ=some r): ∃tr,eA S.gh p.r=some tr/\κ tr.l.length=some r:=by grind [yY,dS.look]
theorem Ay{n:Nat}{i:Int}{v:Cl}(hv:v.ok S.gh){κ:Cl->Option ρ}{r:ρ}(h:B6 n i S v κ=some r): ∃c,l7 n i v.av=some c.av/\c.ok S.gh/\κ c=some r:=by
 unfold B6 at h;split at h
 ·rename_i t l;obtain⟨h1,h⟩:=dK h;have h1:t.width=n:=aq h1;obtain⟨h2,h⟩:=dZ h;obtain⟨x,hx,h⟩:=ah.1 h;have hil:=(ai.1 hx).1;refine⟨_,?_,?_,h⟩
  rotate_left
  ·trivial
  simp only[Cl.av,C.av,l7,aE];rw[if_pos ⟨h2,by omega,h1⟩]
  congr 1
  simp[aB,hx,t.row_flat]
 ·rename_i p sz lo len;obtain⟨h1,h⟩:=dK h;have h1:sz=n:=aq h1;obtain⟨tr,h3,h⟩:=yZ h;obtain⟨h4,h⟩:=dZ h;obtain⟨h5,h6⟩:=hv;obtain⟨h7,h8,h9⟩:=h6 rfl;have h10:=h9 _ h3;refine⟨_,?_,?_,h⟩
  rotate_left
  ·exact h5
  simp_all [Cl.av,l7]
 ·rename_i p sz lo len;obtain⟨h1,h⟩:=dK h;have h1:sz=n:=aq h1;obtain⟨h4,h⟩:=dZ h;refine⟨_,?_,?_,h⟩
  rotate_left
  ·exact hv.1
  simp_all [Cl.av,l7]
 ·cases h
theorem vY{v:Cl}(hv:v.ok S.gh){κ:Int->Option ρ}{r:ρ}(h:AE S v κ=some r): ∃n,jQ v.av=some n/\κ n=some r:=by
 unfold AE at h;split at h
 ·grind [Cl.av,C.av,jQ]
 ·obtain⟨t,l,h2,h3,h⟩:=eM h;obtain⟨h5,h6⟩:=hv
  simp_all [Cl.av,jQ]
 ·exact⟨_,rfl,h⟩
 ·exact⟨_,rfl,h⟩
 ·cases h
theorem zZ{n:Nat}{lo hi:Int}{v:Cl}(hv:v.ok S.gh){κ:Cl->Option ρ}{r:ρ}(h:BQ n lo hi v κ=some r): ∃c,Bm n lo hi v.av=some c.av/\c.ok S.gh/\κ c=some r:=by
 unfold BQ at h;split at h
 ·obtain⟨h1,h⟩:=dZ h;exact⟨.em,by simp[Cl.av,Bm,h1],trivial,h⟩
 ·rename_i t l;obtain⟨h1,h⟩:=dK h;have h1:t.width=n:=aq h1;obtain⟨h2,h⟩:=dZ h;refine⟨_,?_,?_,h⟩
  rotate_left
  ·trivial
  simp_all [Cl.av,C.av,Bm]
 ·rename_i p sz l len w;obtain⟨h1,h⟩:=dK h;have h1:sz=n:=aq h1;obtain⟨h2,h⟩:=dZ h;refine⟨_,?_,?_,h⟩
  rotate_left
  ·exact⟨hv.1,λh=>by cases h⟩
  simp_all [Cl.av,Bm]
 ·cases h
theorem qo{d:Int}{x:Option Operand}{κ:Int->Option ρ}{r:ρ}(h:qW S d x κ=some r): ∃n,gG S.st d x=some n/\κ n=some r:=by
 unfold qW at h;split at h
 all_goals simp_all [jD,gG,dP]
theorem zR{G:List (Option dS)}: ∀ (parts:List (Nat×V)) (pl:List (Nat×Nat×Bool)) (cs cs':List Cl),(∀c∈cs,c.ok G)->(∀x∈parts,x.2.ok G)->wF pl cs parts=some cs'->
  zQ (pl.map λx=>(x.1,x.2.1)) (cs.map Cl.av) (parts.map λx=>(x.1,x.2.av))=some (cs'.map Cl.av)/\ ∀c∈cs',c.ok G:=by
 intro parts
 induction parts with
 |nil=>intro pl cs cs' hcs _ h;simp only[wF,af] at h;subst h;exact⟨rfl,hcs⟩
 |cons x parts ih=>
  intro pl cs cs' hcs hp h;obtain⟨k,v⟩:=x;simp only[wF] at h;split at h
  ·rename_i off n ag hk;split at h
   ·rename_i x;have hx:x.ok G:=hp (k,.v x) (by simp)
    have fm: ∀ (hd: (V.v x).av.isDead=false) (hcell: (V.v x).av.cells=x.cells.map Cl.av) (hcok: ∀c∈x.cells,c.ok G)
      (h: (bif Nat.beq x.cells.length n&&Nat.ble (off+n) cs.length then wF pl (cs.take off++x.cells++cs.drop (off+n)) parts else none)=some cs'),
      zQ (pl.map λx=>(x.1,x.2.1)) (cs.map Cl.av) (((k,V.v x)::parts).map λx=>(x.1,x.2.av))=some (cs'.map Cl.av)/\ ∀c∈cs',c.ok G:=by
     intro hd hcell hcok h;obtain⟨h1,h⟩:=dK h;simp only[ao] at h1;have h2:x.cells.length=n:=aq h1.1;have h3:off+n<=cs.length:=ax h1.2
     obtain⟨g1,g2⟩:=ih pl _ cs' (λc hc=>by grind) (λy hy=>hp y (aK _ hy)) h
     refine⟨?_,g2⟩;rw[eE] at hk;simp only[aO,zQ,aw,hk,aF];rw[if_pos ⟨hd,by rw[hcell];simpa using h2,by simpa using h3⟩,<-g1,hcell];simp[cg,cB]
    cases x with
    |cl c=>cases c with
     |dead=>cases h
     |c y=>cases y<;>exact fm rfl rfl (λc hc=>by simp only[V1.cells,aJ] at hc;subst hc;exact hx) h
     |em=>exact fm rfl rfl (λc hc=>by simp only[V1.cells,aJ] at hc;subst hc;exact hx) h
     |own p sz lo len w=>exact fm rfl rfl (λc hc=>by simp only[V1.cells,aJ] at hc;subst hc;exact hx) h
     |pro cs=>exact fm rfl rfl (λc hc=>by simp only[V1.cells,aJ] at hc;subst hc;exact hx) h
     |ptrB n j=>exact fm rfl rfl (λc hc=>by simp only[V1.cells,aJ] at hc;subst hc;exact hx) h
     |ptrT p sz i j=>exact fm rfl rfl (λc hc=>by simp only[V1.cells,aJ] at hc;subst hc;exact hx) h
    |agg cs2=>exact fm rfl rfl hx h
    |fn f cs2=>cases h
   ·cases h
  ·cases h
end
end
end Go.Proofs.YtkghndikalnipaaGreat.En
