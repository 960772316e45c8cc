import Derived.Test.YtpagmogboinlpaaZX7
namespace Go.Proofs.Ytpagmogboinlpaa.En
section
open Go
section
variable {ρ:Type} {P:Program} {Θ:fp} {S:TS} {Y:kI}
theorem oZ (hS:S.ok) {ops:Array Oper} {o:Oper} {κ:Bool->TS->Option ρ} {r:ρ} (h:qk S ops.toList o κ=some r): ∃b S1,eJ S.st ops o=some b/\S1.st=S.st/\S1.ok/\S1.gh=S.gh/\κ b S1=some r:=by
 unfold qk at h;split at h
 ·rename_i hg;exact⟨true,S,by unfold eJ; rw[hg],rfl,hS,rfl,h⟩
 ·rename_i j want hg;split at h
  ·rename_i oj hj;split at h
   ·rename_i d hd;rw[dE,b6] at hj;split at h
    ·rename_i he;refine⟨_,S,?_,rfl,hS,rfl,h⟩;unfold eJ;rw[hg];simp only[hj,ak,hd];have :S.st.env d= .tup [] :=by show (fr S.env d).av=_; rw[he]; rfl
     rw[this]
    ·obtain⟨b,S1,h1,h2,h3,h4,h5⟩:=lB hS h;refine⟨_,S1,?_,h2,h3,h4,h5⟩;unfold eJ;rw[hg];simp only[hj,ak,hd];have :S.st.env d= .sc (.bool b):=h1;rw[this]
   ·cases h
  ·cases h
theorem eN (hS:S.ok) {d:Option Tmp} {v:V} (hv:v.ok S.gh) {κ:TS->Option ρ} {r:ρ} (h:gv S d v κ=some r): ∃S1,S.st.put d v.av=some (TS.st S1)/\S1.ok/\S1.gh=S.gh/\κ S1=some r:=by
 unfold gv at h;split at h
 ·rename_i t;obtain⟨h1,h⟩:=cX h;have h1:t<S.nt:=aw h1;refine⟨{ S with env:=(t,v)::S.env },?_,⟨fun x hx=> ?_,hS.bx⟩,rfl,h⟩
  ·simp only[St.put];rw[if_pos (show t<S.st.nt from h1)]
   congr 1
   unfold TS.st
   congr 1
   funext u
   unfold c9;simp only[fr];cases hb:Nat.beq t u with
   |true=>have :t=u:=ao hb;subst this;simp
   |false=>
    have : ¬u=t:=by intro e; subst e; rw[cc] at hb; cases hb
    rw[if_neg this];rfl
  ·rcases aV.1 hx with rfl|hx
   ·exact hv
   ·exact hS.env x hx
 ·exact⟨S,rfl,hS,rfl,h⟩
theorem sW {α:Type} {x y:Option α} {r:α} (h:wN x y none=some r):x=some r/\y=some r:=by
 unfold wN at h;split at h
 ·rename_i e;exact⟨h,by rw[<-e]; exact h⟩
 ·cases h
theorem nC {o:Oper} {t:TypeId} {x:Operand} (h:kJ o=some (t,x)): (∃t',o.op= .binOp .eql t x (.const (.slice none 0 0)) t')/\o.guard=none:=by
 unfold kJ at h;split at h
 ·rename_i t1 x1 t' ho;split at h
  ·rename_i hg;simp only[ae,am] at h;obtain⟨rfl,rfl⟩:=h;exact⟨⟨t',ho⟩,hg⟩
  ·cases h
 ·cases h
theorem pZ {o:Oper} {k:Nat} {g:FuncId} {caps:List Cl} {r sz:Nat} {us:List TypeId} {xs:List Operand} (h:oI Y S o=some (k,g,caps,r,sz,us,xs)):
  ∃f as ts x t lo len,o.op= .call { callee:= .value f,args:=as,argTypes:=ts } /\o.guard=none/\as.toList=x::xs/\ts.toList=t::us/\S.opd x= .v (.cl (.own ⟨r,[]⟩ sz lo len true))/\g<ed/\
   ((∃a b,S.opd f= .v (.cl (.c (.sc (.func (.func g) a b))))/\caps= [])\/S.opd f= .v (.fn g caps)):=by
 unfold oI at h;split at h
 ·rename_i f as ts hop;split at h
  ·cases h
  ·rename_i hg;split at h
   ·rename_i x xs' t us' e1 e2;split at h
    ·rename_i r' sz' lo len hx;split at h
     ·rename_i g' a b hf;obtain⟨h2,h⟩:=cX h;simp only[al] at h2;simp only[ae,am] at h;obtain⟨rfl,rfl,rfl,rfl,rfl,rfl,rfl⟩:=h;exact⟨f,as,ts,x,t,lo,len,hop,hg,e1,e2,hx,aw h2.1, .inl ⟨a,b,hf,rfl⟩⟩
     ·rename_i g' caps' hf;obtain⟨h2,h⟩:=cX h;simp only[al] at h2;simp only[ae,am] at h;obtain⟨rfl,rfl,rfl,rfl,rfl,rfl,rfl⟩:=h;exact⟨f,as,ts,x,t,lo,len,hop,hg,e1,e2,hx,aw h2.1, .inr hf⟩
     ·cases h
    ·cases h
   ·cases h
 ·cases h
theorem jY (hΘ:dA P Θ) (hS:S.ok): ∀ (ts:List TypeId) (as:List Operand) (κ:List V1->Option ρ) (r:ρ),gr Θ S ts as κ=some r->ts.length=as.length
 | [],[],_,_,_=>rfl
 | [],_::_,_,_,h=>by simp[gr] at h
 | _::_,[],_,_,h=>by simp[gr] at h
 |t::ts,a::as,κ,r,h=>by unfold gr at h;obtain⟨v,_,h⟩:=sK hΘ hS (ew hS a) h;rw[ba,ba,jY hΘ hS ts as _ r h]
theorem sX (hΘ:dA P Θ) (hY:fy P Y) (hS:S.ok) {ops:Array Oper} {o:Oper} {os:List Oper} {Post:St->Prop} {k:Nat} {g:FuncId} {caps:List Cl} {q sz:Nat} {us:List TypeId} {xs:List Operand} (ht:oI Y S o=some (k,g,caps,q,sz,us,xs)) {κ:TS->Option ρ} {r:ρ}
  (ih: ∀S3:TS,S3.ok->κ S3=some r->gT P ops os S3.st Post) (h:sw Θ Y S k g caps q sz us xs o.dst κ=some r):gT P ops (o::os) S.st Post:=by
 obtain⟨f,as,ts,x,t,lo,len,hop,hgd,has,hts,hx,hgk,hf⟩:=pZ ht;unfold sw at h;split at h
 ·rename_i el l hq;obtain⟨hsz0,h0⟩:=cX h;have hsz:sz=el.width:=ao hsz0;clear h hsz0;subst hsz;have h:=h0;clear h0
  have hql:q<S.gh.length:=by
   rcases bV q S.gh.length with h'|h'
   ·exact h'
   ·rw[iy h'] at hq; cases hq
  have hS0: ({ S with gh:=dp S.gh q none }:TS).ok:=TS.ok_gh hS (dM.gone _ _);have hst0: ({ S with gh:=dp S.gh q none }:TS).st= { S.st with gh:=c9 S.st.gh q none } :=jt S q;have hlen:=jY hΘ hS0 _ _ _ _ h;obtain⟨vs,h1,h⟩:=gx hΘ hS0 _ _ _ _ h
  have hcaps: ∀c∈caps,c.ok (dp S.gh q none):=by
   intro c hc;rcases hf with ⟨_,_,_,rfl⟩|hf
   ·cases hc
   ·have:=ew hS f;rw[hf] at this;exact Cl.ok_mono (dM.gone _ _) (this c hc)
  obtain⟨cs,h2,h⟩:=ju hS0 _ _ _ hcaps h
  have hargs:gU P { S.st with gh:=c9 S.st.gh q none } us xs (caps.map Cl.av)=(vs++cs.map V1.cl).map V1.av:=by unfold gU;rw[<-hst0,h1,h2,bF,aU];rfl
  have hcal:callee S.st f=some (g,caps.map Cl.av):=by unfold callee;rw[c4];rcases hf with ⟨_,_,hf,rfl⟩|hf<;>(rw[hf]; rfl)
  have hxo:=ew hS x;rw[hx] at hxo;obtain⟨_,hxo⟩:=hxo;obtain⟨_,hlo,hln⟩:=hxo rfl;have hln:=hln _ hq;subst hlo hln;have hxv:opd S.st x= .own ⟨q,[]⟩ el.width 0 l.length:=by rw[c4,hx]; rfl
  have htr:S.st.gh q=some (.sl el.width (l.map el.row)):=by show (du S.gh q).map de.tree=_;rw[hq];rfl
  cases hk:Nat.beq k 1 with
  |true=>
   rw[hk] at h;simp only[cond_true] at h;obtain⟨res,out,g1,g2,h⟩:=hY _ _ _ _ _ h;have g1:=(g1.io g rfl hgk).get;split at h
   ·rename_i t' l' _;obtain⟨hc,h⟩:=cX h;simp only[al,decide_eq_true_eq] at hc;obtain⟨rfl,hns⟩:=hc;unfold eD at h;split at h
    ·rename_i hll;have hG:dM S.gh (dp S.gh q (some ⟨t',l',none⟩)):=dM.put hq hll
     have hrp:res.av.plain=true:=by unfold pS at hns;split at hns<;>first |rfl|cases hns
     have hro:res.ok (dp S.gh q (some ⟨t',l',none⟩)):=by
      unfold pS at hns;split at hns
      ·trivial
      ·intro x hx; cases hx
      ·cases hns
     obtain⟨S3,k1,k2,_,h⟩:=eN (S:= { S with gh:=dp S.gh q (some ⟨t',l',none⟩) }) (TS.ok_gh hS hG) hro h;rw[jT S _ hql] at k1;refine gT.hand hop hgd has hlen hcal hxv htr (m:=1) (by rw[hargs]; exact g1) (.inr ⟨rfl,_,rfl,hrp,S3.st,k1,ih S3 k2 h⟩)
    ·cases h
   ·cases h
  |false=>
   rw[hk] at h;simp only[cond_false] at h;obtain⟨hfz0,h⟩:=cX h;have hfz:S.st.fz<=q:=aw hfz0;obtain⟨res,out,g1,g2,h⟩:=hY _ _ _ _ _ h;have g1:=(g1.mv g rfl).get;have hl0: (dp S.gh q none).length=S.gh.length:=by rw[dK]; simp
   have hro: (gK S.gh.length res).ok (dp S.gh q none++out.map some):=by
    have:=jW (G:=dp S.gh q none) g2
    rwa [hl0] at this
   obtain⟨S3,k1,k2,_,h⟩:=eN (S:= { S with gh:=dp S.gh q none++out.map some }) (TS.ok_gh hS0 (dM.apps _ _)) hro h;rw[show ({ S with gh:=dp S.gh q none++out.map some }:TS).st=_ from i6 { S with gh:=dp S.gh q none } res.av out,hst0,jV] at k1;exact gT.hand hop hgd has hlen hcal hxv htr (m:=0) (by rw[hargs]; exact g1) (.inl ⟨hfz,S3.st,k1,ih S3 k2 h⟩)
 ·cases h
structure fV (S S1:TS) (L:List Nat):Prop where
 env:S1.env=S.env
 bx:S1.bx=S.bx
 fz:S1.fz=S.fz
 nt:S1.nt=S.nt
 len:S1.gh.length=S.gh.length
 gh: ∀r,du S1.gh r=if L.contains r then none else du S.gh r
 was: ∀q∈L,∃tr,du S.gh q=some tr
theorem fV.refl (S:TS):fV S S [] :=⟨rfl,rfl,rfl,rfl,rfl,fun _=>by simp,fun _ h=>by cases h⟩
theorem fV.one {q:Nat} {tr:de} (h:du S.gh q=some tr):fV S { S with gh:=dp S.gh q none } [q] :=
 ⟨rfl,rfl,rfl,rfl,by simp[dK],fun r=>by
  show du (dp S.gh q none) r=_;rw[fk q r (.inr rfl)];by_cases hr:r=q
  ·subst hr; simp
  ·rw[if_neg hr,if_neg (by simpa using hr)],fun r hr=>by rw[aA.1 hr]; exact⟨tr,h⟩⟩
theorem fV.trans {S1 S2:TS} {L L':List Nat} (h:fV S S1 L) (k:fV S1 S2 L'):fV S S2 (L++L'):=
 ⟨k.env.trans h.env,k.bx.trans h.bx,k.fz.trans h.fz,k.nt.trans h.nt,k.len.trans h.len,fun r=>by
  rw[k.gh,h.gh]
  have e: (L++L').contains r=(L.contains r||L'.contains r):=by rw[bL];simp
  rw[e];cases L.contains r<;>cases L'.contains r<;>rfl,fun q hq=>by
  rcases bD.1 hq with hq|hq
  ·exact h.was q hq
  ·obtain⟨tr,ht⟩:=k.was q hq;rw[h.gh] at ht;split at ht
   ·cases ht
   ·exact⟨tr,ht⟩⟩
theorem fV.apart {S1 S2:TS} {L L':List Nat} (h:fV S S1 L) (k:fV S1 S2 L') (h1:L.Nodup) (h2:L'.Nodup): (L++L').Nodup:=by rw[List.nodup_append];refine⟨h1,h2,fun a ha b hb e=> ?_⟩;subst e;obtain⟨tr,ht⟩:=k.was a hb;rw[h.gh,if_pos (by simpa using ha)] at ht;cases ht
theorem fV.le {S1:TS} {L:List Nat} (h:fV S S1 L):dM S.gh S1.gh:=⟨by rw[h.len]; exact ar _,fun r tr _ ht=>by
 rw[h.gh] at ht;split at ht
 ·cases ht
 ·exact⟨tr,ht,rfl⟩⟩
theorem fV.ok {S1:TS} {L:List Nat} (h:fV S S1 L) (hS:S.ok):S1.ok:=
 ⟨fun x hx=>V.ok_mono h.le (hS.env x (by rw[<-h.env]; exact hx)),fun cs hcs c hc=>Cl.ok_mono h.le (hS.bx cs (by rw[<-h.bx]; exact hcs) c hc)⟩
theorem fV.st {S1:TS} {L:List Nat} (h:fV S S1 L):S1.st=dropL S.st L:=by
 unfold TS.st dropL;rw[h.env,h.bx,h.fz,h.nt,h.len];simp only
 congr 1
 funext r
 rw[h.gh];cases L.contains r<;>rfl
theorem o0 {o:Oper} {g:FuncId} {caps:List Cl} {a:pT} {us:List TypeId} {xs:List Operand} (h:lz Y S o=some (g,caps,a,us,xs)):
  ∃f as ts x t,o.op= .call { callee:= .value f,args:=as,argTypes:=ts } /\o.guard=none/\as.toList=x::xs/\ts.toList=t::us/\nu (S.opd x)=some a/\g<ed/\
   ((∃a b,S.opd f= .v (.cl (.c (.sc (.func (.func g) a b))))/\caps= [])\/S.opd f= .v (.fn g caps)):=by
 unfold lz at h;split at h
 ·rename_i f as ts hop;split at h
  ·cases h
  ·rename_i hg;split at h
   ·rename_i x xs' t us' e1 e2;split at h
    ·rename_i a' hx;split at h
     ·rename_i g' a b hf;obtain⟨h2,h⟩:=cX h;simp only[al] at h2;simp only[ae,am] at h;obtain⟨rfl,rfl,rfl,rfl,rfl⟩:=h;exact⟨f,as,ts,x,t,hop,hg,e1,e2,hx,aw h2.1, .inl ⟨a,b,hf,rfl⟩⟩
     ·rename_i g' caps' hf;obtain⟨h2,h⟩:=cX h;simp only[al] at h2;simp only[ae,am] at h;obtain⟨rfl,rfl,rfl,rfl,rfl⟩:=h;exact⟨f,as,ts,x,t,hop,hg,e1,e2,hx,aw h2.1, .inr hf⟩
     ·cases h
    ·cases h
   ·cases h
 ·cases h
theorem mJ: ∀ (L:List Nat) (S:TS),L.Nodup->(∀r∈L,∃tr,du S.gh r=some tr)->fV S { S with gh:=sx S.gh L } L
 | [],S,_,_=>fV.refl S
 |r::L,S,hnd,h=>by
  obtain⟨tr,htr⟩:=h r aE;rw[List.nodup_cons] at hnd;have h1:=fV.one htr
  have h2:=mJ L { S with gh:=dp S.gh r none } hnd.2 (fun r' hr'=>by
   obtain⟨tr',htr'⟩:=h r' (az _ hr');refine⟨tr',?_⟩;rw[h1.gh,if_neg]
   ·exact htr'
   ·intro hc;rw[bq,aA] at hc;subst hc;exact hnd.1 hr')
  exact h1.trans h2
theorem i8: ∀ (cs:List Cl) (ys:List C) (L:List Nat),iv S cs=some (ys,L)->(∀c∈cs,c.ok S.gh)->ys.length=cs.length/\(fD ys).length=L.length/\
  (∀ (k r:Nat),L[k]? =some r-> ∃el l,(fD ys)[k]? =some ⟨el,l,none⟩/\du S.gh r=some ⟨el,l,none⟩)/\
  ∀ (w:World) (bt bt':Bt) (m:Nat),(∀ (k r:Nat),L[k]? =some r->bt'.β ⟨m+k,[]⟩=bt.β ⟨r,[]⟩/\bt'.κ ⟨m+k,[]⟩=bt.κ ⟨r,[]⟩/\m+k<bt'.ng)->
    ∀ (j:Nat) (c c':Cl) (u:Value),cs[j]? =some c->(i5 ys m)[j]? =some c'->VR w bt c.av u->VR w bt' c'.av u
 | [],ys,L,h,_=>by simp only[iv,ae,am] at h;obtain⟨rfl,rfl⟩:=h;exact⟨rfl,rfl,fun k r hk=>by simp at hk,fun w bt bt' m _ j c c' u hj=>by simp at hj⟩
 |c0::cs,ys,L,h,hok=>by
  unfold iv at h;split at h
  ·cases ‹_= []›
  ·rename_i v cs' e;simp only[aY] at e;obtain⟨rfl,rfl⟩:=e;split at h
   ·rename_i ys' L' hr;simp only[ae,am] at h;obtain⟨rfl,rfl⟩:=h;obtain⟨h1,h2,h3,h4⟩:=i8 cs ys' L' hr (fun c hc=>hok c (az _ hc));refine⟨by simp[h1],h2,h3,fun w bt bt' m hm j c c' u hj hj' hv=> ?_⟩;cases j with
    |zero=>
     simp only[i5,aB,ae] at hj hj';subst hj hj';cases hv with
     |sc h=>exact .sc h
    |succ j=>exact h4 w bt bt' m hm j c c' u (by simpa using hj) (by simpa [i5] using hj') hv
   ·cases h
  ·rename_i r sz lo len cs' e;simp only[aY] at e;obtain⟨rfl,rfl⟩:=e;split at h
   ·rename_i el l hg;obtain⟨hsz,h0⟩:=cX h;have hsz:sz=el.width:=ao hsz;clear h;split at h0
    ·rename_i ys' L' hr;simp only[ae,am] at h0;obtain⟨rfl,rfl⟩:=h0;obtain⟨h1,h2,h3,h4⟩:=i8 cs ys' L' hr (fun c hc=>hok c (az _ hc));obtain⟨_,hlo⟩:=hok (.own ⟨r,[]⟩ sz lo len true) aE;obtain⟨_,hlo,hln⟩:=hlo rfl;have hln:=hln _ hg;simp only at hln;refine⟨by simp[h1],by simp[fD,h2],fun k r' hk=> ?_,fun w bt bt' m hm j c c' u hj hj' hv=> ?_⟩
     ·cases k with
      |zero=>simp only[aB,ae] at hk;subst hk;exact⟨el,l,rfl,hg⟩
      |succ k=>exact h3 k r' (by simpa using hk)
     ·cases j with
      |zero=>
       simp only[i5,aB,ae] at hj hj';subst hj hj' hsz hlo hln;obtain⟨e1,e2,e3⟩:=hm 0 r rfl;rw[bU] at e1 e2 e3;cases hv with
       |own hp hc hk ha=>exact .own e3 hc (by rw[e2]; exact hk) (by rw[e1]; exact ha)
      |succ j=>exact h4 w bt bt' (m+1) (fun k r' hk=>by
        have:=hm (k+1) r' (by simpa using hk)
        rwa [show m+(k+1)=m+1+k by omega] at this) j c c' u (by simpa using hj) (by simpa [i5] using hj') hv
    ·cases h0
   ·cases h
  ·cases h
theorem fW: ∀ (ys:List C) (m:Nat),(i5 ys m).length=ys.length
 | [],_=>rfl
 | .sc v::r,m=>by simp[i5,fW r m]
 | .ls t l::r,m=>by simp[i5,fW r (m+1)]
theorem o1: ∀ (L:List Nat) (S:TS) (out:List de) (κ:TS->Option ρ) (r:ρ),L.Nodup->lA S L out κ=some r->
  ∃Sp:TS,Sp.env=S.env/\Sp.bx=S.bx/\Sp.fz=S.fz/\Sp.nt=S.nt/\Sp.gh.length=S.gh.length/\out.length=L.length/\(∀ (k q:Nat),L[k]? =some q->du Sp.gh q=out[k]?)/\(∀q,q∉L->du Sp.gh q=du S.gh q)/\dM S.gh Sp.gh/\κ Sp=some r
 | [],S,out,κ,r,_,h=>by
   cases out with
   |nil=>exact⟨S,rfl,rfl,rfl,rfl,rfl,rfl,fun k q hk=>by simp at hk,fun _ _=>rfl,dM.refl _,h⟩
   |cons x out=>simp[lA] at h
 |q::L,S,out,κ,r,hnd,h=>by
  rw[List.nodup_cons] at hnd;cases out with
  |nil=>simp[lA] at h
  |cons x out=>
   obtain⟨t,l',hole⟩:=x;cases hole with
   |some y=>simp[lA] at h
   |none=>
    simp only[lA] at h;split at h
    ·rename_i el l hg;obtain⟨ht,h⟩:=cX h;have ht:t=el:=by simpa using ht
     subst ht;obtain⟨hl,h⟩:=dh h;obtain⟨Sp,a1,a2,a3,a4,a5,a6,a7,a8,a9,h⟩:=o1 L { S with gh:=dp S.gh q (some ⟨t,l',none⟩) } out κ r hnd.2 h;have hql:=iz hg;have hG:dM S.gh (dp S.gh q (some ⟨t,l',none⟩)):=dM.put hg hl;refine⟨Sp,a1,a2,a3,a4,by rw[a5]; simp[dK],by simp[a6],fun k q' hk=> ?_,fun q' hq'=> ?_,hG.trans a9,h⟩
     ·cases k with
      |zero=>simp only[aB,ae] at hk;subst hk;rw[a8 q hnd.1];show du (dp S.gh q _) q=_;rw[fk q q (.inl hql),if_pos rfl];rfl
      |succ k=>rw[a7 k q' (by simpa using hk)];simp
     ·rw[a8 q' (fun hm=>hq' (az _ hm))];show du (dp S.gh q _) q'=_;rw[fk q q' (.inl hql),if_neg (fun e=>hq' (by rw[e]; exact aE))]
    ·cases h
theorem lM {res:V} (h:pS res=true):res.av.plain=true/\ ∀G,res.ok G:=by
 unfold pS at h;split at h
 ·exact⟨rfl,fun _=>trivial⟩
 ·exact⟨rfl,fun _ x hx=>by cases hx⟩
 ·cases h
theorem rt (hΘ:dA P Θ) (hY:fy P Y) (hS:S.ok) {ops:Array Oper} {o:Oper} {os:List Oper} {Post:St->Prop} {g:FuncId} {caps:List Cl} {a:pT} {us:List TypeId} {xs:List Operand} (ht:lz Y S o=some (g,caps,a,us,xs)) {κ:TS->Option ρ} {r:ρ}
  (ih: ∀S3:TS,S3.ok->κ S3=some r->gT P ops os S3.st Post) (h:nv Θ Y S g caps a us xs o.dst κ=some r):gT P ops (o::os) S.st Post:=by
 obtain⟨f,as,ts,x,t0,hop,hgd,has,hts,hx,hgk,hf⟩:=o0 ht
 have hcal:callee S.st f=some (g,caps.map Cl.av):=by unfold callee;rw[c4];rcases hf with ⟨_,_,hf,rfl⟩|hf<;>(rw[hf]; rfl)
 have others: ∀ {S0:TS} (hS0:S0.ok) (hG:dM S.gh S0.gh) {K:List V1->List Cl->Option ρ},(gr Θ S0 us xs fun vs=>lx (rj S0 none) caps fun ks=>K vs ks)=some r->
   ∃vs ks,us.length=xs.length/\gU P S0.st us xs (caps.map Cl.av)=(vs++ks.map V1.cl).map V1.av/\K vs ks=some r:=by
  intro S0 hS0 hG K h;have hlen:=jY hΘ hS0 _ _ _ _ h;obtain⟨vs,h1,h⟩:=gx hΘ hS0 _ _ _ _ h
  have hcaps: ∀c∈caps,c.ok S0.gh:=by
   intro c hc;rcases hf with ⟨_,_,_,rfl⟩|hf
   ·cases hc
   ·have:=ew hS f;rw[hf] at this;exact Cl.ok_mono hG (this c hc)
  obtain⟨ks,h2,h⟩:=ju hS0 _ _ _ hcaps h;refine⟨vs,ks,hlen,?_,h⟩;unfold gU;rw[h1,h2,bF,aU];rfl
 have hxo:=ew hS x;cases a with
 |agg cs=>
  have hxv:S.opd x= .v (.agg cs):=by
   unfold nu at hx;split at hx
   ·cases hx
   ·rename_i e;simp only[ae,pT.agg.injEq] at hx;rw[e,hx]
   ·cases hx
  rw[hxv] at hxo;unfold nv at h;simp only at h;split at h
  ·rename_i ys L hga;obtain⟨hnd,h0⟩:=cX h;clear h;have hnd:L.Nodup:=kE.1 hnd;obtain⟨g1,g2,g3,g4⟩:=i8 cs ys L hga hxo
   have hd:=mJ L S hnd (fun q hq=>by obtain⟨k,hk,hkq⟩:=aW hq;obtain⟨el,l,_,e⟩:=g3 k q (by rw[<-hkq]; exact ai hk);exact⟨_,e⟩)
   obtain⟨vs,ks,hlen,hargs,h⟩:=others (hd.ok hS) hd.le h0;obtain⟨res,out,k1,k2,h⟩:=hY _ _ _ _ _ h;have k1:=(k1.io g rfl hgk).getA;obtain⟨hns,h⟩:=cX h;obtain⟨hpl,hrok⟩:=lM hns;obtain⟨Sp,a1,a2,a3,a4,a5,a6,a7,a8,a9,h⟩:=o1 L S out _ r hnd h;have hSp:Sp.ok:=⟨fun x hx=>V.ok_mono a9 (hS.env x (by rw[<-a1]; exact hx)),fun cs hcs c hc=>Cl.ok_mono a9 (hS.bx cs (by rw[<-a2]; exact hcs) c hc)⟩
   obtain⟨S3,m1,m2,_,h⟩:=eN hSp (hrok _) h
   have hGave:lp S.st (L.map fun r=>⟨r,[]⟩) ((fD ys).map de.tree):=pI (by simp[g2]) hnd (fun k q hk=>by obtain⟨el,l,e1,e2⟩:=g3 k q hk;refine⟨el.width,l.map el.row,by rw[an,e1]; rfl,?_⟩;show (du S.gh q).map de.tree=_;rw[e2];rfl)
   have hps: (L.map fun r=>(⟨r,[]⟩:da)).length=(fD ys).length:=by rw[ay,g2]
   have hout: (out.map de.tree).length=L.length:=by rw[ay,a6]
   refine gT.handG hop hgd has hlen hcal (pJ L) (fun w0 W bt w hI=>hI.dropL L) hGave (av0:= .agg ((i5 ys 0).map Cl.av)) (fun w bt u hv=> ?_) (res:=res.av) (out:=out.map de.tree) (by rw[<-hd.st,hargs,hps]; exact k1)
    (pK hGave hout (by unfold TS.st; simp only[a1]) (by unfold TS.st; simp only[a2]) (by unfold TS.st; simp only[a2]) (by unfold TS.st; simp only[a5]) a3 a4 (fun k q hk=>by
      show (du Sp.gh q).map de.tree=_;rw[a7 k q hk,an]) (fun q hq=>by
      show (du Sp.gh q).map de.tree=(du S.gh q).map de.tree;rw[a8 q hq])) hpl ⟨S3.st,m1,ih S3 m2 h⟩
   rw[c4,hxv] at hv;have hv:VR w bt (.agg (cs.map Cl.av)) u:=hv;cases hv with
   |agg hl ho hr=>
    rename_i us0;refine .agg (by rw[ay,fW,g1]; simpa using hl) ho (fun k c u hk hu=> ?_);rw[an] at hk;simp only[aj] at hk;obtain⟨c',hc',rfl⟩:=hk
    have hkl:k<cs.length:=by have:=(af.1 hc').1;rw[fW,g1] at this;exact this
    refine g4 w bt _ 0 (fun i q hi=> ?_) k cs[k] c' u (ai hkl) hc' (hr k _ u (by rw[an,ai hkl]; rfl) hu)
    have hpi: (L.map fun r=>(⟨r,[]⟩:da))[(⟨0+i,[]⟩:da).r]? =some ⟨q,[]⟩:=by rw[an];show (L[0+i]?).map _=_;rw[aP,hi];rfl
    have hpl2:=jM hpi;refine⟨?_,?_,?_⟩
    ·show bt.β (nQ _ _)=_;rw[hpl2];rfl
    ·show bt.κ (nQ _ _)=_;rw[hpl2];rfl
    ·show 0+i< (L.map fun r=>(⟨r,[]⟩:da)).length;rw[ay,aP];exact (af.1 hi).1
  ·cases h
 |nest q i j sz lo len=>
  obtain⟨w0,hxv⟩: ∃w,S.opd x= .v (.cl (.own ⟨q,[(i,j)]⟩ sz lo len w)):=by
   unfold nu at hx;split at hx
   ·rename_i w e;simp only[ae,pT.nest.injEq] at hx;obtain⟨rfl,rfl,rfl,rfl,rfl,rfl⟩:=hx;exact⟨_,e⟩
   ·cases hx
   ·cases hx
  rw[hxv] at hxo;unfold nv at h;simp only at h;split at h
  ·rename_i t l hq;obtain⟨y,hy,h⟩:=ah.1 h;split at h
   ·rename_i el v hv;obtain⟨hsz,h0⟩:=cX h;have hsz:sz=el.width:=ao hsz;clear h;subst hsz;obtain⟨hll,h1⟩:=dh h0;clear h0;obtain⟨rfl,rfl⟩:=hll;have hql:=iz hq;have hhole:dM S.gh (dp S.gh q (some ⟨t,l,some (i,j)⟩)):=dM.put hq rfl;obtain⟨vs,ks,hlen,hargs,h⟩:=others (S0:= { S with gh:=dp S.gh q (some ⟨t,l,some (i,j)⟩) }) (TS.ok_gh hS hhole) hhole h1;clear h1;obtain⟨res,out,k1,k2,h⟩:=hY _ _ _ _ _ h;have k1:=(k1.io g rfl hgk).get;split at h
    ·rename_i t' v' _;obtain⟨hc,h⟩:=cX h;simp only[al,decide_eq_true_eq] at hc;obtain⟨rfl,hns⟩:=hc;obtain⟨hpl,hrok⟩:=lM hns;obtain⟨hvl,h⟩:=dh h;split at h
     ·rename_i z hz;have hG:dM S.gh (dp S.gh q (some ⟨t,l.set i z,none⟩)):=dM.put hq (by simp);obtain⟨S3,m1,m2,_,h⟩:=eN (S:= { S with gh:=dp S.gh q (some ⟨t,l.set i z,none⟩) }) (TS.ok_gh hS hG) (hrok _) h
      have hrowy: (l.map t.row)[i]? =some ((t.flat y).map C.tree):=by rw[an,hy];simp only[ax,t.row_flat]
      have hcell: ((t.flat y).map C.tree)[j]? =some (.sl t'.width (v.map t'.row)):=by rw[dE] at hv;rw[an,hv];rfl
      have hgq:S.st.gh q=some (.sl t.width (l.map t.row)):=by show (du S.gh q).map de.tree=_;rw[hq];rfl
      have hlook:S.st.look ⟨q,[(i,j)]⟩= .sl t'.width (v.map t'.row):=by unfold St.look;simp only[hgq,T.go,T.cell,ap,hrowy,aD,hcell]
      have hforget: ∀ (w0:World) (W:Nat->Prop) (bt:Bt) (w:World),dn w0 W bt S.st w->_:=fun w0 W bt w hI=>hI.forget hlook
      have hSm: ({ S with gh:=dp S.gh q (some ⟨t,l,some (i,j)⟩) }:TS).st=S.st.setAt ⟨q,[(i,j)]⟩ .dd:=by rw[jT S _ hql];unfold St.setAt;simp only[hgq,ax];rfl
      have hSp: ({ S with gh:=dp S.gh q (some ⟨t,l.set i z,none⟩) }:TS).st=S.st.setAt ⟨q,[(i,j)]⟩ (.sl t'.width (v'.map t'.row)):=by
       rw[jT S _ hql];unfold St.setAt;simp only[hgq,ax,T.put]
       congr 3
       show T.sl t.width ((l.set i z).map t.row)=_;rw[List.map_set,t.row_flat z,t.unflat_some _ _ hz,dK,List.map_set];simp only[ap,hrowy,aD];rfl
      rw[hSp] at m1;refine gT.handG hop hgd has hlen hcal (Sm:=S.st.setAt ⟨q,[(i,j)]⟩ .dd) (ps:= [⟨q,[(i,j)]⟩]) ?_ (fun w0 W bt w hI=>(hforget w0 W bt w hI).1) (sg hlook) (av0:= .own ⟨0,[]⟩ t'.width 0 v.length) (fun w bt u hv=> ?_) (res:=res.av) (out:= [.sl t'.width (v'.map t'.row)]) (by rw[<-hSm,hargs]; exact k1) (sj hlook (by simpa using hvl)) hpl ⟨S3.st,m1,ih S3 m2 h⟩
      ·refine⟨rfl,rfl,rfl,fun p s rs hp=> ?_⟩;rw[fH] at hp;by_cases hpr:p.r=q
       ·rw[if_pos hpr,hgq] at hp;simp only at hp
        rcases T.put_spec .dd [(i,j)] (.sl t.width (l.map t.row)) (.inl (by have:=hlook;unfold St.look at this;simp only[hgq] at this;rw[this];simp)) p.l s rs hp with ⟨m',hm,hgo⟩| ⟨rs0,e1,e2,e3,e4⟩
        ·rw[T.dd_go] at hgo; cases hgo
        ·refine⟨fun p' hp' hu=> ?_,rs0,by unfold St.look; rw[hpr,hgq]; exact e1⟩;rw[aA.1 hp'] at hu;obtain⟨_,m,b⟩:=hu;exact e3 m b.symm
       ·rw[if_neg hpr] at hp;refine⟨fun p' hp' hu=> ?_,rs,hp⟩;rw[aA.1 hp'] at hu;exact hpr hu.1
      ·rw[c4,hxv] at hv;have hv:VR w bt (.own ⟨q,[(i,j)]⟩ t'.width 0 v.length) u:=hv;cases hv with
       |own hp hc hk ha=>exact .own cE hc hk ha
     ·cases h
    ·cases h
   ·cases h
  ·cases h
theorem sY {el:Ty} (hw:el.width=1) (hf:el.flatB=true) {z:el.D} (hz:el.unflat el.zcs=some z): ∃zv,el.zvs= [zv] /\eV zv=true/\el.row z= [.sc zv] :=by
 have hr:el.row z=el.zcs.map C.tree:=by rw[el.row_flat,el.unflat_some _ _ hz]
 rw[hr];clear hr hz z;cases el with
 |i k=>exact⟨_,rfl,rfl,rfl⟩
 |b=>exact⟨_,rfl,rfl,rfl⟩
 |s=>exact⟨_,rfl,rfl,rfl⟩
 |st n=>cases n<;>first |exact⟨_,rfl,rfl,rfl⟩| (exfalso; revert hw; decide)| (exfalso; revert hf; decide)
 |ls t=>cases hf
theorem ru (hΘ:dA P Θ) (hS:S.ok) {ops:Array Oper} {o:Oper} {os:List Oper} {Post:St->Prop} {t:TypeId} {q sz lo len:Nat} (ht:nw S o=some (t,q,sz,lo,len)) {κ:TS->Option ρ} {r:ρ}
  (ih: ∀S3:TS,S3.ok->κ S3=some r->gT P ops os S3.st Post) (h:pU Θ S t q sz lo len o.dst κ=some r):gT P ops (o::os) S.st Post:=by
 unfold nw at ht;split at ht
 ·rename_i as ts hop;split at ht
  ·cases ht
  ·rename_i hgd;split at ht
   ·rename_i x t' e1 e2;split at ht
    ·rename_i r' sz' lo' len' w hx;simp only[ae,am] at ht;obtain⟨rfl,rfl,rfl,rfl,rfl⟩:=ht;have e1:as= #[x] :=by apply Array.ext'; simpa using e1
     have e2:ts= #[t'] :=by apply Array.ext'; simpa using e2
     subst e1 e2;unfold pU at h;split at h
     ·rename_i ti hti;split at h
      ·rename_i el l hq;obtain⟨hc,h0⟩:=cX h;simp only[al,decide_eq_true_eq] at hc;obtain⟨⟨⟨hty,hw⟩,hsz⟩,hfl⟩:=hc;have hw:el.width=1:=ao hw;have hsz:sz'=1:=ao hsz;split at h0
       ·rename_i z hz;unfold eD at h0;split at h0
        ·rename_i hle;obtain⟨elT',g1,g2,g3,g4,g5,g6⟩:=(hΘ _ _ hti).el el hty
         have hql:r'<S.gh.length:=by
          rcases bV r' S.gh.length with h'|h'
          ·exact h'
          ·rw[iy h'] at hq; cases hq
         have hG:dM S.gh (dp S.gh r' (some ⟨el,l.take lo'++List.replicate len' z++l.drop (lo'+len'),none⟩)):=dM.put hq (by simp; omega);obtain⟨S3,k1,k2,_,h⟩:=eN (v:= .tup []) (TS.ok_gh hS hG) (fun x hx=>by cases hx) h0;rw[jT S _ hql] at k1;obtain⟨zv,hzv,hsc,hrow⟩:=sY hw hfl hz
         have htr:S.st.gh r'=some (.sl 1 (l.map el.row)):=by show (du S.gh r').map de.tree=_;rw[hq];show some (T.sl el.width (l.map el.row))=_;rw[hw]
         have hxv:opd S.st x= .own ⟨r',[]⟩ 1 lo' len':=by rw[c4,hx,<-hsz]; rfl
         refine gT.clear hop hgd g1 (by rw[g6,hzv]) hsc hxv htr (by simpa using hle) ⟨S3.st,?_,ih S3 k2 h⟩;rw[<-k1]
         congr 1
         show _=({ S.st with gh:=c9 S.st.gh r' (some (T.sl el.width ((l.take lo'++List.replicate len' z++l.drop (lo'+len')).map el.row))) }:St);rw[hw];simp only[bF,bh,bz,cU,hrow]
        ·cases h0
       ·cases h0
      ·cases h
     ·cases h
    ·cases ht
   ·cases ht
 ·cases ht
theorem uf (hΘ:dA P Θ) (hY:fy P Y) {ops:Array Oper}: ∀ (os:List Oper) (S:TS) (κ:TS->Option ρ) (r:ρ),(∀o∈os,fL P o=true)->S.ok->kB Θ Y ops.toList os S κ=some r->
  gT P ops os S.st (fun S'=> ∃S1:TS,S'=S1.st/\S1.ok/\κ S1=some r):=by
 intro os
 induction os with
 |nil=>intro S κ r _ hS h; exact gT.nil ⟨S,rfl,hS,h⟩
 |cons o os ih=>
  intro S κ r hok hS h;unfold kB at h;cases hn:kJ o with
  |some tx=>
   obtain⟨t,x⟩:=tx;rw[hn] at h;simp only at h;obtain⟨hs,h⟩:=cX h;obtain⟨⟨t',ho⟩,hg⟩:=nC hn;unfold vZ at hs;split at hs
   ·rename_i ti hti;split at hs
    ·rename_i e he;obtain⟨el,hel,_⟩:=(hΘ t ti hti).el e he;split at h
     ·rename_i t1 l hx
      have way: ∀ (b:Bool),(gv S o.dst (oJ b) fun S3=>kB Θ Y ops.toList os S3 κ)=some r-> ∃S1,S.st.put o.dst (.sc (.bool b))=some S1/\gT P ops os S1 (fun S'=> ∃S1:TS,S'=S1.st/\S1.ok/\κ S1=some r):=by intro b hb;obtain⟨S3,g5,g6,_,h⟩:=eN (v:=oJ b) hS trivial hb;exact⟨S3.st,g5,ih S3 κ r (fun x hx=>hok x (az _ hx)) g6 h⟩
      have hxv:opd S.st x= .ro t1.width (l.map t1.row):=by rw[c4,hx]; rfl
      cases l with
      |nil=>obtain⟨a1,a2⟩:=sW (show wN _ _ none=some r from h);exact gT.eqnil hel ho hg hxv (fun _=>way true a1) (way false a2)
      |cons y l=>exact gT.eqnil hel ho hg hxv (fun h=>by cases h) (way false h)
     ·cases h
    ·cases hs
   ·cases hs
  |none=>
  rw[hn] at h;simp only at h;cases hcl:nw S o with
  |some z=>obtain⟨t,q,sz,lo,len⟩:=z;rw[hcl] at h;exact ru hΘ hS hcl (fun S3 hS3 h3=>ih S3 κ r (fun x hx=>hok x (az _ hx)) hS3 h3) h
  |none=>
  rw[hcl] at h;simp only at h;cases hh:oI Y S o with
  |some z=>obtain⟨k,g,caps,q,sz,us,xs⟩:=z;rw[hh] at h;exact sX hΘ hY hS hh (fun S3 hS3 h3=>ih S3 κ r (fun x hx=>hok x (az _ hx)) hS3 h3) h
  |none=>
  rw[hh] at h;simp only at h;cases hh':lz Y S o with
  |some z=>obtain⟨g,caps,a,us,xs⟩:=z;rw[hh'] at h;exact rt hΘ hY hS hh' (fun S3 hS3 h3=>ih S3 κ r (fun x hx=>hok x (az _ hx)) hS3 h3) h
  |none=>
  rw[hh'] at h;simp only at h;obtain⟨b,S1,h1,h2,h3,h4,h⟩:=oZ hS h;refine gT.cons (b:=b) (hok o aE) h1 ?_;cases b with
  |true=>simp only[cond_true] at h;obtain⟨D,v,S2,g1,g2,g3,g4,h⟩:=oY hΘ hY h3 h;obtain⟨S3,g5,g6,_,h⟩:=eN g3 g4 h;rw[if_pos rfl];refine⟨D,S3.st,g1,?_,ih S3 κ r (fun x hx=>hok x (az _ hx)) g6 h⟩;unfold one;rw[<-h2,g2];exact g5
  |false=>simp only[cond_false] at h;obtain⟨S3,g5,g6,_,h⟩:=eN (v:= .tup []) h3 (fun x hx=>by cases hx) h;rw[if_neg (by simp)];exact⟨S3.st,by rw[<-h2]; exact g5,ih S3 κ r (fun x hx=>hok x (az _ hx)) g6 h⟩
theorem ug {D D':fR} {X:St} {o:Oper} (h:D o.dst=D' o.dst):cY D P X o=cY D' P X o:=by
 obtain⟨dst,op,ty,pos,aft,gd⟩:=o;cases op with
 |call c=>
  obtain⟨cl,as,ts⟩:=c;cases cl with
  |value f=>simp only[cY]; simp only at h; rw[h]
  |invoke a b=>rfl
  |builtin b=>cases b<;>rfl
 |unOp op t x=>cases op<;>rfl
 |binOp op t x y t'=>cases op<;>rfl
 |makeFunc fn first caps=>cases fn<;>rfl
 |slice t x lo hi mx=>cases mx<;>rfl
 | _=>rfl
theorem qy {D D':fR} {X:St} {o:Oper} (h:D o.dst=D' o.dst):dv D P X o=dv D' P X o:=by
 obtain⟨dst,op,ty,pos,aft,gd⟩:=o;cases op with
 |call c=>
  obtain⟨cl,as,ts⟩:=c;cases cl with
  |value f=>simp only[dv]; simp only at h; rw[h]
  |invoke a b=>rfl
  |builtin b=>cases b<;>rfl
 | _=>rfl
theorem v7 {D D':fR} {ops:Array Oper}: ∀ (os:List Oper) (X:St),(∀o∈os,D o.dst=D' o.dst)->kN D P ops os X=kN D' P ops os X:=by
 intro os
 induction os with
 |nil=>intro X _; rfl
 |cons o os ih=>intro X h;have h1:=h o aE;have h2: ∀X,kN D P ops os X=kN D' P ops os X:=fun X=>ih X (fun x hx=>h x (az _ hx));simp only[kN,h2,ug h1,qy h1]
theorem lN: ∀ (l m:List (Option de)) (n:Nat),gone n l (l++m)= []
 | [],m,n=>by cases m<;>rfl
 |x::l,m,n=>by
  cases x with
  |none=>exact lN l m (n+1)
  |some y=>exact lN l m (n+1)
theorem p6 (l:List de):sy (l.map some)=l.map de.tree:=by unfold sy;rw[aU];rfl
theorem uh (S:TS) (out:List de):S.st.make ⟨S.st.ng,out.map de.tree,[]⟩=({ S with gh:=S.gh++out.map some }:TS).st:=by
 rw[i6 S .dead out];unfold St.make eW;simp only[ay]
 congr 1
theorem fV.make {S1:TS} {L:List Nat} (h:fV S S1 L) (x:de):S.st.make ⟨S.st.ng,[x.tree],eG L⟩=({ S1 with gh:=S1.gh++ [some x] }:TS).st:=by
 rw[lC,h.st,h.len];unfold St.make dropL;simp only[cO,eM]
 congr 1
 funext r
 unfold c9;by_cases hr:r=S.gh.length
 ·subst hr;rw[if_pos rfl,if_pos ⟨ar _,cw _⟩];simp[TS.st]
 ·rw[if_neg hr,if_neg (by show ¬ (S.gh.length<=r/\r<S.gh.length+1); omega)]
theorem qz: ∀ (l m x:List (Option de)) (n:Nat) (L:List Nat),m.length=l.length->(∀k,k<l.length->(((∃y,l[k]? =some (some y))/\m[k]? =some none)↔(n+k)∈L))->gone n l (m++x)=(List.range' n l.length).filter fun r=>L.contains r
 | [],m,x,n,L,hl,_=>by have :m= [] :=be hl;subst this;cases x<;>rfl
 |a::l,[],x,n,L,hl,_=>by cases hl
 |a::l,b::m,x,n,L,hl,h=>by
  have h0:=h 0 (Nat.zero_lt_succ _)
  have ih:=qz l m x (n+1) L (by simpa using hl) (fun k hk=>by have:=h (k+1) (by simpa using hk);simp only[cG] at this;rw[this,show n+1+k=n+(k+1) by omega])
  simp only[aB,ae,bU] at h0;rw[ba,bZ,List.filter_cons];cases a with
  |none=>
   have : ¬n∈L:=fun hn=>by obtain⟨⟨y,hy⟩,_⟩:=h0.2 hn;cases hy
   rw[if_neg (by simpa using this),<-ih];cases b<;>rfl
  |some y=>
   cases b with
   |none=>have :n∈L:=h0.1 ⟨⟨y,rfl⟩,rfl⟩;rw[if_pos (by simpa using this),<-ih];rfl
   |some z=>
    have : ¬n∈L:=fun hn=>by have:=(h0.2 hn).2;cases this
    rw[if_neg (by simpa using this),<-ih];rfl
theorem nD {L:List Nat} {N:Nat} (h: ∀r∈L,r<N):eG L=(List.range N).filter fun r=>L.contains r:=by
 have top:mR L<=N:=by
  induction L with
  |nil=>exact cr _
  |cons a l ih=>unfold mR;have h1:=h a aE;have h2:=ih (fun r hr=>h r (az _ hr));omega
 unfold eG;obtain⟨k,rfl⟩: ∃k,N=mR L+k:=⟨N-mR L,by omega⟩
 rw[b8,b8,<-List.range'_append_1,List.filter_append]
 have : (List.range' (0+mR L) k).filter (fun r=>L.contains r)= [] :=by rw[List.filter_eq_nil_iff];intro r hr hc;have h1:=nc (l:=L) (r:=r) (by simpa using hc);have h2:=(List.mem_range'_1.1 hr).1;omega
 rw[this,bm]
theorem fV.gone {S1:TS} {L:List Nat} (h:fV S S1 L) (x:List (Option de)):gone 0 S.gh (S1.gh++x)=eG L:=by
 rw[nD (N:=S.gh.length) (fun r hr=>by obtain⟨tr,ht⟩:=h.was r hr;exact iz ht),b8]
 refine qz _ _ _ _ _ h.len (fun k hk=> ?_);rw[aP];have g:=h.gh k;unfold du at g;rw[dE,dE] at g;have hk1:k<S1.gh.length:=by rw[h.len]; exact hk
 rw[ai hk,ai hk1] at g ⊢;simp only[aD,ae] at g ⊢;constructor
 ·rintro⟨⟨y,hy⟩,hn⟩
  rw[hn,hy] at g;split at g
  ·rename_i hc;simpa using hc
  ·cases g
 ·intro hL;obtain⟨tr,ht⟩:=h.was k hL;unfold du at ht;rw[dE,ai hk] at ht;simp only[aD] at ht;rw[if_pos (by simpa using hL)] at g;exact⟨⟨tr,ht⟩,g⟩
theorem iB {G:List (Option de)} {r j:Nat} {c:Cl} (h:c.ok G) (hr:G.length<=r):fv r j c=c:=by
 have hb: ∀p:da,p.r<G.length->Nat.beq p.r r=false:=fun p hp=>by
  cases hx:Nat.beq p.r r with
  |false=>rfl
  |true=>have:=ao hx;omega
 cases c with
 |own p sz lo len w=>simp only[fv];rw[hb p h.1];split<;>rfl
 |ptrT p sz a b=>simp only[fv];rw[hb p h];split<;>rfl
 | _=>rfl
theorem fQ {α:Type} {f:α->α}: ∀ {l:List α},(∀x∈l,f x=x)->l.map f=l
 | [],_=>rfl
 |a::l,h=>by rw[aJ,h a aE,fQ fun x hx=>h x (az _ hx)]
theorem o2 (hS:S.ok) {r j:Nat} (hr:S.gh.length<=r):S.kill r j=S:=by
 have v1: ∀v:V1,v.ok S.gh->gb r j v=v:=by
  intro v hv;cases v with
  |cl c=>simp only[gb]; rw[iB hv hr]
  |agg cs=>simp only[gb]; rw[fQ fun c hc=>iB (hv c hc) hr]
  |fn f cs=>simp only[gb]; rw[fQ fun c hc=>iB (hv c hc) hr]
 have e1:S.env.map (fun x=>(x.1,mz r j x.2))=S.env:=by
  refine fQ (fun x hx=> ?_);have hx:=hS.env x hx;obtain⟨t,v⟩:=x;cases v with
  |v x=>simp only[mz]; rw[v1 x hx]
  |tup l=>simp only[mz]; rw[fQ fun c hc=>v1 c (hx c hc)]
 have e2:S.bx.map (fun cs=>cs.map (fv r j))=S.bx:=by exact fQ (fun cs hcs=>fQ (fun c hc=>iB (hS.bx cs hcs c hc) hr))
 unfold TS.kill;rw[e1,e2]
theorem uj (hS:S.ok) {S1:TS} {no j:Nat} (hno:S.gh.length<=no) {et:Option Ty} {c:Cl} {x:C} (hc:c.ok S.gh) (h:dN S no j et c=some (x,S1)):
  ∃L,fV S S1 L/\L.Nodup/\en S.st (pi et) c.av=some (x.tree,L):=by
 have wp: ∀t:Ty,¬pi (some t)=0:=fun t e=>by have:=t.width_pos;have e':t.width=0:=e;omega
 cases c with
 |c y=>
  cases y with
  |sc v=>
   cases et with
   |none=>simp only[dN,ae,am] at h;obtain⟨rfl,rfl⟩:=h;exact⟨[],fV.refl _,cS,rfl⟩
   |some t=>simp[dN] at h
  |ls t l=>cases et<;>simp[dN] at h
 |em=>
  cases et with
  |none=>simp[dN] at h
  |some t=>simp only[dN,ae,am] at h;obtain⟨rfl,rfl⟩:=h;rw[o2 hS hno];refine⟨[],fV.refl _,cS,?_⟩;unfold en;rw[if_neg (wp t)];rfl
 |own p sz lo len wh=>
  obtain⟨pr,pl⟩:=p;cases wh with
  |false=>cases et<;>simp[dN] at h
  |true=>
   cases et with
   |none=>simp[dN] at h
   |some t=>
    cases pl with
    |cons a l=>simp[dN] at h
    |nil=>
     simp only[dN] at h;obtain⟨h1,h⟩:=cX h;simp only[al,bR] at h1;obtain⟨⟨h1,h2⟩,h3⟩:=h1;have h1:t.width=sz:=ao h1;have h2:S.fz<=pr:=aw h2;split at h
     ·rename_i tr htr;split at h
      ·rename_i hh;obtain⟨h4,h⟩:=cX h;have h4':tr.t.width=sz:=ao h4;simp only[ae,am] at h;obtain⟨rfl,rfl⟩:=h;have hg:=de.look htr;obtain⟨tt,l,hole⟩:=tr;simp only at hh h4';subst hh;obtain⟨e1,e2,e3⟩:=ib hc (fun _=>hg);have hd:=fV.one hg;rw[o2 (hd.ok hS) (by rw[hd.len]; exact hno)];refine⟨[pr],hd,by simp,?_⟩;unfold en;rw[if_neg (wp t)];simp only[Cl.av]
       have hrows:S.st.rows ⟨pr,[]⟩ sz=some (l.map tt.row):=by rw[<-h4'];refine eh ?_;unfold St.look;show (match (du S.gh pr).map de.tree with |some t=>t.go [] |none=> .dd)=_;rw[hg];rfl
       rw[if_pos ⟨trivial,h1.symm,e2,h2⟩,hrows];simp only[ak,ay];rw[if_pos (by omega),e3];have e4: (l.map tt.row).take l.length=l.map tt.row:=bW (by simp);rw[e4];simp only[C.tree,h4']
      ·cases h
     ·cases h
 |pro cs=>cases et<;>simp[dN] at h
 |ptrB n j=>cases et<;>simp[dN] at h
 |ptrT p sz a b=>cases et<;>simp[dN] at h
 |dead=>cases et<;>simp[dN] at h
theorem p7 {X Y:St} (hfz:Y.fz=X.fz) (hg: ∀r t,Y.gh r=some t->X.gh r=some t) {s:Nat} {v:AV} {y:T×List Nat} (h:en Y s v=some y):en X s v=some y:=by
 unfold en at h ⊢;split at h
 ·rename_i h0; rw[if_pos h0]; exact h
 ·rename_i h0;rw[if_neg h0];split at h
  ·exact h
  ·rename_i q s' lo len;split at h
   ·rename_i hc;rw[hfz] at hc;rw[if_pos hc];simp only[ah] at h ⊢;obtain⟨rows,hr,h⟩:=h;refine⟨rows,?_,h⟩;have hl:=dZ hr;unfold St.rows
    have :X.look q= .sl s' rows:=by
     unfold St.look at hl ⊢;cases hq:Y.gh q.r with
     |none=>rw[hq] at hl; cases hl
     |some t=>rw[hq] at hl; rw[hg _ _ hq]; exact hl
    rw[this];simp
   ·cases h
  ·cases h
theorem ig {X Y:St} (hfz:Y.fz=X.fz) (hg: ∀r t,Y.gh r=some t->X.gh r=some t): ∀ {ss:List Nat} {vs:List AV} {y:List T×List Nat},dH Y ss vs=some y->dH X ss vs=some y
 |s::ss,v::vs,y,h=>by unfold dH at h ⊢;simp only[ah,aj] at h ⊢;obtain⟨a,h1,b,h2,h3⟩:=h;exact⟨a,p7 hfz hg h1,b,ig hfz hg h2,h3⟩
 | [],[],_,h=>h
 | [],_::_,_,h=>h
 | _::_,[],_,h=>h
theorem kp {X Y:St} (hfz:Y.fz=X.fz) (hg: ∀r t,Y.gh r=some t->X.gh r=some t) {ss:List Nat}: ∀ {vss:List (List AV)} {y:List (List T)×List Nat},dy Y ss vss=some y->dy X ss vss=some y
 | [],_,h=>h
 |vs::vss,y,h=>by unfold dy at h ⊢;simp only[ah,aj] at h ⊢;obtain⟨a,h1,b,h2,h3⟩:=h;exact⟨a,ig hfz hg h1,b,kp hfz hg h2,h3⟩
theorem fV.less {S1:TS} {L:List Nat} (h:fV S S1 L): ∀r t,S1.st.gh r=some t->S.st.gh r=some t:=by
 intro r t ht;rw[h.st] at ht;unfold dropL at ht;simp only at ht;split at ht
 ·cases ht
 ·exact ht
theorem uk (no:Nat): ∀ (ets:List (Option Ty)) (cs:List Cl) (j:Nat) (S S1:TS) (xs:List C),S.ok->S.gh.length<=no->(∀c∈cs,c.ok S.gh)->fw no j S ets cs=some (xs,S1)->
  ∃L,fV S S1 L/\L.Nodup/\dH S.st (ets.map pi) (cs.map Cl.av)=some (xs.map C.tree,L):=by
 intro ets
 induction ets with
 |nil=>
  intro cs j S S1 xs hS hno hcs h;cases cs with
  |nil=>simp only[fw,ae,am] at h;obtain⟨rfl,rfl⟩:=h;exact⟨[],fV.refl _,cS,rfl⟩
  |cons c cs=>simp[fw] at h
 |cons et ets ih=>
  intro cs j S S1 xs hS hno hcs h;cases cs with
  |nil=>simp[fw] at h
  |cons c cs=>
   simp only[fw] at h;split at h
   ·rename_i x S2 hx;obtain⟨L1,d1,n1,e1⟩:=uj hS hno (hcs c aE) hx;split at h
    ·rename_i xs' S3 hxs;simp only[ae,am] at h;obtain⟨rfl,rfl⟩:=h;obtain⟨L2,d2,n2,e2⟩:=ih cs (j+1) S2 S3 xs' (d1.ok hS) (by rw[d1.len]; exact hno) (fun y hy=>Cl.ok_mono d1.le (hcs y (az _ hy))) hxs;refine⟨L1++L2,d1.trans d2,d1.apart d2 n1 n2,?_⟩;simp only[aJ,dH];rw[e1];simp only[ak];rw[ig (X:=S.st) (Y:=S2.st) d1.fz d1.less e2];rfl
    ·cases h
   ·cases h
theorem sZ (el:Ty): ∀ (vs:List V) (S S1:TS) (l:List el.D),S.ok->(∀v∈vs,v.ok S.gh)->ge el S vs=some (l,S1)->
  ∃L,fV S S1 L/\L.Nodup/\dy S.st el.shs (vs.map fun v=>v.av.cells)=some (l.map el.row,L)/\l.length=vs.length/\ ∀v∈vs,v.av.cells.length=el.width/\v.av.isDead=false:=by
 intro vs
 induction vs with
 |nil=>intro S S1 l hS hv h;simp only[ge,ae,am] at h;obtain⟨rfl,rfl⟩:=h;exact⟨[],fV.refl _,cS,rfl,rfl,fun v hv=>by cases hv⟩
 |cons v vs ih=>
  intro S S1 l hS hv h;cases v with
  |tup x=>simp[ge] at h
  |v x=>
   have hx:=hv (.v x) aE;simp only[ge] at h;split at h
   ·rename_i ws S2 hw
    have hcells: ∀c∈x.cells,c.ok S.gh:=by
     intro c hc;cases x with
     |cl y=>rw[aA.1 hc]; exact hx
     |agg cs=>exact hx c hc
     |fn f cs=>rw[aA.1 hc]; trivial
    obtain⟨L1,d1,n1,e1⟩:=uk _ _ _ _ _ _ _ hS (ar _) hcells hw
    have hw':el.csh.length=x.cells.length/\ ∀c∈x.cells,c≠ .dead:=by obtain⟨_,m2,_,m4,_⟩:=lJ S.gh.length 0 0 0 el.csh x.cells 0 S S2 ws [x.cells.map fun c=>T.ofSc c.av] (x.cells.map fun c=>T.ofSc c.av) hS hcells hw rfl (by simp) (fun k c hk=>by rw[aP,an,hk]; rfl);exact⟨m2,m4⟩
    split at h
    ·rename_i y ys S3 hy hys;simp only[ae,am] at h;obtain⟨rfl,rfl⟩:=h;obtain⟨L2,d2,n2,e2,e3,e4⟩:=ih S2 S3 ys (d1.ok hS) (fun u hu=>V.ok_mono d1.le (hv u (az _ hu))) hys
     have hsh:el.shs=el.csh.map pi:=by unfold Ty.shs;refine aG fun c _=> ?_;cases c<;>rfl
     have hav: (V.v x).av.cells=x.cells.map Cl.av:=by
      cases x with
      |cl c=>
       simp only[V.av,V1.av,V1.cells,aJ,bM];cases c with
       |c y=>cases y<;>rfl
       | _=>rfl
      |agg cs=>rfl
      |fn f cs=>exact absurd rfl (hw'.2 .dead (aA.2 rfl))
     refine⟨L1++L2,d1.trans d2,d1.apart d2 n1 n2,?_,by simp[e3],fun u hu=> ?_⟩
     ·simp only[aJ,dy];rw[hav,hsh,e1];simp only[ak];rw[<-hsh,kp (X:=S.st) (Y:=S2.st) d1.fz d1.less e2];simp only[ax];rw[el.row_flat,el.unflat_some _ _ hy]
     ·rcases aV.1 hu with rfl|hu
      ·refine⟨?_,?_⟩
       ·rw[hav,ay,<-hw'.1];have:=i7 el;unfold Ty.shs at this;simpa using this
       ·cases x with
        |cl c=>
         have:=hw'.2 c (aA.2 rfl);cases c with
         |c y=>cases y<;>rfl
         |dead=>exact absurd rfl this
         | _=>rfl
        |agg cs=>rfl
        |fn f cs=>rfl
      ·exact e4 u hu
    ·cases h
   ·cases h
theorem s3 (hΘ:dA P Θ) {t:TypeId} (h:wO Θ t=true): ∃ti el elT',eH Θ t=some ti/\ti.ty= .ls el/\iG P t=some elT'/\P.cellsOf elT'=el.width/\P.bytesOf elT'=ti.el/\0<ti.el/\ff P 9 elT'=el.shs/\jA P elT'=some el.zvs:=by
 unfold wO at h;split at h
 ·rename_i ti hti;split at h
  ·rename_i el he;obtain⟨elT',g⟩:=(hΘ _ _ hti).el el he;exact⟨ti,el,elT',hti,he,g⟩
  ·cases h
 ·cases h
theorem ul {el:Ty} {v:Cl} (hv:v.ok S.gh) {κ:List el.D->TS->Option ρ} {r:ρ} (h:sr S el v κ=some r):
  ∃more L S1,fV S S1 L/\dB S.st el.width el.flatB v.av=some (more.map el.row,L)/\κ more S1=some r:=by
 unfold sr at h;split at h
 ·exact⟨[],[],S,fV.refl _,rfl,h⟩
 ·rename_i t l;obtain⟨h1,h⟩:=cX h;split at h
  ·rename_i l' hl;obtain⟨e,hl⟩:=dJ hl;subst e;simp only at hl;subst hl;refine⟨l,[],S,fV.refl _,?_,h⟩;simp only[Cl.av,C.av,dB];rw[if_pos ⟨trivial,iA h1 l⟩]
  ·cases h
 ·rename_i p sz lo len w;obtain⟨h0,h⟩:=cX h;have h0:el.width=sz:=ao h0;cases hfl:el.flatB with
  |true=>
   rw[hfl] at h;simp only[cond_true] at h;obtain⟨t,l,h1,h2,h⟩:=dz h;split at h
   ·rename_i l' hl;obtain⟨e,hl⟩:=dJ hl;subst e;simp only at hl;subst hl
    have src: ∀ (lo len:Nat),lo+len<=l.length->dB S.st t.width true (.own p sz lo len)=some (((l.drop lo).take len).map t.row,[]):=by intro lo len hle;simp only[dB];rw[if_pos h0.symm,eh h1];simp only[ak,ay];rw[if_neg (by simp),if_pos ⟨hle,by rw[<-bz,<-bh]; exact iA hfl _⟩];simp[bh,bz]
    cases w with
    |true=>obtain⟨e1,e2,e3⟩:=ib hv h2;refine⟨l,[],S,fV.refl _,?_,h⟩;have:=src lo len (by omega);rw[e2,e3,bP,b0] at this;simp only[Cl.av];rw[e2,e3];exact this
    |false=>simp only[cond_false] at h;obtain⟨h3,h⟩:=dh h;exact⟨_,[],S,fV.refl _,src lo len h3,h⟩
   ·cases h
  |false=>
   rw[hfl] at h;simp only[cond_false] at h;split at h
   ·rename_i hpl;obtain⟨h1,h'⟩:=cX h;clear h;simp only[al] at h1;obtain⟨rfl,hfz⟩:=h1;have hfz:S.fz<=p.r:=aw hfz;obtain⟨t,l,g1,g2,h⟩:=dz h';split at h
    ·rename_i l' hl;obtain⟨e,hl⟩:=dJ hl;subst e;simp only at hl;subst hl;obtain⟨e1,e2,e3⟩:=ib hv g2;refine⟨l,[p.r],_,fV.one (g2 e1),?_,h⟩;simp only[Cl.av,dB];rw[if_pos h0.symm,eh g1];simp only[ak,ay];rw[if_pos ⟨trivial,e1,e2,e3,hfz⟩]
    ·cases h
   ·cases h
 ·cases h
theorem s4 {el:Ty} {v:Cl} (hv:v.ok S.gh) (hroot:qm (.v (.cl v))=true) {more:List el.D} {κ:List el.D->TS->Option ρ} {r:ρ} (h:oH S el v more κ=some r):
  ∃ (l0:List el.D) (cons:List Nat) (S':TS),eS S.st el.width v.av=some (l0.map el.row,cons)/\fV S S' cons/\κ (l0++more) S'=some r:=by
 unfold oH at h;split at h
 ·exact⟨[],[],S,rfl,fV.refl _,h⟩
 ·rename_i p sz lo len w;obtain⟨pr,pl⟩:=p;cases pl with
  |cons a l=>cases hroot
  |nil=>
   obtain⟨h0,h'⟩:=cX h;clear h;simp only[al] at h0;have hfz:S.fz<=pr:=aw h0.1;have hsz:el.width=sz:=ao h0.2;simp only at h';obtain⟨t,l,h1,h2,h⟩:=dz h';split at h
   ·rename_i l' hl;obtain⟨e,hl⟩:=dJ hl;subst e;simp only at hl;subst hl
    have base: ∀ (len:Nat),¬l.length<len->eS S.st t.width (.own ⟨pr,[]⟩ sz 0 len)=some ((l.take len).map t.row,[pr]):=by intro len hlen;simp only[eS];rw[if_pos ⟨hsz.symm,trivial,trivial,hfz⟩,eh h1];simp only[ak,ay];rw[if_neg hlen,bh]
    cases w with
    |true=>obtain⟨e1,e2,e3⟩:=ib hv h2;refine⟨l,[pr],_,?_,fV.one (h2 rfl),h⟩;have:=base l.length (by omega);rw[b0] at this;simp only[Cl.av];rw[e2,e3];exact this
    |false=>simp only[cond_false] at h;obtain⟨h3,h⟩:=dh h;obtain⟨h4,h⟩:=jQ h;refine⟨l.take len,[pr],_,?_,fV.one (h2 rfl),h⟩;simp only[Cl.av];rw[h3];exact base len h4
   ·cases h
 ·cases h
theorem um (hΘ:dA P Θ) (hY:fy P Y) (hS:S.ok) {o:Oper} (hn:dU o=true) (hf:v4 Θ o=true) (hb:uY S o=true) {κ:V->TS->Option ρ} {r:ρ} (h:jq Θ Y S o κ=some r):
  ∃D v0 v adds cons S',eY P D/\dv D P S.st o=some (v0,adds,cons)/\shift S.st.ng v0=V.av v/\S.st.make ⟨S.st.ng,adds,cons⟩=TS.st S'/\jP S S'=⟨S.st.ng,adds,cons⟩/\S'.ok/\v.ok S'.gh/\κ v S'=some r:=by
 obtain⟨dst,op,ty,pos,aft,gd⟩:=o;cases op with
 |buildSlice t len parts=>
  obtain⟨ti,el,elT',hti,he,g1,g2,g3,g4,g5,g6⟩:=s3 hΘ hf;unfold jq at h;simp only[hti,he] at h;obtain⟨hb',h'⟩:=cX h;clear h
  have hnr: ((parts.toList.map fun x=>S.opd x.2).any ly)=false:=by have hb: (!(parts.toList.map fun x=>S.opd x.2).any ly)=true:=hb;simpa using hb
  rw[hnr] at h';simp only[cond_false] at h';split at h'
  ·rename_i l S1 hp
   have hvok: ∀v∈parts.toList.map (fun x=>S.opd x.2),v.ok S.gh:=fun v hv=>by obtain⟨y,_,rfl⟩:=aI.1 hv;exact ew hS _
   obtain⟨L,d,hnd,m1,m2,m3⟩:=sZ el _ S S1 l hS hvok hp;simp only[al] at hb';have hb1:len*el.width<=1048576:=aw hb'.1;have hb2:=pY hb'.2
   have hlen:l.length=len:=by rw[m2];have:=congrArg List.length hb2;simpa using this
   refine⟨nR, .own ⟨0,[]⟩ el.width 0 len,_,[.sl el.width (l.map el.row)],eG L,{ S1 with gh:=S1.gh++ [some ⟨el,l,none⟩] },dQ,?_,?_,d.make ⟨el,l,none⟩,?_,TS.ok_gh (d.ok hS) (dM.app _ _),?_,h'⟩
   ·simp only[dv,g1,ak]
    rw[if_pos ⟨by rw[g2]; exact hb1,hb2,by rw[g2]; exact el.width_pos,by rw[g6]; rfl,by rw[au];intro y hy;obtain⟨q1,q2⟩:=m3 (S.opd y.2) (aI.2 ⟨y,hy,rfl⟩);simp only[c4,q1,q2,g2];rfl⟩]
    have e: (parts.toList.map fun x=>(opd S.st x.2).cells)=(parts.toList.map fun x=>S.opd x.2).map fun v=>v.av.cells:=by rw[aU];exact aG fun x _=>by simp only[c4,Function.comp]
    rw[e,g5,m1];simp only[ak];rw[if_pos (kE.2 hnd),g2]
   ·simp only[shift,eE,fg,V.av,V1.av,Cl.av,aP,hlen];rw[d.len];rfl
   ·unfold jP;simp only;rw[d.gone,ct (by rw[d.len]; exact ar _),bK (by rw[d.len]; exact ar _)];rfl
   ·refine⟨by simp,fun _=>⟨rfl,rfl,fun tr htr=> ?_⟩⟩;rw[e9,if_pos rfl] at htr;cases htr;rfl
  ·cases h'
 |call c=>
  obtain⟨cl,as,ts⟩:=c;cases cl with
  |invoke a b=>cases hn
  |value f=>
   unfold jq at h;simp only at h
   have fin: ∀ (g:FuncId) (caps:List AV) (vs:List V1),g<ed->callee S.st f=some (g,caps)->args P S.st ts as caps=vs.map V1.av->Y g vs ρ (fun res out=>κ (gK S.gh.length res) { S with gh:=S.gh++out.map some })=some r->
     ∃D v0 v adds cons S',eY P D/\dv D P S.st ⟨dst, .call { callee:= .value f,args:=as,argTypes:=ts },ty,pos,aft,gd⟩=some (v0,adds,cons)/\shift S.st.ng v0=V.av v/\S.st.make ⟨S.st.ng,adds,cons⟩=TS.st S'/\jP S S'=⟨S.st.ng,adds,cons⟩/\S'.ok/\v.ok S'.gh/\κ v S'=some r:=by
    intro g caps vs hg h1 h2 h3;obtain⟨res,out,h4,h5,h6⟩:=hY _ _ _ _ _ h3;have h4:=h4.fn hg;refine⟨rn dst g (vs.map V1.av) (res.av,out.map de.tree),res.av,_,out.map de.tree,[],_,lE h4,?_,?_,uh S out,?_,TS.ok_gh hS (dM.apps _ _),jW h5,h6⟩
    ·simp only[dv,h1,ak,h2];rw[qu];rfl
    ·rw[jV]; rfl
    ·unfold jP;simp only[lN,ct (ar _),List.drop_length,bG,p6];rfl
   unfold qj at h;split at h
   ·rename_i g x y hf';obtain⟨hg,h⟩:=cX h;have hg:g<ed:=aw hg;obtain⟨vs,h1,h⟩:=gx hΘ hS _ _ _ _ h;refine fin g [] vs hg ?_ ?_ h
    ·unfold callee;rw[c4,hf'];rfl
    ·unfold args;simp only[bM,bm];exact h1
   ·rename_i g caps hf';obtain⟨hg,h⟩:=cX h;have hg:g<ed:=aw hg;obtain⟨vs,h1,h⟩:=gx hΘ hS _ _ _ _ h
    have hcaps: ∀c∈caps,c.ok S.gh:=by have:=ew hS f;rw[hf'] at this;exact this
    obtain⟨cs,h2,h⟩:=ju hS _ _ _ hcaps h;refine fin g (caps.map Cl.av) (vs++cs.map .cl) hg ?_ ?_ h
    ·unfold callee;rw[c4,hf'];rfl
    ·unfold args;rw[h1,h2,bF,aU];rfl
   ·cases h
  |builtin b=>
   cases b with
   |append=>
    unfold jq at h;simp only at h;split at h
    ·rename_i s x t t' e1 e2;have hbb: ((match ts.toList with | [t,t'] =>Nat.beq t t'| _=>true)&&(match as.toList with |s::_=>qm (S.opd s)| [] =>true))=true:=hb;rw[e1,e2] at hbb;simp only[al] at hbb;rw[hbb.1] at h;simp only[cond_true] at h;have h':=h;have ht:t=t':=ao hbb.1;clear h;have e1:as= #[s,x] :=by apply Array.ext'; simpa using e1
     have e2:ts= #[t,t'] :=by apply Array.ext'; simpa using e2
     subst e1 e2;subst ht;obtain⟨ti,el,elT',hti,he,g1,g2,g3,g4,g5,g6⟩:=s3 hΘ hf;unfold tU at h';simp only[hti] at h';split at h'
     ·rename_i el' sv xv he' hs hx;rw[he] at he';cases he';have hsv:=ew hS s;rw[hs] at hsv;have hxv:=ew hS x;rw[hx] at hxv;obtain⟨more,L,S1,d1,q1,h⟩:=ul (show xv.ok S.gh from hxv) h';have hroot:qm (.v (.cl sv))=true:=by rw[<-hs]; exact hbb.2
      obtain⟨l0,cons,S2,q2,d2,h⟩:=s4 (show sv.ok S1.gh from Cl.ok_mono d1.le hsv) hroot h;obtain⟨hbd,h⟩:=dh h;have hlen: (l0++more).length<=2 ^ 40:=bu (Nat.le_mul_of_pos_right _ g4) hbd;have hll: (l0++more).length=l0.length+more.length:=by simp
      have d:=d1.trans d2;refine⟨nR, .own ⟨0,[]⟩ el.width 0 (l0.length+more.length),_,[.sl el.width ((l0++more).map el.row)],eG (L++cons),{ S2 with gh:=S2.gh++ [some ⟨el,l0++more,none⟩] },dQ,?_,?_,d.make ⟨el,l0++more,none⟩,?_,TS.ok_gh (d.ok hS) (dM.app _ _),?_,h⟩
      ·simp only[dv];rw[if_pos trivial,g1];simp only[ak,g2,g5,jX,c4,hs,hx];show (dB S.st el.width el.flatB xv.av).bind _=_;rw[q1];simp only[ak];show (eS (dropL S.st L) el.width sv.av).bind _=_;rw[<-d1.st,q2];simp only[ak,ay];rw[if_pos ⟨by rw[g3,<-hll]; exact hbd,by rw[<-hll]; exact hlen,el.width_pos,by rw[kK g2 g5 g6]; rfl⟩,bF]
      ·simp only[shift,eE,fg,V.av,V1.av,Cl.av,aP,hll];rw[d.len];rfl
      ·unfold jP;simp only;rw[d.gone,ct (by rw[d.len]; exact ar _),bK (by rw[d.len]; exact ar _)];rfl
      ·refine⟨by simp,fun _=>⟨rfl,rfl,fun tr htr=> ?_⟩⟩;rw[e9,if_pos rfl] at htr;cases htr;rfl
     ·cases h'
    ·cases h
   | _=>cases hn
 | _=>cases hn
end
end
section
open Go
section
variable {ρ:Type} {P:Program} {Θ:fp} {S:TS} {Y:kI}
open Classical in
noncomputable def jx (d:Option Tmp) (D1 D2:fR):fR:=fun d'=>if d'=d then D1 d' else D2 d'
theorem o3 {d:Option Tmp} {D1 D2:fR} (h1:eY P D1) (h2:eY P D2):eY P (jx d D1 D2):=by
 intro d' f args gs res out h;unfold jx at h;split at h
 ·exact h1 _ _ _ _ _ _ h
 ·exact h2 _ _ _ _ _ _ h
theorem s5 (d:Option Tmp) (D1 D2:fR):jx d D1 D2 d=D1 d:=by unfold jx; rw[if_pos rfl]
theorem s6 {d d':Option Tmp} (D1 D2:fR) (h:d'≠d):jx d D1 D2 d'=D2 d':=by unfold jx; rw[if_neg h]
theorem uo (hΘ:dA P Θ) (hY:fy P Y) {ops:Array Oper}: ∀ (os:List Oper) (S:TS) (ms:List dI) (κ:TS->List dI->Option ρ) (r:ρ),S.ok->oK Θ Y ops.toList os S ms κ=some r->
  ∃D SV ms',eY P D/\kN D P ops os S.st=some (TS.st SV,ms')/\SV.ok/\κ SV (ms++ms')=some r:=by
 intro os
 induction os with
 |nil=>intro S ms κ r hS h; exact⟨nR,S,[],dQ,rfl,hS,by rw[bm]; exact h⟩
 |cons o os ih=>
  intro S ms κ r hS h;unfold oK at h;cases hst:cW o with
  |true=>
   rw[hst] at h;simp only[cond_true] at h;obtain⟨D,SV,ms',h1,h2,h3,h4⟩:=ih _ _ _ _ hS h;refine⟨D,SV,⟨S.gh.length,[],[]⟩::ms',h1,?_,h3,?_⟩
   ·simp only[kN,hst,if_true,h2,ax];rfl
   ·rw[aN] at h4;exact h4
  |false=>
   rw[hst] at h;simp only[cond_false] at h;cases hbo:dq o with
   |true=>
    rw[hbo] at h;simp only[cond_true] at h;cases hgn:o.guard.isNone with
    |false=>rw[hgn] at h; cases h
    |true=>
    rw[hgn] at h;simp only[cond_true] at h;obtain⟨S3,g5,g6,_,h⟩:=eN (v:=V.v (.cl (.ptrB (S.bx.length-1-dk os) 0))) hS trivial h;obtain⟨D,SV,ms',k1,k2,k3,k4⟩:=ih _ _ _ _ g6 h;refine⟨D,SV,⟨S.gh.length,[],[]⟩::ms',k1,?_,k3,?_⟩
    ·simp only[kN,hst,aM,if_false,hbo,if_true,hgn];rw[show S.st.put o.dst (.ptrB (S.st.nb-1-dk os) 0)=some S3.st from g5];simp only[ak,k2,ax];rfl
    ·rw[aN] at k4;exact k4
   |false=>
   rw[hbo] at h;simp only[cond_false] at h;obtain⟨b,S1,h1,h2,h3,h4,h⟩:=oZ hS h;have hng:S.st.ng=S1.st.ng:=by rw[h2]
   cases b with
   |false=>
    simp only[cond_false] at h;obtain⟨S3,g5,g6,_,h⟩:=eN (v:= .tup []) h3 (fun x hx=>by cases hx) h;obtain⟨D,SV,ms',k1,k2,k3,k4⟩:=ih _ _ _ _ g6 h;refine⟨D,SV,⟨S1.gh.length,[],[]⟩::ms',k1,?_,k3,?_⟩
    ·simp only[kN,hst,hbo,aM,if_false,h1,ak];rw[<-h2,show S1.st.put o.dst (.tup [])=some S3.st from g5];simp only[ak,k2,ax];rfl
    ·rw[aN] at k4;exact k4
   |true=>
    simp only[cond_true] at h;cases hnw:dU o with
    |false=>
     rw[hnw] at h;simp only[cond_false] at h;obtain⟨v,S2,m1,m2,m3,m4,m5,h⟩:=mD (D:=nR) hΘ h3 h;obtain⟨S3,g5,g6,_,h⟩:=eN m3 (by rw[m4]; exact m5) h;obtain⟨D,SV,ms',k1,k2,k3,k4⟩:=ih _ _ _ _ g6 h;refine⟨D,SV,⟨S1.gh.length,[],[]⟩::ms',k1,?_,k3,?_⟩
     ·have hV:cY D P S1.st o=some v.av:=by
       rw[<-m1]
       have : ∀D':fR,cY D P S1.st o=cY D' P S1.st o:=by
        intro D';obtain⟨dst,op,ty,pos,aft,gd⟩:=o;cases op with
        |call c=>
         obtain⟨cl,as,ts⟩:=c;cases cl with
         |value f=>cases hnw
         |invoke a b=>rfl
         |builtin b=>cases b<;>rfl
        |unOp op t x=>cases op<;>rfl
        |binOp op t x y t'=>cases op<;>rfl
        |makeFunc fn first caps=>cases fn<;>rfl
        |slice t x lo hi mx=>cases mx<;>rfl
        | _=>rfl
       exact this nR
      simp only[kN,hst,hbo,aM,if_false,h1,ak,if_true,hnw];rw[<-h2,hV];simp only[ak];rw[<-m2,g5];simp only[ak,k2,ax];rw[m2]; first |rfl|skip
     ·rw[aN] at k4;exact k4
    |true=>
     rw[hnw] at h;simp only[cond_true] at h;obtain⟨hc,h⟩:=cX h;simp only[al] at hc;obtain⟨D1,v0,v,adds,cons,S2,m1,m2,m3,m4,m5,m6,m7,h⟩:=um hΘ hY h3 hnw hc.1.2 hc.2 h;obtain⟨S3,g5,g6,_,h⟩:=eN m6 m7 h;obtain⟨D,SV,ms',k1,k2,k3,k4⟩:=ih _ _ _ _ g6 h;refine⟨jx o.dst D1 D,SV,⟨S1.st.ng,adds,cons⟩::ms',o3 m1 k1,?_,k3,?_⟩
     ·have hN:dv (jx o.dst D1 D) P S1.st o=some (v0,adds,cons):=by
       rw[<-m2];exact qy (s5 _ _ _)
      have hrest:kN (jx o.dst D1 D) P ops os S3.st=some (SV.st,ms'):=by
       rw[<-k2];refine v7 os _ (fun o' ho'=>s6 _ _ (fun e=> ?_));have hl:=hc.1.1;unfold v3 at hl;split at hl
       ·rename_i d hd;have:=au.1 hl o' ho';unfold uX at this;rw[e,hd] at this;simp only[cc,cz] at this;cases this
       ·cases hl
      simp only[kN,hst,hbo,aM,if_false,h1,ak,if_true,hnw];rw[<-h2,hN];simp only[ak];rw[m4,m3,g5];simp only[ak,hrest,ax]
      first |rfl|skip
     ·rw[aN,m5] at k4;exact k4
theorem uq (hΘ:dA P Θ) (hY:fy P Y) {ops:Array Oper} {D:fR}: ∀ (os:List Oper) (S:TS) (κ:TS->Option ρ) (r:ρ),S.ok->sB Θ Y os S κ=some r->
  ∃S',l6 D P ops os S.st=some (TS.st S')/\S'.ok/\κ S'=some r:=by
 intro os
 induction os with
 |nil=>intro S κ r hS h; exact⟨S,rfl,hS,h⟩
 |cons o os ih=>
  intro S κ r hS h;unfold sB at h;cases hst:cW o with
  |false=>rw[hst] at h;obtain⟨S',h1,h2,h3⟩:=ih S κ r hS h;exact⟨S',by simp only[l6,hst,aM,if_false]; exact h1,h2,h3⟩
  |true=>
   rw[hst] at h;simp only[cond_true] at h;obtain⟨hc,h⟩:=cX h;simp only[al] at hc;obtain⟨D',v,S1,g1,g2,g3,g4,h⟩:=oY hΘ hY hS h;obtain⟨S',h1,h2,h3⟩:=ih S1 κ r g3 h;refine⟨S',?_,h2,h3⟩;have hd:o.dst=none:=cD.1 hc.2
   have hs:dR D P S.st o=some (v.av,S1.st):=by
    rw[<-g2];obtain⟨dst,op,ty,pos,aft,gd⟩:=o;cases op with
    |store t a x=>rfl
    | _=>cases hst
   have ho:one D P S.st o=some S1.st:=by unfold one;rw[hs];simp only[ak,hd,St.put]
   simp only[l6,hst,if_true,ho,ak,h1];rw[if_pos ⟨hc.1,by rw[hd]; rfl⟩]
theorem ur (hΘ:dA P Θ): ∀ (os:List Oper) (S:TS) (κ:TS->Option ρ) (r:ρ),S.ok->sA Θ os S κ=some r-> ∃S0,mS P os S.st=some (TS.st S0)/\S0.ok/\κ S0=some r:=by
 intro os
 induction os with
 |nil=>intro S κ r hS h; exact⟨S,rfl,hS,h⟩
 |cons o os ih=>
  intro S κ r hS h;unfold sA at h;unfold mS;split at h
  ·rename_i t hop;split at h
   ·rename_i ti hti
    obtain⟨S0,h1,h2,h3⟩:=ih { S with bx:=S.bx++ [ti.ty.zvs.map cC] } κ r ⟨hS.env,fun cs hcs c hc=>by
     rcases bD.1 hcs with h1|h1
     ·exact hS.bx cs h1 c hc
     ·simp only[aA] at h1;subst h1;exact sI _ _ c hc⟩ h
    refine⟨S0,?_,h2,h3⟩;rw[hop];simp only[(hΘ _ _ hti).ze,ak];rw[<-h1]
    congr 1
    rw[pW,sH];rfl
   ·cases h
  ·rename_i hno;obtain⟨S0,h1,h2,h3⟩:=ih S κ r hS h;exact⟨S0,by rw[<-h1]; split<;>first | (rename_i t ht; exact absurd ht (hno t))|rfl,h2,h3⟩
theorem p8 {f g:TypeId->Bool} (h: ∀t,f t=true->g t=true) {t:TypeId} {a:AV} (hs:mn f t a=true):mn g t a=true:=by cases a<;>simp only[mn] at hs ⊢<;>first |exact h t hs|exact hs
theorem o4 {f g:TypeId->Bool} (h: ∀t,f t=true->g t=true) {ops:List Oper} {B:List (List Nat)} {S SV:St} {i j:Nat} {oi oj:Oper} (hs:gC f ops B S SV i j oi oj=true):gC g ops B S SV i j oi oj=true:=by
 unfold gC at hs ⊢;split at hs
 ·simp only[al] at hs ⊢;exact⟨p8 h hs.1,hs.2⟩
 ·cases hs
theorem o5 {ops:List Oper} {B:List (List Nat)} {f g:Nat->Nat->Oper->Oper->Bool} (h: ∀i j oi oj,f i j oi oj=true->g i j oi oj=true) (hs:iR ops B f=true):iR ops B g=true:=by
 unfold iR at hs ⊢;refine au.2 fun j hj=> ?_;have h1:=au.1 hs j hj;split at h1
 ·cases h1
 ·simp only[bn] at h1 ⊢;refine h1.imp id fun h1=>au.2 fun i hi=> ?_;have h2:=au.1 h1 i hi;split at h2
  ·cases h2
  ·simp only[bn] at h2 ⊢;exact h2.imp id (h _ _ _ _)
theorem rv {f g:TypeId->Bool} (h: ∀t,f t=true->g t=true) {ops:List Oper} {B:List (List Nat)} {S SV:St} {ms:List dI} (hs:pk f ops B S ms SV=true):pk g ops B S ms SV=true:=by unfold pk at hs ⊢;simp only[al,bn] at hs ⊢;exact⟨⟨hs.1.1,hs.1.2.imp (o5 fun _ _ _ _=>o4 h) id⟩,hs.2⟩
theorem ut (hΘ:dA P Θ) (t:TypeId) (h:sC Θ t=true):jc P t=true:=by
 unfold sC at h;split at h
 ·rename_i ti hti;unfold jc;rw[(hΘ t ti hti).sh];unfold Ty.flatB at h;unfold Ty.shs;rw[List.all_map,au];intro x hx;have:=au.1 h x hx;cases x with
  |none=>rfl
  |some e=>cases this
 ·cases h
theorem uu (hΘ:dA P Θ) (hY:fy P Y) (hm:P.follows .mixedOrders=true) {id:Nat} {ops:Array Oper} (hok:jG P ops=true) (hS:S.ok) {κ:TS->Option ρ} {r:ρ} (h:vw Θ Y ops.toList S κ=some r):
  gG P (.region id ops true) S.st (fun x S'=>x= .nor/\ ∃S1:TS,S'=S1.st/\S1.ok/\κ S1=some r):=by
 unfold vw at h;obtain⟨S0,h0,hS0,h⟩:=ur hΘ _ _ _ _ hS h;obtain⟨D,SV,ms,h1,h2,h3,h4⟩:=uo hΘ hY _ _ _ _ _ hS0 h;obtain⟨h5,h6⟩:=cX h4;rw[bG] at h5;obtain⟨S',h7,h8,h9⟩:=uq (D:=D) (ops:=ops) hΘ hY _ _ _ _ h3 h6;exact gG.draw h1 hm hok h0 h2 (rv (ut hΘ) h5) h7 ⟨rfl,S',rfl,h8,h9⟩
def dT:Code->List Code
 | .seq a b=>dT a++dT b
 | .cond _ a b=>dT a++dT b
 | .block _ c=>dT c
 | .loop c=> [c]
 | _=> []
def eO (P:Program) (Λ:iL) (cs:List Code):Prop:= ∀c∈cs,∀ (S:TS) (ρ:Type) (κ:X->TS->Option ρ) (r:ρ),S.ok->Λ (eI c) S ρ κ=some r->gG P (.loop c) S.st (fun x S'=> ∃S1:TS,S'=S1.st/\S1.ok/\κ x S1=some r)
theorem uv (hΘ:dA P Θ) (hY:fy P Y) (hm:P.follows .mixedOrders=true) {Λ:iL}: ∀ (c:Code) (S:TS) (κ:X->TS->Option ρ) (r:ρ),fq P c=true->eO P Λ (dT c)->S.ok->mg Θ Y Λ c S κ=some r->
  gG P c S.st (fun x S'=> ∃S1:TS,S'=S1.st/\S1.ok/\κ x S1=some r):=by
 intro c
 induction c with
 |skip=>intro S κ r _ _ hS h; exact gG.skip ⟨S,rfl,hS,h⟩
 |exit i=>intro S κ r _ _ hS h; exact gG.exit ⟨S,rfl,hS,h⟩
 |ret=>intro S κ r _ _ hS h; exact gG.ret ⟨S,rfl,hS,h⟩
 |region id ops dr=>
  intro S κ r hok _ hS h;cases dr with
  |false=>exact gG.region (uf hΘ hY _ _ _ _ (fun o ho=>au.1 hok o ho) hS h)
  |true=>refine (uu hΘ hY hm hok hS h).mono (fun x S' hx=> ?_);obtain⟨rfl,hx⟩:=hx;exact⟨S',lm.refl,hx⟩
 |seq a b iha ihb=>
  intro S κ r hok hL hS h;simp only[fq,al] at hok;have hLa:eO P Λ (dT a):=fun c hc=>hL c (bE _ hc);have hLb:eO P Λ (dT b):=fun c hc=>hL c (ce _ hc);unfold mg at h;refine gG.seq ((iha S _ r hok.1 hLa hS h).mono (fun x S' hx=>⟨S',lm.refl,?_⟩));obtain⟨S1,rfl,h1,h2⟩:=hx;cases x with
  |nor=>exact ihb S1 κ r hok.2 hLb h1 h2
  |ret=>exact⟨S1,rfl,h1,h2⟩
  |ext i=>exact⟨S1,rfl,h1,h2⟩
 |cond t a b iha ihb=>
  intro S κ r hok hL hS h;simp only[fq,al] at hok;have hLa:eO P Λ (dT a):=fun c hc=>hL c (bE _ hc);have hLb:eO P Λ (dT b):=fun c hc=>hL c (ce _ hc);unfold mg at h;obtain⟨v,S1,h1,h2,h3,h4,h⟩:=lB hS h;refine gG.cond h1 ?_;rw[<-h2];cases v with
  |true=>exact iha S1 κ r hok.1 hLa h3 h
  |false=>exact ihb S1 κ r hok.2 hLb h3 h
 |block i c ih=>
  intro S κ r hok hL hS h;unfold mg at h;refine gG.block ((ih S _ r hok hL hS h).mono (fun x S' hx=>⟨S',lm.refl,?_⟩));obtain⟨S1,rfl,h1,h2⟩:=hx;cases x with
  |nor=>exact⟨S1,rfl,h1,h2⟩
  |ret=>exact⟨S1,rfl,h1,h2⟩
  |ext j=>
   simp only at h2 ⊢;cases hb:Nat.beq j i with
   |true=>rw[hb] at h2;rw[if_pos (ao hb)];exact⟨S1,rfl,h1,h2⟩
   |false=>rw[hb] at h2;rw[if_neg (by intro e; subst e; rw[cc] at hb; cases hb)];exact⟨S1,rfl,h1,h2⟩
 |loop c ih=>intro S κ r hok hL hS h;exact hL c (aA.2 rfl) S ρ κ r hS h
 | _=>intro S κ r hok; cases hok
end
end
section
open Go
section
variable {ρ:Type} {P:Program} {Θ:fp} {S:TS} {Y:kI}
theorem qA (hS:S.ok) {gs:List de} {et:Option Ty} {c:Cl} (hc:c.ok S.gh) {κ:Cl->List de->TS->Option ρ} {r:ρ} (h:tV S gs et c κ=some r):
  ∃c' gs' S',kw S.st (gs.map de.tree) (pi et) c.av=some (Cl.av c',gs'.map de.tree,TS.st S')/\S'.ok/\dM S.gh S'.gh/\dM (gs.map some) (gs'.map some)/\c'.ok (gs'.map some)/\κ c' gs' S'=some r:=by
 have new: ∀ (t:Ty) (l:List t.D) (n:Nat),n=l.length->(Cl.own ⟨gs.length,[]⟩ t.width 0 n true).ok ((gs++ [(⟨t,l,none⟩:de)]).map some):=by intro t l n hn;refine⟨by simp,fun _=>⟨rfl,rfl,fun tr htr=> ?_⟩⟩;rw[bF] at htr;have e:=e9 (G:=gs.map some) (x:=some (⟨t,l,none⟩:de)) gs.length;simp only[ay,if_true] at e;have htr':du (gs.map some++ [some (⟨t,l,none⟩:de)]) gs.length=some tr:=htr;rw[e] at htr';cases htr';exact hn
 have grow: ∀ (x:de),dM (gs.map some) ((gs++ [x]).map some):=fun x=>by rw[bF]; exact dM.app _ _
 unfold tV at h;split at h
 ·refine⟨_,_,_,rfl,hS,dM.refl _,dM.refl _,?_,h⟩;trivial
 ·rename_i t;refine⟨_,_,S,?_,hS,dM.refl _,grow _,new t [] 0 rfl,h⟩;simp only[Cl.av,kw,pi,ay,bF,aJ,bM];rfl
 ·rename_i p sz lo len w t';obtain⟨pr,pl⟩:=p;cases pl with
  |cons a l=>cases h
  |nil=>
   simp only at h;obtain⟨h1,h'⟩:=cX h;clear h;simp only[al] at h1;have h2:S.fz<=pr:=aw h1.1;have h3:t'.width=sz:=ao h1.2;obtain⟨t,l,k1,k2,h⟩:=dz h';obtain⟨k3,h⟩:=cX h;have k3:t.width=sz:=ao k3
   have fin: ∀ (len:Nat),len<=l.length->kw S.st (gs.map de.tree) (pi (some t')) (.own ⟨pr,[]⟩ sz 0 len)=some (.own ⟨gs.length,[]⟩ sz 0 len,(gs++ [(⟨t,l.take len,none⟩:de)]).map de.tree,({ S with gh:=dp S.gh pr none }:TS).st):=by
    intro len hlen;simp only[kw];have hrows:S.st.rows ⟨pr,[]⟩ sz=some (l.map t.row):=by rw[<-k3]; exact eh k1
    rw[if_pos ⟨trivial,by show sz=t'.width; exact h3.symm,trivial,h2⟩,hrows];simp only[ak,ay];rw[if_pos hlen,jt];simp only[pi,h3,bF,aJ,bM,de.tree,bh,k3]
   cases w with
   |true=>obtain⟨e1,e2,e3⟩:=ib hc k2;refine⟨_,_,_,?_,TS.ok_gh hS (dM.gone _ _),dM.gone _ _,grow _,by rw[<-k3]; exact new t l _ rfl,h⟩;have:=fin l.length (ar _);rw[b0] at this;simp only[Cl.av];rw[e2,e3];exact this
   |false=>
    simp only[cond_false] at h;obtain⟨h4,h⟩:=dh h;refine⟨_,_,_,?_,TS.ok_gh hS (dM.gone _ _),dM.gone _ _,grow _,by rw[<-k3]; exact new t (l.take len) _ rfl,h⟩;have hl: (l.take len).length=len:=by simp; omega
    simp only[Cl.av];rw[h4.1,hl];exact fin len h4.2
 ·cases h
theorem s7: ∀ (ets:List (Option Ty)) (cs:List Cl) (S:TS) (gs:List de) (κ:List Cl->List de->TS->Option ρ) (r:ρ),S.ok->(∀c∈cs,c.ok S.gh)->qn S gs ets cs κ=some r->
  ∃cs' gs' S',gA S.st (gs.map de.tree) (ets.map pi) (cs.map Cl.av)=some (cs'.map Cl.av,gs'.map de.tree,TS.st S')/\S'.ok/\dM S.gh S'.gh/\dM (gs.map some) (gs'.map some)/\(∀c∈cs',c.ok (gs'.map some))/\κ cs' gs' S'=some r:=by
 intro ets
 induction ets with
 |nil=>
  intro cs S gs κ r hS hcs h;cases cs with
  |nil=>exact⟨[],gs,S,rfl,hS,dM.refl _,dM.refl _,(fun c hc=>by cases hc),h⟩
  |cons c cs=>cases h
 |cons et ets ih=>
  intro cs S gs κ r hS hcs h;cases cs with
  |nil=>cases h
  |cons c cs=>
   unfold qn at h;obtain⟨c',g1,S1,h1,h2,h3,h4,h5,h⟩:=qA hS (hcs c aE) h;obtain⟨cs',g2,S2,k1,k2,k3,k4,k5,h⟩:=ih cs S1 g1 _ r h2 (fun x hx=>Cl.ok_mono h3 (hcs x (az _ hx))) h;refine⟨c'::cs',g2,S2,?_,k2,h3.trans k3,h4.trans k4,fun x hx=> ?_,h⟩
   ·simp only[aJ,gA,h1,ak,k1,ax]
   ·rcases aV.1 hx with rfl|hx
    ·exact Cl.ok_mono k4 h5
    ·exact k5 x hx
theorem uw (hΘ:dA P Θ) (hS:S.ok) {gs:List de} {t:TypeId} {v:V} (hv:v.ok S.gh) {κ:V1->List de->TS->Option ρ} {r:ρ} (h:vx Θ S gs t v κ=some r):
  ∃v' gs' S',qP P S.st (gs.map de.tree) t v.av=some (V1.av v',gs'.map de.tree,TS.st S')/\S'.ok/\dM S.gh S'.gh/\dM (gs.map some) (gs'.map some)/\v'.ok (gs'.map some)/\κ v' gs' S'=some r:=by
 unfold vx at h;split at h
 ·cases h
 ·rename_i ti hti;have hsh:=(hΘ _ _ hti).sh;split at h
  ·rename_i cs;obtain⟨cs',g1,S1,h1,h2,h3,h4,h5,h⟩:=s7 _ _ _ _ _ _ hS hv h;refine⟨.agg cs',g1,S1,?_,h2,h3,h4,h5,h⟩;simp only[V.av,V1.av,qP,hsh];rw[show ti.ty.shs=ti.ty.csh.map pi from rfl,h1];rfl
  ·rename_i c;obtain⟨c',g1,S1,h1,h2,h3,h4,h5,h⟩:=qA hS hv h;refine⟨.cl c',g1,S1,?_,h2,h3,h4,h5,h⟩
   have e:qP P S.st (gs.map de.tree) t (V.v (.cl c)).av=kw S.st (gs.map de.tree) ((ff P 9 t).headD 0) c.av:=by
    cases c with
    |c x=>cases x<;>rfl
    | _=>rfl
   rw[e,hsh]
   have e2:ti.ty.shs.headD 0=pi (ti.ty.csh.headD none):=by
    unfold Ty.shs;cases ti.ty.csh with
    |nil=>rfl
    |cons a l=>cases a<;>rfl
   rw[e2];exact h1
  ·cases h
theorem s8 (hΘ:dA P Θ): ∀ (rs:List (TypeId×V)) (S:TS) (gs:List de) (κ:List V1->List de->Option ρ) (r:ρ),S.ok->(∀x∈rs,x.2.ok S.gh)->mA Θ S gs rs κ=some r->
  ∃vs gs',nS P S.st (gs.map de.tree) (rs.map fun x=>(x.1,x.2.av))=some (vs.map V1.av,gs'.map de.tree)/\dM (gs.map some) (gs'.map some)/\(∀v∈vs,v.ok (gs'.map some))/\vs.length=rs.length/\κ vs gs'=some r:=by
 intro rs
 induction rs with
 |nil=>intro S gs κ r hS hrs h; exact⟨[],gs,rfl,dM.refl _,(fun v hv=>by cases hv),rfl,h⟩
 |cons x rs ih=>
  intro S gs κ r hS hrs h;obtain⟨t,v⟩:=x;unfold mA at h;obtain⟨v',g1,S1,h1,h2,h3,h4,h5,h⟩:=uw hΘ hS (hrs _ aE) h;obtain⟨vs,g2,k1,k2,k3,k4,h⟩:=ih S1 g1 _ r h2 (fun x hx=>V.ok_mono h3 (hrs x (az _ hx))) h;refine⟨v'::vs,g2,?_,h4.trans k2,fun y hy=> ?_,by simp[k4],h⟩
  ·simp only[aJ,nS,h1,ak,k1,ax]
  ·rcases aV.1 hy with rfl|hy
   ·exact V1.ok_mono k2 h5
   ·exact k3 y hy
theorem ux (hΘ:dA P Θ) (hS:S.ok): ∀ (rs:List ResultVar) (ts:List TypeId) (κ:List (TypeId×V)->Option ρ) (r:ρ),oL Θ S rs ts κ=some r->
  ∃l:List (TypeId×V),rs.mapM (ki P S.st)=some (l.map fun x=>x.2.av)/\l.map (·.1)=ts/\(∀x∈l,x.2.ok S.gh)/\κ l=some r:=by
 intro rs
 induction rs with
 |nil=>
  intro ts κ r h;cases ts with
  |nil=>exact⟨[],rfl,rfl,(fun x hx=>by cases hx),h⟩
  |cons t ts=>cases h
 |cons a rs ih=>
  intro ts κ r h;cases ts with
  |nil=>cases a<;>cases h
  |cons t ts=>
   cases a with
   |tmp a=>
    unfold oL at h;obtain⟨l,h1,h2,h3,h⟩:=ih ts _ r h;refine⟨(t,fr S.env a)::l,?_,by simp[h2],fun x hx=> ?_,h⟩
    ·simp only[cu,h1,ki];rfl
    ·rcases aV.1 hx with rfl|hx
     ·exact nz hS a
     ·exact h3 x hx
   |cell a t'=>
    unfold oL at h
    have hw:0<P.cellsOf t':=by
     have h':=h;unfold oE at h';split at h'
     ·rename_i ti hti;rw[(hΘ _ _ hti).cells];exact Ty.width_pos _
     ·cases h'
    obtain⟨u,g1,g2,h⟩:=oQ hΘ hS (nz hS a) h;obtain⟨l,h1,h2,h3,h⟩:=ih ts _ r h;refine⟨(t,u)::l,?_,by simp[h2],fun x hx=> ?_,h⟩
    ·simp only[cu,h1,ki];rw[if_pos hw];have :load P S.st t' (S.st.env a)=some u.av:=g1;rw[this];rfl
    ·rcases aV.1 hx with rfl|hx
     ·exact g2
     ·exact h3 x hx
theorem qB {α β γ:Type} (f:α×β->γ): ∀l:List (α×β),(l.map (·.1)).zip (l.map f)=l.map fun x=>(x.1,f x)
 | [] =>rfl
 |a::l=>by simp only[aJ,List.zip_cons_cons,qB f l]
theorem uy (vs:List V1): (pV vs).av=vX (vs.map V1.av):=by
 match vs with
 | [] =>rfl
 | [v] =>rfl
 |v::u::vs=>rfl
theorem lO: ∀ (args:List V1) (n t:Nat),(fr (gf n args) (n+t)).av=(args.map V1.av).getD t .dead
 | [],n,t=>by simp[gf,fr]; rfl
 |a::l,n,0=>by simp[gf,fr]; rfl
 |a::l,n,t+1=>by
  have :Nat.beq n (n+(t+1))=false:=by
   cases h:Nat.beq n (n+(t+1)) with
   |false=>rfl
   |true=>have:=ao h; omega
  simp only[gf,fr,this,cond_false];rw[show n+(t+1)=(n+1)+t by omega,lO l (n+1) t];simp
theorem lP: ∀ (args:List V1) (n:Nat) (x:Nat×V),x∈gf n args-> ∃a∈args,x.2= .v a
 | [],n,x,h=>by cases h
 |a::l,n,x,h=>by
  simp only[gf,aV] at h;rcases h with rfl|h
  ·exact⟨a,aE,rfl⟩
  ·obtain⟨b,hb,he⟩:=lP l (n+1) x h;exact⟨b,az _ hb,he⟩
theorem vC (hΘ:dA P Θ) (hY:fy P Y) (hm:P.follows .mixedOrders=true) {Λ:iL} {f:FuncId} {fn:Func} (hf:uT P f=some fn) (hL: ∀c,fn.body=some c->eO P Λ (dT c)) {args:List V1} (ha: ∀a∈args,a.ok []) {res:V} {out:List de}
  (h:wP Θ Y Λ fn args (fun v g=>some (v,g))=some (res,out)):fM P f (args.map V1.av) [] res.av (out.map de.tree):=by
 unfold wP at h;split at h
 ·cases h
 ·rename_i c hc
  have hcok:fq P c=true:=by
   unfold uT at hf;simp only[ah] at hf;obtain⟨fn',g1,g2⟩:=hf;split at g2
   ·cases g2
   ·rename_i c' hc';split at g2
    ·cases g2
    ·rename_i hn;simp only[ae] at g2;subst g2;rw[hc] at hc';simp only[ae] at hc';subst hc';simp only[bn,not_or,Bool.not_eq_true,Bool.not_eq_false'] at hn;exact hn.2
  have hS0: ({ env:=gf 0 args,bx:= [],gh:= [],fz:=0,nt:=args.length+(fn.ntmps-args.length) }:TS).ok:=
   ⟨fun x hx=>by obtain⟨a,h1,h2⟩:=lP _ _ _ hx; rw[h2]; exact ha a h1,fun cs hcs=>by cases hcs⟩
  have hbeg: ({ env:=gf 0 args,bx:= [],gh:= [],fz:=0,nt:=args.length+(fn.ntmps-args.length) }:TS).st=pD fn.ntmps (args.map V1.av) [] :=by
   unfold TS.st pD;simp only[ay,bS]
   congr 1
   funext t
   have:=lO args 0 t;rw[aP] at this;exact this
  have hW:=uv hΘ hY hm c _ _ _ hcok (hL c hc) hS0 h;rw[hbeg] at hW
  have eI: ∀ (x:X) (S1:TS),S1.ok->(match x with | .ext _=>none| _=>oL Θ S1 fn.results.toList fn.resultTypes.toList fun rs=>mA Θ S1 [] rs fun vs gs=>some (pV vs,gs))=some (res,out)->
    (match x with | .ext _=>False| _=>q8 P fn.results.toList fn.resultTypes.toList 0 S1.st=some (res.av,out.map de.tree)):=by
   intro x S1 hS1 h
   have main: (oL Θ S1 fn.results.toList fn.resultTypes.toList fun rs=>mA Θ S1 [] rs fun vs gs=>some (pV vs,gs))=some (res,out)->q8 P fn.results.toList fn.resultTypes.toList 0 S1.st=some (res.av,out.map de.tree):=by
    intro h;obtain⟨l,h1,h2,h3,h⟩:=ux (P:=P) hΘ hS1 _ _ _ _ h;obtain⟨vs,gs',k1,k2,k3,k4,h⟩:=s8 (P:=P) hΘ _ _ _ _ _ hS1 h3 h;simp only[ae,am] at h;obtain⟨rfl,rfl⟩:=h;unfold q8;rw[h1];simp only[ak,ay]
    have hz: (fn.resultTypes.toList.zip (l.map fun x=>x.2.av))=l.map fun x=>(x.1,x.2.av):=by rw[<-h2];exact qB _ l
    rw[if_pos (by rw[<-h2]; simp),hz];have k1':nS P S1.st [] (l.map fun x=>(x.1,x.2.av))=some (vs.map V1.av,gs'.map de.tree):=k1;simp only[List.range_zero,bM,k1',ax,uy]
   cases x with
   |ext i=>cases h
   |nor=>exact main h
   |ret=>exact main h
  refine ow hf hc (hW.mono (fun x S' hx=>⟨S',lm.refl,?_⟩));obtain⟨S1,rfl,h1,h2⟩:=hx;have:=eI x S1 h1 h2;cases x<;>exact this
end
end
section
open Go
def V1.all:V1->List Cl| .cl c=> [c] | .agg cs=>cs| .fn _ cs=>cs
def V.all:V->List Cl| .v x=>x.all| .tup _=> []
end
end Go.Proofs.Ytpagmogboinlpaa.En
