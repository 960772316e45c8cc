import Derived.Test.YtpagmogboinlpaaZX7
namespace Go.Proofs.Ytpagmogboinlpaa.En
section
open Go
section
variable {ρ:Type} {P:Program} {Θ:iC} {S:TS} {Y:oP}
theorem uw (hS:S.ok) {ops:Array Oper} {o:Oper} {κ:Bool->TS->Option ρ} {r:ρ} (h:wk S ops.toList o κ=some r): ∃b S1,gp S.st ops o=some b/\S1.st=S.st/\S1.ok/\S1.gh=S.gh/\κ b S1=some r:=by
 unfold wk at h;split at h
 ·rename_i hg;exact⟨true,S,by unfold gp; rw[hg],rfl,hS,rfl,h⟩
 ·rename_i j want hg;split at h
  ·rename_i oj hj;split at h
   ·rename_i d hd;rw[ec,bc] at hj;split at h
    ·rename_i he;refine⟨_,S,?_,rfl,hS,rfl,h⟩;unfold gp;rw[hg];simp only[hj,ai,hd];have :S.st.env d= .tup [] :=by show (eT S.env d).av=_; rw[he]; rfl
     rw[this]
    ·obtain⟨b,S1,h1,h2,h3,h4,h5⟩:=pG hS h;refine⟨_,S1,?_,h2,h3,h4,h5⟩;unfold gp;rw[hg];simp only[hj,ai,hd];have :S.st.env d= .sc (.bool b):=h1;rw[this]
   ·cases h
  ·cases h
theorem gy (hS:S.ok) {d:Option Tmp} {v:V} (hv:v.ok S.gh) {κ:TS->Option ρ} {r:ρ} (h:j6 S d v κ=some r): ∃S1,S.st.put d v.av=some (TS.st S1)/\S1.ok/\S1.gh=S.gh/\κ S1=some r:=by
 unfold j6 at h;split at h
 ·rename_i t;obtain⟨h1,h⟩:=dt h;have h1:t<S.nt:=aw h1;refine⟨{ S with env:=(t,v)::S.env },?_,⟨fun x hx=> ?_,hS.bx⟩,rfl,h⟩
  ·simp only[St.put];rw[if_pos (show t<S.st.nt from h1)]
   congr 1
   unfold TS.st
   congr 1
   funext u
   unfold dD;simp only[eT];cases hb:Nat.beq t u with
   |true=>have :t=u:=ao hb;subst this;simp
   |false=>
    have : ¬u=t:=by intro e; subst e; rw[ch] at hb; cases hb
    rw[if_neg this];rfl
  ·rcases aV.1 hx with rfl|hx
   ·exact hv
   ·exact hS.env x hx
 ·exact⟨S,rfl,hS,rfl,h⟩
theorem yW {α:Type} {x y:Option α} {r:α} (h:Av x y none=some r):x=some r/\y=some r:=by
 unfold Av at h;split at h
 ·rename_i e;exact⟨h,by rw[<-e]; exact h⟩
 ·cases h
theorem yX {α:Type} (x z:α):Av x x z=x:=by unfold Av; rw[if_pos rfl]
theorem sw {o:Oper} {t:TypeId} {x:Operand} (h:oQ o=some (t,x)): (∃t',o.op= .binOp .eql t x (.const (.slice none 0 0)) t')/\o.guard=none:=by
 unfold oQ at h;split at h
 ·rename_i t1 x1 t' ho;split at h
  ·rename_i hg;simp only[ae,am] at h;obtain⟨rfl,rfl⟩:=h;exact⟨⟨t',ho⟩,hg⟩
  ·cases h
 ·cases h
theorem vM {o:Oper} {k:Nat} {g:FuncId} {caps:List Cl} {r sz:Nat} {us:List TypeId} {xs:List Operand} (h:ub Y S o=some (k,g,caps,r,sz,us,xs)):
  ∃f as ts x t lo len,o.op= .call { callee:= .value f,args:=as,argTypes:=ts } /\o.guard=none/\as.toList=x::xs/\ts.toList=t::us/\S.opd x= .v (.cl (.own ⟨r,[]⟩ sz lo len true))/\g<ft/\
   ((∃a b,S.opd f= .v (.cl (.c (.sc (.func (.func g) a b))))/\caps= [])\/S.opd f= .v (.fn g caps)):=by
 unfold ub at h;split at h
 ·rename_i f as ts hop;split at h
  ·cases h
  ·rename_i hg;split at h
   ·rename_i x xs' t us' e1 e2;split at h
    ·rename_i r' sz' lo len hx;split at h
     ·rename_i g' a b hf;obtain⟨h2,h⟩:=dt h;simp only[an] at h2;simp only[ae,am] at h;obtain⟨rfl,rfl,rfl,rfl,rfl,rfl,rfl⟩:=h;exact⟨f,as,ts,x,t,lo,len,hop,hg,e1,e2,hx,aw h2.1, .inl ⟨a,b,hf,rfl⟩⟩
     ·rename_i g' caps' hf;obtain⟨h2,h⟩:=dt h;simp only[an] at h2;simp only[ae,am] at h;obtain⟨rfl,rfl,rfl,rfl,rfl,rfl,rfl⟩:=h;exact⟨f,as,ts,x,t,lo,len,hop,hg,e1,e2,hx,aw h2.1, .inr hf⟩
     ·cases h
    ·cases h
   ·cases h
 ·cases h
theorem nT (hΘ:en P Θ) (hS:S.ok): ∀ (ts:List TypeId) (as:List Operand) (κ:List V1->Option ρ) (r:ρ),j4 Θ S ts as κ=some r->ts.length=as.length
 | [],[],_,_,_=>rfl
 | [],_::_,_,_,h=>by simp[j4] at h
 | _::_,[],_,_,h=>by simp[j4] at h
 |t::ts,a::as,κ,r,h=>by unfold j4 at h;obtain⟨v,_,h⟩:=yK hΘ hS (fW hS a) h;rw[aY,aY,nT hΘ hS ts as _ r h]
theorem yY (hΘ:en P Θ) (hY:ib P Y) (hS:S.ok) {ops:Array Oper} {o:Oper} {os:List Oper} {Post:St->Prop} {k:Nat} {g:FuncId} {caps:List Cl} {q sz:Nat} {us:List TypeId} {xs:List Operand} (ht:ub Y S o=some (k,g,caps,q,sz,us,xs)) {κ:TS->Option ρ} {r:ρ}
  (ih: ∀S3:TS,S3.ok->κ S3=some r->jY P ops os S3.st Post) (h:yy Θ Y S k g caps q sz us xs o.dst κ=some r):jY P ops (o::os) S.st Post:=by
 obtain⟨f,as,ts,x,t,lo,len,hop,hgd,has,hts,hx,hgk,hf⟩:=vM ht;unfold yy at h;split at h
 ·rename_i el l hq;obtain⟨hsz0,h0⟩:=dt h;have hsz:sz=el.width:=ao hsz0;clear h hsz0;subst hsz;have h:=h0;clear h0
  have hql:q<S.gh.length:=by
   rcases b0 q S.gh.length with h'|h'
   ·exact h'
   ·rw[lF h'] at hq; cases hq
  have hS0: ({ S with gh:=dR S.gh q none }:TS).ok:=TS.ok_gh hS (eK.gone _ _);have hst0: ({ S with gh:=dR S.gh q none }:TS).st= { S.st with gh:=dD S.st.gh q none } :=m8 S q;have hlen:=nT hΘ hS0 _ _ _ _ h;obtain⟨vs,h1,h⟩:=j7 hΘ hS0 _ _ _ _ h
  have hcaps: ∀c∈caps,c.ok (dR S.gh q none):=by
   intro c hc;rcases hf with ⟨_,_,_,rfl⟩|hf
   ·cases hc
   ·have:=fW hS f;rw[hf] at this;exact Cl.ok_mono (eK.gone _ _) (this c hc)
  obtain⟨cs,h2,h⟩:=m9 hS0 _ _ _ hcaps h
  have hargs:kN P { S.st with gh:=dD S.st.gh q none } us xs (caps.map Cl.av)=(vs++cs.map V1.cl).map V1.av:=by unfold kN;rw[<-hst0,h1,h2,bM,be];rfl
  have hcal:callee S.st f=some (g,caps.map Cl.av):=by unfold callee;rw[dw];rcases hf with ⟨_,_,hf,rfl⟩|hf<;>(rw[hf]; rfl)
  have hxo:=fW hS x;rw[hx] at hxo;obtain⟨_,hxo⟩:=hxo;obtain⟨_,hlo,hln⟩:=hxo rfl;have hln:=hln _ hq;subst hlo hln;have hxv:opd S.st x= .own ⟨q,[]⟩ el.width 0 l.length:=by rw[dw,hx]; rfl
  have htr:S.st.gh q=some (.sl el.width (l.map el.row)):=by show (ea S.gh q).map dI.tree=_;rw[hq];rfl
  cases hk:Nat.beq k 1 with
  |true=>
   rw[hk] at h;simp only[cond_true] at h;obtain⟨res,out,g1,g2,h⟩:=hY _ _ _ _ _ h;have g1:=(g1.io g rfl hgk).get;split at h
   ·rename_i t' l' _;obtain⟨hc,h⟩:=dt h;simp only[an,decide_eq_true_eq] at hc;obtain⟨rfl,hns⟩:=hc;unfold dy at h;split at h
    ·rename_i hll;have hG:eK S.gh (dR S.gh q (some ⟨t',l',none⟩)):=eK.put hq hll
     have hrp:res.av.plain=true:=by unfold vG at hns;split at hns<;>first |rfl|cases hns
     have hro:res.ok (dR S.gh q (some ⟨t',l',none⟩)):=by
      unfold vG at hns;split at hns
      ·trivial
      ·intro x hx; cases hx
      ·cases hns
     obtain⟨S3,k1,k2,_,h⟩:=gy (S:= { S with gh:=dR S.gh q (some ⟨t',l',none⟩) }) (TS.ok_gh hS hG) hro h;rw[nP S _ hql] at k1;refine jY.hand hop hgd has hlen hcal hxv htr (m:=1) (by rw[hargs]; exact g1) (.inr ⟨rfl,_,rfl,hrp,S3.st,k1,ih S3 k2 h⟩)
    ·cases h
   ·cases h
  |false=>
   rw[hk] at h;simp only[cond_false] at h;obtain⟨hfz0,h⟩:=dt h;have hfz:S.st.fz<=q:=aw hfz0;obtain⟨res,out,g1,g2,h⟩:=hY _ _ _ _ _ h;have g1:=(g1.mv g rfl).get;have hl0: (dR S.gh q none).length=S.gh.length:=by rw[ex]; simp
   have hro: (kA S.gh.length res).ok (dR S.gh q none++out.map some):=by
    have:=nR (G:=dR S.gh q none) g2
    rwa [hl0] at this
   obtain⟨S3,k1,k2,_,h⟩:=gy (S:= { S with gh:=dR S.gh q none++out.map some }) (TS.ok_gh hS0 (eK.apps _ _)) hro h;rw[show ({ S with gh:=dR S.gh q none++out.map some }:TS).st=_ from mr { S with gh:=dR S.gh q none } res.av out,hst0,nQ] at k1;exact jY.hand hop hgd has hlen hcal hxv htr (m:=0) (by rw[hargs]; exact g1) (.inl ⟨hfz,S3.st,k1,ih S3 k2 h⟩)
 ·cases h
structure jz (S S1:TS) (L:List Nat):Prop where
 env:S1.env=S.env
 bx:S1.bx=S.bx
 fz:S1.fz=S.fz
 nt:S1.nt=S.nt
 len:S1.gh.length=S.gh.length
 gh: ∀r,ea S1.gh r=if L.contains r then none else ea S.gh r
 was: ∀q∈L,∃tr,ea S.gh q=some tr
theorem jz.refl (S:TS):jz S S [] :=⟨rfl,rfl,rfl,rfl,rfl,fun _=>by simp,fun _ h=>by cases h⟩
theorem jz.one {q:Nat} {tr:dI} (h:ea S.gh q=some tr):jz S { S with gh:=dR S.gh q none } [q] :=
 ⟨rfl,rfl,rfl,rfl,by simp[ex],fun r=>by
  show ea (dR S.gh q none) r=_;rw[iy q r (.inr rfl)];by_cases hr:r=q
  ·subst hr; simp
  ·rw[if_neg hr,if_neg (by simpa using hr)],fun r hr=>by rw[aE.1 hr]; exact⟨tr,h⟩⟩
theorem jz.trans {S1 S2:TS} {L L':List Nat} (h:jz S S1 L) (k:jz S1 S2 L'):jz S S2 (L++L'):=
 ⟨k.env.trans h.env,k.bx.trans h.bx,k.fz.trans h.fz,k.nt.trans h.nt,k.len.trans h.len,fun r=>by
  rw[k.gh,h.gh]
  have e: (L++L').contains r=(L.contains r||L'.contains r):=by rw[bZ];simp
  rw[e];cases L.contains r<;>cases L'.contains r<;>rfl,fun q hq=>by
  rcases aZ.1 hq with hq|hq
  ·exact h.was q hq
  ·obtain⟨tr,ht⟩:=k.was q hq;rw[h.gh] at ht;split at ht
   ·cases ht
   ·exact⟨tr,ht⟩⟩
theorem jz.apart {S1 S2:TS} {L L':List Nat} (h:jz S S1 L) (k:jz S1 S2 L') (h1:L.Nodup) (h2:L'.Nodup): (L++L').Nodup:=by rw[List.nodup_append];refine⟨h1,h2,fun a ha b hb e=> ?_⟩;subst e;obtain⟨tr,ht⟩:=k.was a hb;rw[h.gh,if_pos (by simpa using ha)] at ht;cases ht
theorem jz.le {S1:TS} {L:List Nat} (h:jz S S1 L):eK S.gh S1.gh:=⟨by rw[h.len]; exact au _,fun r tr _ ht=>by
 rw[h.gh] at ht;split at ht
 ·cases ht
 ·exact⟨tr,ht,rfl⟩⟩
theorem jz.ok {S1:TS} {L:List Nat} (h:jz S S1 L) (hS:S.ok):S1.ok:=
 ⟨fun x hx=>V.ok_mono h.le (hS.env x (by rw[<-h.env]; exact hx)),fun cs hcs c hc=>Cl.ok_mono h.le (hS.bx cs (by rw[<-h.bx]; exact hcs) c hc)⟩
theorem jz.st {S1:TS} {L:List Nat} (h:jz S S1 L):S1.st=dropL S.st L:=by
 unfold TS.st dropL;rw[h.env,h.bx,h.fz,h.nt,h.len];simp only
 congr 1
 funext r
 rw[h.gh];cases L.contains r<;>rfl
theorem ux {o:Oper} {g:FuncId} {caps:List Cl} {a:vH} {us:List TypeId} {xs:List Operand} (h:pD Y S o=some (g,caps,a,us,xs)):
  ∃f as ts x t,o.op= .call { callee:= .value f,args:=as,argTypes:=ts } /\o.guard=none/\as.toList=x::xs/\ts.toList=t::us/\sg (S.opd x)=some a/\g<ft/\
   ((∃a b,S.opd f= .v (.cl (.c (.sc (.func (.func g) a b))))/\caps= [])\/S.opd f= .v (.fn g caps)):=by
 unfold pD at h;split at h
 ·rename_i f as ts hop;split at h
  ·cases h
  ·rename_i hg;split at h
   ·rename_i x xs' t us' e1 e2;split at h
    ·rename_i a' hx;split at h
     ·rename_i g' a b hf;obtain⟨h2,h⟩:=dt h;simp only[an] at h2;simp only[ae,am] at h;obtain⟨rfl,rfl,rfl,rfl,rfl⟩:=h;exact⟨f,as,ts,x,t,hop,hg,e1,e2,hx,aw h2.1, .inl ⟨a,b,hf,rfl⟩⟩
     ·rename_i g' caps' hf;obtain⟨h2,h⟩:=dt h;simp only[an] at h2;simp only[ae,am] at h;obtain⟨rfl,rfl,rfl,rfl,rfl⟩:=h;exact⟨f,as,ts,x,t,hop,hg,e1,e2,hx,aw h2.1, .inr hf⟩
     ·cases h
    ·cases h
   ·cases h
 ·cases h
theorem q9: ∀ (L:List Nat) (S:TS),L.Nodup->(∀r∈L,∃tr,ea S.gh r=some tr)->jz S { S with gh:=yz S.gh L } L
 | [],S,_,_=>jz.refl S
 |r::L,S,hnd,h=>by
  obtain⟨tr,htr⟩:=h r aD;rw[List.nodup_cons] at hnd;have h1:=jz.one htr
  have h2:=q9 L { S with gh:=dR S.gh r none } hnd.2 (fun r' hr'=>by
   obtain⟨tr',htr'⟩:=h r' (aA _ hr');refine⟨tr',?_⟩;rw[h1.gh,if_neg]
   ·exact htr'
   ·intro hc;rw[bF,aE] at hc;subst hc;exact hnd.1 hr')
  exact h1.trans h2
theorem mu: ∀ (cs:List Cl) (ys:List C) (L:List Nat),lD S cs=some (ys,L)->(∀c∈cs,c.ok S.gh)->ys.length=cs.length/\(jO ys).length=L.length/\
  (∀ (k r:Nat),L[k]? =some r-> ∃el l,(jO ys)[k]? =some ⟨el,l,none⟩/\ea S.gh r=some ⟨el,l,none⟩)/\
  ∀ (w:World) (bt bt':Bt) (m:Nat),(∀ (k r:Nat),L[k]? =some r->bt'.β ⟨m+k,[]⟩=bt.β ⟨r,[]⟩/\bt'.κ ⟨m+k,[]⟩=bt.κ ⟨r,[]⟩/\m+k<bt'.ng)->
    ∀ (j:Nat) (c c':Cl) (u:Value),cs[j]? =some c->(mp ys m)[j]? =some c'->VR w bt c.av u->VR w bt' c'.av u
 | [],ys,L,h,_=>by simp only[lD,ae,am] at h;obtain⟨rfl,rfl⟩:=h;exact⟨rfl,rfl,fun k r hk=>by simp at hk,fun w bt bt' m _ j c c' u hj=>by simp at hj⟩
 |c0::cs,ys,L,h,hok=>by
  unfold lD at h;split at h
  ·cases ‹_= []›
  ·rename_i v cs' e;simp only[bm] at e;obtain⟨rfl,rfl⟩:=e;split at h
   ·rename_i ys' L' hr;simp only[ae,am] at h;obtain⟨rfl,rfl⟩:=h;obtain⟨h1,h2,h3,h4⟩:=mu cs ys' L' hr (fun c hc=>hok c (aA _ hc));refine⟨by simp[h1],h2,h3,fun w bt bt' m hm j c c' u hj hj' hv=> ?_⟩;cases j with
    |zero=>
     simp only[mp,aB,ae] at hj hj';subst hj hj';cases hv with
     |sc h=>exact .sc h
    |succ j=>exact h4 w bt bt' m hm j c c' u (by simpa using hj) (by simpa [mp] using hj') hv
   ·cases h
  ·rename_i r sz lo len cs' e;simp only[bm] at e;obtain⟨rfl,rfl⟩:=e;split at h
   ·rename_i el l hg;obtain⟨hsz,h0⟩:=dt h;have hsz:sz=el.width:=ao hsz;clear h;split at h0
    ·rename_i ys' L' hr;simp only[ae,am] at h0;obtain⟨rfl,rfl⟩:=h0;obtain⟨h1,h2,h3,h4⟩:=mu cs ys' L' hr (fun c hc=>hok c (aA _ hc));obtain⟨_,hlo⟩:=hok (.own ⟨r,[]⟩ sz lo len true) aD;obtain⟨_,hlo,hln⟩:=hlo rfl;have hln:=hln _ hg;simp only at hln;refine⟨by simp[h1],by simp[jO,h2],fun k r' hk=> ?_,fun w bt bt' m hm j c c' u hj hj' hv=> ?_⟩
     ·cases k with
      |zero=>simp only[aB,ae] at hk;subst hk;exact⟨el,l,rfl,hg⟩
      |succ k=>exact h3 k r' (by simpa using hk)
     ·cases j with
      |zero=>
       simp only[mp,aB,ae] at hj hj';subst hj hj' hsz hlo hln;obtain⟨e1,e2,e3⟩:=hm 0 r rfl;rw[cc] at e1 e2 e3;cases hv with
       |own hp hc hk ha=>exact .own e3 hc (by rw[e2]; exact hk) (by rw[e1]; exact ha)
      |succ j=>exact h4 w bt bt' (m+1) (fun k r' hk=>by
        have:=hm (k+1) r' (by simpa using hk)
        rwa [show m+(k+1)=m+1+k by omega] at this) j c c' u (by simpa using hj) (by simpa [mp] using hj') hv
    ·cases h0
   ·cases h
  ·cases h
theorem jA: ∀ (ys:List C) (m:Nat),(mp ys m).length=ys.length
 | [],_=>rfl
 | .sc v::r,m=>by simp[mp,jA r m]
 | .ls t l::r,m=>by simp[mp,jA r (m+1)]
theorem uy: ∀ (L:List Nat) (S:TS) (out:List dI) (κ:TS->Option ρ) (r:ρ),L.Nodup->pE S L out κ=some r->
  ∃Sp:TS,Sp.env=S.env/\Sp.bx=S.bx/\Sp.fz=S.fz/\Sp.nt=S.nt/\Sp.gh.length=S.gh.length/\out.length=L.length/\(∀ (k q:Nat),L[k]? =some q->ea Sp.gh q=out[k]?)/\(∀q,q∉L->ea Sp.gh q=ea S.gh q)/\eK S.gh Sp.gh/\κ Sp=some r
 | [],S,out,κ,r,_,h=>by
   cases out with
   |nil=>exact⟨S,rfl,rfl,rfl,rfl,rfl,rfl,fun k q hk=>by simp at hk,fun _ _=>rfl,eK.refl _,h⟩
   |cons x out=>simp[pE] at h
 |q::L,S,out,κ,r,hnd,h=>by
  rw[List.nodup_cons] at hnd;cases out with
  |nil=>simp[pE] at h
  |cons x out=>
   obtain⟨t,l',hole⟩:=x;cases hole with
   |some y=>simp[pE] at h
   |none=>
    simp only[pE] at h;split at h
    ·rename_i el l hg;obtain⟨ht,h⟩:=dt h;have ht:t=el:=by simpa using ht
     subst ht;obtain⟨hl,h⟩:=dN h;obtain⟨Sp,a1,a2,a3,a4,a5,a6,a7,a8,a9,h⟩:=uy L { S with gh:=dR S.gh q (some ⟨t,l',none⟩) } out κ r hnd.2 h;have hql:=lG hg;have hG:eK S.gh (dR S.gh q (some ⟨t,l',none⟩)):=eK.put hg hl;refine⟨Sp,a1,a2,a3,a4,by rw[a5]; simp[ex],by simp[a6],fun k q' hk=> ?_,fun q' hq'=> ?_,hG.trans a9,h⟩
     ·cases k with
      |zero=>simp only[aB,ae] at hk;subst hk;rw[a8 q hnd.1];show ea (dR S.gh q _) q=_;rw[iy q q (.inl hql),if_pos rfl];rfl
      |succ k=>rw[a7 k q' (by simpa using hk)];simp
     ·rw[a8 q' (fun hm=>hq' (aA _ hm))];show ea (dR S.gh q _) q'=_;rw[iy q q' (.inl hql),if_neg (fun e=>hq' (by rw[e]; exact aD))]
    ·cases h
theorem pR {res:V} (h:vG res=true):res.av.plain=true/\ ∀G,res.ok G:=by
 unfold vG at h;split at h
 ·exact⟨rfl,fun _=>trivial⟩
 ·exact⟨rfl,fun _ x hx=>by cases hx⟩
 ·cases h
theorem xt (hΘ:en P Θ) (hY:ib P Y) (hS:S.ok) {ops:Array Oper} {o:Oper} {os:List Oper} {Post:St->Prop} {g:FuncId} {caps:List Cl} {a:vH} {us:List TypeId} {xs:List Operand} (ht:pD Y S o=some (g,caps,a,us,xs)) {κ:TS->Option ρ} {r:ρ}
  (ih: ∀S3:TS,S3.ok->κ S3=some r->jY P ops os S3.st Post) (h:sj Θ Y S g caps a us xs o.dst κ=some r):jY P ops (o::os) S.st Post:=by
 obtain⟨f,as,ts,x,t0,hop,hgd,has,hts,hx,hgk,hf⟩:=ux ht
 have hcal:callee S.st f=some (g,caps.map Cl.av):=by unfold callee;rw[dw];rcases hf with ⟨_,_,hf,rfl⟩|hf<;>(rw[hf]; rfl)
 have others: ∀ {S0:TS} (hS0:S0.ok) (hG:eK S.gh S0.gh) {K:List V1->List Cl->Option ρ},(j4 Θ S0 us xs fun vs=>pB (xh S0 none) caps fun ks=>K vs ks)=some r->
   ∃vs ks,us.length=xs.length/\kN P S0.st us xs (caps.map Cl.av)=(vs++ks.map V1.cl).map V1.av/\K vs ks=some r:=by
  intro S0 hS0 hG K h;have hlen:=nT hΘ hS0 _ _ _ _ h;obtain⟨vs,h1,h⟩:=j7 hΘ hS0 _ _ _ _ h
  have hcaps: ∀c∈caps,c.ok S0.gh:=by
   intro c hc;rcases hf with ⟨_,_,_,rfl⟩|hf
   ·cases hc
   ·have:=fW hS f;rw[hf] at this;exact Cl.ok_mono hG (this c hc)
  obtain⟨ks,h2,h⟩:=m9 hS0 _ _ _ hcaps h;refine⟨vs,ks,hlen,?_,h⟩;unfold kN;rw[h1,h2,bM,be];rfl
 have hxo:=fW hS x;cases a with
 |agg cs=>
  have hxv:S.opd x= .v (.agg cs):=by
   unfold sg at hx;split at hx
   ·cases hx
   ·rename_i e;simp only[ae,vH.agg.injEq] at hx;rw[e,hx]
   ·cases hx
  rw[hxv] at hxo;unfold sj at h;simp only at h;split at h
  ·rename_i ys L hga;obtain⟨hnd,h0⟩:=dt h;clear h;have hnd:L.Nodup:=oM.1 hnd;obtain⟨g1,g2,g3,g4⟩:=mu cs ys L hga hxo
   have hd:=q9 L S hnd (fun q hq=>by obtain⟨k,hk,hkq⟩:=aR hq;obtain⟨el,l,_,e⟩:=g3 k q (by rw[<-hkq]; exact af hk);exact⟨_,e⟩)
   obtain⟨vs,ks,hlen,hargs,h⟩:=others (hd.ok hS) hd.le h0;obtain⟨res,out,k1,k2,h⟩:=hY _ _ _ _ _ h;have k1:=(k1.io g rfl hgk).getA;obtain⟨hns,h⟩:=dt h;obtain⟨hpl,hrok⟩:=pR hns;obtain⟨Sp,a1,a2,a3,a4,a5,a6,a7,a8,a9,h⟩:=uy L S out _ r hnd h;have hSp:Sp.ok:=⟨fun x hx=>V.ok_mono a9 (hS.env x (by rw[<-a1]; exact hx)),fun cs hcs c hc=>Cl.ok_mono a9 (hS.bx cs (by rw[<-a2]; exact hcs) c hc)⟩
   obtain⟨S3,m1,m2,_,h⟩:=gy hSp (hrok _) h
   have hGave:pt S.st (L.map fun r=>⟨r,[]⟩) ((jO ys).map dI.tree):=vu (by simp[g2]) hnd (fun k q hk=>by obtain⟨el,l,e1,e2⟩:=g3 k q hk;refine⟨el.width,l.map el.row,by rw[al,e1]; rfl,?_⟩;show (ea S.gh q).map dI.tree=_;rw[e2];rfl)
   have hps: (L.map fun r=>(⟨r,[]⟩:dC)).length=(jO ys).length:=by rw[ax,g2]
   have hout: (out.map dI.tree).length=L.length:=by rw[ax,a6]
   refine jY.handG hop hgd has hlen hcal (vw L) (fun w0 W bt w hI=>hI.dropL L) hGave (av0:= .agg ((mp ys 0).map Cl.av)) (fun w bt u hv=> ?_) (res:=res.av) (out:=out.map dI.tree) (by rw[<-hd.st,hargs,hps]; exact k1)
    (vx hGave hout (by unfold TS.st; simp only[a1]) (by unfold TS.st; simp only[a2]) (by unfold TS.st; simp only[a2]) (by unfold TS.st; simp only[a5]) a3 a4 (fun k q hk=>by
      show (ea Sp.gh q).map dI.tree=_;rw[a7 k q hk,al]) (fun q hq=>by
      show (ea Sp.gh q).map dI.tree=(ea S.gh q).map dI.tree;rw[a8 q hq])) hpl ⟨S3.st,m1,ih S3 m2 h⟩
   rw[dw,hxv] at hv;have hv:VR w bt (.agg (cs.map Cl.av)) u:=hv;cases hv with
   |agg hl ho hr=>
    rename_i us0;refine .agg (by rw[ax,jA,g1]; simpa using hl) ho (fun k c u hk hu=> ?_);rw[al] at hk;simp only[ak] at hk;obtain⟨c',hc',rfl⟩:=hk
    have hkl:k<cs.length:=by have:=(ah.1 hc').1;rw[jA,g1] at this;exact this
    refine g4 w bt _ 0 (fun i q hi=> ?_) k cs[k] c' u (af hkl) hc' (hr k _ u (by rw[al,af hkl]; rfl) hu)
    have hpi: (L.map fun r=>(⟨r,[]⟩:dC))[(⟨0+i,[]⟩:dC).r]? =some ⟨q,[]⟩:=by rw[al];show (L[0+i]?).map _=_;rw[aN,hi];rfl
    have hpl2:=nG hpi;refine⟨?_,?_,?_⟩
    ·show bt.β (s9 _ _)=_;rw[hpl2];rfl
    ·show bt.κ (s9 _ _)=_;rw[hpl2];rfl
    ·show 0+i< (L.map fun r=>(⟨r,[]⟩:dC)).length;rw[ax,aN];exact (ah.1 hi).1
  ·cases h
 |nest q i j sz lo len=>
  obtain⟨w0,hxv⟩: ∃w,S.opd x= .v (.cl (.own ⟨q,[(i,j)]⟩ sz lo len w)):=by
   unfold sg at hx;split at hx
   ·rename_i w e;simp only[ae,vH.nest.injEq] at hx;obtain⟨rfl,rfl,rfl,rfl,rfl,rfl⟩:=hx;exact⟨_,e⟩
   ·cases hx
   ·cases hx
  rw[hxv] at hxo;unfold sj at h;simp only at h;split at h
  ·rename_i t l hq;obtain⟨y,hy,h⟩:=aj.1 h;split at h
   ·rename_i el v hv;obtain⟨hsz,h0⟩:=dt h;have hsz:sz=el.width:=ao hsz;clear h;subst hsz;obtain⟨hll,h1⟩:=dN h0;clear h0;obtain⟨rfl,rfl⟩:=hll;have hql:=lG hq;have hhole:eK S.gh (dR S.gh q (some ⟨t,l,some (i,j)⟩)):=eK.put hq rfl;obtain⟨vs,ks,hlen,hargs,h⟩:=others (S0:= { S with gh:=dR S.gh q (some ⟨t,l,some (i,j)⟩) }) (TS.ok_gh hS hhole) hhole h1;clear h1;obtain⟨res,out,k1,k2,h⟩:=hY _ _ _ _ _ h;have k1:=(k1.io g rfl hgk).get;split at h
    ·rename_i t' v' _;obtain⟨hc,h⟩:=dt h;simp only[an,decide_eq_true_eq] at hc;obtain⟨rfl,hns⟩:=hc;obtain⟨hpl,hrok⟩:=pR hns;obtain⟨hvl,h⟩:=dN h;split at h
     ·rename_i z hz;have hG:eK S.gh (dR S.gh q (some ⟨t,l.set i z,none⟩)):=eK.put hq (by simp);obtain⟨S3,m1,m2,_,h⟩:=gy (S:= { S with gh:=dR S.gh q (some ⟨t,l.set i z,none⟩) }) (TS.ok_gh hS hG) (hrok _) h
      have hrowy: (l.map t.row)[i]? =some ((t.flat y).map C.tree):=by rw[al,hy];simp only[ay,t.row_flat]
      have hcell: ((t.flat y).map C.tree)[j]? =some (.sl t'.width (v.map t'.row)):=by rw[ec] at hv;rw[al,hv];rfl
      have hgq:S.st.gh q=some (.sl t.width (l.map t.row)):=by show (ea S.gh q).map dI.tree=_;rw[hq];rfl
      have hlook:S.st.look ⟨q,[(i,j)]⟩= .sl t'.width (v.map t'.row):=by unfold St.look;simp only[hgq,T.go,T.cell,aq,hrowy,aJ,hcell]
      have hforget: ∀ (w0:World) (W:Nat->Prop) (bt:Bt) (w:World),dY w0 W bt S.st w->_:=fun w0 W bt w hI=>hI.forget hlook
      have hSm: ({ S with gh:=dR S.gh q (some ⟨t,l,some (i,j)⟩) }:TS).st=S.st.setAt ⟨q,[(i,j)]⟩ .dd:=by rw[nP S _ hql];unfold St.setAt;simp only[hgq,ay];rfl
      have hSp: ({ S with gh:=dR S.gh q (some ⟨t,l.set i z,none⟩) }:TS).st=S.st.setAt ⟨q,[(i,j)]⟩ (.sl t'.width (v'.map t'.row)):=by
       rw[nP S _ hql];unfold St.setAt;simp only[hgq,ay,T.put]
       congr 3
       show T.sl t.width ((l.set i z).map t.row)=_;rw[List.map_set,t.row_flat z,t.unflat_some _ _ hz,ex,List.map_set];simp only[aq,hrowy,aJ];rfl
      rw[hSp] at m1;refine jY.handG hop hgd has hlen hcal (Sm:=S.st.setAt ⟨q,[(i,j)]⟩ .dd) (ps:= [⟨q,[(i,j)]⟩]) ?_ (fun w0 W bt w hI=>(hforget w0 W bt w hI).1) (yj hlook) (av0:= .own ⟨0,[]⟩ t'.width 0 v.length) (fun w bt u hv=> ?_) (res:=res.av) (out:= [.sl t'.width (v'.map t'.row)]) (by rw[<-hSm,hargs]; exact k1) (yk hlook (by simpa using hvl)) hpl ⟨S3.st,m1,ih S3 m2 h⟩
      ·refine⟨rfl,rfl,rfl,fun p s rs hp=> ?_⟩;rw[i7] at hp;by_cases hpr:p.r=q
       ·rw[if_pos hpr,hgq] at hp;simp only at hp
        rcases T.put_spec .dd [(i,j)] (.sl t.width (l.map t.row)) (.inl (by have:=hlook;unfold St.look at this;simp only[hgq] at this;rw[this];simp)) p.l s rs hp with ⟨m',hm,hgo⟩| ⟨rs0,e1,e2,e3,e4⟩
        ·rw[T.dd_go] at hgo; cases hgo
        ·refine⟨fun p' hp' hu=> ?_,rs0,by unfold St.look; rw[hpr,hgq]; exact e1⟩;rw[aE.1 hp'] at hu;obtain⟨_,m,b⟩:=hu;exact e3 m b.symm
       ·rw[if_neg hpr] at hp;refine⟨fun p' hp' hu=> ?_,rs,hp⟩;rw[aE.1 hp'] at hu;exact hpr hu.1
      ·rw[dw,hxv] at hv;have hv:VR w bt (.own ⟨q,[(i,j)]⟩ t'.width 0 v.length) u:=hv;cases hv with
       |own hp hc hk ha=>exact .own cP hc hk ha
     ·cases h
    ·cases h
   ·cases h
  ·cases h
theorem yZ {el:Ty} (hw:el.width=1) (hf:el.flatB=true) {z:el.D} (hz:el.unflat el.zcs=some z): ∃zv,el.zvs= [zv] /\it zv=true/\el.row z= [.sc zv] :=by
 have hr:el.row z=el.zcs.map C.tree:=by rw[el.row_flat,el.unflat_some _ _ hz]
 rw[hr];clear hr hz z;cases el with
 |i k=>exact⟨_,rfl,rfl,rfl⟩
 |b=>exact⟨_,rfl,rfl,rfl⟩
 |s=>exact⟨_,rfl,rfl,rfl⟩
 |st n=>cases n<;>first |exact⟨_,rfl,rfl,rfl⟩| (exfalso; revert hw; decide)| (exfalso; revert hf; decide)
 |ls t=>cases hf
theorem xw (hΘ:en P Θ) (hS:S.ok) {ops:Array Oper} {o:Oper} {os:List Oper} {Post:St->Prop} {t:TypeId} {q sz lo len:Nat} (ht:sk S o=some (t,q,sz,lo,len)) {κ:TS->Option ρ} {r:ρ}
  (ih: ∀S3:TS,S3.ok->κ S3=some r->jY P ops os S3.st Post) (h:vI Θ S t q sz lo len o.dst κ=some r):jY P ops (o::os) S.st Post:=by
 unfold sk at ht;split at ht
 ·rename_i as ts hop;split at ht
  ·cases ht
  ·rename_i hgd;split at ht
   ·rename_i x t' e1 e2;split at ht
    ·rename_i r' sz' lo' len' w hx;simp only[ae,am] at ht;obtain⟨rfl,rfl,rfl,rfl,rfl⟩:=ht;have e1:as= #[x] :=by apply Array.ext'; simpa using e1
     have e2:ts= #[t'] :=by apply Array.ext'; simpa using e2
     subst e1 e2;unfold vI at h;split at h
     ·rename_i ti hti;split at h
      ·rename_i el l hq;obtain⟨hc,h0⟩:=dt h;simp only[an,decide_eq_true_eq] at hc;obtain⟨⟨⟨hty,hw⟩,hsz⟩,hfl⟩:=hc;have hw:el.width=1:=ao hw;have hsz:sz'=1:=ao hsz;split at h0
       ·rename_i z hz;unfold dy at h0;split at h0
        ·rename_i hle;obtain⟨elT',g1,g2,g3,g4,g5,g6⟩:=(hΘ _ _ hti).el el hty
         have hql:r'<S.gh.length:=by
          rcases b0 r' S.gh.length with h'|h'
          ·exact h'
          ·rw[lF h'] at hq; cases hq
         have hG:eK S.gh (dR S.gh r' (some ⟨el,l.take lo'++List.replicate len' z++l.drop (lo'+len'),none⟩)):=eK.put hq (by simp; omega);obtain⟨S3,k1,k2,_,h⟩:=gy (v:= .tup []) (TS.ok_gh hS hG) (fun x hx=>by cases hx) h0;rw[nP S _ hql] at k1;obtain⟨zv,hzv,hsc,hrow⟩:=yZ hw hfl hz
         have htr:S.st.gh r'=some (.sl 1 (l.map el.row)):=by show (ea S.gh r').map dI.tree=_;rw[hq];show some (T.sl el.width (l.map el.row))=_;rw[hw]
         have hxv:opd S.st x= .own ⟨r',[]⟩ 1 lo' len':=by rw[dw,hx,<-hsz]; rfl
         refine jY.clear hop hgd g1 (by rw[g6,hzv]) hsc hxv htr (by simpa using hle) ⟨S3.st,?_,ih S3 k2 h⟩;rw[<-k1]
         congr 1
         show _=({ S.st with gh:=dD S.st.gh r' (some (T.sl el.width ((l.take lo'++List.replicate len' z++l.drop (lo'+len')).map el.row))) }:St);rw[hw];simp only[bM,bC,bJ,dj,hrow]
        ·cases h0
       ·cases h0
      ·cases h
     ·cases h
    ·cases ht
   ·cases ht
 ·cases ht
theorem AM (hΘ:en P Θ) (hY:ib P Y) {ops:Array Oper}: ∀ (os:List Oper) (S:TS) (κ:TS->Option ρ) (r:ρ),(∀o∈os,jb P o=true)->S.ok->oI Θ Y ops.toList os S κ=some r->
  jY P ops os S.st (fun S'=> ∃S1:TS,S'=S1.st/\S1.ok/\κ S1=some r):=by
 intro os
 induction os with
 |nil=>intro S κ r _ hS h; exact jY.nil ⟨S,rfl,hS,h⟩
 |cons o os ih=>
  intro S κ r hok hS h;unfold oI at h;cases hn:oQ o with
  |some tx=>
   obtain⟨t,x⟩:=tx;rw[hn] at h;simp only at h;obtain⟨hs,h⟩:=dt h;obtain⟨⟨t',ho⟩,hg⟩:=sw hn;unfold CK at hs;split at hs
   ·rename_i ti hti;split at hs
    ·rename_i e he;obtain⟨el,hel,_⟩:=(hΘ t ti hti).el e he;split at h
     ·rename_i t1 l hx
      have way: ∀ (b:Bool),(j6 S o.dst (uc b) fun S3=>oI Θ Y ops.toList os S3 κ)=some r-> ∃S1,S.st.put o.dst (.sc (.bool b))=some S1/\jY P ops os S1 (fun S'=> ∃S1:TS,S'=S1.st/\S1.ok/\κ S1=some r):=by intro b hb;obtain⟨S3,g5,g6,_,h⟩:=gy (v:=uc b) hS trivial hb;exact⟨S3.st,g5,ih S3 κ r (fun x hx=>hok x (aA _ hx)) g6 h⟩
      have hxv:opd S.st x= .ro t1.width (l.map t1.row):=by rw[dw,hx]; rfl
      cases l with
      |nil=>obtain⟨a1,a2⟩:=yW (show Av _ _ none=some r from h);exact jY.eqnil hel ho hg hxv (fun _=>way true a1) (way false a2)
      |cons y l=>exact jY.eqnil hel ho hg hxv (fun h=>by cases h) (way false h)
     ·cases h
    ·cases hs
   ·cases hs
  |none=>
  rw[hn] at h;simp only at h;cases hcl:sk S o with
  |some z=>obtain⟨t,q,sz,lo,len⟩:=z;rw[hcl] at h;exact xw hΘ hS hcl (fun S3 hS3 h3=>ih S3 κ r (fun x hx=>hok x (aA _ hx)) hS3 h3) h
  |none=>
  rw[hcl] at h;simp only at h;cases hh:ub Y S o with
  |some z=>obtain⟨k,g,caps,q,sz,us,xs⟩:=z;rw[hh] at h;exact yY hΘ hY hS hh (fun S3 hS3 h3=>ih S3 κ r (fun x hx=>hok x (aA _ hx)) hS3 h3) h
  |none=>
  rw[hh] at h;simp only at h;cases hh':pD Y S o with
  |some z=>obtain⟨g,caps,a,us,xs⟩:=z;rw[hh'] at h;exact xt hΘ hY hS hh' (fun S3 hS3 h3=>ih S3 κ r (fun x hx=>hok x (aA _ hx)) hS3 h3) h
  |none=>
  rw[hh'] at h;simp only at h;obtain⟨b,S1,h1,h2,h3,h4,h⟩:=uw hS h;refine jY.cons (b:=b) (hok o aD) h1 ?_;cases b with
  |true=>simp only[cond_true] at h;obtain⟨D,v,S2,g1,g2,g3,g4,h⟩:=uv hΘ hY h3 h;obtain⟨S3,g5,g6,_,h⟩:=gy g3 g4 h;rw[if_pos rfl];refine⟨D,S3.st,g1,?_,ih S3 κ r (fun x hx=>hok x (aA _ hx)) g6 h⟩;unfold one;rw[<-h2,g2];exact g5
  |false=>simp only[cond_false] at h;obtain⟨S3,g5,g6,_,h⟩:=gy (v:= .tup []) h3 (fun x hx=>by cases hx) h;rw[if_neg (by simp)];exact⟨S3.st,by rw[<-h2]; exact g5,ih S3 κ r (fun x hx=>hok x (aA _ hx)) g6 h⟩
theorem AN {D D':ju} {X:St} {o:Oper} (h:D o.dst=D' o.dst):du D P X o=du D' P X o:=by
 obtain⟨dst,op,ty,pos,aft,gd⟩:=o;cases op with
 |call c=>
  obtain⟨cl,as,ts⟩:=c;cases cl with
  |value f=>simp only[du]; simp only at h; rw[h]
  |invoke a b=>rfl
  |builtin b=>cases b<;>rfl
 |unOp op t x=>cases op<;>rfl
 |binOp op t x y t'=>cases op<;>rfl
 |makeFunc fn first caps=>cases fn<;>rfl
 |slice t x lo hi mx=>cases mx<;>rfl
 | _=>rfl
theorem wy {D D':ju} {X:St} {o:Oper} (h:D o.dst=D' o.dst):eh D P X o=eh D' P X o:=by
 obtain⟨dst,op,ty,pos,aft,gd⟩:=o;cases op with
 |call c=>
  obtain⟨cl,as,ts⟩:=c;cases cl with
  |value f=>simp only[eh]; simp only at h; rw[h]
  |invoke a b=>rfl
  |builtin b=>cases b<;>rfl
 | _=>rfl
theorem CQ {D D':ju} {ops:Array Oper}: ∀ (os:List Oper) (X:St),(∀o∈os,D o.dst=D' o.dst)->oZ D P ops os X=oZ D' P ops os X:=by
 intro os
 induction os with
 |nil=>intro X _; rfl
 |cons o os ih=>intro X h;have h1:=h o aD;have h2: ∀X,oZ D P ops os X=oZ D' P ops os X:=fun X=>ih X (fun x hx=>h x (aA _ hx));simp only[oZ,h2,AN h1,wy h1]
theorem pS: ∀ (l m:List (Option dI)) (n:Nat),gone n l (l++m)= []
 | [],m,n=>by cases m<;>rfl
 |x::l,m,n=>by
  cases x with
  |none=>exact pS l m (n+1)
  |some y=>exact pS l m (n+1)
theorem vN (l:List dI):yA (l.map some)=l.map dI.tree:=by unfold yA;rw[be];rfl
theorem AO (S:TS) (out:List dI):S.st.make ⟨S.st.ng,out.map dI.tree,[]⟩=({ S with gh:=S.gh++out.map some }:TS).st:=by
 rw[mr S .dead out];unfold St.make gO;simp only[ax]
 congr 1
theorem jz.make {S1:TS} {L:List Nat} (h:jz S S1 L) (x:dI):S.st.make ⟨S.st.ng,[x.tree],gm L⟩=({ S1 with gh:=S1.gh++ [some x] }:TS).st:=by
 rw[pH,h.st,h.len];unfold St.make dropL;simp only[cH,gx]
 congr 1
 funext r
 unfold dD;by_cases hr:r=S.gh.length
 ·subst hr;rw[if_pos rfl,if_pos ⟨au _,cx _⟩];simp[TS.st]
 ·rw[if_neg hr,if_neg (by show ¬ (S.gh.length<=r/\r<S.gh.length+1); omega)]
theorem wz: ∀ (l m x:List (Option dI)) (n:Nat) (L:List Nat),m.length=l.length->(∀k,k<l.length->(((∃y,l[k]? =some (some y))/\m[k]? =some none)↔(n+k)∈L))->gone n l (m++x)=(List.range' n l.length).filter fun r=>L.contains r
 | [],m,x,n,L,hl,_=>by have :m= [] :=bq hl;subst this;cases x<;>rfl
 |a::l,[],x,n,L,hl,_=>by cases hl
 |a::l,b::m,x,n,L,hl,h=>by
  have h0:=h 0 (Nat.zero_lt_succ _)
  have ih:=wz l m x (n+1) L (by simpa using hl) (fun k hk=>by have:=h (k+1) (by simpa using hk);simp only[bS] at this;rw[this,show n+1+k=n+(k+1) by omega])
  simp only[aB,ae,cc] at h0;rw[aY,ce,List.filter_cons];cases a with
  |none=>
   have : ¬n∈L:=fun hn=>by obtain⟨⟨y,hy⟩,_⟩:=h0.2 hn;cases hy
   rw[if_neg (by simpa using this),<-ih];cases b<;>rfl
  |some y=>
   cases b with
   |none=>have :n∈L:=h0.1 ⟨⟨y,rfl⟩,rfl⟩;rw[if_pos (by simpa using this),<-ih];rfl
   |some z=>
    have : ¬n∈L:=fun hn=>by have:=(h0.2 hn).2;cases this
    rw[if_neg (by simpa using this),<-ih];rfl
theorem sx {L:List Nat} {N:Nat} (h: ∀r∈L,r<N):gm L=(List.range N).filter fun r=>L.contains r:=by
 have top:rz L<=N:=by
  induction L with
  |nil=>exact bG _
  |cons a l ih=>unfold rz;have h1:=h a aD;have h2:=ih (fun r hr=>h r (aA _ hr));omega
 unfold gm;obtain⟨k,rfl⟩: ∃k,N=rz L+k:=⟨N-rz L,by omega⟩
 rw[cg,cg,<-List.range'_append_1,List.filter_append]
 have : (List.range' (0+rz L) k).filter (fun r=>L.contains r)= [] :=by rw[List.filter_eq_nil_iff];intro r hr hc;have h1:=rL (l:=L) (r:=r) (by simpa using hc);have h2:=(List.mem_range'_1.1 hr).1;omega
 rw[this,bz]
theorem jz.gone {S1:TS} {L:List Nat} (h:jz S S1 L) (x:List (Option dI)):gone 0 S.gh (S1.gh++x)=gm L:=by
 rw[sx (N:=S.gh.length) (fun r hr=>by obtain⟨tr,ht⟩:=h.was r hr;exact lG ht),cg]
 refine wz _ _ _ _ _ h.len (fun k hk=> ?_);rw[aN];have g:=h.gh k;unfold ea at g;rw[ec,ec] at g;have hk1:k<S1.gh.length:=by rw[h.len]; exact hk
 rw[af hk,af hk1] at g ⊢;simp only[aJ,ae] at g ⊢;constructor
 ·rintro⟨⟨y,hy⟩,hn⟩
  rw[hn,hy] at g;split at g
  ·rename_i hc;simpa using hc
  ·cases g
 ·intro hL;obtain⟨tr,ht⟩:=h.was k hL;unfold ea at ht;rw[ec,af hk] at ht;simp only[aJ] at ht;rw[if_pos (by simpa using hL)] at g;exact⟨⟨tr,ht⟩,g⟩
theorem lI {G:List (Option dI)} {r j:Nat} {c:Cl} (h:c.ok G) (hr:G.length<=r):iJ r j c=c:=by
 have hb: ∀p:dC,p.r<G.length->Nat.beq p.r r=false:=fun p hp=>by
  cases hx:Nat.beq p.r r with
  |false=>rfl
  |true=>have:=ao hx;omega
 cases c with
 |own p sz lo len w=>simp only[iJ];rw[hb p h.1];split<;>rfl
 |ptrT p sz a b=>simp only[iJ];rw[hb p h];split<;>rfl
 | _=>rfl
theorem jf {α:Type} {f:α->α}: ∀ {l:List α},(∀x∈l,f x=x)->l.map f=l
 | [],_=>rfl
 |a::l,h=>by rw[aL,h a aD,jf fun x hx=>h x (aA _ hx)]
theorem uz (hS:S.ok) {r j:Nat} (hr:S.gh.length<=r):S.kill r j=S:=by
 have v1: ∀v:V1,v.ok S.gh->jL r j v=v:=by
  intro v hv;cases v with
  |cl c=>simp only[jL]; rw[lI hv hr]
  |agg cs=>simp only[jL]; rw[jf fun c hc=>lI (hv c hc) hr]
  |fn f cs=>simp only[jL]; rw[jf fun c hc=>lI (hv c hc) hr]
 have e1:S.env.map (fun x=>(x.1,qS r j x.2))=S.env:=by
  refine jf (fun x hx=> ?_);have hx:=hS.env x hx;obtain⟨t,v⟩:=x;cases v with
  |v x=>simp only[qS]; rw[v1 x hx]
  |tup l=>simp only[qS]; rw[jf fun c hc=>v1 c (hx c hc)]
 have e2:S.bx.map (fun cs=>cs.map (iJ r j))=S.bx:=by exact jf (fun cs hcs=>jf (fun c hc=>lI (hS.bx cs hcs c hc) hr))
 unfold TS.kill;rw[e1,e2]
theorem AP (hS:S.ok) {S1:TS} {no j:Nat} (hno:S.gh.length<=no) {et:Option Ty} {c:Cl} {x:C} (hc:c.ok S.gh) (h:eU S no j et c=some (x,S1)):
  ∃L,jz S S1 L/\L.Nodup/\fR S.st (u5 et) c.av=some (x.tree,L):=by
 have wp: ∀t:Ty,¬u5 (some t)=0:=fun t e=>by have:=t.width_pos;have e':t.width=0:=e;omega
 cases c with
 |c y=>
  cases y with
  |sc v=>
   cases et with
   |none=>simp only[eU,ae,am] at h;obtain⟨rfl,rfl⟩:=h;exact⟨[],jz.refl _,dg,rfl⟩
   |some t=>simp[eU] at h
  |ls t l=>cases et<;>simp[eU] at h
 |em=>
  cases et with
  |none=>simp[eU] at h
  |some t=>simp only[eU,ae,am] at h;obtain⟨rfl,rfl⟩:=h;rw[uz hS hno];refine⟨[],jz.refl _,dg,?_⟩;unfold fR;rw[if_neg (wp t)];rfl
 |own p sz lo len wh=>
  obtain⟨pr,pl⟩:=p;cases wh with
  |false=>cases et<;>simp[eU] at h
  |true=>
   cases et with
   |none=>simp[eU] at h
   |some t=>
    cases pl with
    |cons a l=>simp[eU] at h
    |nil=>
     simp only[eU] at h;obtain⟨h1,h⟩:=dt h;simp only[an,b8] at h1;obtain⟨⟨h1,h2⟩,h3⟩:=h1;have h1:t.width=sz:=ao h1;have h2:S.fz<=pr:=aw h2;split at h
     ·rename_i tr htr;split at h
      ·rename_i hh;obtain⟨h4,h⟩:=dt h;have h4':tr.t.width=sz:=ao h4;simp only[ae,am] at h;obtain⟨rfl,rfl⟩:=h;have hg:=dI.look htr;obtain⟨tt,l,hole⟩:=tr;simp only at hh h4';subst hh;obtain⟨e1,e2,e3⟩:=kX hc (fun _=>hg);have hd:=jz.one hg;rw[uz (hd.ok hS) (by rw[hd.len]; exact hno)];refine⟨[pr],hd,by simp,?_⟩;unfold fR;rw[if_neg (wp t)];simp only[Cl.av]
       have hrows:S.st.rows ⟨pr,[]⟩ sz=some (l.map tt.row):=by rw[<-h4'];refine fL ?_;unfold St.look;show (match (ea S.gh pr).map dI.tree with |some t=>t.go [] |none=> .dd)=_;rw[hg];rfl
       rw[if_pos ⟨trivial,h1.symm,e2,h2⟩,hrows];simp only[ai,ax];rw[if_pos (by omega),e3];have e4: (l.map tt.row).take l.length=l.map tt.row:=bN (by simp);rw[e4];simp only[C.tree,h4']
      ·cases h
     ·cases h
 |pro cs=>cases et<;>simp[eU] at h
 |ptrB n j=>cases et<;>simp[eU] at h
 |ptrT p sz a b=>cases et<;>simp[eU] at h
 |dead=>cases et<;>simp[eU] at h
theorem vO {X Y:St} (hfz:Y.fz=X.fz) (hg: ∀r t,Y.gh r=some t->X.gh r=some t) {s:Nat} {v:AV} {y:T×List Nat} (h:fR Y s v=some y):fR X s v=some y:=by
 unfold fR at h ⊢;split at h
 ·rename_i h0; rw[if_pos h0]; exact h
 ·rename_i h0;rw[if_neg h0];split at h
  ·exact h
  ·rename_i q s' lo len;split at h
   ·rename_i hc;rw[hfz] at hc;rw[if_pos hc];simp only[aj] at h ⊢;obtain⟨rows,hr,h⟩:=h;refine⟨rows,?_,h⟩;have hl:=fq hr;unfold St.rows
    have :X.look q= .sl s' rows:=by
     unfold St.look at hl ⊢;cases hq:Y.gh q.r with
     |none=>rw[hq] at hl; cases hl
     |some t=>rw[hq] at hl; rw[hg _ _ hq]; exact hl
    rw[this];simp
   ·cases h
  ·cases h
theorem kZ {X Y:St} (hfz:Y.fz=X.fz) (hg: ∀r t,Y.gh r=some t->X.gh r=some t): ∀ {ss:List Nat} {vs:List AV} {y:List T×List Nat},eN Y ss vs=some y->eN X ss vs=some y
 |s::ss,v::vs,y,h=>by unfold eN at h ⊢;simp only[aj,ak] at h ⊢;obtain⟨a,h1,b,h2,h3⟩:=h;exact⟨a,vO hfz hg h1,b,kZ hfz hg h2,h3⟩
 | [],[],_,h=>h
 | [],_::_,_,h=>h
 | _::_,[],_,h=>h
theorem ot {X Y:St} (hfz:Y.fz=X.fz) (hg: ∀r t,Y.gh r=some t->X.gh r=some t) {ss:List Nat}: ∀ {vss:List (List AV)} {y:List (List T)×List Nat},ev Y ss vss=some y->ev X ss vss=some y
 | [],_,h=>h
 |vs::vss,y,h=>by unfold ev at h ⊢;simp only[aj,ak] at h ⊢;obtain⟨a,h1,b,h2,h3⟩:=h;exact⟨a,kZ hfz hg h1,b,ot hfz hg h2,h3⟩
theorem jz.less {S1:TS} {L:List Nat} (h:jz S S1 L): ∀r t,S1.st.gh r=some t->S.st.gh r=some t:=by
 intro r t ht;rw[h.st] at ht;unfold dropL at ht;simp only at ht;split at ht
 ·cases ht
 ·exact ht
theorem AQ (no:Nat): ∀ (ets:List (Option Ty)) (cs:List Cl) (j:Nat) (S S1:TS) (xs:List C),S.ok->S.gh.length<=no->(∀c∈cs,c.ok S.gh)->iK no j S ets cs=some (xs,S1)->
  ∃L,jz S S1 L/\L.Nodup/\eN S.st (ets.map u5) (cs.map Cl.av)=some (xs.map C.tree,L):=by
 intro ets
 induction ets with
 |nil=>
  intro cs j S S1 xs hS hno hcs h;cases cs with
  |nil=>simp only[iK,ae,am] at h;obtain⟨rfl,rfl⟩:=h;exact⟨[],jz.refl _,dg,rfl⟩
  |cons c cs=>simp[iK] at h
 |cons et ets ih=>
  intro cs j S S1 xs hS hno hcs h;cases cs with
  |nil=>simp[iK] at h
  |cons c cs=>
   simp only[iK] at h;split at h
   ·rename_i x S2 hx;obtain⟨L1,d1,n1,e1⟩:=AP hS hno (hcs c aD) hx;split at h
    ·rename_i xs' S3 hxs;simp only[ae,am] at h;obtain⟨rfl,rfl⟩:=h;obtain⟨L2,d2,n2,e2⟩:=ih cs (j+1) S2 S3 xs' (d1.ok hS) (by rw[d1.len]; exact hno) (fun y hy=>Cl.ok_mono d1.le (hcs y (aA _ hy))) hxs;refine⟨L1++L2,d1.trans d2,d1.apart d2 n1 n2,?_⟩;simp only[aL,eN];rw[e1];simp only[ai];rw[kZ (X:=S.st) (Y:=S2.st) d1.fz d1.less e2];rfl
    ·cases h
   ·cases h
theorem za (el:Ty): ∀ (vs:List V) (S S1:TS) (l:List el.D),S.ok->(∀v∈vs,v.ok S.gh)->jM el S vs=some (l,S1)->
  ∃L,jz S S1 L/\L.Nodup/\ev S.st el.shs (vs.map fun v=>v.av.cells)=some (l.map el.row,L)/\l.length=vs.length/\ ∀v∈vs,v.av.cells.length=el.width/\v.av.isDead=false:=by
 intro vs
 induction vs with
 |nil=>intro S S1 l hS hv h;simp only[jM,ae,am] at h;obtain⟨rfl,rfl⟩:=h;exact⟨[],jz.refl _,dg,rfl,rfl,fun v hv=>by cases hv⟩
 |cons v vs ih=>
  intro S S1 l hS hv h;cases v with
  |tup x=>simp[jM] at h
  |v x=>
   have hx:=hv (.v x) aD;simp only[jM] at h;split at h
   ·rename_i ws S2 hw
    have hcells: ∀c∈x.cells,c.ok S.gh:=by
     intro c hc;cases x with
     |cl y=>rw[aE.1 hc]; exact hx
     |agg cs=>exact hx c hc
     |fn f cs=>rw[aE.1 hc]; trivial
    obtain⟨L1,d1,n1,e1⟩:=AQ _ _ _ _ _ _ _ hS (au _) hcells hw
    have hw':el.csh.length=x.cells.length/\ ∀c∈x.cells,c≠ .dead:=by obtain⟨_,m2,_,m4,_⟩:=pO S.gh.length 0 0 0 el.csh x.cells 0 S S2 ws [x.cells.map fun c=>T.ofSc c.av] (x.cells.map fun c=>T.ofSc c.av) hS hcells hw rfl (by simp) (fun k c hk=>by rw[aN,al,hk]; rfl);exact⟨m2,m4⟩
    split at h
    ·rename_i y ys S3 hy hys;simp only[ae,am] at h;obtain⟨rfl,rfl⟩:=h;obtain⟨L2,d2,n2,e2,e3,e4⟩:=ih S2 S3 ys (d1.ok hS) (fun u hu=>V.ok_mono d1.le (hv u (aA _ hu))) hys
     have hsh:el.shs=el.csh.map u5:=by unfold Ty.shs;refine aF fun c _=> ?_;cases c<;>rfl
     have hav: (V.v x).av.cells=x.cells.map Cl.av:=by
      cases x with
      |cl c=>
       simp only[V.av,V1.av,V1.cells,aL,bW];cases c with
       |c y=>cases y<;>rfl
       | _=>rfl
      |agg cs=>rfl
      |fn f cs=>exact absurd rfl (hw'.2 .dead (aE.2 rfl))
     refine⟨L1++L2,d1.trans d2,d1.apart d2 n1 n2,?_,by simp[e3],fun u hu=> ?_⟩
     ·simp only[aL,ev];rw[hav,hsh,e1];simp only[ai];rw[<-hsh,ot (X:=S.st) (Y:=S2.st) d1.fz d1.less e2];simp only[ay];rw[el.row_flat,el.unflat_some _ _ hy]
     ·rcases aV.1 hu with rfl|hu
      ·refine⟨?_,?_⟩
       ·rw[hav,ax,<-hw'.1];have:=mt el;unfold Ty.shs at this;simpa using this
       ·cases x with
        |cl c=>
         have:=hw'.2 c (aE.2 rfl);cases c with
         |c y=>cases y<;>rfl
         |dead=>exact absurd rfl this
         | _=>rfl
        |agg cs=>rfl
        |fn f cs=>rfl
      ·exact e4 u hu
    ·cases h
   ·cases h
theorem zb (hΘ:en P Θ) {t:TypeId} (h:Dt Θ t=true): ∃ti el elT',gn Θ t=some ti/\ti.ty= .ls el/\lQ P t=some elT'/\P.cellsOf elT'=el.width/\P.bytesOf elT'=ti.el/\0<ti.el/\hO P 9 elT'=el.shs/\nu P elT'=some el.zvs:=by
 unfold Dt at h;split at h
 ·rename_i ti hti;split at h
  ·rename_i el he;obtain⟨elT',g⟩:=(hΘ _ _ hti).el el he;exact⟨ti,el,elT',hti,he,g⟩
  ·cases h
 ·cases h
theorem AR {el:Ty} {v:Cl} (hv:v.ok S.gh) {κ:List el.D->TS->Option ρ} {r:ρ} (h:yx S el v κ=some r):
  ∃more L S1,jz S S1 L/\eB S.st el.width el.flatB v.av=some (more.map el.row,L)/\κ more S1=some r:=by
 unfold yx at h;split at h
 ·exact⟨[],[],S,jz.refl _,rfl,h⟩
 ·rename_i t l;obtain⟨h1,h⟩:=dt h;split at h
  ·rename_i l' hl;obtain⟨e,hl⟩:=eH hl;subst e;simp only at hl;subst hl;refine⟨l,[],S,jz.refl _,?_,h⟩;simp only[Cl.av,C.av,eB];rw[if_pos ⟨trivial,lH h1 l⟩]
  ·cases h
 ·rename_i p sz lo len w;obtain⟨h0,h⟩:=dt h;have h0:el.width=sz:=ao h0;cases hfl:el.flatB with
  |true=>
   rw[hfl] at h;simp only[cond_true] at h;obtain⟨t,l,h1,h2,h⟩:=ez h;split at h
   ·rename_i l' hl;obtain⟨e,hl⟩:=eH hl;subst e;simp only at hl;subst hl
    have src: ∀ (lo len:Nat),lo+len<=l.length->eB S.st t.width true (.own p sz lo len)=some (((l.drop lo).take len).map t.row,[]):=by intro lo len hle;simp only[eB];rw[if_pos h0.symm,fL h1];simp only[ai,ax];rw[if_neg (by simp),if_pos ⟨hle,by rw[<-bJ,<-bC]; exact lH hfl _⟩];simp[bC,bJ]
    cases w with
    |true=>obtain⟨e1,e2,e3⟩:=kX hv h2;refine⟨l,[],S,jz.refl _,?_,h⟩;have:=src lo len (by omega);rw[e2,e3,bQ,b6] at this;simp only[Cl.av];rw[e2,e3];exact this
    |false=>simp only[cond_false] at h;obtain⟨h3,h⟩:=dN h;exact⟨_,[],S,jz.refl _,src lo len h3,h⟩
   ·cases h
  |false=>
   rw[hfl] at h;simp only[cond_false] at h;split at h
   ·rename_i hpl;obtain⟨h1,h'⟩:=dt h;clear h;simp only[an] at h1;obtain⟨rfl,hfz⟩:=h1;have hfz:S.fz<=p.r:=aw hfz;obtain⟨t,l,g1,g2,h⟩:=ez h';split at h
    ·rename_i l' hl;obtain⟨e,hl⟩:=eH hl;subst e;simp only at hl;subst hl;obtain⟨e1,e2,e3⟩:=kX hv g2;refine⟨l,[p.r],_,jz.one (g2 e1),?_,h⟩;simp only[Cl.av,eB];rw[if_pos h0.symm,fL g1];simp only[ai,ax];rw[if_pos ⟨trivial,e1,e2,e3,hfz⟩]
    ·cases h
   ·cases h
 ·cases h
theorem zd {el:Ty} {v:Cl} (hv:v.ok S.gh) (hroot:wl (.v (.cl v))=true) {more:List el.D} {κ:List el.D->TS->Option ρ} {r:ρ} (h:ua S el v more κ=some r):
  ∃ (l0:List el.D) (cons:List Nat) (S':TS),gF S.st el.width v.av=some (l0.map el.row,cons)/\jz S S' cons/\κ (l0++more) S'=some r:=by
 unfold ua at h;split at h
 ·exact⟨[],[],S,rfl,jz.refl _,h⟩
 ·rename_i p sz lo len w;obtain⟨pr,pl⟩:=p;cases pl with
  |cons a l=>cases hroot
  |nil=>
   obtain⟨h0,h'⟩:=dt h;clear h;simp only[an] at h0;have hfz:S.fz<=pr:=aw h0.1;have hsz:el.width=sz:=ao h0.2;simp only at h';obtain⟨t,l,h1,h2,h⟩:=ez h';split at h
   ·rename_i l' hl;obtain⟨e,hl⟩:=eH hl;subst e;simp only at hl;subst hl
    have base: ∀ (len:Nat),¬l.length<len->gF S.st t.width (.own ⟨pr,[]⟩ sz 0 len)=some ((l.take len).map t.row,[pr]):=by intro len hlen;simp only[gF];rw[if_pos ⟨hsz.symm,trivial,trivial,hfz⟩,fL h1];simp only[ai,ax];rw[if_neg hlen,bC]
    cases w with
    |true=>obtain⟨e1,e2,e3⟩:=kX hv h2;refine⟨l,[pr],_,?_,jz.one (h2 rfl),h⟩;have:=base l.length (by omega);rw[b6] at this;simp only[Cl.av];rw[e2,e3];exact this
    |false=>simp only[cond_false] at h;obtain⟨h3,h⟩:=dN h;obtain⟨h4,h⟩:=nL h;refine⟨l.take len,[pr],_,?_,jz.one (h2 rfl),h⟩;simp only[Cl.av];rw[h3];exact base len h4
   ·cases h
 ·cases h
theorem AU (hΘ:en P Θ) (hY:ib P Y) (hS:S.ok) {o:Oper} (hn:ff o=true) (hf:CM Θ o=true) (hb:BH S o=true) {κ:V->TS->Option ρ} {r:ρ} (h:mZ Θ Y S o κ=some r):
  ∃D v0 v adds cons S',gQ P D/\eh D P S.st o=some (v0,adds,cons)/\shift S.st.ng v0=V.av v/\S.st.make ⟨S.st.ng,adds,cons⟩=TS.st S'/\nJ S S'=⟨S.st.ng,adds,cons⟩/\S'.ok/\v.ok S'.gh/\κ v S'=some r:=by
 obtain⟨dst,op,ty,pos,aft,gd⟩:=o;cases op with
 |buildSlice t len parts=>
  obtain⟨ti,el,elT',hti,he,g1,g2,g3,g4,g5,g6⟩:=zb hΘ hf;unfold mZ at h;simp only[hti,he] at h;obtain⟨hb',h'⟩:=dt h;clear h
  have hnr: ((parts.toList.map fun x=>S.opd x.2).any pC)=false:=by have hb: (!(parts.toList.map fun x=>S.opd x.2).any pC)=true:=hb;simpa using hb
  rw[hnr] at h';simp only[cond_false] at h';split at h'
  ·rename_i l S1 hp
   have hvok: ∀v∈parts.toList.map (fun x=>S.opd x.2),v.ok S.gh:=fun v hv=>by obtain⟨y,_,rfl⟩:=aG.1 hv;exact fW hS _
   obtain⟨L,d,hnd,m1,m2,m3⟩:=za el _ S S1 l hS hvok hp;simp only[an] at hb';have hb1:len*el.width<=1048576:=aw hb'.1;have hb2:=sq hb'.2
   have hlen:l.length=len:=by rw[m2];have:=congrArg List.length hb2;simpa using this
   refine⟨tc, .own ⟨0,[]⟩ el.width 0 len,_,[.sl el.width (l.map el.row)],gm L,{ S1 with gh:=S1.gh++ [some ⟨el,l,none⟩] },eW,?_,?_,d.make ⟨el,l,none⟩,?_,TS.ok_gh (d.ok hS) (eK.app _ _),?_,h'⟩
   ·simp only[eh,g1,ai]
    rw[if_pos ⟨by rw[g2]; exact hb1,hb2,by rw[g2]; exact el.width_pos,by rw[g6]; rfl,by rw[ar];intro y hy;obtain⟨q1,q2⟩:=m3 (S.opd y.2) (aG.2 ⟨y,hy,rfl⟩);simp only[dw,q1,q2,g2];rfl⟩]
    have e: (parts.toList.map fun x=>(opd S.st x.2).cells)=(parts.toList.map fun x=>S.opd x.2).map fun v=>v.av.cells:=by rw[be];exact aF fun x _=>by simp only[dw,Function.comp]
    rw[e,g5,m1];simp only[ai];rw[if_pos (oM.2 hnd),g2]
   ·simp only[shift,gk,ic,V.av,V1.av,Cl.av,aN,hlen];rw[d.len];rfl
   ·unfold nJ;simp only;rw[d.gone,cF (by rw[d.len]; exact au _),bX (by rw[d.len]; exact au _)];rfl
   ·refine⟨by simp,fun _=>⟨rfl,rfl,fun tr htr=> ?_⟩⟩;rw[fX,if_pos rfl] at htr;cases htr;rfl
  ·cases h'
 |call c=>
  obtain⟨cl,as,ts⟩:=c;cases cl with
  |invoke a b=>cases hn
  |value f=>
   unfold mZ at h;simp only at h
   have fin: ∀ (g:FuncId) (caps:List AV) (vs:List V1),g<ft->callee S.st f=some (g,caps)->args P S.st ts as caps=vs.map V1.av->Y g vs ρ (fun res out=>κ (kA S.gh.length res) { S with gh:=S.gh++out.map some })=some r->
     ∃D v0 v adds cons S',gQ P D/\eh D P S.st ⟨dst, .call { callee:= .value f,args:=as,argTypes:=ts },ty,pos,aft,gd⟩=some (v0,adds,cons)/\shift S.st.ng v0=V.av v/\S.st.make ⟨S.st.ng,adds,cons⟩=TS.st S'/\nJ S S'=⟨S.st.ng,adds,cons⟩/\S'.ok/\v.ok S'.gh/\κ v S'=some r:=by
    intro g caps vs hg h1 h2 h3;obtain⟨res,out,h4,h5,h6⟩:=hY _ _ _ _ _ h3;have h4:=h4.fn hg;refine⟨xm dst g (vs.map V1.av) (res.av,out.map dI.tree),res.av,_,out.map dI.tree,[],_,pJ h4,?_,?_,AO S out,?_,TS.ok_gh hS (eK.apps _ _),nR h5,h6⟩
    ·simp only[eh,h1,ai,h2];rw[wu];rfl
    ·rw[nQ]; rfl
    ·unfold nJ;simp only[pS,cF (au _),List.drop_length,bB,vN];rfl
   unfold wj at h;split at h
   ·rename_i g x y hf';obtain⟨hg,h⟩:=dt h;have hg:g<ft:=aw hg;obtain⟨vs,h1,h⟩:=j7 hΘ hS _ _ _ _ h;refine fin g [] vs hg ?_ ?_ h
    ·unfold callee;rw[dw,hf'];rfl
    ·unfold args;simp only[bW,bz];exact h1
   ·rename_i g caps hf';obtain⟨hg,h⟩:=dt h;have hg:g<ft:=aw hg;obtain⟨vs,h1,h⟩:=j7 hΘ hS _ _ _ _ h
    have hcaps: ∀c∈caps,c.ok S.gh:=by have:=fW hS f;rw[hf'] at this;exact this
    obtain⟨cs,h2,h⟩:=m9 hS _ _ _ hcaps h;refine fin g (caps.map Cl.av) (vs++cs.map .cl) hg ?_ ?_ h
    ·unfold callee;rw[dw,hf'];rfl
    ·unfold args;rw[h1,h2,bM,be];rfl
   ·cases h
  |builtin b=>
   cases b with
   |append=>
    unfold mZ at h;simp only at h;split at h
    ·rename_i s x t t' e1 e2;have hbb: ((match ts.toList with | [t,t'] =>Nat.beq t t'| _=>true)&&(match as.toList with |s::_=>wl (S.opd s)| [] =>true))=true:=hb;rw[e1,e2] at hbb;simp only[an] at hbb;rw[hbb.1] at h;simp only[cond_true] at h;have h':=h;have ht:t=t':=ao hbb.1;clear h;have e1:as= #[s,x] :=by apply Array.ext'; simpa using e1
     have e2:ts= #[t,t'] :=by apply Array.ext'; simpa using e2
     subst e1 e2;subst ht;obtain⟨ti,el,elT',hti,he,g1,g2,g3,g4,g5,g6⟩:=zb hΘ hf;unfold Au at h';simp only[hti] at h';split at h'
     ·rename_i el' sv xv he' hs hx;rw[he] at he';cases he';have hsv:=fW hS s;rw[hs] at hsv;have hxv:=fW hS x;rw[hx] at hxv;obtain⟨more,L,S1,d1,q1,h⟩:=AR (show xv.ok S.gh from hxv) h';have hroot:wl (.v (.cl sv))=true:=by rw[<-hs]; exact hbb.2
      obtain⟨l0,cons,S2,q2,d2,h⟩:=zd (show sv.ok S1.gh from Cl.ok_mono d1.le hsv) hroot h;obtain⟨hbd,h⟩:=dN h;have hlen: (l0++more).length<=2 ^ 40:=bA (cS _ g4) hbd;have hll: (l0++more).length=l0.length+more.length:=by simp
      have d:=d1.trans d2;refine⟨tc, .own ⟨0,[]⟩ el.width 0 (l0.length+more.length),_,[.sl el.width ((l0++more).map el.row)],gm (L++cons),{ S2 with gh:=S2.gh++ [some ⟨el,l0++more,none⟩] },eW,?_,?_,d.make ⟨el,l0++more,none⟩,?_,TS.ok_gh (d.ok hS) (eK.app _ _),?_,h⟩
      ·simp only[eh];rw[if_pos trivial,g1];simp only[ai,g2,g5,nS,dw,hs,hx];show (eB S.st el.width el.flatB xv.av).bind _=_;rw[q1];simp only[ai];show (gF (dropL S.st L) el.width sv.av).bind _=_;rw[<-d1.st,q2];simp only[ai,ax];rw[if_pos ⟨by rw[g3,<-hll]; exact hbd,by rw[<-hll]; exact hlen,el.width_pos,by rw[oT g2 g5 g6]; rfl⟩,bM]
      ·simp only[shift,gk,ic,V.av,V1.av,Cl.av,aN,hll];rw[d.len];rfl
      ·unfold nJ;simp only;rw[d.gone,cF (by rw[d.len]; exact au _),bX (by rw[d.len]; exact au _)];rfl
      ·refine⟨by simp,fun _=>⟨rfl,rfl,fun tr htr=> ?_⟩⟩;rw[fX,if_pos rfl] at htr;cases htr;rfl
     ·cases h'
    ·cases h
   | _=>cases hn
 | _=>cases hn
end
end
section
open Go
section
variable {ρ:Type} {P:Program} {Θ:iC} {S:TS} {Y:oP}
open Classical in
noncomputable def ne (d:Option Tmp) (D1 D2:ju):ju:=fun d'=>if d'=d then D1 d' else D2 d'
theorem uA {d:Option Tmp} {D1 D2:ju} (h1:gQ P D1) (h2:gQ P D2):gQ P (ne d D1 D2):=by
 intro d' f args gs res out h;unfold ne at h;split at h
 ·exact h1 _ _ _ _ _ _ h
 ·exact h2 _ _ _ _ _ _ h
theorem zf (d:Option Tmp) (D1 D2:ju):ne d D1 D2 d=D1 d:=by unfold ne; rw[if_pos rfl]
theorem zg {d d':Option Tmp} (D1 D2:ju) (h:d'≠d):ne d D1 D2 d'=D2 d':=by unfold ne; rw[if_neg h]
theorem AW (hΘ:en P Θ) (hY:ib P Y) {ops:Array Oper}: ∀ (os:List Oper) (S:TS) (ms:List eO) (κ:TS->List eO->Option ρ) (r:ρ),S.ok->ud Θ Y ops.toList os S ms κ=some r->
  ∃D SV ms',gQ P D/\oZ D P ops os S.st=some (TS.st SV,ms')/\SV.ok/\κ SV (ms++ms')=some r:=by
 intro os
 induction os with
 |nil=>intro S ms κ r hS h; exact⟨tc,S,[],eW,rfl,hS,by rw[bz]; exact h⟩
 |cons o os ih=>
  intro S ms κ r hS h;unfold ud at h;cases hst:dq o with
  |true=>
   rw[hst] at h;simp only[cond_true] at h;obtain⟨D,SV,ms',h1,h2,h3,h4⟩:=ih _ _ _ _ hS h;refine⟨D,SV,⟨S.gh.length,[],[]⟩::ms',h1,?_,h3,?_⟩
   ·simp only[oZ,hst,if_true,h2,ay];rfl
   ·rw[aK] at h4;exact h4
  |false=>
   rw[hst] at h;simp only[cond_false] at h;cases hbo:dZ o with
   |true=>
    rw[hbo] at h;simp only[cond_true] at h;cases hgn:o.guard.isNone with
    |false=>rw[hgn] at h; cases h
    |true=>
    rw[hgn] at h;simp only[cond_true] at h;obtain⟨S3,g5,g6,_,h⟩:=gy (v:=V.v (.cl (.ptrB (S.bx.length-1-dU os) 0))) hS trivial h;obtain⟨D,SV,ms',k1,k2,k3,k4⟩:=ih _ _ _ _ g6 h;refine⟨D,SV,⟨S.gh.length,[],[]⟩::ms',k1,?_,k3,?_⟩
    ·simp only[oZ,hst,aO,if_false,hbo,if_true,hgn];rw[show S.st.put o.dst (.ptrB (S.st.nb-1-dU os) 0)=some S3.st from g5];simp only[ai,k2,ay];rfl
    ·rw[aK] at k4;exact k4
   |false=>
   rw[hbo] at h;simp only[cond_false] at h;obtain⟨b,S1,h1,h2,h3,h4,h⟩:=uw hS h;have hng:S.st.ng=S1.st.ng:=by rw[h2]
   cases b with
   |false=>
    simp only[cond_false] at h;obtain⟨S3,g5,g6,_,h⟩:=gy (v:= .tup []) h3 (fun x hx=>by cases hx) h;obtain⟨D,SV,ms',k1,k2,k3,k4⟩:=ih _ _ _ _ g6 h;refine⟨D,SV,⟨S1.gh.length,[],[]⟩::ms',k1,?_,k3,?_⟩
    ·simp only[oZ,hst,hbo,aO,if_false,h1,ai];rw[<-h2,show S1.st.put o.dst (.tup [])=some S3.st from g5];simp only[ai,k2,ay];rfl
    ·rw[aK] at k4;exact k4
   |true=>
    simp only[cond_true] at h;cases hnw:ff o with
    |false=>
     rw[hnw] at h;simp only[cond_false] at h;obtain⟨v,S2,m1,m2,m3,m4,m5,h⟩:=qV (D:=tc) hΘ h3 h;obtain⟨S3,g5,g6,_,h⟩:=gy m3 (by rw[m4]; exact m5) h;obtain⟨D,SV,ms',k1,k2,k3,k4⟩:=ih _ _ _ _ g6 h;refine⟨D,SV,⟨S1.gh.length,[],[]⟩::ms',k1,?_,k3,?_⟩
     ·have hV:du D P S1.st o=some v.av:=by
       rw[<-m1]
       have : ∀D':ju,du D P S1.st o=du D' P S1.st o:=by
        intro D';obtain⟨dst,op,ty,pos,aft,gd⟩:=o;cases op with
        |call c=>
         obtain⟨cl,as,ts⟩:=c;cases cl with
         |value f=>cases hnw
         |invoke a b=>rfl
         |builtin b=>cases b<;>rfl
        |unOp op t x=>cases op<;>rfl
        |binOp op t x y t'=>cases op<;>rfl
        |makeFunc fn first caps=>cases fn<;>rfl
        |slice t x lo hi mx=>cases mx<;>rfl
        | _=>rfl
       exact this tc
      simp only[oZ,hst,hbo,aO,if_false,h1,ai,if_true,hnw];rw[<-h2,hV];simp only[ai];rw[<-m2,g5];simp only[ai,k2,ay];rw[m2]; first |rfl|skip
     ·rw[aK] at k4;exact k4
    |true=>
     rw[hnw] at h;simp only[cond_true] at h;obtain⟨hc,h⟩:=dt h;simp only[an] at hc;obtain⟨D1,v0,v,adds,cons,S2,m1,m2,m3,m4,m5,m6,m7,h⟩:=AU hΘ hY h3 hnw hc.1.2 hc.2 h;obtain⟨S3,g5,g6,_,h⟩:=gy m6 m7 h;obtain⟨D,SV,ms',k1,k2,k3,k4⟩:=ih _ _ _ _ g6 h;refine⟨ne o.dst D1 D,SV,⟨S1.st.ng,adds,cons⟩::ms',uA m1 k1,?_,k3,?_⟩
     ·have hN:eh (ne o.dst D1 D) P S1.st o=some (v0,adds,cons):=by
       rw[<-m2];exact wy (zf _ _ _)
      have hrest:oZ (ne o.dst D1 D) P ops os S3.st=some (SV.st,ms'):=by
       rw[<-k2];refine CQ os _ (fun o' ho'=>zg _ _ (fun e=> ?_));have hl:=hc.1.1;unfold CL at hl;split at hl
       ·rename_i d hd;have:=ar.1 hl o' ho';unfold BG at this;rw[e,hd] at this;simp only[ch,bP] at this;cases this
       ·cases hl
      simp only[oZ,hst,hbo,aO,if_false,h1,ai,if_true,hnw];rw[<-h2,hN];simp only[ai];rw[m4,m3,g5];simp only[ai,hrest,ay]
      first |rfl|skip
     ·rw[aK,m5] at k4;exact k4
theorem AX (hΘ:en P Θ) (hY:ib P Y) {ops:Array Oper} {D:ju}: ∀ (os:List Oper) (S:TS) (κ:TS->Option ρ) (r:ρ),S.ok->yC Θ Y os S κ=some r->
  ∃S',qh D P ops os S.st=some (TS.st S')/\S'.ok/\κ S'=some r:=by
 intro os
 induction os with
 |nil=>intro S κ r hS h; exact⟨S,rfl,hS,h⟩
 |cons o os ih=>
  intro S κ r hS h;unfold yC at h;cases hst:dq o with
  |false=>rw[hst] at h;obtain⟨S',h1,h2,h3⟩:=ih S κ r hS h;exact⟨S',by simp only[qh,hst,aO,if_false]; exact h1,h2,h3⟩
  |true=>
   rw[hst] at h;simp only[cond_true] at h;obtain⟨hc,h⟩:=dt h;simp only[an] at hc;obtain⟨D',v,S1,g1,g2,g3,g4,h⟩:=uv hΘ hY hS h;obtain⟨S',h1,h2,h3⟩:=ih S1 κ r g3 h;refine⟨S',?_,h2,h3⟩;have hd:o.dst=none:=cN.1 hc.2
   have hs:eX D P S.st o=some (v.av,S1.st):=by
    rw[<-g2];obtain⟨dst,op,ty,pos,aft,gd⟩:=o;cases op with
    |store t a x=>rfl
    | _=>cases hst
   have ho:one D P S.st o=some S1.st:=by unfold one;rw[hs];simp only[ai,hd,St.put]
   simp only[qh,hst,if_true,ho,ai,h1];rw[if_pos ⟨hc.1,by rw[hd]; rfl⟩]
theorem AY (hΘ:en P Θ): ∀ (os:List Oper) (S:TS) (κ:TS->Option ρ) (r:ρ),S.ok->yB Θ os S κ=some r-> ∃S0,rA P os S.st=some (TS.st S0)/\S0.ok/\κ S0=some r:=by
 intro os
 induction os with
 |nil=>intro S κ r hS h; exact⟨S,rfl,hS,h⟩
 |cons o os ih=>
  intro S κ r hS h;unfold yB at h;unfold rA;split at h
  ·rename_i t hop;split at h
   ·rename_i ti hti
    obtain⟨S0,h1,h2,h3⟩:=ih { S with bx:=S.bx++ [ti.ty.zvs.map cC] } κ r ⟨hS.env,fun cs hcs c hc=>by
     rcases aZ.1 hcs with h1|h1
     ·exact hS.bx cs h1 c hc
     ·simp only[aE] at h1;subst h1;exact yI _ _ c hc⟩ h
    refine⟨S0,?_,h2,h3⟩;rw[hop];simp only[(hΘ _ _ hti).ze,ai];rw[<-h1]
    congr 1
    rw[vK,yH];rfl
   ·cases h
  ·rename_i hno;obtain⟨S0,h1,h2,h3⟩:=ih S κ r hS h;exact⟨S0,by rw[<-h1]; split<;>first | (rename_i t ht; exact absurd ht (hno t))|rfl,h2,h3⟩
theorem vP {f g:TypeId->Bool} (h: ∀t,f t=true->g t=true) {t:TypeId} {a:AV} (hs:qH f t a=true):qH g t a=true:=by cases a<;>simp only[qH] at hs ⊢<;>first |exact h t hs|exact hs
theorem uB {f g:TypeId->Bool} (h: ∀t,f t=true->g t=true) {ops:List Oper} {B:List (List Nat)} {S SV:St} {i j:Nat} {oi oj:Oper} (hs:kp f ops B S SV i j oi oj=true):kp g ops B S SV i j oi oj=true:=by
 unfold kp at hs ⊢;split at hs
 ·simp only[an] at hs ⊢;exact⟨vP h hs.1,hs.2⟩
 ·cases hs
theorem uC {ops:List Oper} {B:List (List Nat)} {f g:Nat->Nat->Oper->Oper->Bool} (h: ∀i j oi oj,f i j oi oj=true->g i j oi oj=true) (hs:mb ops B f=true):mb ops B g=true:=by
 unfold mb at hs ⊢;refine ar.2 fun j hj=> ?_;have h1:=ar.1 hs j hj;split at h1
 ·cases h1
 ·simp only[bD] at h1 ⊢;refine h1.imp id fun h1=>ar.2 fun i hi=> ?_;have h2:=ar.1 h1 i hi;split at h2
  ·cases h2
  ·simp only[bD] at h2 ⊢;exact h2.imp id (h _ _ _ _)
theorem xx {f g:TypeId->Bool} (h: ∀t,f t=true->g t=true) {ops:List Oper} {B:List (List Nat)} {S SV:St} {ms:List eO} (hs:u7 f ops B S ms SV=true):u7 g ops B S ms SV=true:=by unfold u7 at hs ⊢;simp only[an,bD] at hs ⊢;exact⟨⟨hs.1.1,hs.1.2.imp (uC fun _ _ _ _=>uB h) id⟩,hs.2⟩
theorem AZ (hΘ:en P Θ) (t:TypeId) (h:yD Θ t=true):mM P t=true:=by
 unfold yD at h;split at h
 ·rename_i ti hti;unfold mM;rw[(hΘ t ti hti).sh];unfold Ty.flatB at h;unfold Ty.shs;rw[List.all_map,ar];intro x hx;have:=ar.1 h x hx;cases x with
  |none=>rfl
  |some e=>cases this
 ·cases h
theorem A0 (hΘ:en P Θ) (hY:ib P Y) (hm:P.follows .mixedOrders=true) {id:Nat} {ops:Array Oper} (hok:nA P ops=true) (hS:S.ok) {κ:TS->Option ρ} {r:ρ} (h:B9 Θ Y ops.toList S κ=some r):
  jc P (.region id ops true) S.st (fun x S'=>x= .nor/\ ∃S1:TS,S'=S1.st/\S1.ok/\κ S1=some r):=by
 unfold B9 at h;obtain⟨S0,h0,hS0,h⟩:=AY hΘ _ _ _ _ hS h;obtain⟨D,SV,ms,h1,h2,h3,h4⟩:=AW hΘ hY _ _ _ _ _ hS0 h;obtain⟨h5,h6⟩:=dt h4;rw[bB] at h5;obtain⟨S',h7,h8,h9⟩:=AX (D:=D) (ops:=ops) hΘ hY _ _ _ _ h3 h6;exact jc.draw h1 hm hok h0 h2 (xx (AZ hΘ) h5) h7 ⟨rfl,S',rfl,h8,h9⟩
def ey:Code->List Code
 | .seq a b=>ey a++ey b
 | .cond _ a b=>ey a++ey b
 | .block _ c=>ey c
 | .loop c=> [c]
 | _=> []
def fM (P:Program) (Λ:lY) (cs:List Code):Prop:= ∀c∈cs,∀ (S:TS) (ρ:Type) (κ:X->TS->Option ρ) (r:ρ),S.ok->Λ (eD c) S ρ κ=some r->jc P (.loop c) S.st (fun x S'=> ∃S1:TS,S'=S1.st/\S1.ok/\κ x S1=some r)
theorem sy (hΘ:en P Θ) (hY:ib P Y) (hm:P.follows .mixedOrders=true) {Λ:lY}: ∀ (c:Code) (S:TS) (κ:X->TS->Option ρ) (r:ρ),gC P c=true->fM P Λ (ey c)->S.ok->nK Θ Y Λ c S κ=some r->
  jc P c S.st (fun x S'=> ∃S1:TS,S'=S1.st/\S1.ok/\κ x S1=some r):=by
 intro c
 induction c with
 |skip=>intro S κ r _ _ hS h; exact jc.skip ⟨S,rfl,hS,h⟩
 |exit i=>intro S κ r _ _ hS h; exact jc.exit ⟨S,rfl,hS,h⟩
 |ret=>intro S κ r _ _ hS h; exact jc.ret ⟨S,rfl,hS,h⟩
 |region id ops dr=>
  intro S κ r hok _ hS h;cases dr with
  |false=>exact jc.region (AM hΘ hY _ _ _ _ (fun o ho=>ar.1 hok o ho) hS h)
  |true=>refine (A0 hΘ hY hm hok hS h).mono (fun x S' hx=> ?_);obtain⟨rfl,hx⟩:=hx;exact⟨S',iw.refl,hx⟩
 |seq a b iha ihb=>
  intro S κ r hok hL hS h;simp only[gC,an] at hok;have hLa:fM P Λ (ey a):=fun c hc=>hL c (bL _ hc);have hLb:fM P Λ (ey b):=fun c hc=>hL c (cn _ hc);unfold nK at h;refine jc.seq ((iha S _ r hok.1 hLa hS h).mono (fun x S' hx=>⟨S',iw.refl,?_⟩));obtain⟨S1,rfl,h1,h2⟩:=hx;cases x with
  |nor=>exact ihb S1 κ r hok.2 hLb h1 h2
  |ret=>exact⟨S1,rfl,h1,h2⟩
  |ext i=>exact⟨S1,rfl,h1,h2⟩
 |cond t a b iha ihb=>
  intro S κ r hok hL hS h;simp only[gC,an] at hok;have hLa:fM P Λ (ey a):=fun c hc=>hL c (bL _ hc);have hLb:fM P Λ (ey b):=fun c hc=>hL c (cn _ hc);unfold nK at h;obtain⟨v,S1,h1,h2,h3,h4,h⟩:=pG hS h;refine jc.cond h1 ?_;rw[<-h2];cases v with
  |true=>exact iha S1 κ r hok.1 hLa h3 h
  |false=>exact ihb S1 κ r hok.2 hLb h3 h
 |block i c ih=>
  intro S κ r hok hL hS h;unfold nK at h;refine jc.block ((ih S _ r hok hL hS h).mono (fun x S' hx=>⟨S',iw.refl,?_⟩));obtain⟨S1,rfl,h1,h2⟩:=hx;cases x with
  |nor=>exact⟨S1,rfl,h1,h2⟩
  |ret=>exact⟨S1,rfl,h1,h2⟩
  |ext j=>
   simp only at h2 ⊢;cases hb:Nat.beq j i with
   |true=>rw[hb] at h2;rw[if_pos (ao hb)];exact⟨S1,rfl,h1,h2⟩
   |false=>rw[hb] at h2;rw[if_neg (by intro e; subst e; rw[ch] at hb; cases hb)];exact⟨S1,rfl,h1,h2⟩
 |loop c ih=>intro S κ r hok hL hS h;exact hL c (aE.2 rfl) S ρ κ r hS h
 | _=>intro S κ r hok; cases hok
end
end
section
open Go
section
variable {ρ:Type} {P:Program} {Θ:iC} {S:TS} {Y:oP}
theorem wA (hS:S.ok) {gs:List dI} {et:Option Ty} {c:Cl} (hc:c.ok S.gh) {κ:Cl->List dI->TS->Option ρ} {r:ρ} (h:Aw S gs et c κ=some r):
  ∃c' gs' S',oE S.st (gs.map dI.tree) (u5 et) c.av=some (Cl.av c',gs'.map dI.tree,TS.st S')/\S'.ok/\eK S.gh S'.gh/\eK (gs.map some) (gs'.map some)/\c'.ok (gs'.map some)/\κ c' gs' S'=some r:=by
 have new: ∀ (t:Ty) (l:List t.D) (n:Nat),n=l.length->(Cl.own ⟨gs.length,[]⟩ t.width 0 n true).ok ((gs++ [(⟨t,l,none⟩:dI)]).map some):=by intro t l n hn;refine⟨by simp,fun _=>⟨rfl,rfl,fun tr htr=> ?_⟩⟩;rw[bM] at htr;have e:=fX (G:=gs.map some) (x:=some (⟨t,l,none⟩:dI)) gs.length;simp only[ax,if_true] at e;have htr':ea (gs.map some++ [some (⟨t,l,none⟩:dI)]) gs.length=some tr:=htr;rw[e] at htr';cases htr';exact hn
 have grow: ∀ (x:dI),eK (gs.map some) ((gs++ [x]).map some):=fun x=>by rw[bM]; exact eK.app _ _
 unfold Aw at h;split at h
 ·refine⟨_,_,_,rfl,hS,eK.refl _,eK.refl _,?_,h⟩;trivial
 ·rename_i t;refine⟨_,_,S,?_,hS,eK.refl _,grow _,new t [] 0 rfl,h⟩;simp only[Cl.av,oE,u5,ax,bM,aL,bW];rfl
 ·rename_i p sz lo len w t';obtain⟨pr,pl⟩:=p;cases pl with
  |cons a l=>cases h
  |nil=>
   simp only at h;obtain⟨h1,h'⟩:=dt h;clear h;simp only[an] at h1;have h2:S.fz<=pr:=aw h1.1;have h3:t'.width=sz:=ao h1.2;obtain⟨t,l,k1,k2,h⟩:=ez h';obtain⟨k3,h⟩:=dt h;have k3:t.width=sz:=ao k3
   have fin: ∀ (len:Nat),len<=l.length->oE S.st (gs.map dI.tree) (u5 (some t')) (.own ⟨pr,[]⟩ sz 0 len)=some (.own ⟨gs.length,[]⟩ sz 0 len,(gs++ [(⟨t,l.take len,none⟩:dI)]).map dI.tree,({ S with gh:=dR S.gh pr none }:TS).st):=by
    intro len hlen;simp only[oE];have hrows:S.st.rows ⟨pr,[]⟩ sz=some (l.map t.row):=by rw[<-k3]; exact fL k1
    rw[if_pos ⟨trivial,by show sz=t'.width; exact h3.symm,trivial,h2⟩,hrows];simp only[ai,ax];rw[if_pos hlen,m8];simp only[u5,h3,bM,aL,bW,dI.tree,bC,k3]
   cases w with
   |true=>obtain⟨e1,e2,e3⟩:=kX hc k2;refine⟨_,_,_,?_,TS.ok_gh hS (eK.gone _ _),eK.gone _ _,grow _,by rw[<-k3]; exact new t l _ rfl,h⟩;have:=fin l.length (au _);rw[b6] at this;simp only[Cl.av];rw[e2,e3];exact this
   |false=>
    simp only[cond_false] at h;obtain⟨h4,h⟩:=dN h;refine⟨_,_,_,?_,TS.ok_gh hS (eK.gone _ _),eK.gone _ _,grow _,by rw[<-k3]; exact new t (l.take len) _ rfl,h⟩;have hl: (l.take len).length=len:=by simp; omega
    simp only[Cl.av];rw[h4.1,hl];exact fin len h4.2
 ·cases h
theorem zh: ∀ (ets:List (Option Ty)) (cs:List Cl) (S:TS) (gs:List dI) (κ:List Cl->List dI->TS->Option ρ) (r:ρ),S.ok->(∀c∈cs,c.ok S.gh)->wm S gs ets cs κ=some r->
  ∃cs' gs' S',ko S.st (gs.map dI.tree) (ets.map u5) (cs.map Cl.av)=some (cs'.map Cl.av,gs'.map dI.tree,TS.st S')/\S'.ok/\eK S.gh S'.gh/\eK (gs.map some) (gs'.map some)/\(∀c∈cs',c.ok (gs'.map some))/\κ cs' gs' S'=some r:=by
 intro ets
 induction ets with
 |nil=>
  intro cs S gs κ r hS hcs h;cases cs with
  |nil=>exact⟨[],gs,S,rfl,hS,eK.refl _,eK.refl _,(fun c hc=>by cases hc),h⟩
  |cons c cs=>cases h
 |cons et ets ih=>
  intro cs S gs κ r hS hcs h;cases cs with
  |nil=>cases h
  |cons c cs=>
   unfold wm at h;obtain⟨c',g1,S1,h1,h2,h3,h4,h5,h⟩:=wA hS (hcs c aD) h;obtain⟨cs',g2,S2,k1,k2,k3,k4,k5,h⟩:=ih cs S1 g1 _ r h2 (fun x hx=>Cl.ok_mono h3 (hcs x (aA _ hx))) h;refine⟨c'::cs',g2,S2,?_,k2,h3.trans k3,h4.trans k4,fun x hx=> ?_,h⟩
   ·simp only[aL,ko,h1,ai,k1,ay]
   ·rcases aV.1 hx with rfl|hx
    ·exact Cl.ok_mono k4 h5
    ·exact k5 x hx
theorem A1 (hΘ:en P Θ) (hS:S.ok) {gs:List dI} {t:TypeId} {v:V} (hv:v.ok S.gh) {κ:V1->List dI->TS->Option ρ} {r:ρ} (h:Ca Θ S gs t v κ=some r):
  ∃v' gs' S',wS P S.st (gs.map dI.tree) t v.av=some (V1.av v',gs'.map dI.tree,TS.st S')/\S'.ok/\eK S.gh S'.gh/\eK (gs.map some) (gs'.map some)/\v'.ok (gs'.map some)/\κ v' gs' S'=some r:=by
 unfold Ca at h;split at h
 ·cases h
 ·rename_i ti hti;have hsh:=(hΘ _ _ hti).sh;split at h
  ·rename_i cs;obtain⟨cs',g1,S1,h1,h2,h3,h4,h5,h⟩:=zh _ _ _ _ _ _ hS hv h;refine⟨.agg cs',g1,S1,?_,h2,h3,h4,h5,h⟩;simp only[V.av,V1.av,wS,hsh];rw[show ti.ty.shs=ti.ty.csh.map u5 from rfl,h1];rfl
  ·rename_i c;obtain⟨c',g1,S1,h1,h2,h3,h4,h5,h⟩:=wA hS hv h;refine⟨.cl c',g1,S1,?_,h2,h3,h4,h5,h⟩
   have e:wS P S.st (gs.map dI.tree) t (V.v (.cl c)).av=oE S.st (gs.map dI.tree) ((hO P 9 t).headD 0) c.av:=by
    cases c with
    |c x=>cases x<;>rfl
    | _=>rfl
   rw[e,hsh]
   have e2:ti.ty.shs.headD 0=u5 (ti.ty.csh.headD none):=by
    unfold Ty.shs;cases ti.ty.csh with
    |nil=>rfl
    |cons a l=>cases a<;>rfl
   rw[e2];exact h1
  ·cases h
theorem zi (hΘ:en P Θ): ∀ (rs:List (TypeId×V)) (S:TS) (gs:List dI) (κ:List V1->List dI->Option ρ) (r:ρ),S.ok->(∀x∈rs,x.2.ok S.gh)->qT Θ S gs rs κ=some r->
  ∃vs gs',td P S.st (gs.map dI.tree) (rs.map fun x=>(x.1,x.2.av))=some (vs.map V1.av,gs'.map dI.tree)/\eK (gs.map some) (gs'.map some)/\(∀v∈vs,v.ok (gs'.map some))/\vs.length=rs.length/\κ vs gs'=some r:=by
 intro rs
 induction rs with
 |nil=>intro S gs κ r hS hrs h; exact⟨[],gs,rfl,eK.refl _,(fun v hv=>by cases hv),rfl,h⟩
 |cons x rs ih=>
  intro S gs κ r hS hrs h;obtain⟨t,v⟩:=x;unfold qT at h;obtain⟨v',g1,S1,h1,h2,h3,h4,h5,h⟩:=A1 hΘ hS (hrs _ aD) h;obtain⟨vs,g2,k1,k2,k3,k4,h⟩:=ih S1 g1 _ r h2 (fun x hx=>V.ok_mono h3 (hrs x (aA _ hx))) h;refine⟨v'::vs,g2,?_,h4.trans k2,fun y hy=> ?_,by simp[k4],h⟩
  ·simp only[aL,td,h1,ai,k1,ay]
  ·rcases aV.1 hy with rfl|hy
   ·exact V1.ok_mono k2 h5
   ·exact k3 y hy
theorem A2 (hΘ:en P Θ) (hS:S.ok): ∀ (rs:List ResultVar) (ts:List TypeId) (κ:List (TypeId×V)->Option ρ) (r:ρ),ue Θ S rs ts κ=some r->
  ∃l:List (TypeId×V),rs.mapM (ol P S.st)=some (l.map fun x=>x.2.av)/\l.map (·.1)=ts/\(∀x∈l,x.2.ok S.gh)/\κ l=some r:=by
 intro rs
 induction rs with
 |nil=>
  intro ts κ r h;cases ts with
  |nil=>exact⟨[],rfl,rfl,(fun x hx=>by cases hx),h⟩
  |cons t ts=>cases h
 |cons a rs ih=>
  intro ts κ r h;cases ts with
  |nil=>cases a<;>cases h
  |cons t ts=>
   cases a with
   |tmp a=>
    unfold ue at h;obtain⟨l,h1,h2,h3,h⟩:=ih ts _ r h;refine⟨(t,eT S.env a)::l,?_,by simp[h2],fun x hx=> ?_,h⟩
    ·simp only[cG,h1,ol];rfl
    ·rcases aV.1 hx with rfl|hx
     ·exact oS hS a
     ·exact h3 x hx
   |cell a t'=>
    unfold ue at h
    have hw:0<P.cellsOf t':=by
     have h':=h;unfold t6 at h';split at h'
     ·rename_i ti hti;rw[(hΘ _ _ hti).cells];exact Ty.width_pos _
     ·cases h'
    obtain⟨u,g1,g2,h⟩:=ul hΘ hS (oS hS a) h;obtain⟨l,h1,h2,h3,h⟩:=ih ts _ r h;refine⟨(t,u)::l,?_,by simp[h2],fun x hx=> ?_,h⟩
    ·simp only[cG,h1,ol];rw[if_pos hw];have :load P S.st t' (S.st.env a)=some u.av:=g1;rw[this];rfl
    ·rcases aV.1 hx with rfl|hx
     ·exact g2
     ·exact h3 x hx
theorem wB {α β γ:Type} (f:α×β->γ): ∀l:List (α×β),(l.map (·.1)).zip (l.map f)=l.map fun x=>(x.1,f x)
 | [] =>rfl
 |a::l=>by simp only[aL,List.zip_cons_cons,wB f l]
theorem A3 (vs:List V1): (xi vs).av=CG (vs.map V1.av):=by
 match vs with
 | [] =>rfl
 | [v] =>rfl
 |v::u::vs=>rfl
theorem pT: ∀ (args:List V1) (n t:Nat),(eT (jN n args) (n+t)).av=(args.map V1.av).getD t .dead
 | [],n,t=>by simp[jN,eT]; rfl
 |a::l,n,0=>by simp[jN,eT]; rfl
 |a::l,n,t+1=>by
  have :Nat.beq n (n+(t+1))=false:=by
   cases h:Nat.beq n (n+(t+1)) with
   |false=>rfl
   |true=>have:=ao h; omega
  simp only[jN,eT,this,cond_false];rw[show n+(t+1)=(n+1)+t by omega,pT l (n+1) t];simp
theorem pU: ∀ (args:List V1) (n:Nat) (x:Nat×V),x∈jN n args-> ∃a∈args,x.2= .v a
 | [],n,x,h=>by cases h
 |a::l,n,x,h=>by
  simp only[jN,aV] at h;rcases h with rfl|h
  ·exact⟨a,aD,rfl⟩
  ·obtain⟨b,hb,he⟩:=pU l (n+1) x h;exact⟨b,aA _ hb,he⟩
theorem Cg (hΘ:en P Θ) (hY:ib P Y) (hm:P.follows .mixedOrders=true) {Λ:lY} {f:FuncId} {fn:Func} (hf:Ak P f=some fn) (hL: ∀c,fn.body=some c->fM P Λ (ey c)) {args:List V1} (ha: ∀a∈args,a.ok []) {res:V} {out:List dI}
  (h:CN Θ Y Λ fn args (fun v g=>some (v,g))=some (res,out)):jH P f (args.map V1.av) [] res.av (out.map dI.tree):=by
 unfold CN at h;split at h
 ·cases h
 ·rename_i c hc
  have hcok:gC P c=true:=by
   unfold Ak at hf;simp only[aj] at hf;obtain⟨fn',g1,g2⟩:=hf;split at g2
   ·cases g2
   ·rename_i c' hc';split at g2
    ·cases g2
    ·rename_i hn;simp only[ae] at g2;subst g2;rw[hc] at hc';simp only[ae] at hc';subst hc';simp only[bD,not_or,Bool.not_eq_true,Bool.not_eq_false'] at hn;exact hn.2
  have hS0: ({ env:=jN 0 args,bx:= [],gh:= [],fz:=0,nt:=args.length+(fn.ntmps-args.length) }:TS).ok:=
   ⟨fun x hx=>by obtain⟨a,h1,h2⟩:=pU _ _ _ hx; rw[h2]; exact ha a h1,fun cs hcs=>by cases hcs⟩
  have hbeg: ({ env:=jN 0 args,bx:= [],gh:= [],fz:=0,nt:=args.length+(fn.ntmps-args.length) }:TS).st=vo fn.ntmps (args.map V1.av) [] :=by
   unfold TS.st vo;simp only[ax,b9]
   congr 1
   funext t
   have:=pT args 0 t;rw[aN] at this;exact this
  have hW:=sy hΘ hY hm c _ _ _ hcok (hL c hc) hS0 h;rw[hbeg] at hW
  have eD: ∀ (x:X) (S1:TS),S1.ok->(match x with | .ext _=>none| _=>ue Θ S1 fn.results.toList fn.resultTypes.toList fun rs=>qT Θ S1 [] rs fun vs gs=>some (xi vs,gs))=some (res,out)->
    (match x with | .ext _=>False| _=>w8 P fn.results.toList fn.resultTypes.toList 0 S1.st=some (res.av,out.map dI.tree)):=by
   intro x S1 hS1 h
   have main: (ue Θ S1 fn.results.toList fn.resultTypes.toList fun rs=>qT Θ S1 [] rs fun vs gs=>some (xi vs,gs))=some (res,out)->w8 P fn.results.toList fn.resultTypes.toList 0 S1.st=some (res.av,out.map dI.tree):=by
    intro h;obtain⟨l,h1,h2,h3,h⟩:=A2 (P:=P) hΘ hS1 _ _ _ _ h;obtain⟨vs,gs',k1,k2,k3,k4,h⟩:=zi (P:=P) hΘ _ _ _ _ _ hS1 h3 h;simp only[ae,am] at h;obtain⟨rfl,rfl⟩:=h;unfold w8;rw[h1];simp only[ai,ax]
    have hz: (fn.resultTypes.toList.zip (l.map fun x=>x.2.av))=l.map fun x=>(x.1,x.2.av):=by rw[<-h2];exact wB _ l
    rw[if_pos (by rw[<-h2]; simp),hz];have k1':td P S1.st [] (l.map fun x=>(x.1,x.2.av))=some (vs.map V1.av,gs'.map dI.tree):=k1;simp only[List.range_zero,bW,k1',ay,A3]
   cases x with
   |ext i=>cases h
   |nor=>exact main h
   |ret=>exact main h
  refine tT hf hc (hW.mono (fun x S' hx=>⟨S',iw.refl,?_⟩));obtain⟨S1,rfl,h1,h2⟩:=hx;have:=eD x S1 h1 h2;cases x<;>exact this
end
end
section
open Go
def oJ:List Nat->Nat->Nat->Option Nat
 | [],_,_=>none
 |a::l,x,n=>bif Nat.beq a x then some n else oJ l x (n+1)
def mw (bs ls:List Nat):Cl->Cl
 | .own p sz lo len w=>match oJ ls p.r 0 with |some k=> .own ⟨k,p.l⟩ sz lo len w|none=> .dead
 | .ptrT p sz i j=>match oJ ls p.r 0 with |some k=> .ptrT ⟨k,p.l⟩ sz i j|none=> .dead
 | .ptrB n j=>match oJ bs n 0 with |some k=> .ptrB k j|none=> .dead
 |c=>c
def zj (bs ls:List Nat):V1->V1
 | .cl c=> .cl (mw bs ls c)
 | .agg cs=> .agg (cs.map (mw bs ls))
 | .fn f cs=> .fn f (cs.map (mw bs ls))
def zk (bs ls:List Nat):V->V
 | .v x=> .v (zj bs ls x)
 | .tup _=>V.dead
def wC:List Nat->List Nat->List Nat
 | [],acc=>acc
 |a::l,acc=>match oJ acc a 0 with |some _=>wC l acc|none=>wC l (acc++ [a])
def pV:List Nat->Bool
 | [] =>true
 |a::l=>(match oJ l a 0 with |some _=>false|none=>true)&&pV l
def DD:Cl->List Nat| .ptrB n _=> [n] | _=> []
def CS:Cl->List Nat| .own p _ _ _ _=> [p.r] | .ptrT p _ _ _=> [p.r] | _=> []
def V1.all:V1->List Cl| .cl c=> [c] | .agg cs=>cs| .fn _ cs=>cs
def V.all:V->List Cl| .v x=>x.all| .tup _=> []
def wD (S:TS) (keep:List Nat):List Nat:=wC (keep.flatMap fun t=>(eT S.env t).all.flatMap DD) []
def BI (S:TS) (keep bs:List Nat):List Nat:=wC (List.range S.fz++(keep.flatMap fun t=>(eT S.env t).all.flatMap CS)++bs.flatMap fun b=>((hQ S.bx b).getD []).flatMap CS) []
def eP (S:TS) (keep bs ls:List Nat):TS where
 env:=keep.map fun t=>(t,zk bs ls (eT S.env t))
 bx:=bs.map fun b=>((hQ S.bx b).getD []).map (mw bs ls)
 gh:=ls.map fun r=>ea S.gh r
 fz:=S.fz
 nt:=S.nt
def sA (S:TS) (bs ls:List Nat):Bool:=pV bs&&pV ls&&bs.all (fun b=>Nat.blt b S.bx.length)&&CJ (ls.take S.fz) (List.range S.fz)&&ls.all (fun r=>Nat.blt r S.gh.length)
def xy (G:List (Option dI)):Cl->Cl
 | .own p sz lo len true=> .own p sz lo (match hQ G p.r with |some (some tr)=>tr.l.length| _=>len) true
 |c=>c
def zl (G:List (Option dI)):V1->V1
 | .cl c=> .cl (xy G c)
 | .agg cs=> .agg (cs.map (xy G))
 | .fn f cs=> .fn f (cs.map (xy G))
def CT (G:List (Option dI)):V->V
 | .v x=> .v (zl G x)
 | .tup l=> .tup (l.map (zl G))
def Ch (S:TS):TS:= { S with env:=S.env.map (fun x=>(x.1,CT S.gh x.2)),bx:=S.bx.map (fun cs=>cs.map (xy S.gh)) }
def nU {ρ:Type} (keep:List Nat) (S:TS) (κ:TS->Option ρ):Option ρ:=bif sA S (wD S keep) (BI S keep (wD S keep)) then κ (Ch (eP S keep (wD S keep) (BI S keep (wD S keep)))) else none
theorem nV: ∀ {l:List Nat} {x n k:Nat},oJ l x n=some k->n<=k/\l[k-n]? =some x
 | [],x,n,k,h=>by cases h
 |a::l,x,n,k,h=>by
  simp only[oJ] at h;cases hb:Nat.beq a x with
  |true=>rw[hb] at h;simp only[cond_true,ae] at h;subst h;exact⟨au _,by simp[ao hb]⟩
  |false=>rw[hb] at h;obtain⟨h1,h2⟩:=nV (l:=l) h;refine⟨by omega,?_⟩;rw[show k-n=(k-(n+1))+1 by omega,bS];exact h2
theorem rc: ∀ {l:List Nat} {x n:Nat},oJ l x n=none->x∉l
 | [],x,n,_=>by simp
 |a::l,x,n,h=>by
  simp only[oJ] at h;cases hb:Nat.beq a x with
  |true=>rw[hb] at h; cases h
  |false=>
   rw[hb] at h;have:=rc (l:=l) h;intro hm;rcases aV.1 hm with rfl|hm
   ·rw[ch] at hb; cases hb
   ·exact this hm
theorem my: ∀ {l:List Nat},pV l=true-> ∀ (i j x:Nat),l[i]? =some x->l[j]? =some x->i=j
 | [],_,i,j,x,hi,_=>by simp at hi
 |a::l,h,i,j,x,hi,hj=>by
  simp only[pV,an] at h
  have hna:a∉l:=by
   have h1:=h.1;split at h1
   ·cases h1
   ·rename_i hp; exact rc hp
  cases i with
  |zero=>
   simp only[aB,ae] at hi;subst hi;cases j with
   |zero=>rfl
   |succ j=>simp only[bS] at hj; exact absurd (ap hj) hna
  |succ i=>
   simp only[bS] at hi;cases j with
   |zero=>simp only[aB,ae] at hj;subst hj;exact absurd (ap hi) hna
   |succ j=>simp only[bS] at hj;rw[my h.2 i j x hi hj]
def Bt.ren (bt:Bt) (bs ls:List Nat):Bt where
 β:=fun p=>bt.β ⟨ls.getD p.r 0,p.l⟩
 κ:=fun p=>bt.κ ⟨ls.getD p.r 0,p.l⟩
 bb:=fun n=>bt.bb (bs.getD n 0)
 nb:=bs.length
 ng:=ls.length
 A:=bt.A
theorem sB {w:World} {bt:Bt} {bs ls:List Nat} {c:Cl} {u:Value} (h:VR w bt c.av u):VR w (bt.ren bs ls) (mw bs ls c).av u:=by
 have lt: ∀ {l:List Nat} {x k:Nat},oJ l x 0=some k->k<l.length/\l.getD k 0=x:=by intro l x k hk;obtain⟨_,h2⟩:=nV hk;rw[Nat.sub_zero] at h2;exact⟨(ah.1 h2).1,by simp[aq,h2]⟩
 cases c with
 |c x=>
  cases x with
  |sc v=>cases h with |sc h=>exact .sc h
  |ls t l=>cases h with |ro h=>exact .ro h
 |em=>cases h with |em a=>exact .em a
 |own p sz lo len wh=>
  simp only[mw];split
  ·rename_i k hk;obtain⟨h1,h2⟩:=lt hk;have hp: (⟨ls.getD k 0,p.l⟩:dC)=p:=by rw[h2]
   have e1: (bt.ren bs ls).κ ⟨k,p.l⟩=bt.κ p:=by have e: (bt.ren bs ls).κ ⟨k,p.l⟩=bt.κ (dC.mk (ls.getD k 0) p.l):=rfl;rw[e,hp]
   have e2: (bt.ren bs ls).β ⟨k,p.l⟩=bt.β p:=by have e: (bt.ren bs ls).β ⟨k,p.l⟩=bt.β (dC.mk (ls.getD k 0) p.l):=rfl;rw[e,hp]
   cases h with
   |own hp' hc hkk ha=>exact .own h1 hc (by rw[e1]; exact hkk) (by rw[e2]; exact ha)
  ·exact .dead _
 |pro cs=>cases h with |pro cs hs hA hr ht=>exact .pro cs hs hA hr ht
 |ptrB n j=>
  simp only[mw];split
  ·rename_i k hk;obtain⟨h1,h2⟩:=lt hk;cases h with
   |ptrB j hn=>
    have :bt.bb n=(bt.ren bs ls).bb k:=by show bt.bb n=bt.bb (bs.getD k 0); rw[h2]
    rw[this];exact .ptrB j h1
  ·exact .dead _
 |ptrT p sz i j=>
  simp only[mw];split
  ·rename_i k hk;obtain⟨h1,h2⟩:=lt hk;have hp: (⟨ls.getD k 0,p.l⟩:dC)=p:=by rw[h2]
   cases h with
   |ptrT sz i j hp' hkk=>
    have e1:bt.β p=(bt.ren bs ls).β ⟨k,p.l⟩:=by show bt.β p=bt.β ⟨ls.getD k 0,p.l⟩; rw[hp]
    rw[e1];exact .ptrT sz i j h1 (by show _<bt.κ ⟨ls.getD k 0,p.l⟩; rw[hp]; exact hkk)
  ·exact .dead _
 |dead=>exact .dead _
theorem zm {w:World} {bt:Bt} {bs ls:List Nat} {v:V1} {u:Value} (h:VR w bt v.av u):VR w (bt.ren bs ls) (zj bs ls v).av u:=by
 have cells: ∀ (cs:List Cl) (us:List Value),us.length=cs.length->(∀ (k:Nat) (c:AV) (u:Value),(cs.map Cl.av)[k]? =some c->us[k]? =some u->VR w bt c u)-> ∀ (k:Nat) (c:AV) (u:Value),((cs.map (mw bs ls)).map Cl.av)[k]? =some c->us[k]? =some u->VR w (bt.ren bs ls) c u:=by intro cs us _ hr k c u hk hu;rw[al,al] at hk;simp only[ak] at hk;obtain⟨c1,⟨c0,hc0,rfl⟩,rfl⟩:=hk;exact sB (hr k c0.av u (by rw[al,hc0]; rfl) hu)
 cases v with
 |cl c=>exact sB h
 |agg cs=>
  simp only[V1.av] at h;cases h with
  |agg hl ho hr=>exact .agg (by simpa using hl) ho (cells cs _ (by simpa using hl) hr)
 |fn f cs=>
  simp only[V1.av] at h;cases h with
  |fn f hl hr=>exact .fn f (by simpa using hl) (cells cs _ (by simpa using hl) hr)
theorem A4 {w:World} {bt:Bt} {bs ls:List Nat} {v:V} {u:Value} (h:VR w bt v.av u):VR w (bt.ren bs ls) (zk bs ls v).av u:=by
 cases v with
 |v x=>exact zm h
 |tup l=>exact .dead _
theorem rd (S:TS) (f:V->V): ∀ (keep:List Nat) (t:Nat),eT (keep.map fun t=>(t,f (eT S.env t))) t=V.dead\/eT (keep.map fun t=>(t,f (eT S.env t))) t=f (eT S.env t)
 | [],t=> .inl rfl
 |u::l,t=>by
  simp only[aL,eT];cases hb:Nat.beq u t with
  |true=>rw[ao hb]; exact .inr rfl
  |false=>exact rd S f l t
theorem lJ (S:TS) (keep bs ls:List Nat) (r:Nat):ea (eP S keep bs ls).gh r=(ls[r]?).bind fun q=>ea S.gh q:=by show (hQ (ls.map fun r=>ea S.gh r) r).getD none=_;rw[ec,al];cases ls[r]?<;>rfl
theorem uD {S:TS} {keep bs ls:List Nat} (h:sA S bs ls=true):iw S.st (eP S keep bs ls).st:=by
 unfold sA at h;simp only[an] at h;obtain⟨⟨⟨⟨hnb,hnl⟩,hbs⟩,hfz⟩,hlt⟩:=h;have hfz:=sq hfz;intro w0 W btI SI bt a w hl;have inv:=hl.inv
 have hls: ∀ (k:Nat),k<S.fz->ls[k]? =some k:=by
  intro k hk;have : (ls.take S.fz)[k]? =(List.range S.fz)[k]? :=by rw[hfz]
  rw[aX,if_pos hk,List.getElem?_range hk] at this;exact this
 have look: ∀p s rs,(eP S keep bs ls).st.look p= .sl s rs-> ∃q,ls[p.r]? =some q/\S.st.look ⟨q,p.l⟩= .sl s rs/\ls.getD p.r 0=q:=by
  intro p s rs hp;unfold St.look at hp
  have e: (eP S keep bs ls).st.gh p.r=((ls[p.r]?).bind fun q=>ea S.gh q).map dI.tree:=by show (ea _ _).map dI.tree=_;rw[lJ]
  rw[e] at hp;cases hq:ls[p.r]? with
  |none=>rw[hq] at hp; cases hp
  |some q=>refine⟨q,rfl,?_,by simp[aq,hq]⟩;rw[hq] at hp;exact hp
 have box: ∀n cells,(eP S keep bs ls).st.bx n=some cells-> ∃b cs,bs[n]? =some b/\S.bx[b]? =some cs/\cells=(cs.map (mw bs ls)).map Cl.av/\bs.getD n 0=b:=by intro n cells hn;have hn': (hQ (bs.map fun b=>((hQ S.bx b).getD []).map (mw bs ls)) n).map (fun cs=>cs.map Cl.av)=some cells:=hn;rw[ec,al] at hn';simp only[ak] at hn';obtain⟨x,⟨b,hb,rfl⟩,rfl⟩:=hn';have hlt':b<S.bx.length:=aw (ar.1 hbs b (ap hb));refine⟨b,S.bx[b],hb,af hlt',?_,by simp[aq,hb]⟩;rw[ec,af hlt'];rfl
 have bxS: ∀ {b:Nat} {cs:List Cl},S.bx[b]? =some cs->S.st.bx b=some (cs.map Cl.av):=by intro b cs hb;show (hQ S.bx b).map _=_;rw[ec,hb];rfl
 refine⟨bt.ren bs ls,?_⟩
 refine⟨{ os:=inv.os,tape:=inv.tape,output:=inv.output,size:=inv.size,keep:=inv.keep
          nb:=by show bs.length=_; simp[TS.st,eP]
          ng:=by show ls.length=_; simp[TS.st,eP]
          bx:=fun n cells hn=> ?_
          gh:=fun r t hr=> ?_
          tr:=fun p sz rows hp=> ?_
          inj:=fun p q s rs s' rs' hp hq hk hk' he=> ?_
          bbinj:=fun n m cs cs' hn hm he=> ?_
          bbtr:=fun n cs p s rs hn hp hk=> ?_
          alt:=inv.alt
          atr:=fun p s rs hp hk=> ?_
          abb:=fun n cs hn=> ?_ },⟨hl.er.1,fun t=> ?_⟩,hl.defers,hl.fz,?_,fun p hp=> ?_,fun r hr hn=> ?_⟩
 ·obtain⟨b,cs,h1,h2,rfl,h4⟩:=box n cells hn;obtain⟨g1,g2,arr,e,g3,g4,g5⟩:=inv.bx b _ (bxS h2);refine⟨by show n<_; have:=(ah.1 h1).1; simpa [TS.st,eP] using this,by show _<=bt.bb (bs.getD n 0); rw[h4]; exact g2,arr,e,by show w.heap[bt.bb (bs.getD n 0)]? =_; rw[h4]; exact g3,by simpa using g4,fun j v hj=> ?_⟩;rw[al,al] at hj;simp only[ak] at hj;obtain⟨c1,⟨c0,hc0,rfl⟩,rfl⟩:=hj;obtain⟨c,k1,k2,k3⟩:=g5 j c0.av (by rw[al,hc0]; rfl);exact⟨c,k1,sB k2,k3⟩
 ·have hr': (ea (eP S keep bs ls).gh r).map dI.tree=some t:=hr;rw[lJ] at hr';show r<_;cases hq:ls[r]? with
  |none=>rw[hq] at hr'; cases hr'
  |some q=>have:=(ah.1 hq).1;simpa [TS.st,eP] using this
 ·obtain⟨q,h1,h2,h3⟩:=look p sz rows hp;obtain⟨g1,g2⟩:=inv.tr _ _ _ h2;have eκ: (bt.ren bs ls).κ p=bt.κ ⟨q,p.l⟩:=by show bt.κ ⟨ls.getD p.r 0,p.l⟩=_; rw[h3]
  have eβ: (bt.ren bs ls).β p=bt.β ⟨q,p.l⟩:=by show bt.β ⟨ls.getD p.r 0,p.l⟩=_; rw[h3]
  rw[eκ,eβ];refine⟨g1,fun hk=>⟨(g2 hk).1,?_⟩⟩;obtain⟨_,cs,e,k1,k2,k3,k4⟩:=g2 hk;refine⟨cs,e,by rw[eβ]; exact k1,by rw[eκ]; exact k2,k3,fun i r hi=> ?_⟩;obtain⟨m1,m2⟩:=k4 i r hi;refine⟨m1,fun j x hj=> ?_⟩;obtain⟨c,n1,n2⟩:=m2 j x hj;refine⟨c,n1,?_⟩;have f1: (bt.ren bs ls).κ (p.sub i j)=bt.κ (dC.sub ⟨q,p.l⟩ i j):=by show bt.κ ⟨ls.getD p.r 0,p.l++ [(i,j)]⟩=bt.κ ⟨q,p.l++ [(i,j)]⟩; rw[h3]
  have f2: (bt.ren bs ls).β (p.sub i j)=bt.β (dC.sub ⟨q,p.l⟩ i j):=by show bt.β ⟨ls.getD p.r 0,p.l++ [(i,j)]⟩=bt.β ⟨q,p.l++ [(i,j)]⟩; rw[h3]
  cases n2 with
  |sc h=>exact .sc h
  |dd u=>exact .dd _
  |sl q1 q2 q3=>exact .sl q1 (by rw[f1]; exact q2) (by rw[f2]; exact q3)
 ·obtain⟨p',h1,h2,h3⟩:=look p s rs hp;obtain⟨q',g1,g2,g3⟩:=look q s' rs' hq;have:=inv.inj ⟨p',p.l⟩ ⟨q',q.l⟩ _ _ _ _ h2 g2 (by rw[<-h3]; exact hk) (by rw[<-g3]; exact hk') (by rw[<-h3,<-g3]; exact he);simp only[dC.mk.injEq] at this;obtain⟨e1,e2⟩:=this;subst e1;have e3:=my hnl _ _ _ h1 g1;cases p; cases q;simp only at e3 e2;rw[e3,e2]
 ·obtain⟨b,c,h1,h2,_,h4⟩:=box n cs hn;obtain⟨b',c',g1,g2,_,g4⟩:=box m cs' hm
  have:=inv.bbinj b b' _ _ (bxS h2) (bxS g2) (by have he':bt.bb (bs.getD n 0)=bt.bb (bs.getD m 0):=he;rw[h4,g4] at he';exact he')
  subst this;exact my hnb _ _ _ h1 g1
 ·obtain⟨b,c,h1,h2,_,h4⟩:=box n cs hn;obtain⟨q,g1,g2,g3⟩:=look p s rs hp;have hk':0<bt.κ ⟨ls.getD p.r 0,p.l⟩:=hk;rw[g3] at hk';show bt.bb (bs.getD n 0)≠bt.β ⟨ls.getD p.r 0,p.l⟩;rw[h4,g3];exact inv.bbtr _ _ _ _ _ (bxS h2) g2 hk'
 ·obtain⟨q,g1,g2,g3⟩:=look p s rs hp;have hk':0<bt.κ ⟨ls.getD p.r 0,p.l⟩:=hk;rw[g3] at hk';show ¬bt.A (bt.β ⟨ls.getD p.r 0,p.l⟩);rw[g3];exact inv.atr _ _ _ g2 hk'
 ·obtain⟨b,c,h1,h2,_,h4⟩:=box n cs hn;show ¬bt.A (bt.bb (bs.getD n 0));rw[h4];exact inv.abb _ _ (bxS h2)
 ·show VR w _ (eT (eP S keep bs ls).env t).av _;rcases rd S (zk bs ls) keep t with h1|h1
  ·have :eT (eP S keep bs ls).env t=V.dead:=h1;rw[this];exact .dead _
  ·have :eT (eP S keep bs ls).env t=zk bs ls (eT S.env t):=h1;rw[this];exact A4 (hl.er.2 t)
 ·show S.fz<=(eP S keep bs ls).gh.length;rcases bf S.fz with h0|h0
  ·omega
  ·have:=(ah.1 (hls (S.fz-1) (by omega))).1;simp[eP];omega
 ·have hp':p.r<S.fz:=by have:=hl.fz; have e:S.st.fz=S.fz:=rfl; omega
  have h3:ls.getD p.r 0=p.r:=by simp[aq,hls p.r hp']
  have:=hl.keep p hp;show bt.β ⟨ls.getD p.r 0,p.l⟩=_/\bt.κ ⟨ls.getD p.r 0,p.l⟩=_;rw[h3];exact this
 ·have hr':r<S.fz:=by have:=hl.fz; have e:S.st.fz=S.fz:=rfl; omega
  refine hl.gone r hr ?_;have hn': (ea (eP S keep bs ls).gh r).map dI.tree=none:=hn;rw[lJ,hls r hr'] at hn';exact hn'
theorem oU {S:TS} {bs ls:List Nat} {keep:List Nat} {c:Cl} (h:c.ok S.gh): (mw bs ls c).ok (eP S keep bs ls).gh:=by
 have lt: ∀ {x k:Nat},oJ ls x 0=some k->k< (eP S keep bs ls).gh.length/\ls[k]? =some x:=by intro x k hk;obtain⟨_,h2⟩:=nV hk;rw[Nat.sub_zero] at h2;exact⟨by have:=(ah.1 h2).1; simpa [eP] using this,h2⟩
 cases c with
 |own p sz lo len w=>
  simp only[mw];split
  ·rename_i k hk;obtain⟨h1,h2⟩:=lt hk;refine⟨h1,fun hw=> ?_⟩;obtain⟨a,b,c⟩:=h.2 hw;refine⟨a,b,fun tr htr=>c tr ?_⟩;rw[lJ,h2] at htr;exact htr
  ·trivial
 |ptrT p sz i j=>
  simp only[mw];split
  ·rename_i k hk; exact (lt hk).1
  ·trivial
 |ptrB n j=>simp only[mw]; split<;>trivial
 | _=>trivial
theorem A5 {S:TS} {bs ls:List Nat} {keep:List Nat} {v:V} (h:v.ok S.gh): (zk bs ls v).ok (eP S keep bs ls).gh:=by
 have one: ∀ {v:V1},v.ok S.gh->(zj bs ls v).ok (eP S keep bs ls).gh:=by
  intro v h;cases v with
  |cl c=>exact oU h
  |agg cs=>intro c hc; obtain⟨x,hx,rfl⟩:=aG.1 hc; exact oU (h x hx)
  |fn f cs=>intro c hc; obtain⟨x,hx,rfl⟩:=aG.1 hc; exact oU (h x hx)
 cases v with
 |v x=>exact one h
 |tup l=>trivial
theorem rf {S:TS} (hS:S.ok) (keep bs ls:List Nat): (eP S keep bs ls).ok:=by
 refine⟨fun x hx=> ?_,fun cs hcs c hc=> ?_⟩
 ·obtain⟨t,_,rfl⟩:=aG.1 hx;exact A5 (oS hS t)
 ·obtain⟨b,_,rfl⟩:=aG.1 hcs;obtain⟨x,hx,rfl⟩:=aG.1 hc;cases hb:hQ S.bx b with
  |none=>rw[hb] at hx; cases hx
  |some cs=>rw[hb] at hx;rw[ec] at hb;exact oU (hS.bx cs (ap hb) x hx)
theorem oV {G:List (Option dI)} {c:Cl} (h:c.ok G):xy G c=c:=by
 unfold xy;split
 ·rename_i p sz lo len;split
  ·rename_i tr htr;rw[(h.2 rfl).2.2 tr (by unfold ea; rw[htr]; rfl)]
  ·rfl
 ·rfl
theorem uE {G:List (Option dI)} {v:V1} (h:v.ok G):zl G v=v:=by
 cases v with
 |cl c=>exact congrArg V1.cl (oV h)
 |agg cs=>exact congrArg V1.agg ((aF fun c hc=>oV (h c hc)).trans (List.map_id' cs))
 |fn f cs=>exact congrArg (V1.fn f) ((aF fun c hc=>oV (h c hc)).trans (List.map_id' cs))
theorem A6 {G:List (Option dI)} {v:V} (h:v.ok G):CT G v=v:=by
 cases v with
 |v x=>exact congrArg V.v (uE h)
 |tup l=>exact congrArg V.tup ((aF fun c hc=>uE (h c hc)).trans (List.map_id' l))
theorem A7 {S:TS} (h:S.ok):Ch S=S:=by unfold Ch;rw[aF (g:=id) (fun x hx=>by rw[A6 (h.env x hx)]; rfl),aF (g:=id) (l:=S.bx) (fun cs hcs=>(aF fun c hc=>oV (h.bx cs hcs c hc)).trans (List.map_id' cs)),List.map_id,List.map_id]
theorem j8 {ρ:Type} {S:TS} (hS:S.ok) {keep:List Nat} {κ:TS->Option ρ} {r:ρ} (h:nU keep S κ=some r): ∃S1:TS,iw S.st S1.st/\S1.ok/\κ S1=some r:=by unfold nU at h;obtain⟨h1,h⟩:=dt h;rw[A7 (rf hS _ _ _)] at h;exact⟨_,uD h1,rf hS _ _ _,h⟩
end
end Go.Proofs.Ytpagmogboinlpaa.En
