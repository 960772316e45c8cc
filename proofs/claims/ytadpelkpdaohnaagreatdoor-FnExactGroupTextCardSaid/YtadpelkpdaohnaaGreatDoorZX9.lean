import Derived.Test.YtadpelkpdaohnaaGreatDoorZX8
namespace Go.Proofs.YtadpelkpdaohnaaGreatDoor.En
section
open Go
section
variable {ρ:Type} {P:Program} {Θ:kL} {S:TS} {Y:sf}
theorem Ax (hS:S.ok) {ops:Array Oper} {o:Oper} {κ:Bool->TS->Option ρ} {r:ρ} (h:CV S ops.toList o κ=some r): ∃b S1,jL S.st ops o=some b/\S1.st=S.st/\S1.ok/\S1.gh=S.gh/\κ b S1=some r:=by
 unfold CV at h;split at h
 ·rename_i hg;exact⟨true,S,by unfold jL; rw[hg],rfl,hS,rfl,h⟩
 ·rename_i j want hg;split at h
  ·rename_i oj hj;split at h
   ·rename_i d hd;rw[eW,cj] at hj;split at h
    ·rename_i he;refine⟨_,S,?_,rfl,hS,rfl,h⟩;unfold jL;rw[hg];simp only[hj,af,hd];have :S.st.env d= .tup [] :=by show (gn S.env d).av=_; rw[he]; rfl
     rw[this]
    ·obtain⟨b,S1,h1,h2,h3,h4,h5⟩:=u3 hS h;refine⟨_,S1,?_,h2,h3,h4,h5⟩;unfold jL;rw[hg];simp only[hj,af,hd];have :S.st.env d= .sc (.bool b):=h1;rw[this]
   ·cases h
  ·cases h
theorem i8 (hS:S.ok) {d:Option Tmp} {v:V} (hv:v.ok S.gh) {κ:TS->Option ρ} {r:ρ} (h:ni S d v κ=some r): ∃S1,S.st.put d v.av=some (TS.st S1)/\S1.ok/\S1.gh=S.gh/\κ S1=some r:=by
 unfold ni at h;split at h
 ·rename_i t;obtain⟨h1,h⟩:=dG h;have h1:t<S.nt:=ax h1;refine⟨{ S with env:=(t,v)::S.env },?_,⟨fun x hx=> ?_,hS.bx⟩,rfl,h⟩
  ·simp only[St.put];rw[if_pos (show t<S.st.nt from h1)]
   congr 1
   unfold TS.st
   congr 1
   funext u
   unfold eh;simp only[gn];cases hb:Nat.beq t u with
   |true=>have :t=u:=ap hb;subst this;simp
   |false=>
    have : ¬u=t:=by intro e; subst e; rw[co] at hb; cases hb
    rw[if_neg this];rfl
  ·rcases aR.1 hx with rfl|hx
   ·exact hv
   ·exact hS.env x hx
 ·exact⟨S,rfl,hS,rfl,h⟩
theorem FY {α:Type} {x y:Option α} {r:α} (h:He x y none=some r):x=some r/\y=some r:=by
 unfold He at h;split at h
 ·rename_i e;exact⟨h,by rw[<-e]; exact h⟩
 ·cases h
theorem FZ {α:Type} (x z:α):He x x z=x:=by unfold He; rw[if_pos rfl]
theorem yt {o:Oper} {t:TypeId} {x:Operand} (h:ub o=some (t,x)): (∃t',o.op= .binOp .eql t x (.const (.slice none 0 0)) t')/\o.guard=none:=by
 unfold ub at h;split at h
 ·rename_i t1 x1 t' ho;split at h
  ·rename_i hg;simp only[ae,al] at h;obtain⟨rfl,rfl⟩:=h;exact⟨⟨t',ho⟩,hg⟩
  ·cases h
 ·cases h
theorem Cf {o:Oper} {k:Nat} {g:FuncId} {caps:List Cl} {r sz:Nat} {us:List TypeId} {xs:List Operand} (h:Ai Y S o=some (k,g,caps,r,sz,us,xs)):
  ∃f as ts x t lo len,o.op= .call { callee:= .value f,args:=as,argTypes:=ts } /\o.guard=none/\as.toList=x::xs/\ts.toList=t::us/\S.opd x= .v (.cl (.own ⟨r,[]⟩ sz lo len true))/\g<gy/\
   ((∃a b,S.opd f= .v (.cl (.c (.sc (.func (.func g) a b))))/\caps= [])\/S.opd f= .v (.fn g caps)):=by
 unfold Ai at h;split at h
 ·rename_i f as ts hop;split at h
  ·cases h
  ·rename_i hg;split at h
   ·rename_i x xs' t us' e1 e2;split at h
    ·rename_i r' sz' lo len hx;split at h
     ·rename_i g' a b hf;obtain⟨h2,h⟩:=dG h;simp only[ao] at h2;simp only[ae,al] at h;obtain⟨rfl,rfl,rfl,rfl,rfl,rfl,rfl⟩:=h;exact⟨f,as,ts,x,t,lo,len,hop,hg,e1,e2,hx,ax h2.1, .inl ⟨a,b,hf,rfl⟩⟩
     ·rename_i g' caps' hf;obtain⟨h2,h⟩:=dG h;simp only[ao] at h2;simp only[ae,al] at h;obtain⟨rfl,rfl,rfl,rfl,rfl,rfl,rfl⟩:=h;exact⟨f,as,ts,x,t,lo,len,hop,hg,e1,e2,hx,ax h2.1, .inr hf⟩
     ·cases h
    ·cases h
   ·cases h
 ·cases h
theorem sL (hΘ:fi P Θ) (hS:S.ok): ∀ (ts:List TypeId) (as:List Operand) (κ:List V1->Option ρ) (r:ρ),n6 Θ S ts as κ=some r->ts.length=as.length
 | [],[],_,_,_=>rfl
 | [],_::_,_,_,h=>by simp[n6] at h
 | _::_,[],_,_,h=>by simp[n6] at h
 |t::ts,a::as,κ,r,h=>by unfold n6 at h;obtain⟨v,_,h⟩:=FM hΘ hS (ji hS a) h;rw[aY,aY,sL hΘ hS ts as _ r h]
theorem F0 (hΘ:fi P Θ) (hY:jH P Y) (hS:S.ok) {ops:Array Oper} {o:Oper} {os:List Oper} {Post:St->Prop} {k:Nat} {g:FuncId} {caps:List Cl} {q sz:Nat} {us:List TypeId} {xs:List Operand} (ht:Ai Y S o=some (k,g,caps,q,sz,us,xs)) {κ:TS->Option ρ} {r:ρ}
  (ih: ∀S3:TS,S3.ok->κ S3=some r->nZ P ops os S3.st Post) (h:Fw Θ Y S k g caps q sz us xs o.dst κ=some r):nZ P ops (o::os) S.st Post:=by
 obtain⟨f,as,ts,x,t,lo,len,hop,hgd,has,hts,hx,hgk,hf⟩:=Cf ht;unfold Fw at h;split at h
 ·rename_i el l hq;obtain⟨hsz0,h0⟩:=dG h;have hsz:sz=el.width:=ap hsz0;clear h hsz0;subst hsz;have h:=h0;clear h0
  have hql:q<S.gh.length:=by
   rcases bU q S.gh.length with h'|h'
   ·exact h'
   ·rw[pU h'] at hq; cases hq
  have hS0: ({ S with gh:=eI S.gh q none }:TS).ok:=TS.ok_gh hS (f7.gone _ _);have hst0: ({ S with gh:=eI S.gh q none }:TS).st= { S.st with gh:=eh S.st.gh q none } :=rE S q;have hlen:=sL hΘ hS0 _ _ _ _ h;obtain⟨vs,h1,h⟩:=n8 hΘ hS0 _ _ _ _ h
  have hcaps: ∀c∈caps,c.ok (eI S.gh q none):=by
   intro c hc;rcases hf with ⟨_,_,_,rfl⟩|hf
   ·cases hc
   ·have:=ji hS f;rw[hf] at this;exact Cl.ok_mono (f7.gone _ _) (this c hc)
  obtain⟨cs,h2,h⟩:=rF hS0 _ _ _ hcaps h
  have hargs:oV P { S.st with gh:=eh S.st.gh q none } us xs (caps.map Cl.av)=(vs++cs.map V1.cl).map V1.av:=by unfold oV;rw[<-hst0,h1,h2,b0,bi];rfl
  have hcal:callee S.st f=some (g,caps.map Cl.av):=by unfold callee;rw[dL];rcases hf with ⟨_,_,hf,rfl⟩|hf<;>(rw[hf]; rfl)
  have hxo:=ji hS x;rw[hx] at hxo;obtain⟨_,hxo⟩:=hxo;obtain⟨_,hlo,hln⟩:=hxo rfl;have hln:=hln _ hq;subst hlo hln;have hxv:opd S.st x= .own ⟨q,[]⟩ el.width 0 l.length:=by rw[dL,hx]; rfl
  have htr:S.st.gh q=some (.sl el.width (l.map el.row)):=by show (eM S.gh q).map en.tree=_;rw[hq];rfl
  cases hk:Nat.beq k 1 with
  |true=>
   rw[hk] at h;simp only[cond_true] at h;obtain⟨res,out,g1,g2,h⟩:=hY _ _ _ _ _ h;have g1:=(g1.io g rfl hgk).get;split at h
   ·rename_i t' l' _;obtain⟨hc,h⟩:=dG h;simp only[ao,decide_eq_true_eq] at hc;obtain⟨rfl,hns⟩:=hc;unfold dJ at h;split at h
    ·rename_i hll;have hG:f7 S.gh (eI S.gh q (some ⟨t',l',none⟩)):=f7.put hq hll
     have hrp:res.av.plain=true:=by unfold Ca at hns;split at hns<;>first |rfl|cases hns
     have hro:res.ok (eI S.gh q (some ⟨t',l',none⟩)):=by
      unfold Ca at hns;split at hns
      ·trivial
      ·intro x hx; cases hx
      ·cases hns
     obtain⟨S3,k1,k2,_,h⟩:=i8 (S:= { S with gh:=eI S.gh q (some ⟨t',l',none⟩) }) (TS.ok_gh hS hG) hro h;rw[sH S _ hql] at k1;refine nZ.hand hop hgd has hlen hcal hxv htr (m:=1) (by rw[hargs]; exact g1) (.inr ⟨rfl,_,rfl,hrp,S3.st,k1,ih S3 k2 h⟩)
    ·cases h
   ·cases h
  |false=>
   rw[hk] at h;simp only[cond_false] at h;obtain⟨hfz0,h⟩:=dG h;have hfz:S.st.fz<=q:=ax hfz0;obtain⟨res,out,g1,g2,h⟩:=hY _ _ _ _ _ h;have g1:=(g1.mv g rfl).get;have hl0: (eI S.gh q none).length=S.gh.length:=by rw[fH]; simp
   have hro: (oF S.gh.length res).ok (eI S.gh q none++out.map some):=by
    have:=sJ (G:=eI S.gh q none) g2
    rwa [hl0] at this
   obtain⟨S3,k1,k2,_,h⟩:=i8 (S:= { S with gh:=eI S.gh q none++out.map some }) (TS.ok_gh hS0 (f7.apps _ _)) hro h;rw[show ({ S with gh:=eI S.gh q none++out.map some }:TS).st=_ from qT { S with gh:=eI S.gh q none } res.av out,hst0,sI] at k1;exact nZ.hand hop hgd has hlen hcal hxv htr (m:=0) (by rw[hargs]; exact g1) (.inl ⟨hfz,S3.st,k1,ih S3 k2 h⟩)
 ·cases h
structure nr (S S1:TS) (L:List Nat):Prop where
 env:S1.env=S.env
 bx:S1.bx=S.bx
 fz:S1.fz=S.fz
 nt:S1.nt=S.nt
 len:S1.gh.length=S.gh.length
 gh: ∀r,eM S1.gh r=if L.contains r then none else eM S.gh r
 was: ∀q∈L,∃tr,eM S.gh q=some tr
theorem nr.refl (S:TS):nr S S [] :=⟨rfl,rfl,rfl,rfl,rfl,fun _=>by simp,fun _ h=>by cases h⟩
theorem nr.one {q:Nat} {tr:en} (h:eM S.gh q=some tr):nr S { S with gh:=eI S.gh q none } [q] :=
 ⟨rfl,rfl,rfl,rfl,by simp[fH],fun r=>by
  show eM (eI S.gh q none) r=_;rw[lm q r (.inr rfl)];by_cases hr:r=q
  ·subst hr; simp
  ·rw[if_neg hr,if_neg (by simpa using hr)],fun r hr=>by rw[ay.1 hr]; exact⟨tr,h⟩⟩
theorem nr.trans {S1 S2:TS} {L L':List Nat} (h:nr S S1 L) (k:nr S1 S2 L'):nr S S2 (L++L'):=
 ⟨k.env.trans h.env,k.bx.trans h.bx,k.fz.trans h.fz,k.nt.trans h.nt,k.len.trans h.len,fun r=>by
  rw[k.gh,h.gh]
  have e: (L++L').contains r=(L.contains r||L'.contains r):=by rw[bZ];simp
  rw[e];cases L.contains r<;>cases L'.contains r<;>rfl,fun q hq=>by
  rcases bz.1 hq with hq|hq
  ·exact h.was q hq
  ·obtain⟨tr,ht⟩:=k.was q hq;rw[h.gh] at ht;split at ht
   ·cases ht
   ·exact⟨tr,ht⟩⟩
theorem nr.apart {S1 S2:TS} {L L':List Nat} (h:nr S S1 L) (k:nr S1 S2 L') (h1:L.Nodup) (h2:L'.Nodup): (L++L').Nodup:=by rw[List.nodup_append];refine⟨h1,h2,fun a ha b hb e=> ?_⟩;subst e;obtain⟨tr,ht⟩:=k.was a hb;rw[h.gh,if_pos (by simpa using ha)] at ht;cases ht
theorem nr.le {S1:TS} {L:List Nat} (h:nr S S1 L):f7 S.gh S1.gh:=⟨by rw[h.len]; exact aw _,fun r tr _ ht=>by
 rw[h.gh] at ht;split at ht
 ·cases ht
 ·exact⟨tr,ht,rfl⟩⟩
theorem nr.ok {S1:TS} {L:List Nat} (h:nr S S1 L) (hS:S.ok):S1.ok:=
 ⟨fun x hx=>V.ok_mono h.le (hS.env x (by rw[<-h.env]; exact hx)),fun cs hcs c hc=>Cl.ok_mono h.le (hS.bx cs (by rw[<-h.bx]; exact hcs) c hc)⟩
theorem nr.st {S1:TS} {L:List Nat} (h:nr S S1 L):S1.st=dropL S.st L:=by
 unfold TS.st dropL;rw[h.env,h.bx,h.fz,h.nt,h.len];simp only
 congr 1
 funext r
 rw[h.gh];cases L.contains r<;>rfl
theorem Ay {o:Oper} {g:FuncId} {caps:List Cl} {a:Cb} {us:List TypeId} {xs:List Operand} (h:uY Y S o=some (g,caps,a,us,xs)):
  ∃f as ts x t,o.op= .call { callee:= .value f,args:=as,argTypes:=ts } /\o.guard=none/\as.toList=x::xs/\ts.toList=t::us/\yh (S.opd x)=some a/\g<gy/\
   ((∃a b,S.opd f= .v (.cl (.c (.sc (.func (.func g) a b))))/\caps= [])\/S.opd f= .v (.fn g caps)):=by
 unfold uY at h;split at h
 ·rename_i f as ts hop;split at h
  ·cases h
  ·rename_i hg;split at h
   ·rename_i x xs' t us' e1 e2;split at h
    ·rename_i a' hx;split at h
     ·rename_i g' a b hf;obtain⟨h2,h⟩:=dG h;simp only[ao] at h2;simp only[ae,al] at h;obtain⟨rfl,rfl,rfl,rfl,rfl⟩:=h;exact⟨f,as,ts,x,t,hop,hg,e1,e2,hx,ax h2.1, .inl ⟨a,b,hf,rfl⟩⟩
     ·rename_i g' caps' hf;obtain⟨h2,h⟩:=dG h;simp only[ao] at h2;simp only[ae,al] at h;obtain⟨rfl,rfl,rfl,rfl,rfl⟩:=h;exact⟨f,as,ts,x,t,hop,hg,e1,e2,hx,ax h2.1, .inr hf⟩
     ·cases h
    ·cases h
   ·cases h
 ·cases h
theorem xm: ∀ (L:List Nat) (S:TS),L.Nodup->(∀r∈L,∃tr,eM S.gh r=some tr)->nr S { S with gh:=Fx S.gh L } L
 | [],S,_,_=>nr.refl S
 |r::L,S,hnd,h=>by
  obtain⟨tr,htr⟩:=h r aH;rw[List.nodup_cons] at hnd;have h1:=nr.one htr
  have h2:=xm L { S with gh:=eI S.gh r none } hnd.2 (fun r' hr'=>by
   obtain⟨tr',htr'⟩:=h r' (aE _ hr');refine⟨tr',?_⟩;rw[h1.gh,if_neg]
   ·exact htr'
   ·intro hc;rw[bh,ay] at hc;subst hc;exact hnd.1 hr')
  exact h1.trans h2
theorem qV: ∀ (cs:List Cl) (ys:List C) (L:List Nat),pS S cs=some (ys,L)->(∀c∈cs,c.ok S.gh)->ys.length=cs.length/\(l6 ys).length=L.length/\
  (∀ (k r:Nat),L[k]? =some r-> ∃el l,(l6 ys)[k]? =some ⟨el,l,none⟩/\eM S.gh r=some ⟨el,l,none⟩)/\
  ∀ (w:World) (bt bt':Bt) (m:Nat),(∀ (k r:Nat),L[k]? =some r->bt'.β ⟨m+k,[]⟩=bt.β ⟨r,[]⟩/\bt'.κ ⟨m+k,[]⟩=bt.κ ⟨r,[]⟩/\m+k<bt'.ng)->
    ∀ (j:Nat) (c c':Cl) (u:Value),cs[j]? =some c->(qS ys m)[j]? =some c'->VR w bt c.av u->VR w bt' c'.av u
 | [],ys,L,h,_=>by simp only[pS,ae,al] at h;obtain⟨rfl,rfl⟩:=h;exact⟨rfl,rfl,fun k r hk=>by simp at hk,fun w bt bt' m _ j c c' u hj=>by simp at hj⟩
 |c0::cs,ys,L,h,hok=>by
  unfold pS at h;split at h
  ·cases ‹_= []›
  ·rename_i v cs' e;simp only[bo] at e;obtain⟨rfl,rfl⟩:=e;split at h
   ·rename_i ys' L' hr;simp only[ae,al] at h;obtain⟨rfl,rfl⟩:=h;obtain⟨h1,h2,h3,h4⟩:=qV cs ys' L' hr (fun c hc=>hok c (aE _ hc));refine⟨by simp[h1],h2,h3,fun w bt bt' m hm j c c' u hj hj' hv=> ?_⟩;cases j with
    |zero=>
     simp only[qS,aF,ae] at hj hj';subst hj hj';cases hv with
     |sc h=>exact .sc h
    |succ j=>exact h4 w bt bt' m hm j c c' u (by simpa using hj) (by simpa [qS] using hj') hv
   ·cases h
  ·rename_i r sz lo len cs' e;simp only[bo] at e;obtain⟨rfl,rfl⟩:=e;split at h
   ·rename_i el l hg;obtain⟨hsz,h0⟩:=dG h;have hsz:sz=el.width:=ap hsz;clear h;split at h0
    ·rename_i ys' L' hr;simp only[ae,al] at h0;obtain⟨rfl,rfl⟩:=h0;obtain⟨h1,h2,h3,h4⟩:=qV cs ys' L' hr (fun c hc=>hok c (aE _ hc));obtain⟨_,hlo⟩:=hok (.own ⟨r,[]⟩ sz lo len true) aH;obtain⟨_,hlo,hln⟩:=hlo rfl;have hln:=hln _ hg;simp only at hln;refine⟨by simp[h1],by simp[l6,h2],fun k r' hk=> ?_,fun w bt bt' m hm j c c' u hj hj' hv=> ?_⟩
     ·cases k with
      |zero=>simp only[aF,ae] at hk;subst hk;exact⟨el,l,rfl,hg⟩
      |succ k=>exact h3 k r' (by simpa using hk)
     ·cases j with
      |zero=>
       simp only[qS,aF,ae] at hj hj';subst hj hj' hsz hlo hln;obtain⟨e1,e2,e3⟩:=hm 0 r rfl;rw[ca] at e1 e2 e3;cases hv with
       |own hp hc hk ha=>exact .own e3 hc (by rw[e2]; exact hk) (by rw[e1]; exact ha)
      |succ j=>exact h4 w bt bt' (m+1) (fun k r' hk=>by
        have:=hm (k+1) r' (by simpa using hk)
        rwa [show m+(k+1)=m+1+k by omega] at this) j c c' u (by simpa using hj) (by simpa [qS] using hj') hv
    ·cases h0
   ·cases h
  ·cases h
theorem nu: ∀ (ys:List C) (m:Nat),(qS ys m).length=ys.length
 | [],_=>rfl
 | .sc v::r,m=>by simp[qS,nu r m]
 | .ls t l::r,m=>by simp[qS,nu r (m+1)]
theorem Az: ∀ (L:List Nat) (S:TS) (out:List en) (κ:TS->Option ρ) (r:ρ),L.Nodup->uZ S L out κ=some r->
  ∃Sp:TS,Sp.env=S.env/\Sp.bx=S.bx/\Sp.fz=S.fz/\Sp.nt=S.nt/\Sp.gh.length=S.gh.length/\out.length=L.length/\(∀ (k q:Nat),L[k]? =some q->eM Sp.gh q=out[k]?)/\(∀q,q∉L->eM Sp.gh q=eM S.gh q)/\f7 S.gh Sp.gh/\κ Sp=some r
 | [],S,out,κ,r,_,h=>by
   cases out with
   |nil=>exact⟨S,rfl,rfl,rfl,rfl,rfl,rfl,fun k q hk=>by simp at hk,fun _ _=>rfl,f7.refl _,h⟩
   |cons x out=>simp[uZ] at h
 |q::L,S,out,κ,r,hnd,h=>by
  rw[List.nodup_cons] at hnd;cases out with
  |nil=>simp[uZ] at h
  |cons x out=>
   obtain⟨t,l',hole⟩:=x;cases hole with
   |some y=>simp[uZ] at h
   |none=>
    simp only[uZ] at h;split at h
    ·rename_i el l hg;obtain⟨ht,h⟩:=dG h;have ht:t=el:=by simpa using ht
     subst ht;obtain⟨hl,h⟩:=eE h;obtain⟨Sp,a1,a2,a3,a4,a5,a6,a7,a8,a9,h⟩:=Az L { S with gh:=eI S.gh q (some ⟨t,l',none⟩) } out κ r hnd.2 h;have hql:=pV hg;have hG:f7 S.gh (eI S.gh q (some ⟨t,l',none⟩)):=f7.put hg hl;refine⟨Sp,a1,a2,a3,a4,by rw[a5]; simp[fH],by simp[a6],fun k q' hk=> ?_,fun q' hq'=> ?_,hG.trans a9,h⟩
     ·cases k with
      |zero=>simp only[aF,ae] at hk;subst hk;rw[a8 q hnd.1];show eM (eI S.gh q _) q=_;rw[lm q q (.inl hql),if_pos rfl];rfl
      |succ k=>rw[a7 k q' (by simpa using hk)];simp
     ·rw[a8 q' (fun hm=>hq' (aE _ hm))];show eM (eI S.gh q _) q'=_;rw[lm q q' (.inl hql),if_neg (fun e=>hq' (by rw[e]; exact aH))]
    ·cases h
theorem vh {res:V} (h:Ca res=true):res.av.plain=true/\ ∀G,res.ok G:=by
 unfold Ca at h;split at h
 ·exact⟨rfl,fun _=>trivial⟩
 ·exact⟨rfl,fun _ x hx=>by cases hx⟩
 ·cases h
theorem Ed (hΘ:fi P Θ) (hY:jH P Y) (hS:S.ok) {ops:Array Oper} {o:Oper} {os:List Oper} {Post:St->Prop} {g:FuncId} {caps:List Cl} {a:Cb} {us:List TypeId} {xs:List Operand} (ht:uY Y S o=some (g,caps,a,us,xs)) {κ:TS->Option ρ} {r:ρ}
  (ih: ∀S3:TS,S3.ok->κ S3=some r->nZ P ops os S3.st Post) (h:yi Θ Y S g caps a us xs o.dst κ=some r):nZ P ops (o::os) S.st Post:=by
 obtain⟨f,as,ts,x,t0,hop,hgd,has,hts,hx,hgk,hf⟩:=Ay ht
 have hcal:callee S.st f=some (g,caps.map Cl.av):=by unfold callee;rw[dL];rcases hf with ⟨_,_,hf,rfl⟩|hf<;>(rw[hf]; rfl)
 have others: ∀ {S0:TS} (hS0:S0.ok) (hG:f7 S.gh S0.gh) {K:List V1->List Cl->Option ρ},(n6 Θ S0 us xs fun vs=>uW (D4 S0 none) caps fun ks=>K vs ks)=some r->
   ∃vs ks,us.length=xs.length/\oV P S0.st us xs (caps.map Cl.av)=(vs++ks.map V1.cl).map V1.av/\K vs ks=some r:=by
  intro S0 hS0 hG K h;have hlen:=sL hΘ hS0 _ _ _ _ h;obtain⟨vs,h1,h⟩:=n8 hΘ hS0 _ _ _ _ h
  have hcaps: ∀c∈caps,c.ok S0.gh:=by
   intro c hc;rcases hf with ⟨_,_,_,rfl⟩|hf
   ·cases hc
   ·have:=ji hS f;rw[hf] at this;exact Cl.ok_mono hG (this c hc)
  obtain⟨ks,h2,h⟩:=rF hS0 _ _ _ hcaps h;refine⟨vs,ks,hlen,?_,h⟩;unfold oV;rw[h1,h2,b0,bi];rfl
 have hxo:=ji hS x;cases a with
 |agg cs=>
  have hxv:S.opd x= .v (.agg cs):=by
   unfold yh at hx;split at hx
   ·cases hx
   ·rename_i e;simp only[ae,Cb.agg.injEq] at hx;rw[e,hx]
   ·cases hx
  rw[hxv] at hxo;unfold yi at h;simp only at h;split at h
  ·rename_i ys L hga;obtain⟨hnd,h0⟩:=dG h;clear h;have hnd:L.Nodup:=t6.1 hnd;obtain⟨g1,g2,g3,g4⟩:=qV cs ys L hga hxo
   have hd:=xm L S hnd (fun q hq=>by obtain⟨k,hk,hkq⟩:=aM hq;obtain⟨el,l,_,e⟩:=g3 k q (by rw[<-hkq]; exact ah hk);exact⟨_,e⟩)
   obtain⟨vs,ks,hlen,hargs,h⟩:=others (hd.ok hS) hd.le h0;obtain⟨res,out,k1,k2,h⟩:=hY _ _ _ _ _ h;have k1:=(k1.io g rfl hgk).getA;obtain⟨hns,h⟩:=dG h;obtain⟨hpl,hrok⟩:=vh hns;obtain⟨Sp,a1,a2,a3,a4,a5,a6,a7,a8,a9,h⟩:=Az L S out _ r hnd h;have hSp:Sp.ok:=⟨fun x hx=>V.ok_mono a9 (hS.env x (by rw[<-a1]; exact hx)),fun cs hcs c hc=>Cl.ok_mono a9 (hS.bx cs (by rw[<-a2]; exact hcs) c hc)⟩
   obtain⟨S3,m1,m2,_,h⟩:=i8 hSp (hrok _) h
   have hGave:uS S.st (L.map fun r=>⟨r,[]⟩) ((l6 ys).map en.tree):=BW (by simp[g2]) hnd (fun k q hk=>by obtain⟨el,l,e1,e2⟩:=g3 k q hk;refine⟨el.width,l.map el.row,by rw[an,e1]; rfl,?_⟩;show (eM S.gh q).map en.tree=_;rw[e2];rfl)
   have hps: (L.map fun r=>(⟨r,[]⟩:eb)).length=(l6 ys).length:=by rw[aB,g2]
   have hout: (out.map en.tree).length=L.length:=by rw[aB,a6]
   refine nZ.handG hop hgd has hlen hcal (BX L) (fun w0 W bt w hI=>hI.dropL L) hGave (av0:= .agg ((qS ys 0).map Cl.av)) (fun w bt u hv=> ?_) (res:=res.av) (out:=out.map en.tree) (by rw[<-hd.st,hargs,hps]; exact k1)
    (BZ hGave hout (by unfold TS.st; simp only[a1]) (by unfold TS.st; simp only[a2]) (by unfold TS.st; simp only[a2]) (by unfold TS.st; simp only[a5]) a3 a4 (fun k q hk=>by
      show (eM Sp.gh q).map en.tree=_;rw[a7 k q hk,an]) (fun q hq=>by
      show (eM Sp.gh q).map en.tree=(eM S.gh q).map en.tree;rw[a8 q hq])) hpl ⟨S3.st,m1,ih S3 m2 h⟩
   rw[dL,hxv] at hv;have hv:VR w bt (.agg (cs.map Cl.av)) u:=hv;cases hv with
   |agg hl ho hr=>
    rename_i us0;refine .agg (by rw[aB,nu,g1]; simpa using hl) ho (fun k c u hk hu=> ?_);rw[an] at hk;simp only[ak] at hk;obtain⟨c',hc',rfl⟩:=hk
    have hkl:k<cs.length:=by have:=(ai.1 hc').1;rw[nu,g1] at this;exact this
    refine g4 w bt _ 0 (fun i q hi=> ?_) k cs[k] c' u (ah hkl) hc' (hr k _ u (by rw[an,ah hkl]; rfl) hu)
    have hpi: (L.map fun r=>(⟨r,[]⟩:eb))[(⟨0+i,[]⟩:eb).r]? =some ⟨q,[]⟩:=by rw[an];show (L[0+i]?).map _=_;rw[aV,hi];rfl
    have hpl2:=sA hpi;refine⟨?_,?_,?_⟩
    ·show bt.β (zm _ _)=_;rw[hpl2];rfl
    ·show bt.κ (zm _ _)=_;rw[hpl2];rfl
    ·show 0+i< (L.map fun r=>(⟨r,[]⟩:eb)).length;rw[aB,aV];exact (ai.1 hi).1
  ·cases h
 |nest q i j sz lo len=>
  obtain⟨w0,hxv⟩: ∃w,S.opd x= .v (.cl (.own ⟨q,[(i,j)]⟩ sz lo len w)):=by
   unfold yh at hx;split at hx
   ·rename_i w e;simp only[ae,Cb.nest.injEq] at hx;obtain⟨rfl,rfl,rfl,rfl,rfl,rfl⟩:=hx;exact⟨_,e⟩
   ·cases hx
   ·cases hx
  rw[hxv] at hxo;unfold yi at h;simp only at h;split at h
  ·rename_i t l hq;obtain⟨y,hy,h⟩:=aj.1 h;split at h
   ·rename_i el v hv;obtain⟨hsz,h0⟩:=dG h;have hsz:sz=el.width:=ap hsz;clear h;subst hsz;obtain⟨hll,h1⟩:=eE h0;clear h0;obtain⟨rfl,rfl⟩:=hll;have hql:=pV hq;have hhole:f7 S.gh (eI S.gh q (some ⟨t,l,some (i,j)⟩)):=f7.put hq rfl;obtain⟨vs,ks,hlen,hargs,h⟩:=others (S0:= { S with gh:=eI S.gh q (some ⟨t,l,some (i,j)⟩) }) (TS.ok_gh hS hhole) hhole h1;clear h1;obtain⟨res,out,k1,k2,h⟩:=hY _ _ _ _ _ h;have k1:=(k1.io g rfl hgk).get;split at h
    ·rename_i t' v' _;obtain⟨hc,h⟩:=dG h;simp only[ao,decide_eq_true_eq] at hc;obtain⟨rfl,hns⟩:=hc;obtain⟨hpl,hrok⟩:=vh hns;obtain⟨hvl,h⟩:=eE h;split at h
     ·rename_i z hz;have hG:f7 S.gh (eI S.gh q (some ⟨t,l.set i z,none⟩)):=f7.put hq (by simp);obtain⟨S3,m1,m2,_,h⟩:=i8 (S:= { S with gh:=eI S.gh q (some ⟨t,l.set i z,none⟩) }) (TS.ok_gh hS hG) (hrok _) h
      have hrowy: (l.map t.row)[i]? =some ((t.flat y).map C.tree):=by rw[an,hy];simp only[az,t.row_flat]
      have hcell: ((t.flat y).map C.tree)[j]? =some (.sl t'.width (v.map t'.row)):=by rw[eW] at hv;rw[an,hv];rfl
      have hgq:S.st.gh q=some (.sl t.width (l.map t.row)):=by show (eM S.gh q).map en.tree=_;rw[hq];rfl
      have hlook:S.st.look ⟨q,[(i,j)]⟩= .sl t'.width (v.map t'.row):=by unfold St.look;simp only[hgq,T.go,T.cell,ar,hrowy,aK,hcell]
      have hforget: ∀ (w0:World) (W:Nat->Prop) (bt:Bt) (w:World),eK w0 W bt S.st w->_:=fun w0 W bt w hI=>hI.forget hlook
      have hSm: ({ S with gh:=eI S.gh q (some ⟨t,l,some (i,j)⟩) }:TS).st=S.st.setAt ⟨q,[(i,j)]⟩ .dd:=by rw[sH S _ hql];unfold St.setAt;simp only[hgq,az];rfl
      have hSp: ({ S with gh:=eI S.gh q (some ⟨t,l.set i z,none⟩) }:TS).st=S.st.setAt ⟨q,[(i,j)]⟩ (.sl t'.width (v'.map t'.row)):=by
       rw[sH S _ hql];unfold St.setAt;simp only[hgq,az,T.put]
       congr 3
       show T.sl t.width ((l.set i z).map t.row)=_;rw[List.map_set,t.row_flat z,t.unflat_some _ _ hz,fH,List.map_set];simp only[ar,hrowy,aK];rfl
      rw[hSp] at m1;refine nZ.handG hop hgd has hlen hcal (Sm:=S.st.setAt ⟨q,[(i,j)]⟩ .dd) (ps:= [⟨q,[(i,j)]⟩]) ?_ (fun w0 W bt w hI=>(hforget w0 W bt w hI).1) (Fn hlook) (av0:= .own ⟨0,[]⟩ t'.width 0 v.length) (fun w bt u hv=> ?_) (res:=res.av) (out:= [.sl t'.width (v'.map t'.row)]) (by rw[<-hSm,hargs]; exact k1) (Fo hlook (by simpa using hvl)) hpl ⟨S3.st,m1,ih S3 m2 h⟩
      ·refine⟨rfl,rfl,rfl,fun p s rs hp=> ?_⟩;rw[my] at hp;by_cases hpr:p.r=q
       ·rw[if_pos hpr,hgq] at hp;simp only at hp
        rcases T.put_spec .dd [(i,j)] (.sl t.width (l.map t.row)) (.inl (by have:=hlook;unfold St.look at this;simp only[hgq] at this;rw[this];simp)) p.l s rs hp with ⟨m',hm,hgo⟩| ⟨rs0,e1,e2,e3,e4⟩
        ·rw[T.dd_go] at hgo; cases hgo
        ·refine⟨fun p' hp' hu=> ?_,rs0,by unfold St.look; rw[hpr,hgq]; exact e1⟩;rw[ay.1 hp'] at hu;obtain⟨_,m,b⟩:=hu;exact e3 m b.symm
       ·rw[if_neg hpr] at hp;refine⟨fun p' hp' hu=> ?_,rs,hp⟩;rw[ay.1 hp'] at hu;exact hpr hu.1
      ·rw[dL,hxv] at hv;have hv:VR w bt (.own ⟨q,[(i,j)]⟩ t'.width 0 v.length) u:=hv;cases hv with
       |own hp hc hk ha=>exact .own cN hc hk ha
     ·cases h
    ·cases h
   ·cases h
  ·cases h
theorem F1 {el:Ty} (hw:el.width=1) (hf:el.flatB=true) {z:el.D} (hz:el.unflat el.zcs=some z): ∃zv,el.zvs= [zv] /\kt zv=true/\el.row z= [.sc zv] :=by
 have hr:el.row z=el.zcs.map C.tree:=by rw[el.row_flat,el.unflat_some _ _ hz]
 rw[hr];clear hr hz z;cases el with
 |i k=>exact⟨_,rfl,rfl,rfl⟩
 |b=>exact⟨_,rfl,rfl,rfl⟩
 |s=>exact⟨_,rfl,rfl,rfl⟩
 |st n=>cases n<;>first |exact⟨_,rfl,rfl,rfl⟩| (exfalso; revert hw; decide)| (exfalso; revert hf; decide)
 |ls t=>cases hf
theorem Ee (hΘ:fi P Θ) (hS:S.ok) {ops:Array Oper} {o:Oper} {os:List Oper} {Post:St->Prop} {t:TypeId} {q sz lo len:Nat} (ht:yj S o=some (t,q,sz,lo,len)) {κ:TS->Option ρ} {r:ρ}
  (ih: ∀S3:TS,S3.ok->κ S3=some r->nZ P ops os S3.st Post) (h:Cc Θ S t q sz lo len o.dst κ=some r):nZ P ops (o::os) S.st Post:=by
 unfold yj at ht;split at ht
 ·rename_i as ts hop;split at ht
  ·cases ht
  ·rename_i hgd;split at ht
   ·rename_i x t' e1 e2;split at ht
    ·rename_i r' sz' lo' len' w hx;simp only[ae,al] at ht;obtain⟨rfl,rfl,rfl,rfl,rfl⟩:=ht;have e1:as= #[x] :=by apply Array.ext'; simpa using e1
     have e2:ts= #[t'] :=by apply Array.ext'; simpa using e2
     subst e1 e2;unfold Cc at h;split at h
     ·rename_i ti hti;split at h
      ·rename_i el l hq;obtain⟨hc,h0⟩:=dG h;simp only[ao,decide_eq_true_eq] at hc;obtain⟨⟨⟨hty,hw⟩,hsz⟩,hfl⟩:=hc;have hw:el.width=1:=ap hw;have hsz:sz'=1:=ap hsz;split at h0
       ·rename_i z hz;unfold dJ at h0;split at h0
        ·rename_i hle;obtain⟨elT',g1,g2,g3,g4,g5,g6⟩:=(hΘ _ _ hti).el el hty
         have hql:r'<S.gh.length:=by
          rcases bU r' S.gh.length with h'|h'
          ·exact h'
          ·rw[pU h'] at hq; cases hq
         have hG:f7 S.gh (eI S.gh r' (some ⟨el,l.take lo'++List.replicate len' z++l.drop (lo'+len'),none⟩)):=f7.put hq (by simp; omega);obtain⟨S3,k1,k2,_,h⟩:=i8 (v:= .tup []) (TS.ok_gh hS hG) (fun x hx=>by cases hx) h0;rw[sH S _ hql] at k1;obtain⟨zv,hzv,hsc,hrow⟩:=F1 hw hfl hz
         have htr:S.st.gh r'=some (.sl 1 (l.map el.row)):=by show (eM S.gh r').map en.tree=_;rw[hq];show some (T.sl el.width (l.map el.row))=_;rw[hw]
         have hxv:opd S.st x= .own ⟨r',[]⟩ 1 lo' len':=by rw[dL,hx,<-hsz]; rfl
         refine nZ.clear hop hgd g1 (by rw[g6,hzv]) hsc hxv htr (by simpa using hle) ⟨S3.st,?_,ih S3 k2 h⟩;rw[<-k1]
         congr 1
         show _=({ S.st with gh:=eh S.st.gh r' (some (T.sl el.width ((l.take lo'++List.replicate len' z++l.drop (lo'+len')).map el.row))) }:St);rw[hw];simp only[b0,bI,bO,dC,hrow]
        ·cases h0
       ·cases h0
      ·cases h
     ·cases h
    ·cases ht
   ·cases ht
 ·cases ht
theorem Ht (hΘ:fi P Θ) (hY:jH P Y) {ops:Array Oper}: ∀ (os:List Oper) (S:TS) (κ:TS->Option ρ) (r:ρ),(∀o∈os,kQ P o=true)->S.ok->tN Θ Y ops.toList os S κ=some r->
  nZ P ops os S.st (fun S'=> ∃S1:TS,S'=S1.st/\S1.ok/\κ S1=some r):=by
 intro os
 induction os with
 |nil=>intro S κ r _ hS h; exact nZ.nil ⟨S,rfl,hS,h⟩
 |cons o os ih=>
  intro S κ r hok hS h;unfold tN at h;cases hn:ub o with
  |some tx=>
   obtain⟨t,x⟩:=tx;rw[hn] at h;simp only at h;obtain⟨hs,h⟩:=dG h;obtain⟨⟨t',ho⟩,hg⟩:=yt hn;unfold JO at hs;split at hs
   ·rename_i ti hti;split at hs
    ·rename_i e he;obtain⟨el,hel,_⟩:=(hΘ t ti hti).el e he;split at h
     ·rename_i t1 l hx
      have way: ∀ (b:Bool),(ni S o.dst (Aj b) fun S3=>tN Θ Y ops.toList os S3 κ)=some r-> ∃S1,S.st.put o.dst (.sc (.bool b))=some S1/\nZ P ops os S1 (fun S'=> ∃S1:TS,S'=S1.st/\S1.ok/\κ S1=some r):=by intro b hb;obtain⟨S3,g5,g6,_,h⟩:=i8 (v:=Aj b) hS trivial hb;exact⟨S3.st,g5,ih S3 κ r (fun x hx=>hok x (aE _ hx)) g6 h⟩
      have hxv:opd S.st x= .ro t1.width (l.map t1.row):=by rw[dL,hx]; rfl
      cases l with
      |nil=>obtain⟨a1,a2⟩:=FY (show He _ _ none=some r from h);exact nZ.eqnil hel ho hg hxv (fun _=>way true a1) (way false a2)
      |cons y l=>exact nZ.eqnil hel ho hg hxv (fun h=>by cases h) (way false h)
     ·cases h
    ·cases hs
   ·cases hs
  |none=>
  rw[hn] at h;simp only at h;cases hcl:yj S o with
  |some z=>obtain⟨t,q,sz,lo,len⟩:=z;rw[hcl] at h;exact Ee hΘ hS hcl (fun S3 hS3 h3=>ih S3 κ r (fun x hx=>hok x (aE _ hx)) hS3 h3) h
  |none=>
  rw[hcl] at h;simp only at h;cases hh:Ai Y S o with
  |some z=>obtain⟨k,g,caps,q,sz,us,xs⟩:=z;rw[hh] at h;exact F0 hΘ hY hS hh (fun S3 hS3 h3=>ih S3 κ r (fun x hx=>hok x (aE _ hx)) hS3 h3) h
  |none=>
  rw[hh] at h;simp only at h;cases hh':uY Y S o with
  |some z=>obtain⟨g,caps,a,us,xs⟩:=z;rw[hh'] at h;exact Ed hΘ hY hS hh' (fun S3 hS3 h3=>ih S3 κ r (fun x hx=>hok x (aE _ hx)) hS3 h3) h
  |none=>
  rw[hh'] at h;simp only at h;obtain⟨b,S1,h1,h2,h3,h4,h⟩:=Ax hS h;refine nZ.cons (b:=b) (hok o aH) h1 ?_;cases b with
  |true=>simp only[cond_true] at h;obtain⟨D,v,S2,g1,g2,g3,g4,h⟩:=vg hΘ hY h3 h;obtain⟨S3,g5,g6,_,h⟩:=i8 g3 g4 h;rw[if_pos rfl];refine⟨D,S3.st,g1,?_,ih S3 κ r (fun x hx=>hok x (aE _ hx)) g6 h⟩;unfold one;rw[<-h2,g2];exact g5
  |false=>simp only[cond_false] at h;obtain⟨S3,g5,g6,_,h⟩:=i8 (v:= .tup []) h3 (fun x hx=>by cases hx) h;rw[if_neg (by simp)];exact⟨S3.st,by rw[<-h2]; exact g5,ih S3 κ r (fun x hx=>hok x (aE _ hx)) g6 h⟩
theorem Hu {D D':mu} {X:St} {o:Oper} (h:D o.dst=D' o.dst):dH D P X o=dH D' P X o:=by
 obtain⟨dst,op,ty,pos,aft,gd⟩:=o;cases op with
 |call c=>
  obtain⟨cl,as,ts⟩:=c;cases cl with
  |value f=>simp only[dH]; simp only at h; rw[h]
  |invoke a b=>rfl
  |builtin b=>cases b<;>rfl
 |unOp op t x=>cases op<;>rfl
 |binOp op t x y t'=>cases op<;>rfl
 |makeFunc fn first caps=>cases fn<;>rfl
 |slice t x lo hi mx=>cases mx<;>rfl
 | _=>rfl
theorem C7 {D D':mu} {X:St} {o:Oper} (h:D o.dst=D' o.dst):fk D P X o=fk D' P X o:=by
 obtain⟨dst,op,ty,pos,aft,gd⟩:=o;cases op with
 |call c=>
  obtain⟨cl,as,ts⟩:=c;cases cl with
  |value f=>simp only[fk]; simp only at h; rw[h]
  |invoke a b=>rfl
  |builtin b=>cases b<;>rfl
 | _=>rfl
theorem JU {D D':mu} {ops:Array Oper}: ∀ (os:List Oper) (X:St),(∀o∈os,D o.dst=D' o.dst)->uk D P ops os X=uk D' P ops os X:=by
 intro os
 induction os with
 |nil=>intro X _; rfl
 |cons o os ih=>intro X h;have h1:=h o aH;have h2: ∀X,uk D P ops os X=uk D' P ops os X:=fun X=>ih X (fun x hx=>h x (aE _ hx));simp only[uk,h2,Hu h1,C7 h1]
theorem vi: ∀ (l m:List (Option en)) (n:Nat),gone n l (l++m)= []
 | [],m,n=>by cases m<;>rfl
 |x::l,m,n=>by
  cases x with
  |none=>exact vi l m (n+1)
  |some y=>exact vi l m (n+1)
theorem Cg (l:List en):Fy (l.map some)=l.map en.tree:=by unfold Fy;rw[bi];rfl
theorem Hv (S:TS) (out:List en):S.st.make ⟨S.st.ng,out.map en.tree,[]⟩=({ S with gh:=S.gh++out.map some }:TS).st:=by
 rw[qT S .dead out];unfold St.make kv;simp only[aB]
 congr 1
theorem nr.make {S1:TS} {L:List Nat} (h:nr S S1 L) (x:en):S.st.make ⟨S.st.ng,[x.tree],jJ L⟩=({ S1 with gh:=S1.gh++ [some x] }:TS).st:=by
 rw[u4,h.st,h.len];unfold St.make dropL;simp only[cS,jZ]
 congr 1
 funext r
 unfold eh;by_cases hr:r=S.gh.length
 ·subst hr;rw[if_pos rfl,if_pos ⟨aw _,cG _⟩];simp[TS.st]
 ·rw[if_neg hr,if_neg (by show ¬ (S.gh.length<=r/\r<S.gh.length+1); omega)]
theorem C8: ∀ (l m x:List (Option en)) (n:Nat) (L:List Nat),m.length=l.length->(∀k,k<l.length->(((∃y,l[k]? =some (some y))/\m[k]? =some none)↔(n+k)∈L))->gone n l (m++x)=(List.range' n l.length).filter fun r=>L.contains r
 | [],m,x,n,L,hl,_=>by have :m= [] :=be hl;subst this;cases x<;>rfl
 |a::l,[],x,n,L,hl,_=>by cases hl
 |a::l,b::m,x,n,L,hl,h=>by
  have h0:=h 0 (Nat.zero_lt_succ _)
  have ih:=C8 l m x (n+1) L (by simpa using hl) (fun k hk=>by have:=h (k+1) (by simpa using hk);simp only[bV] at this;rw[this,show n+1+k=n+(k+1) by omega])
  simp only[aF,ae,ca] at h0;rw[aY,ci,List.filter_cons];cases a with
  |none=>
   have : ¬n∈L:=fun hn=>by obtain⟨⟨y,hy⟩,_⟩:=h0.2 hn;cases hy
   rw[if_neg (by simpa using this),<-ih];cases b<;>rfl
  |some y=>
   cases b with
   |none=>have :n∈L:=h0.1 ⟨⟨y,rfl⟩,rfl⟩;rw[if_pos (by simpa using this),<-ih];rfl
   |some z=>
    have : ¬n∈L:=fun hn=>by have:=(h0.2 hn).2;cases this
    rw[if_neg (by simpa using this),<-ih];rfl
theorem yu {L:List Nat} {N:Nat} (h: ∀r∈L,r<N):jJ L=(List.range N).filter fun r=>L.contains r:=by
 have top:xK L<=N:=by
  induction L with
  |nil=>exact ba _
  |cons a l ih=>unfold xK;have h1:=h a aH;have h2:=ih (fun r hr=>h r (aE _ hr));omega
 unfold jJ;obtain⟨k,rfl⟩: ∃k,N=xK L+k:=⟨N-xK L,by omega⟩
 rw[cn,cn,<-List.range'_append_1,cx]
 have : (List.range' (0+xK L) k).filter (fun r=>L.contains r)= [] :=by rw[List.filter_eq_nil_iff];intro r hr hc;have h1:=xV (l:=L) (r:=r) (by simpa using hc);have h2:=(List.mem_range'_1.1 hr).1;omega
 rw[this,bw]
theorem nr.gone {S1:TS} {L:List Nat} (h:nr S S1 L) (x:List (Option en)):gone 0 S.gh (S1.gh++x)=jJ L:=by
 rw[yu (N:=S.gh.length) (fun r hr=>by obtain⟨tr,ht⟩:=h.was r hr;exact pV ht),cn]
 refine C8 _ _ _ _ _ h.len (fun k hk=> ?_);rw[aV];have g:=h.gh k;unfold eM at g;rw[eW,eW] at g;have hk1:k<S1.gh.length:=by rw[h.len]; exact hk
 rw[ah hk,ah hk1] at g ⊢;simp only[aK,ae] at g ⊢;constructor
 ·rintro⟨⟨y,hy⟩,hn⟩
  rw[hn,hy] at g;split at g
  ·rename_i hc;simpa using hc
  ·cases g
 ·intro hL;obtain⟨tr,ht⟩:=h.was k hL;unfold eM at ht;rw[eW,ah hk] at ht;simp only[aK] at ht;rw[if_pos (by simpa using hL)] at g;exact⟨⟨tr,ht⟩,g⟩
theorem pX {G:List (Option en)} {r j:Nat} {c:Cl} (h:c.ok G) (hr:G.length<=r):lT r j c=c:=by
 have hb: ∀p:eb,p.r<G.length->Nat.beq p.r r=false:=fun p hp=>by
  cases hx:Nat.beq p.r r with
  |false=>rfl
  |true=>have:=ap hx;omega
 cases c with
 |own p sz lo len w=>simp only[lT];rw[hb p h.1];split<;>rfl
 |ptrT p sz a b=>simp only[lT];rw[hb p h];split<;>rfl
 | _=>rfl
theorem mG {α:Type} {f:α->α}: ∀ {l:List α},(∀x∈l,f x=x)->l.map f=l
 | [],_=>rfl
 |a::l,h=>by rw[aP,h a aH,mG fun x hx=>h x (aE _ hx)]
theorem AA (hS:S.ok) {r j:Nat} (hr:S.gh.length<=r):S.kill r j=S:=by
 have v1: ∀v:V1,v.ok S.gh->nI r j v=v:=by
  intro v hv;cases v with
  |cl c=>simp only[nI]; rw[pX hv hr]
  |agg cs=>simp only[nI]; rw[mG fun c hc=>pX (hv c hc) hr]
  |fn f cs=>simp only[nI]; rw[mG fun c hc=>pX (hv c hc) hr]
 have e1:S.env.map (fun x=>(x.1,xf r j x.2))=S.env:=by
  refine mG (fun x hx=> ?_);have hx:=hS.env x hx;obtain⟨t,v⟩:=x;cases v with
  |v x=>simp only[xf]; rw[v1 x hx]
  |tup l=>simp only[xf]; rw[mG fun c hc=>v1 c (hx c hc)]
 have e2:S.bx.map (fun cs=>cs.map (lT r j))=S.bx:=by exact mG (fun cs hcs=>mG (fun c hc=>pX (hS.bx cs hcs c hc) hr))
 unfold TS.kill;rw[e1,e2]
theorem Hw (hS:S.ok) {S1:TS} {no j:Nat} (hno:S.gh.length<=no) {et:Option Ty} {c:Cl} {x:C} (hc:c.ok S.gh) (h:gz S no j et c=some (x,S1)):
  ∃L,nr S S1 L/\L.Nodup/\jc S.st (BA et) c.av=some (x.tree,L):=by
 have wp: ∀t:Ty,¬BA (some t)=0:=fun t e=>by have:=t.width_pos;have e':t.width=0:=e;omega
 cases c with
 |c y=>
  cases y with
  |sc v=>
   cases et with
   |none=>simp only[gz,ae,al] at h;obtain⟨rfl,rfl⟩:=h;exact⟨[],nr.refl _,dy,rfl⟩
   |some t=>simp[gz] at h
  |ls t l=>cases et<;>simp[gz] at h
 |em=>
  cases et with
  |none=>simp[gz] at h
  |some t=>simp only[gz,ae,al] at h;obtain⟨rfl,rfl⟩:=h;rw[AA hS hno];refine⟨[],nr.refl _,dy,?_⟩;unfold jc;rw[if_neg (wp t)];rfl
 |own p sz lo len wh=>
  obtain⟨pr,pl⟩:=p;cases wh with
  |false=>cases et<;>simp[gz] at h
  |true=>
   cases et with
   |none=>simp[gz] at h
   |some t=>
    cases pl with
    |cons a l=>simp[gz] at h
    |nil=>
     simp only[gz] at h;obtain⟨h1,h⟩:=dG h;simp only[ao,bL] at h1;obtain⟨⟨h1,h2⟩,h3⟩:=h1;have h1:t.width=sz:=ap h1;have h2:S.fz<=pr:=ax h2;split at h
     ·rename_i tr htr;split at h
      ·rename_i hh;obtain⟨h4,h⟩:=dG h;have h4':tr.t.width=sz:=ap h4;simp only[ae,al] at h;obtain⟨rfl,rfl⟩:=h;have hg:=en.look htr;obtain⟨tt,l,hole⟩:=tr;simp only at hh h4';subst hh;obtain⟨e1,e2,e3⟩:=pm hc (fun _=>hg);have hd:=nr.one hg;rw[AA (hd.ok hS) (by rw[hd.len]; exact hno)];refine⟨[pr],hd,by simp,?_⟩;unfold jc;rw[if_neg (wp t)];simp only[Cl.av]
       have hrows:S.st.rows ⟨pr,[]⟩ sz=some (l.map tt.row):=by rw[<-h4'];refine i7 ?_;unfold St.look;show (match (eM S.gh pr).map en.tree with |some t=>t.go [] |none=> .dd)=_;rw[hg];rfl
       rw[if_pos ⟨trivial,h1.symm,e2,h2⟩,hrows];simp only[af,aB];rw[if_pos (by omega),e3];have e4: (l.map tt.row).take l.length=l.map tt.row:=bD (by simp);rw[e4];simp only[C.tree,h4']
      ·cases h
     ·cases h
 |pro cs=>cases et<;>simp[gz] at h
 |ptrB n j=>cases et<;>simp[gz] at h
 |ptrT p sz a b=>cases et<;>simp[gz] at h
 |dead=>cases et<;>simp[gz] at h
theorem Ch {X Y:St} (hfz:Y.fz=X.fz) (hg: ∀r t,Y.gh r=some t->X.gh r=some t) {s:Nat} {v:AV} {y:T×List Nat} (h:jc Y s v=some y):jc X s v=some y:=by
 unfold jc at h ⊢;split at h
 ·rename_i h0; rw[if_pos h0]; exact h
 ·rename_i h0;rw[if_neg h0];split at h
  ·exact h
  ·rename_i q s' lo len;split at h
   ·rename_i hc;rw[hfz] at hc;rw[if_pos hc];simp only[aj] at h ⊢;obtain⟨rows,hr,h⟩:=h;refine⟨rows,?_,h⟩;have hl:=gC hr;unfold St.rows
    have :X.look q= .sl s' rows:=by
     unfold St.look at hl ⊢;cases hq:Y.gh q.r with
     |none=>rw[hq] at hl; cases hl
     |some t=>rw[hq] at hl; rw[hg _ _ hq]; exact hl
    rw[this];simp
   ·cases h
  ·cases h
theorem po {X Y:St} (hfz:Y.fz=X.fz) (hg: ∀r t,Y.gh r=some t->X.gh r=some t): ∀ {ss:List Nat} {vs:List AV} {y:List T×List Nat},gl Y ss vs=some y->gl X ss vs=some y
 |s::ss,v::vs,y,h=>by unfold gl at h ⊢;simp only[aj,ak] at h ⊢;obtain⟨a,h1,b,h2,h3⟩:=h;exact⟨a,Ch hfz hg h1,b,po hfz hg h2,h3⟩
 | [],[],_,h=>h
 | [],_::_,_,h=>h
 | _::_,[],_,h=>h
theorem tw {X Y:St} (hfz:Y.fz=X.fz) (hg: ∀r t,Y.gh r=some t->X.gh r=some t) {ss:List Nat}: ∀ {vss:List (List AV)} {y:List (List T)×List Nat},fE Y ss vss=some y->fE X ss vss=some y
 | [],_,h=>h
 |vs::vss,y,h=>by unfold fE at h ⊢;simp only[aj,ak] at h ⊢;obtain⟨a,h1,b,h2,h3⟩:=h;exact⟨a,po hfz hg h1,b,tw hfz hg h2,h3⟩
theorem nr.less {S1:TS} {L:List Nat} (h:nr S S1 L): ∀r t,S1.st.gh r=some t->S.st.gh r=some t:=by
 intro r t ht;rw[h.st] at ht;unfold dropL at ht;simp only at ht;split at ht
 ·cases ht
 ·exact ht
theorem Hx (no:Nat): ∀ (ets:List (Option Ty)) (cs:List Cl) (j:Nat) (S S1:TS) (xs:List C),S.ok->S.gh.length<=no->(∀c∈cs,c.ok S.gh)->lU no j S ets cs=some (xs,S1)->
  ∃L,nr S S1 L/\L.Nodup/\gl S.st (ets.map BA) (cs.map Cl.av)=some (xs.map C.tree,L):=by
 intro ets
 induction ets with
 |nil=>
  intro cs j S S1 xs hS hno hcs h;cases cs with
  |nil=>simp only[lU,ae,al] at h;obtain⟨rfl,rfl⟩:=h;exact⟨[],nr.refl _,dy,rfl⟩
  |cons c cs=>simp[lU] at h
 |cons et ets ih=>
  intro cs j S S1 xs hS hno hcs h;cases cs with
  |nil=>simp[lU] at h
  |cons c cs=>
   simp only[lU] at h;split at h
   ·rename_i x S2 hx;obtain⟨L1,d1,n1,e1⟩:=Hw hS hno (hcs c aH) hx;split at h
    ·rename_i xs' S3 hxs;simp only[ae,al] at h;obtain⟨rfl,rfl⟩:=h;obtain⟨L2,d2,n2,e2⟩:=ih cs (j+1) S2 S3 xs' (d1.ok hS) (by rw[d1.len]; exact hno) (fun y hy=>Cl.ok_mono d1.le (hcs y (aE _ hy))) hxs;refine⟨L1++L2,d1.trans d2,d1.apart d2 n1 n2,?_⟩;simp only[aP,gl];rw[e1];simp only[af];rw[po (X:=S.st) (Y:=S2.st) d1.fz d1.less e2];rfl
    ·cases h
   ·cases h
theorem F2 (el:Ty): ∀ (vs:List V) (S S1:TS) (l:List el.D),S.ok->(∀v∈vs,v.ok S.gh)->nJ el S vs=some (l,S1)->
  ∃L,nr S S1 L/\L.Nodup/\fE S.st el.shs (vs.map fun v=>v.av.cells)=some (l.map el.row,L)/\l.length=vs.length/\ ∀v∈vs,v.av.cells.length=el.width/\v.av.isDead=false:=by
 intro vs
 induction vs with
 |nil=>intro S S1 l hS hv h;simp only[nJ,ae,al] at h;obtain⟨rfl,rfl⟩:=h;exact⟨[],nr.refl _,dy,rfl,rfl,fun v hv=>by cases hv⟩
 |cons v vs ih=>
  intro S S1 l hS hv h;cases v with
  |tup x=>simp[nJ] at h
  |v x=>
   have hx:=hv (.v x) aH;simp only[nJ] at h;split at h
   ·rename_i ws S2 hw
    have hcells: ∀c∈x.cells,c.ok S.gh:=by
     intro c hc;cases x with
     |cl y=>rw[ay.1 hc]; exact hx
     |agg cs=>exact hx c hc
     |fn f cs=>rw[ay.1 hc]; trivial
    obtain⟨L1,d1,n1,e1⟩:=Hx _ _ _ _ _ _ _ hS (aw _) hcells hw
    have hw':el.csh.length=x.cells.length/\ ∀c∈x.cells,c≠ .dead:=by obtain⟨_,m2,_,m4,_⟩:=vd S.gh.length 0 0 0 el.csh x.cells 0 S S2 ws [x.cells.map fun c=>T.ofSc c.av] (x.cells.map fun c=>T.ofSc c.av) hS hcells hw rfl (by simp) (fun k c hk=>by rw[aV,an,hk]; rfl);exact⟨m2,m4⟩
    split at h
    ·rename_i y ys S3 hy hys;simp only[ae,al] at h;obtain⟨rfl,rfl⟩:=h;obtain⟨L2,d2,n2,e2,e3,e4⟩:=ih S2 S3 ys (d1.ok hS) (fun u hu=>V.ok_mono d1.le (hv u (aE _ hu))) hys
     have hsh:el.shs=el.csh.map BA:=by unfold Ty.shs;refine aG fun c _=> ?_;cases c<;>rfl
     have hav: (V.v x).av.cells=x.cells.map Cl.av:=by
      cases x with
      |cl c=>
       simp only[V.av,V1.av,V1.cells,aP,cb];cases c with
       |c y=>cases y<;>rfl
       | _=>rfl
      |agg cs=>rfl
      |fn f cs=>exact absurd rfl (hw'.2 .dead (ay.2 rfl))
     refine⟨L1++L2,d1.trans d2,d1.apart d2 n1 n2,?_,by simp[e3],fun u hu=> ?_⟩
     ·simp only[aP,fE];rw[hav,hsh,e1];simp only[af];rw[<-hsh,tw (X:=S.st) (Y:=S2.st) d1.fz d1.less e2];simp only[az];rw[el.row_flat,el.unflat_some _ _ hy]
     ·rcases aR.1 hu with rfl|hu
      ·refine⟨?_,?_⟩
       ·rw[hav,aB,<-hw'.1];have:=qU el;unfold Ty.shs at this;simpa using this
       ·cases x with
        |cl c=>
         have:=hw'.2 c (ay.2 rfl);cases c with
         |c y=>cases y<;>rfl
         |dead=>exact absurd rfl this
         | _=>rfl
        |agg cs=>rfl
        |fn f cs=>rfl
      ·exact e4 u hu
    ·cases h
   ·cases h
theorem F3 (hΘ:fi P Θ) {t:TypeId} (h:KE Θ t=true): ∃ti el elT',jh Θ t=some ti/\ti.ty= .ls el/\o6 P t=some elT'/\P.cellsOf elT'=el.width/\P.bytesOf elT'=ti.el/\0<ti.el/\ku P 9 elT'=el.shs/\se P elT'=some el.zvs:=by
 unfold KE at h;split at h
 ·rename_i ti hti;split at h
  ·rename_i el he;obtain⟨elT',g⟩:=(hΘ _ _ hti).el el he;exact⟨ti,el,elT',hti,he,g⟩
  ·cases h
 ·cases h
theorem Hy {el:Ty} {v:Cl} (hv:v.ok S.gh) {κ:List el.D->TS->Option ρ} {r:ρ} (h:Fv S el v κ=some r):
  ∃more L S1,nr S S1 L/\fL S.st el.width el.flatB v.av=some (more.map el.row,L)/\κ more S1=some r:=by
 unfold Fv at h;split at h
 ·exact⟨[],[],S,nr.refl _,rfl,h⟩
 ·rename_i t l;obtain⟨h1,h⟩:=dG h;split at h
  ·rename_i l' hl;obtain⟨e,hl⟩:=fI hl;subst e;simp only at hl;subst hl;refine⟨l,[],S,nr.refl _,?_,h⟩;simp only[Cl.av,C.av,fL];rw[if_pos ⟨trivial,pW h1 l⟩]
  ·cases h
 ·rename_i p sz lo len w;obtain⟨h0,h⟩:=dG h;have h0:el.width=sz:=ap h0;cases hfl:el.flatB with
  |true=>
   rw[hfl] at h;simp only[cond_true] at h;obtain⟨t,l,h1,h2,h⟩:=fu h;split at h
   ·rename_i l' hl;obtain⟨e,hl⟩:=fI hl;subst e;simp only at hl;subst hl
    have src: ∀ (lo len:Nat),lo+len<=l.length->fL S.st t.width true (.own p sz lo len)=some (((l.drop lo).take len).map t.row,[]):=by intro lo len hle;simp only[fL];rw[if_pos h0.symm,i7 h1];simp only[af,aB];rw[if_neg (by simp),if_pos ⟨hle,by rw[<-bO,<-bI]; exact pW hfl _⟩];simp[bI,bO]
    cases w with
    |true=>obtain⟨e1,e2,e3⟩:=pm hv h2;refine⟨l,[],S,nr.refl _,?_,h⟩;have:=src lo len (by omega);rw[e2,e3,bT,bH] at this;simp only[Cl.av];rw[e2,e3];exact this
    |false=>simp only[cond_false] at h;obtain⟨h3,h⟩:=eE h;exact⟨_,[],S,nr.refl _,src lo len h3,h⟩
   ·cases h
  |false=>
   rw[hfl] at h;simp only[cond_false] at h;split at h
   ·rename_i hpl;obtain⟨h1,h'⟩:=dG h;clear h;simp only[ao] at h1;obtain⟨rfl,hfz⟩:=h1;have hfz:S.fz<=p.r:=ax hfz;obtain⟨t,l,g1,g2,h⟩:=fu h';split at h
    ·rename_i l' hl;obtain⟨e,hl⟩:=fI hl;subst e;simp only at hl;subst hl;obtain⟨e1,e2,e3⟩:=pm hv g2;refine⟨l,[p.r],_,nr.one (g2 e1),?_,h⟩;simp only[Cl.av,fL];rw[if_pos h0.symm,i7 g1];simp only[af,aB];rw[if_pos ⟨trivial,e1,e2,e3,hfz⟩]
    ·cases h
   ·cases h
 ·cases h
theorem F4 {el:Ty} {v:Cl} (hv:v.ok S.gh) (hroot:CW (.v (.cl v))=true) {more:List el.D} {κ:List el.D->TS->Option ρ} {r:ρ} (h:Ah S el v more κ=some r):
  ∃ (l0:List el.D) (cons:List Nat) (S':TS),kj S.st el.width v.av=some (l0.map el.row,cons)/\nr S S' cons/\κ (l0++more) S'=some r:=by
 unfold Ah at h;split at h
 ·exact⟨[],[],S,rfl,nr.refl _,h⟩
 ·rename_i p sz lo len w;obtain⟨pr,pl⟩:=p;cases pl with
  |cons a l=>cases hroot
  |nil=>
   obtain⟨h0,h'⟩:=dG h;clear h;simp only[ao] at h0;have hfz:S.fz<=pr:=ax h0.1;have hsz:el.width=sz:=ap h0.2;simp only at h';obtain⟨t,l,h1,h2,h⟩:=fu h';split at h
   ·rename_i l' hl;obtain⟨e,hl⟩:=fI hl;subst e;simp only at hl;subst hl
    have base: ∀ (len:Nat),¬l.length<len->kj S.st t.width (.own ⟨pr,[]⟩ sz 0 len)=some ((l.take len).map t.row,[pr]):=by intro len hlen;simp only[kj];rw[if_pos ⟨hsz.symm,trivial,trivial,hfz⟩,i7 h1];simp only[af,aB];rw[if_neg hlen,bI]
    cases w with
    |true=>obtain⟨e1,e2,e3⟩:=pm hv h2;refine⟨l,[pr],_,?_,nr.one (h2 rfl),h⟩;have:=base l.length (by omega);rw[bH] at this;simp only[Cl.av];rw[e2,e3];exact this
    |false=>simp only[cond_false] at h;obtain⟨h3,h⟩:=eE h;obtain⟨h4,h⟩:=sD h;refine⟨l.take len,[pr],_,?_,nr.one (h2 rfl),h⟩;simp only[Cl.av];rw[h3];exact base len h4
   ·cases h
 ·cases h
theorem Hz (hΘ:fi P Θ) (hY:jH P Y) (hS:S.ok) {o:Oper} (hn:ez o=true) (hf:JQ Θ o=true) (hb:Iw S o=true) {κ:V->TS->Option ρ} {r:ρ} (h:qo Θ Y S o κ=some r):
  ∃D v0 v adds cons S',jN P D/\fk D P S.st o=some (v0,adds,cons)/\shift S.st.ng v0=V.av v/\S.st.make ⟨S.st.ng,adds,cons⟩=TS.st S'/\sC S S'=⟨S.st.ng,adds,cons⟩/\S'.ok/\v.ok S'.gh/\κ v S'=some r:=by
 obtain⟨dst,op,ty,pos,aft,gd⟩:=o;cases op with
 |buildSlice t len parts=>
  obtain⟨ti,el,elT',hti,he,g1,g2,g3,g4,g5,g6⟩:=F3 hΘ hf;unfold qo at h;simp only[hti,he] at h;obtain⟨hb',h'⟩:=dG h;clear h
  have hnr: ((parts.toList.map fun x=>S.opd x.2).any uX)=false:=by have hb: (!(parts.toList.map fun x=>S.opd x.2).any uX)=true:=hb;simpa using hb
  rw[hnr] at h';simp only[cond_false] at h';split at h'
  ·rename_i l S1 hp
   have hvok: ∀v∈parts.toList.map (fun x=>S.opd x.2),v.ok S.gh:=fun v hv=>by obtain⟨y,_,rfl⟩:=aL.1 hv;exact ji hS _
   obtain⟨L,d,hnd,m1,m2,m3⟩:=F2 el _ S S1 l hS hvok hp;simp only[ao] at hb';have hb1:len*el.width<=1048576:=ax hb'.1;have hb2:=yq hb'.2
   have hlen:l.length=len:=by rw[m2];have:=congrArg List.length hb2;simpa using this
   refine⟨yp, .own ⟨0,[]⟩ el.width 0 len,_,[.sl el.width (l.map el.row)],jJ L,{ S1 with gh:=S1.gh++ [some ⟨el,l,none⟩] },f9,?_,?_,d.make ⟨el,l,none⟩,?_,TS.ok_gh (d.ok hS) (f7.app _ _),?_,h'⟩
   ·simp only[fk,g1,af]
    rw[if_pos ⟨by rw[g2]; exact hb1,hb2,by rw[g2]; exact el.width_pos,by rw[g6]; rfl,by rw[au];intro y hy;obtain⟨q1,q2⟩:=m3 (S.opd y.2) (aL.2 ⟨y,hy,rfl⟩);simp only[dL,q1,q2,g2];rfl⟩]
    have e: (parts.toList.map fun x=>(opd S.st x.2).cells)=(parts.toList.map fun x=>S.opd x.2).map fun v=>v.av.cells:=by rw[bi];exact aG fun x _=>by simp only[dL,Function.comp]
    rw[e,g5,m1];simp only[af];rw[if_pos (t6.2 hnd),g2]
   ·simp only[shift,jI,kN,V.av,V1.av,Cl.av,aV,hlen];rw[d.len];rfl
   ·unfold sC;simp only;rw[d.gone,cP (by rw[d.len]; exact aw _),cc (by rw[d.len]; exact aw _)];rfl
   ·refine⟨by simp,fun _=>⟨rfl,rfl,fun tr htr=> ?_⟩⟩;rw[jj,if_pos rfl] at htr;cases htr;rfl
  ·cases h'
 |call c=>
  obtain⟨cl,as,ts⟩:=c;cases cl with
  |invoke a b=>cases hn
  |value f=>
   unfold qo at h;simp only at h
   have fin: ∀ (g:FuncId) (caps:List AV) (vs:List V1),g<gy->callee S.st f=some (g,caps)->args P S.st ts as caps=vs.map V1.av->Y g vs ρ (fun res out=>κ (oF S.gh.length res) { S with gh:=S.gh++out.map some })=some r->
     ∃D v0 v adds cons S',jN P D/\fk D P S.st ⟨dst, .call { callee:= .value f,args:=as,argTypes:=ts },ty,pos,aft,gd⟩=some (v0,adds,cons)/\shift S.st.ng v0=V.av v/\S.st.make ⟨S.st.ng,adds,cons⟩=TS.st S'/\sC S S'=⟨S.st.ng,adds,cons⟩/\S'.ok/\v.ok S'.gh/\κ v S'=some r:=by
    intro g caps vs hg h1 h2 h3;obtain⟨res,out,h4,h5,h6⟩:=hY _ _ _ _ _ h3;have h4:=h4.fn hg;refine⟨D9 dst g (vs.map V1.av) (res.av,out.map en.tree),res.av,_,out.map en.tree,[],_,u6 h4,?_,?_,Hv S out,?_,TS.ok_gh hS (f7.apps _ _),sJ h5,h6⟩
    ·simp only[fk,h1,af,h2];rw[C3];rfl
    ·rw[sI]; rfl
    ·unfold sC;simp only[vi,cP (aw _),List.drop_length,bB,Cg];rfl
   unfold CU at h;split at h
   ·rename_i g x y hf';obtain⟨hg,h⟩:=dG h;have hg:g<gy:=ax hg;obtain⟨vs,h1,h⟩:=n8 hΘ hS _ _ _ _ h;refine fin g [] vs hg ?_ ?_ h
    ·unfold callee;rw[dL,hf'];rfl
    ·unfold args;simp only[cb,bw];exact h1
   ·rename_i g caps hf';obtain⟨hg,h⟩:=dG h;have hg:g<gy:=ax hg;obtain⟨vs,h1,h⟩:=n8 hΘ hS _ _ _ _ h
    have hcaps: ∀c∈caps,c.ok S.gh:=by have:=ji hS f;rw[hf'] at this;exact this
    obtain⟨cs,h2,h⟩:=rF hS _ _ _ hcaps h;refine fin g (caps.map Cl.av) (vs++cs.map .cl) hg ?_ ?_ h
    ·unfold callee;rw[dL,hf'];rfl
    ·unfold args;rw[h1,h2,b0,bi];rfl
   ·cases h
  |builtin b=>
   cases b with
   |append=>
    unfold qo at h;simp only at h;split at h
    ·rename_i s x t t' e1 e2;have hbb: ((match ts.toList with | [t,t'] =>Nat.beq t t'| _=>true)&&(match as.toList with |s::_=>CW (S.opd s)| [] =>true))=true:=hb;rw[e1,e2] at hbb;simp only[ao] at hbb;rw[hbb.1] at h;simp only[cond_true] at h;have h':=h;have ht:t=t':=ap hbb.1;clear h;have e1:as= #[s,x] :=by apply Array.ext'; simpa using e1
     have e2:ts= #[t,t'] :=by apply Array.ext'; simpa using e2
     subst e1 e2;subst ht;obtain⟨ti,el,elT',hti,he,g1,g2,g3,g4,g5,g6⟩:=F3 hΘ hf;unfold Hd at h';simp only[hti] at h';split at h'
     ·rename_i el' sv xv he' hs hx;rw[he] at he';cases he';have hsv:=ji hS s;rw[hs] at hsv;have hxv:=ji hS x;rw[hx] at hxv;obtain⟨more,L,S1,d1,q1,h⟩:=Hy (show xv.ok S.gh from hxv) h';have hroot:CW (.v (.cl sv))=true:=by rw[<-hs]; exact hbb.2
      obtain⟨l0,cons,S2,q2,d2,h⟩:=F4 (show sv.ok S1.gh from Cl.ok_mono d1.le hsv) hroot h;obtain⟨hbd,h⟩:=eE h;have hlen: (l0++more).length<=2 ^ 40:=bE (Nat.le_mul_of_pos_right _ g4) hbd;have hll: (l0++more).length=l0.length+more.length:=by simp
      have d:=d1.trans d2;refine⟨yp, .own ⟨0,[]⟩ el.width 0 (l0.length+more.length),_,[.sl el.width ((l0++more).map el.row)],jJ (L++cons),{ S2 with gh:=S2.gh++ [some ⟨el,l0++more,none⟩] },f9,?_,?_,d.make ⟨el,l0++more,none⟩,?_,TS.ok_gh (d.ok hS) (f7.app _ _),?_,h⟩
      ·simp only[fk];rw[if_pos trivial,g1];simp only[af,g2,g5,sK,dL,hs,hx];show (fL S.st el.width el.flatB xv.av).bind _=_;rw[q1];simp only[af];show (kj (dropL S.st L) el.width sv.av).bind _=_;rw[<-d1.st,q2];simp only[af,aB];rw[if_pos ⟨by rw[g3,<-hll]; exact hbd,by rw[<-hll]; exact hlen,el.width_pos,by rw[ud g2 g5 g6]; rfl⟩,b0]
      ·simp only[shift,jI,kN,V.av,V1.av,Cl.av,aV,hll];rw[d.len];rfl
      ·unfold sC;simp only;rw[d.gone,cP (by rw[d.len]; exact aw _),cc (by rw[d.len]; exact aw _)];rfl
      ·refine⟨by simp,fun _=>⟨rfl,rfl,fun tr htr=> ?_⟩⟩;rw[jj,if_pos rfl] at htr;cases htr;rfl
     ·cases h'
    ·cases h
   | _=>cases hn
 | _=>cases hn
end
end
section
open Go
section
variable {ρ:Type} {P:Program} {Θ:kL} {S:TS} {Y:sf}
open Classical in
noncomputable def rI (d:Option Tmp) (D1 D2:mu):mu:=fun d'=>if d'=d then D1 d' else D2 d'
theorem AB {d:Option Tmp} {D1 D2:mu} (h1:jN P D1) (h2:jN P D2):jN P (rI d D1 D2):=by
 intro d' f args gs res out h;unfold rI at h;split at h
 ·exact h1 _ _ _ _ _ _ h
 ·exact h2 _ _ _ _ _ _ h
theorem F5 (d:Option Tmp) (D1 D2:mu):rI d D1 D2 d=D1 d:=by unfold rI; rw[if_pos rfl]
theorem F6 {d d':Option Tmp} (D1 D2:mu) (h:d'≠d):rI d D1 D2 d'=D2 d':=by unfold rI; rw[if_neg h]
theorem HA (hΘ:fi P Θ) (hY:jH P Y) {ops:Array Oper}: ∀ (os:List Oper) (S:TS) (ms:List gm) (κ:TS->List gm->Option ρ) (r:ρ),S.ok->Ak Θ Y ops.toList os S ms κ=some r->
  ∃D SV ms',jN P D/\uk D P ops os S.st=some (TS.st SV,ms')/\SV.ok/\κ SV (ms++ms')=some r:=by
 intro os
 induction os with
 |nil=>intro S ms κ r hS h; exact⟨yp,S,[],f9,rfl,hS,by rw[bw]; exact h⟩
 |cons o os ih=>
  intro S ms κ r hS h;unfold Ak at h;cases hst:dF o with
  |true=>
   rw[hst] at h;simp only[cond_true] at h;obtain⟨D,SV,ms',h1,h2,h3,h4⟩:=ih _ _ _ _ hS h;refine⟨D,SV,⟨S.gh.length,[],[]⟩::ms',h1,?_,h3,?_⟩
   ·simp only[uk,hst,if_true,h2,az];rfl
   ·rw[aU] at h4;exact h4
  |false=>
   rw[hst] at h;simp only[cond_false] at h;cases hbo:eO o with
   |true=>
    rw[hbo] at h;simp only[cond_true] at h;cases hgn:o.guard.isNone with
    |false=>rw[hgn] at h; cases h
    |true=>
    rw[hgn] at h;simp only[cond_true] at h;obtain⟨S3,g5,g6,_,h⟩:=i8 (v:=V.v (.cl (.ptrB (S.bx.length-1-eJ os) 0))) hS trivial h;obtain⟨D,SV,ms',k1,k2,k3,k4⟩:=ih _ _ _ _ g6 h;refine⟨D,SV,⟨S.gh.length,[],[]⟩::ms',k1,?_,k3,?_⟩
    ·simp only[uk,hst,aX,if_false,hbo,if_true,hgn];rw[show S.st.put o.dst (.ptrB (S.st.nb-1-eJ os) 0)=some S3.st from g5];simp only[af,k2,az];rfl
    ·rw[aU] at k4;exact k4
   |false=>
   rw[hbo] at h;simp only[cond_false] at h;obtain⟨b,S1,h1,h2,h3,h4,h⟩:=Ax hS h;have hng:S.st.ng=S1.st.ng:=by rw[h2]
   cases b with
   |false=>
    simp only[cond_false] at h;obtain⟨S3,g5,g6,_,h⟩:=i8 (v:= .tup []) h3 (fun x hx=>by cases hx) h;obtain⟨D,SV,ms',k1,k2,k3,k4⟩:=ih _ _ _ _ g6 h;refine⟨D,SV,⟨S1.gh.length,[],[]⟩::ms',k1,?_,k3,?_⟩
    ·simp only[uk,hst,hbo,aX,if_false,h1,af];rw[<-h2,show S1.st.put o.dst (.tup [])=some S3.st from g5];simp only[af,k2,az];rfl
    ·rw[aU] at k4;exact k4
   |true=>
    simp only[cond_true] at h;cases hnw:ez o with
    |false=>
     rw[hnw] at h;simp only[cond_false] at h;obtain⟨v,S2,m1,m2,m3,m4,m5,h⟩:=sF (D:=yp) hΘ h3 h;obtain⟨S3,g5,g6,_,h⟩:=i8 m3 (by rw[m4]; exact m5) h;obtain⟨D,SV,ms',k1,k2,k3,k4⟩:=ih _ _ _ _ g6 h;refine⟨D,SV,⟨S1.gh.length,[],[]⟩::ms',k1,?_,k3,?_⟩
     ·have hV:dH D P S1.st o=some v.av:=by
       rw[<-m1]
       have : ∀D':mu,dH D P S1.st o=dH D' P S1.st o:=by
        intro D';obtain⟨dst,op,ty,pos,aft,gd⟩:=o;cases op with
        |call c=>
         obtain⟨cl,as,ts⟩:=c;cases cl with
         |value f=>cases hnw
         |invoke a b=>rfl
         |builtin b=>cases b<;>rfl
        |unOp op t x=>cases op<;>rfl
        |binOp op t x y t'=>cases op<;>rfl
        |makeFunc fn first caps=>cases fn<;>rfl
        |slice t x lo hi mx=>cases mx<;>rfl
        | _=>rfl
       exact this yp
      simp only[uk,hst,hbo,aX,if_false,h1,af,if_true,hnw];rw[<-h2,hV];simp only[af];rw[<-m2,g5];simp only[af,k2,az];rw[m2]; first |rfl|skip
     ·rw[aU] at k4;exact k4
    |true=>
     rw[hnw] at h;simp only[cond_true] at h;obtain⟨hc,h⟩:=dG h;simp only[ao] at hc;obtain⟨D1,v0,v,adds,cons,S2,m1,m2,m3,m4,m5,m6,m7,h⟩:=Hz hΘ hY h3 hnw hc.1.2 hc.2 h;obtain⟨S3,g5,g6,_,h⟩:=i8 m6 m7 h;obtain⟨D,SV,ms',k1,k2,k3,k4⟩:=ih _ _ _ _ g6 h;refine⟨rI o.dst D1 D,SV,⟨S1.st.ng,adds,cons⟩::ms',AB m1 k1,?_,k3,?_⟩
     ·have hN:fk (rI o.dst D1 D) P S1.st o=some (v0,adds,cons):=by
       rw[<-m2];exact C7 (F5 _ _ _)
      have hrest:uk (rI o.dst D1 D) P ops os S3.st=some (SV.st,ms'):=by
       rw[<-k2];refine JU os _ (fun o' ho'=>F6 _ _ (fun e=> ?_));have hl:=hc.1.1;unfold JP at hl;split at hl
       ·rename_i d hd;have:=au.1 hl o' ho';unfold Iv at this;rw[e,hd] at this;simp only[co,bq] at this;cases this
       ·cases hl
      simp only[uk,hst,hbo,aX,if_false,h1,af,if_true,hnw];rw[<-h2,hN];simp only[af];rw[m4,m3,g5];simp only[af,hrest,az]
      first |rfl|skip
     ·rw[aU,m5] at k4;exact k4
theorem HB (hΘ:fi P Θ) (hY:jH P Y) {ops:Array Oper} {D:mu}: ∀ (os:List Oper) (S:TS) (κ:TS->Option ρ) (r:ρ),S.ok->FA Θ Y os S κ=some r->
  ∃S',v7 D P ops os S.st=some (TS.st S')/\S'.ok/\κ S'=some r:=by
 intro os
 induction os with
 |nil=>intro S κ r hS h; exact⟨S,rfl,hS,h⟩
 |cons o os ih=>
  intro S κ r hS h;unfold FA at h;cases hst:dF o with
  |false=>rw[hst] at h;obtain⟨S',h1,h2,h3⟩:=ih S κ r hS h;exact⟨S',by simp only[v7,hst,aX,if_false]; exact h1,h2,h3⟩
  |true=>
   rw[hst] at h;simp only[cond_true] at h;obtain⟨hc,h⟩:=dG h;simp only[ao] at hc;obtain⟨D',v,S1,g1,g2,g3,g4,h⟩:=vg hΘ hY hS h;obtain⟨S',h1,h2,h3⟩:=ih S1 κ r g3 h;refine⟨S',?_,h2,h3⟩;have hd:o.dst=none:=cE.1 hc.2
   have hs:fq D P S.st o=some (v.av,S1.st):=by
    rw[<-g2];obtain⟨dst,op,ty,pos,aft,gd⟩:=o;cases op with
    |store t a x=>rfl
    | _=>cases hst
   have ho:one D P S.st o=some S1.st:=by unfold one;rw[hs];simp only[af,hd,St.put]
   simp only[v7,hst,if_true,ho,af,h1];rw[if_pos ⟨hc.1,by rw[hd]; rfl⟩]
theorem HC (hΘ:fi P Θ): ∀ (os:List Oper) (S:TS) (κ:TS->Option ρ) (r:ρ),S.ok->Fz Θ os S κ=some r-> ∃S0,xL P os S.st=some (TS.st S0)/\S0.ok/\κ S0=some r:=by
 intro os
 induction os with
 |nil=>intro S κ r hS h; exact⟨S,rfl,hS,h⟩
 |cons o os ih=>
  intro S κ r hS h;unfold Fz at h;unfold xL;split at h
  ·rename_i t hop;split at h
   ·rename_i ti hti
    obtain⟨S0,h1,h2,h3⟩:=ih { S with bx:=S.bx++ [ti.ty.zvs.map cC] } κ r ⟨hS.env,fun cs hcs c hc=>by
     rcases bz.1 hcs with h1|h1
     ·exact hS.bx cs h1 c hc
     ·simp only[ay] at h1;subst h1;exact FI _ _ c hc⟩ h
    refine⟨S0,?_,h2,h3⟩;rw[hop];simp only[(hΘ _ _ hti).ze,af];rw[<-h1]
    congr 1
    rw[Cd,FH];rfl
   ·cases h
  ·rename_i hno;obtain⟨S0,h1,h2,h3⟩:=ih S κ r hS h;exact⟨S0,by rw[<-h1]; split<;>first | (rename_i t ht; exact absurd ht (hno t))|rfl,h2,h3⟩
theorem Ci {f g:TypeId->Bool} (h: ∀t,f t=true->g t=true) {t:TypeId} {a:AV} (hs:wZ f t a=true):wZ g t a=true:=by cases a<;>simp only[wZ] at hs ⊢<;>first |exact h t hs|exact hs
theorem AD {f g:TypeId->Bool} (h: ∀t,f t=true->g t=true) {ops:List Oper} {B:List (List Nat)} {S SV:St} {i j:Nat} {oi oj:Oper} (hs:oy f ops B S SV i j oi oj=true):oy g ops B S SV i j oi oj=true:=by
 unfold oy at hs ⊢;split at hs
 ·simp only[ao] at hs ⊢;exact⟨Ci h hs.1,hs.2⟩
 ·cases hs
theorem AE {ops:List Oper} {B:List (List Nat)} {f g:Nat->Nat->Oper->Oper->Bool} (h: ∀i j oi oj,f i j oi oj=true->g i j oi oj=true) (hs:qG ops B f=true):qG ops B g=true:=by
 unfold qG at hs ⊢;refine au.2 fun j hj=> ?_;have h1:=au.1 hs j hj;split at h1
 ·cases h1
 ·simp only[bg] at h1 ⊢;refine h1.imp id fun h1=>au.2 fun i hi=> ?_;have h2:=au.1 h1 i hi;split at h2
  ·cases h2
  ·simp only[bg] at h2 ⊢;exact h2.imp id (h _ _ _ _)
theorem Ef {f g:TypeId->Bool} (h: ∀t,f t=true->g t=true) {ops:List Oper} {B:List (List Nat)} {S SV:St} {ms:List gm} (hs:BB f ops B S ms SV=true):BB g ops B S ms SV=true:=by unfold BB at hs ⊢;simp only[ao,bg] at hs ⊢;exact⟨⟨hs.1.1,hs.1.2.imp (AE fun _ _ _ _=>AD h) id⟩,hs.2⟩
theorem HD (hΘ:fi P Θ) (t:TypeId) (h:FB Θ t=true):qj P t=true:=by
 unfold FB at h;split at h
 ·rename_i ti hti;unfold qj;rw[(hΘ t ti hti).sh];unfold Ty.flatB at h;unfold Ty.shs;rw[List.all_map,au];intro x hx;have:=au.1 h x hx;cases x with
  |none=>rfl
  |some e=>cases this
 ·cases h
theorem HE (hΘ:fi P Θ) (hY:jH P Y) {n0:Nat} {ops:List Oper} {B:List (List Nat)}: ∀ (os:List Oper) (k:Nat) (S:TS) (κ:TS->Option ρ) (r:ρ),(∀o∈os,kO o=false)->S.ok->FC Θ Y n0 ops B k os S κ=some r->
  ∃S':TS,G6 P n0 ops B k os S.st=some S'.st/\S'.ok/\κ S'=some r:=by
 intro os
 induction os with
 |nil=>intro k S κ r _ hS h; exact⟨S,rfl,hS,h⟩
 |cons o os ih=>
  intro k S κ r hf hS h;unfold FC at h;have hf': ∀o∈os,kO o=false:=fun x hx=>hf x (aE _ hx);cases hn:ez o||dF o with
  |true=>
   rw[hn] at h;simp only[cond_true] at h;obtain⟨D,v,S2,_,g2,g3,g4,h⟩:=vg hΘ hY hS h;obtain⟨S3,g5,g6,_,h⟩:=i8 g3 g4 h;obtain⟨S',k1,k2,k3⟩:=ih _ _ _ _ hf' g6 h;refine⟨S',?_,k2,k3⟩
   have hd:fq wm P S.st o=some (v.av,S2.st):=by rw[<-g2];exact Fi (hf o aH) (by simpa using hn)
   simp only[G6,uM];rw[hn,if_pos rfl,hd];simp only[af];rw[g5];exact k1
  |false=>rw[hn] at h;simp only[cond_false] at h;obtain⟨hp,h⟩:=dG h;obtain⟨v,S2,m1,m2,m3,m4,m5,h⟩:=sF (D:=wm) hΘ hS h;obtain⟨S3,g5,g6,_,h⟩:=i8 m3 (by rw[m4]; exact m5) h;obtain⟨S',k1,k2,k3⟩:=ih _ _ _ _ hf' g6 h;refine⟨S',?_,k2,k3⟩;simp only[G6,uM];rw[hn,if_neg (by simp),if_pos hp,m1];simp only[az,af];rw[<-m2,g5];exact k1
theorem HF (hΘ:fi P Θ) (hY:jH P Y) (hm:P.follows .mixedOrders=true) {id:Nat} {ops:Array Oper} (hok:iH P (.region id ops true)=true) (hS:S.ok) {κ:TS->Option ρ} {r:ρ} (h:I5 Θ Y ops.toList S κ=some r):
  lM P (.region id ops true) S.st (fun x S'=>x= .nor/\ ∃S1:TS,S'=S1.st/\S1.ok/\κ S1=some r):=by
 unfold I5 at h;simp only[iH] at hok;cases hc:uN ops with
 |true=>rw[hc,if_pos rfl] at hok;rw[show uN ops.toList.toArray=true from hc] at h;simp only[cond_true] at h;obtain⟨S',h1,h2,h3⟩:=HE hΘ hY _ _ _ _ _ (BQ hc) hS h;exact lM.chain hm hok h1 ⟨rfl,S',rfl,h2,h3⟩
 |false=>
 rw[hc,if_neg (by simp)] at hok;rw[show uN ops.toList.toArray=false from hc] at h;simp only[cond_false] at h;obtain⟨S0,h0,hS0,h⟩:=HC hΘ _ _ _ _ hS h;obtain⟨D,SV,ms,h1,h2,h3,h4⟩:=HA hΘ hY _ _ _ _ _ hS0 h;obtain⟨h5,h6⟩:=dG h4;rw[bB] at h5;obtain⟨S',h7,h8,h9⟩:=HB (D:=D) (ops:=ops) hΘ hY _ _ _ _ h3 h6;exact lM.draw h1 hm hok h0 h2 (Ef (HD hΘ) h5) h7 ⟨rfl,S',rfl,h8,h9⟩
def eZ:Code->List Code
 | .seq a b=>eZ a++eZ b
 | .cond _ a b=>eZ a++eZ b
 | .block _ c=>eZ c
 | .loop c=> [c]
 | _=> []
def gO (P:Program) (Λ:nq) (cs:List Code):Prop:= ∀c∈cs,∀ (S:TS) (ρ:Type) (κ:X->TS->Option ρ) (r:ρ),S.ok->Λ (fG c) S ρ κ=some r->lM P (.loop c) S.st (fun x S'=> ∃S1:TS,S'=S1.st/\S1.ok/\κ x S1=some r)
theorem ue (hΘ:fi P Θ) (hY:jH P Y) (hm:P.follows .mixedOrders=true) {Λ:nq}: ∀ (c:Code) (S:TS) (κ:X->TS->Option ρ) (r:ρ),iH P c=true->gO P Λ (eZ c)->S.ok->rA Θ Y Λ c S κ=some r->
  lM P c S.st (fun x S'=> ∃S1:TS,S'=S1.st/\S1.ok/\κ x S1=some r):=by
 intro c
 induction c with
 |skip=>intro S κ r _ _ hS h; exact lM.skip ⟨S,rfl,hS,h⟩
 |exit i=>intro S κ r _ _ hS h; exact lM.exit ⟨S,rfl,hS,h⟩
 |ret=>intro S κ r _ _ hS h; exact lM.ret ⟨S,rfl,hS,h⟩
 |region id ops dr=>
  intro S κ r hok _ hS h;cases dr with
  |false=>exact lM.region (Ht hΘ hY _ _ _ _ (fun o ho=>au.1 hok o ho) hS h)
  |true=>refine (HF hΘ hY hm hok hS h).mono (fun x S' hx=> ?_);obtain⟨rfl,hx⟩:=hx;exact⟨S',kR.refl,hx⟩
 |seq a b iha ihb=>
  intro S κ r hok hL hS h;simp only[iH,ao] at hok;have hLa:gO P Λ (eZ a):=fun c hc=>hL c (bP _ hc);have hLb:gO P Λ (eZ b):=fun c hc=>hL c (cz _ hc);unfold rA at h;refine lM.seq ((iha S _ r hok.1 hLa hS h).mono (fun x S' hx=>⟨S',kR.refl,?_⟩));obtain⟨S1,rfl,h1,h2⟩:=hx;cases x with
  |nor=>exact ihb S1 κ r hok.2 hLb h1 h2
  |ret=>exact⟨S1,rfl,h1,h2⟩
  |ext i=>exact⟨S1,rfl,h1,h2⟩
 |cond t a b iha ihb=>
  intro S κ r hok hL hS h;simp only[iH,ao] at hok;have hLa:gO P Λ (eZ a):=fun c hc=>hL c (bP _ hc);have hLb:gO P Λ (eZ b):=fun c hc=>hL c (cz _ hc);unfold rA at h;obtain⟨v,S1,h1,h2,h3,h4,h⟩:=u3 hS h;refine lM.cond h1 ?_;rw[<-h2];cases v with
  |true=>exact iha S1 κ r hok.1 hLa h3 h
  |false=>exact ihb S1 κ r hok.2 hLb h3 h
 |block i c ih=>
  intro S κ r hok hL hS h;unfold rA at h;refine lM.block ((ih S _ r hok hL hS h).mono (fun x S' hx=>⟨S',kR.refl,?_⟩));obtain⟨S1,rfl,h1,h2⟩:=hx;cases x with
  |nor=>exact⟨S1,rfl,h1,h2⟩
  |ret=>exact⟨S1,rfl,h1,h2⟩
  |ext j=>
   simp only at h2 ⊢;cases hb:Nat.beq j i with
   |true=>rw[hb] at h2;rw[if_pos (ap hb)];exact⟨S1,rfl,h1,h2⟩
   |false=>rw[hb] at h2;rw[if_neg (by intro e; subst e; rw[co] at hb; cases hb)];exact⟨S1,rfl,h1,h2⟩
 |loop c ih=>intro S κ r hok hL hS h;exact hL c (ay.2 rfl) S ρ κ r hS h
 | _=>intro S κ r hok; cases hok
end
end
section
open Go
section
variable {ρ:Type} {P:Program} {Θ:kL} {S:TS} {Y:sf}
theorem C9 (hS:S.ok) {gs:List en} {et:Option Ty} {c:Cl} (hc:c.ok S.gh) {κ:Cl->List en->TS->Option ρ} {r:ρ} (h:Hf S gs et c κ=some r):
  ∃c' gs' S',tI S.st (gs.map en.tree) (BA et) c.av=some (Cl.av c',gs'.map en.tree,TS.st S')/\S'.ok/\f7 S.gh S'.gh/\f7 (gs.map some) (gs'.map some)/\c'.ok (gs'.map some)/\κ c' gs' S'=some r:=by
 have new: ∀ (t:Ty) (l:List t.D) (n:Nat),n=l.length->(Cl.own ⟨gs.length,[]⟩ t.width 0 n true).ok ((gs++ [(⟨t,l,none⟩:en)]).map some):=by intro t l n hn;refine⟨by simp,fun _=>⟨rfl,rfl,fun tr htr=> ?_⟩⟩;rw[b0] at htr;have e:=jj (G:=gs.map some) (x:=some (⟨t,l,none⟩:en)) gs.length;simp only[aB,if_true] at e;have htr':eM (gs.map some++ [some (⟨t,l,none⟩:en)]) gs.length=some tr:=htr;rw[e] at htr';cases htr';exact hn
 have grow: ∀ (x:en),f7 (gs.map some) ((gs++ [x]).map some):=fun x=>by rw[b0]; exact f7.app _ _
 unfold Hf at h;split at h
 ·refine⟨_,_,_,rfl,hS,f7.refl _,f7.refl _,?_,h⟩;trivial
 ·rename_i t;refine⟨_,_,S,?_,hS,f7.refl _,grow _,new t [] 0 rfl,h⟩;simp only[Cl.av,tI,BA,aB,b0,aP,cb];rfl
 ·rename_i p sz lo len w t';obtain⟨pr,pl⟩:=p;cases pl with
  |cons a l=>cases h
  |nil=>
   simp only at h;obtain⟨h1,h'⟩:=dG h;clear h;simp only[ao] at h1;have h2:S.fz<=pr:=ax h1.1;have h3:t'.width=sz:=ap h1.2;obtain⟨t,l,k1,k2,h⟩:=fu h';obtain⟨k3,h⟩:=dG h;have k3:t.width=sz:=ap k3
   have fin: ∀ (len:Nat),len<=l.length->tI S.st (gs.map en.tree) (BA (some t')) (.own ⟨pr,[]⟩ sz 0 len)=some (.own ⟨gs.length,[]⟩ sz 0 len,(gs++ [(⟨t,l.take len,none⟩:en)]).map en.tree,({ S with gh:=eI S.gh pr none }:TS).st):=by
    intro len hlen;simp only[tI];have hrows:S.st.rows ⟨pr,[]⟩ sz=some (l.map t.row):=by rw[<-k3]; exact i7 k1
    rw[if_pos ⟨trivial,by show sz=t'.width; exact h3.symm,trivial,h2⟩,hrows];simp only[af,aB];rw[if_pos hlen,rE];simp only[BA,h3,b0,aP,cb,en.tree,bI,k3]
   cases w with
   |true=>obtain⟨e1,e2,e3⟩:=pm hc k2;refine⟨_,_,_,?_,TS.ok_gh hS (f7.gone _ _),f7.gone _ _,grow _,by rw[<-k3]; exact new t l _ rfl,h⟩;have:=fin l.length (aw _);rw[bH] at this;simp only[Cl.av];rw[e2,e3];exact this
   |false=>
    simp only[cond_false] at h;obtain⟨h4,h⟩:=eE h;refine⟨_,_,_,?_,TS.ok_gh hS (f7.gone _ _),f7.gone _ _,grow _,by rw[<-k3]; exact new t (l.take len) _ rfl,h⟩;have hl: (l.take len).length=len:=by simp; omega
    simp only[Cl.av];rw[h4.1,hl];exact fin len h4.2
 ·cases h
theorem F7: ∀ (ets:List (Option Ty)) (cs:List Cl) (S:TS) (gs:List en) (κ:List Cl->List en->TS->Option ρ) (r:ρ),S.ok->(∀c∈cs,c.ok S.gh)->CX S gs ets cs κ=some r->
  ∃cs' gs' S',ox S.st (gs.map en.tree) (ets.map BA) (cs.map Cl.av)=some (cs'.map Cl.av,gs'.map en.tree,TS.st S')/\S'.ok/\f7 S.gh S'.gh/\f7 (gs.map some) (gs'.map some)/\(∀c∈cs',c.ok (gs'.map some))/\κ cs' gs' S'=some r:=by
 intro ets
 induction ets with
 |nil=>
  intro cs S gs κ r hS hcs h;cases cs with
  |nil=>exact⟨[],gs,S,rfl,hS,f7.refl _,f7.refl _,(fun c hc=>by cases hc),h⟩
  |cons c cs=>cases h
 |cons et ets ih=>
  intro cs S gs κ r hS hcs h;cases cs with
  |nil=>cases h
  |cons c cs=>
   unfold CX at h;obtain⟨c',g1,S1,h1,h2,h3,h4,h5,h⟩:=C9 hS (hcs c aH) h;obtain⟨cs',g2,S2,k1,k2,k3,k4,k5,h⟩:=ih cs S1 g1 _ r h2 (fun x hx=>Cl.ok_mono h3 (hcs x (aE _ hx))) h;refine⟨c'::cs',g2,S2,?_,k2,h3.trans k3,h4.trans k4,fun x hx=> ?_,h⟩
   ·simp only[aP,ox,h1,af,k1,az]
   ·rcases aR.1 hx with rfl|hx
    ·exact Cl.ok_mono k4 h5
    ·exact k5 x hx
theorem HG (hΘ:fi P Θ) (hS:S.ok) {gs:List en} {t:TypeId} {v:V} (hv:v.ok S.gh) {κ:V1->List en->TS->Option ρ} {r:ρ} (h:I6 Θ S gs t v κ=some r):
  ∃v' gs' S',DC P S.st (gs.map en.tree) t v.av=some (V1.av v',gs'.map en.tree,TS.st S')/\S'.ok/\f7 S.gh S'.gh/\f7 (gs.map some) (gs'.map some)/\v'.ok (gs'.map some)/\κ v' gs' S'=some r:=by
 unfold I6 at h;split at h
 ·cases h
 ·rename_i ti hti;have hsh:=(hΘ _ _ hti).sh;split at h
  ·rename_i cs;obtain⟨cs',g1,S1,h1,h2,h3,h4,h5,h⟩:=F7 _ _ _ _ _ _ hS hv h;refine⟨.agg cs',g1,S1,?_,h2,h3,h4,h5,h⟩;simp only[V.av,V1.av,DC,hsh];rw[show ti.ty.shs=ti.ty.csh.map BA from rfl,h1];rfl
  ·rename_i c;obtain⟨c',g1,S1,h1,h2,h3,h4,h5,h⟩:=C9 hS hv h;refine⟨.cl c',g1,S1,?_,h2,h3,h4,h5,h⟩
   have e:DC P S.st (gs.map en.tree) t (V.v (.cl c)).av=tI S.st (gs.map en.tree) ((ku P 9 t).headD 0) c.av:=by
    cases c with
    |c x=>cases x<;>rfl
    | _=>rfl
   rw[e,hsh]
   have e2:ti.ty.shs.headD 0=BA (ti.ty.csh.headD none):=by
    unfold Ty.shs;cases ti.ty.csh with
    |nil=>rfl
    |cons a l=>cases a<;>rfl
   rw[e2];exact h1
  ·cases h
theorem AF (hΘ:fi P Θ): ∀ (rs:List (TypeId×V)) (S:TS) (gs:List en) (κ:List V1->List en->Option ρ) (r:ρ),S.ok->(∀x∈rs,x.2.ok S.gh)->pi Θ S gs rs κ=some r->
  ∃vs gs',zn P S.st (gs.map en.tree) (rs.map fun x=>(x.1,x.2.av))=some (vs.map V1.av,gs'.map en.tree)/\f7 (gs.map some) (gs'.map some)/\(∀v∈vs,v.ok (gs'.map some))/\vs.length=rs.length/\κ vs gs'=some r:=by
 intro rs
 induction rs with
 |nil=>intro S gs κ r hS hrs h; exact⟨[],gs,rfl,f7.refl _,(fun v hv=>by cases hv),rfl,h⟩
 |cons x rs ih=>
  intro S gs κ r hS hrs h;obtain⟨t,v⟩:=x;unfold pi at h;obtain⟨v',g1,S1,h1,h2,h3,h4,h5,h⟩:=HG hΘ hS (hrs _ aH) h;obtain⟨vs,g2,k1,k2,k3,k4,h⟩:=ih S1 g1 _ r h2 (fun x hx=>V.ok_mono h3 (hrs x (aE _ hx))) h;refine⟨v'::vs,g2,?_,h4.trans k2,fun y hy=> ?_,by simp[k4],h⟩
  ·simp only[aP,zn,h1,af,k1,az]
  ·rcases aR.1 hy with rfl|hy
   ·exact V1.ok_mono k2 h5
   ·exact k3 y hy
theorem Da (hΘ:fi P Θ) (hS:S.ok): ∀ (rs:List ResultVar) (ts:List TypeId) (κ:List (TypeId×V)->Option ρ) (r:ρ),wo Θ S rs ts κ=some r->
  ∃l:List (TypeId×V),rs.mapM (rz P S.st)=some (l.map fun x=>x.2.av)/\l.map (·.1)=ts/\(∀x∈l,x.2.ok S.gh)/\κ l=some r:=by
 intro rs
 induction rs with
 |nil=>
  intro ts κ r h;cases ts with
  |nil=>exact⟨[],rfl,rfl,(fun x hx=>by cases hx),h⟩
  |cons t ts=>cases h
 |cons a rs ih=>
  intro ts κ r h;cases ts with
  |nil=>cases a<;>cases h
  |cons t ts=>
   cases a with
   |tmp a=>
    unfold wo at h;obtain⟨l,h1,h2,h3,h⟩:=ih ts _ r h;refine⟨(t,gn S.env a)::l,?_,by simp[h2],fun x hx=> ?_,h⟩
    ·simp only[cR,h1,rz];rfl
    ·rcases aR.1 hx with rfl|hx
     ·exact uc hS a
     ·exact h3 x hx
   |cell a t'=>
    unfold wo at h
    have hw:0<P.cellsOf t':=by
     have h':=h;unfold Ad at h';split at h'
     ·rename_i ti hti;rw[(hΘ _ _ hti).cells];exact Ty.width_pos _
     ·cases h'
    obtain⟨u,g1,g2,h⟩:=Ao hΘ hS (uc hS a) h;obtain⟨l,h1,h2,h3,h⟩:=ih ts _ r h;refine⟨(t,u)::l,?_,by simp[h2],fun x hx=> ?_,h⟩
    ·simp only[cR,h1,rz];rw[if_pos hw];have :load P S.st t' (S.st.env a)=some u.av:=g1;rw[this];rfl
    ·rcases aR.1 hx with rfl|hx
     ·exact g2
     ·exact h3 x hx
theorem yw {α β γ:Type} (f:α×β->γ): ∀l:List (α×β),(l.map (·.1)).zip (l.map f)=l.map fun x=>(x.1,f x)
 | [] =>rfl
 |a::l=>by simp only[aP,List.zip_cons_cons,yw f l]
theorem Db (vs:List V1): (rB vs).av=uQ (vs.map V1.av):=by
 match vs with
 | [] =>rfl
 | [v] =>rfl
 |v::u::vs=>rfl
theorem qW: ∀ (args:List V1) (n t:Nat),(gn (kz n args) (n+t)).av=(args.map V1.av).getD t .dead
 | [],n,t=>by simp[kz,gn]; rfl
 |a::l,n,0=>by simp[kz,gn]; rfl
 |a::l,n,t+1=>by
  have :Nat.beq n (n+(t+1))=false:=by
   cases h:Nat.beq n (n+(t+1)) with
   |false=>rfl
   |true=>have:=ap h; omega
  simp only[kz,gn,this,cond_false];rw[show n+(t+1)=(n+1)+t by omega,qW l (n+1) t];simp
theorem qX: ∀ (args:List V1) (n:Nat) (x:Nat×V),x∈kz n args-> ∃a∈args,x.2= .v a
 | [],n,x,h=>by cases h
 |a::l,n,x,h=>by
  simp only[kz,aR] at h;rcases h with rfl|h
  ·exact⟨a,aH,rfl⟩
  ·obtain⟨b,hb,he⟩:=qX l (n+1) x h;exact⟨b,aE _ hb,he⟩
theorem Ja (hΘ:fi P Θ) (hY:jH P Y) (hm:P.follows .mixedOrders=true) {Λ:nq} {f:FuncId} {fn:Func} (hf:zW P f=some fn) (hL: ∀c,fn.body=some c->gO P Λ (eZ c)) {args:List V1} (ha: ∀a∈args,a.ok []) {res:V} {out:List en}
  (h:JR Θ Y Λ fn args (fun v g=>some (v,g))=some (res,out)):lK P f (args.map V1.av) [] res.av (out.map en.tree):=by
 unfold JR at h;split at h
 ·cases h
 ·rename_i c hc
  have hcok:iH P c=true:=by
   unfold zW at hf;simp only[aj] at hf;obtain⟨fn',g1,g2⟩:=hf;split at g2
   ·cases g2
   ·rename_i c' hc';split at g2
    ·cases g2
    ·rename_i hn;simp only[ae] at g2;subst g2;rw[hc] at hc';simp only[ae] at hc';subst hc';simp only[bg,not_or,dq,de] at hn;exact hn.2
  have hS0: ({ env:=kz 0 args,bx:= [],gh:= [],fz:=0,nt:=args.length+(fn.ntmps-args.length) }:TS).ok:=
   ⟨fun x hx=>by obtain⟨a,h1,h2⟩:=qX _ _ _ hx; rw[h2]; exact ha a h1,fun cs hcs=>by cases hcs⟩
  have hbeg: ({ env:=kz 0 args,bx:= [],gh:= [],fz:=0,nt:=args.length+(fn.ntmps-args.length) }:TS).st=wn fn.ntmps (args.map V1.av) [] :=by
   unfold TS.st wn;simp only[aB,bJ]
   congr 1
   funext t
   have:=qW args 0 t;rw[aV] at this;exact this
  have hW:=ue hΘ hY hm c _ _ _ hcok (hL c hc) hS0 h;rw[hbeg] at hW
  have fG: ∀ (x:X) (S1:TS),S1.ok->(match x with | .ext _=>none| _=>wo Θ S1 fn.results.toList fn.resultTypes.toList fun rs=>pi Θ S1 [] rs fun vs gs=>some (rB vs,gs))=some (res,out)->
    (match x with | .ext _=>False| _=>tM P fn.results.toList fn.resultTypes.toList 0 S1.st=some (res.av,out.map en.tree)):=by
   intro x S1 hS1 h
   have main: (wo Θ S1 fn.results.toList fn.resultTypes.toList fun rs=>pi Θ S1 [] rs fun vs gs=>some (rB vs,gs))=some (res,out)->tM P fn.results.toList fn.resultTypes.toList 0 S1.st=some (res.av,out.map en.tree):=by
    intro h;obtain⟨l,h1,h2,h3,h⟩:=Da (P:=P) hΘ hS1 _ _ _ _ h;obtain⟨vs,gs',k1,k2,k3,k4,h⟩:=AF (P:=P) hΘ _ _ _ _ _ hS1 h3 h;simp only[ae,al] at h;obtain⟨rfl,rfl⟩:=h;unfold tM;rw[h1];simp only[af,aB]
    have hz: (fn.resultTypes.toList.zip (l.map fun x=>x.2.av))=l.map fun x=>(x.1,x.2.av):=by rw[<-h2];exact yw _ l
    rw[if_pos (by rw[<-h2]; simp),hz];have k1':zn P S1.st [] (l.map fun x=>(x.1,x.2.av))=some (vs.map V1.av,gs'.map en.tree):=k1;simp only[List.range_zero,cb,k1',az,Db]
   cases x with
   |ext i=>cases h
   |nor=>exact main h
   |ret=>exact main h
  refine zX hf hc (hW.mono (fun x S' hx=>⟨S',kR.refl,?_⟩));obtain⟨S1,rfl,h1,h2⟩:=hx;have:=fG x S1 h1 h2;cases x<;>exact this
theorem AG (a:List V1) (t:Nat): (gn (kz 0 a) t).av=(a.map V1.av).getD t .dead:=by
 have:=qW a 0 t
 rwa [aV] at this
theorem Dc (hΘ:fi P Θ) (hY:jH P Y) (hm:P.follows .mixedOrders=true) {Λ:nq} {f:FuncId} {fn:Func} (hf:zW P f=some fn) (hL: ∀c,fn.body=some c->gO P Λ (eZ c)) {m:Nat} (hm1:m<=1) {el:Ty} {l:List el.D} {args:List V1} (ha: ∀a∈args,a.ok []) {res:V} {out:List en}
  (h:D6 Θ Y Λ fn m el l args (fun v g=>some (v,g))=some (res,out)):ky P f (.own ⟨0,[]⟩ el.width 0 l.length::args.map V1.av) [.sl el.width (l.map el.row)] m res.av (out.map en.tree):=by
 unfold D6 at h;split at h
 ·cases h
 ·rename_i c hc
  have hcok:iH P c=true:=by
   unfold zW at hf;simp only[aj] at hf;obtain⟨fn',g1,g2⟩:=hf;split at g2
   ·cases g2
   ·rename_i c' hc';split at g2
    ·cases g2
    ·rename_i hn;simp only[ae] at g2;subst g2;rw[hc] at hc';simp only[ae] at hc';subst hc';simp only[bg,not_or,dq,de] at hn;exact hn.2
  have hS0: ({ env:=kz 0 (.cl (.own ⟨0,[]⟩ el.width 0 l.length true)::args),bx:= [],gh:= [some ⟨el,l,none⟩],fz:=m,nt:=(args.length+1)+(fn.ntmps-(args.length+1)) }:TS).ok:=
   ⟨fun x hx=>by
    obtain⟨a,h1,h2⟩:=qX _ _ _ hx;rw[h2];rcases aR.1 h1 with rfl|h1
    ·refine⟨cN,fun _=>⟨rfl,rfl,fun tr htr=> ?_⟩⟩;have htr:some (⟨el,l,none⟩:en)=some tr:=htr;cases htr;rfl
    ·exact V1.ok_mono (G:= []) ⟨ba _,fun r tr hr=>by cases hr⟩ (ha a h1),fun cs hcs=>by cases hcs⟩
  have hbeg: ({ env:=kz 0 (.cl (.own ⟨0,[]⟩ el.width 0 l.length true)::args),bx:= [],gh:= [some ⟨el,l,none⟩],fz:=m,nt:=(args.length+1)+(fn.ntmps-(args.length+1)) }:TS).st=DW fn.ntmps (.own ⟨0,[]⟩ el.width 0 l.length::args.map V1.av) [.sl el.width (l.map el.row)] m:=by
   unfold TS.st DW wn;simp only[aB,aY,bJ]
   congr 1
   ·funext t
    exact AG _ t
   ·funext r
    show (eM [some ⟨el,l,none⟩] r).map en.tree= [T.sl el.width (l.map el.row)][r]?;unfold eM;rw[eW];cases r<;>rfl
  have hW:=ue hΘ hY hm c _ _ _ hcok (hL c hc) hS0 h;rw[hbeg] at hW
  have fin: ∀ (S1:TS),S1.ok-> ∀gs:List en,((List.range m).map fun r=>(S1.st.gh r).getD .dd)=gs.map en.tree-> ∀l,(fn.results.toList.mapM (rz P S1.st))=some (l.map fun x:TypeId×V=>x.2.av)->l.map (·.1)=fn.resultTypes.toList->(∀x∈l,x.2.ok S1.gh)->
    (pi Θ S1 gs l fun vs gs=>some (rB vs,gs))=some (res,out)->tM P fn.results.toList fn.resultTypes.toList m S1.st=some (res.av,out.map en.tree):=by
   intro S1 hS1 gs hgs l h1 h2 h3 h;obtain⟨vs,gs',k1,k2,k3,k4,h⟩:=AF (P:=P) hΘ _ _ _ _ _ hS1 h3 h;simp only[ae,al] at h;obtain⟨rfl,rfl⟩:=h;unfold tM;rw[h1];simp only[af,aB]
   have hz: (fn.resultTypes.toList.zip (l.map fun x=>x.2.av))=l.map fun x=>(x.1,x.2.av):=by rw[<-h2];exact yw _ l
   rw[if_pos (by rw[<-h2]; simp),hz,hgs,k1];simp only[az,Db]
  have main: ∀ (S1:TS),S1.ok->(wo Θ S1 fn.results.toList fn.resultTypes.toList fun rs=>bif Nat.beq m 0 then pi Θ S1 [] rs fun vs gs=>some (rB vs,gs) else match eM S1.gh 0 with
    |some ⟨t,l',none⟩=>pi Θ S1 [⟨t,l',none⟩] rs fun vs gs=>some (rB vs,gs)
    | _=>none)=some (res,out)->tM P fn.results.toList fn.resultTypes.toList m S1.st=some (res.av,out.map en.tree):=by
   intro S1 hS1 h0;obtain⟨l,h1,h2,h3,h⟩:=Da (P:=P) hΘ hS1 _ _ _ _ h0;clear h0;cases hm0:Nat.beq m 0 with
   |true=>rw[hm0] at h;have e:m=0:=ap hm0;exact fin S1 hS1 [] (by rw[e]; rfl) l h1 h2 h3 h
   |false=>
    rw[hm0] at h;simp only[cond_false] at h
    have e:m=1:=by
     have :m≠0:=fun e=>by rw[e] at hm0; cases hm0
     omega
    split at h
    ·rename_i t l' hg
     exact fin S1 hS1 [⟨t,l',none⟩] (by
      rw[e];show [(S1.st.gh 0).getD .dd] =_
      have :S1.st.gh 0=some (en.tree ⟨t,l',none⟩):=by show (eM S1.gh 0).map en.tree=_;rw[hg];rfl
      rw[this];rfl) l h1 h2 h3 h
    ·cases h
  refine z6 hf hc (by simpa using hm1) (hW.mono (fun x S' hx=>⟨S',kR.refl,?_⟩));obtain⟨S1,rfl,h1,h2⟩:=hx;cases x with
  |ext i=>cases h2
  |nor=>exact main S1 h1 h2
  |ret=>exact main S1 h1 h2
end
end
section
open Go
def tO:List Nat->Nat->Nat->Option Nat
 | [],_,_=>none
 |a::l,x,n=>bif Nat.beq a x then some n else tO l x (n+1)
def qY (bs ls:List Nat):Cl->Cl
 | .own p sz lo len w=>match tO ls p.r 0 with |some k=> .own ⟨k,p.l⟩ sz lo len w|none=> .dead
 | .ptrT p sz i j=>match tO ls p.r 0 with |some k=> .ptrT ⟨k,p.l⟩ sz i j|none=> .dead
 | .ptrB n j=>match tO bs n 0 with |some k=> .ptrB k j|none=> .dead
 |c=>c
def F8 (bs ls:List Nat):V1->V1
 | .cl c=> .cl (qY bs ls c)
 | .agg cs=> .agg (cs.map (qY bs ls))
 | .fn f cs=> .fn f (cs.map (qY bs ls))
def F9 (bs ls:List Nat):V->V
 | .v x=> .v (F8 bs ls x)
 | .tup _=>V.dead
def Dd:List Nat->List Nat->List Nat
 | [],acc=>acc
 |a::l,acc=>match tO acc a 0 with |some _=>Dd l acc|none=>Dd l (acc++ [a])
def vj:List Nat->Bool
 | [] =>true
 |a::l=>(match tO l a 0 with |some _=>false|none=>true)&&vj l
def KR:Cl->List Nat| .ptrB n _=> [n] | _=> []
def JV:Cl->List Nat| .own p _ _ _ _=> [p.r] | .ptrT p _ _ _=> [p.r] | _=> []
def V1.all:V1->List Cl| .cl c=> [c] | .agg cs=>cs| .fn _ cs=>cs
def V.all:V->List Cl| .v x=>x.all| .tup _=> []
def De (S:TS) (keep:List Nat):List Nat:=Dd (keep.flatMap fun t=>(gn S.env t).all.flatMap KR) []
def Ix (S:TS) (keep bs:List Nat):List Nat:=Dd (List.range S.fz++(keep.flatMap fun t=>(gn S.env t).all.flatMap JV)++bs.flatMap fun b=>((kJ S.bx b).getD []).flatMap JV) []
def gp (S:TS) (keep bs ls:List Nat):TS where
 env:=keep.map fun t=>(t,F9 bs ls (gn S.env t))
 bx:=bs.map fun b=>((kJ S.bx b).getD []).map (qY bs ls)
 gh:=ls.map fun r=>eM S.gh r
 fz:=S.fz
 nt:=S.nt
def yx (S:TS) (bs ls:List Nat):Bool:=vj bs&&vj ls&&bs.all (fun b=>Nat.blt b S.bx.length)&&JM (ls.take S.fz) (List.range S.fz)&&ls.all (fun r=>Nat.blt r S.gh.length)
def Eg (G:List (Option en)):Cl->Cl
 | .own p sz lo len true=> .own p sz lo (match kJ G p.r with |some (some tr)=>tr.l.length| _=>len) true
 |c=>c
def Ga (G:List (Option en)):V1->V1
 | .cl c=> .cl (Eg G c)
 | .agg cs=> .agg (cs.map (Eg G))
 | .fn f cs=> .fn f (cs.map (Eg G))
def JW (G:List (Option en)):V->V
 | .v x=> .v (Ga G x)
 | .tup l=> .tup (l.map (Ga G))
def Jb (S:TS):TS:= { S with env:=S.env.map (fun x=>(x.1,JW S.gh x.2)),bx:=S.bx.map (fun cs=>cs.map (Eg S.gh)) }
def sM {ρ:Type} (keep:List Nat) (S:TS) (κ:TS->Option ρ):Option ρ:=bif yx S (De S keep) (Ix S keep (De S keep)) then κ (Jb (gp S keep (De S keep) (Ix S keep (De S keep)))) else none
theorem sN: ∀ {l:List Nat} {x n k:Nat},tO l x n=some k->n<=k/\l[k-n]? =some x
 | [],x,n,k,h=>by cases h
 |a::l,x,n,k,h=>by
  simp only[tO] at h;cases hb:Nat.beq a x with
  |true=>rw[hb] at h;simp only[cond_true,ae] at h;subst h;exact⟨aw _,by simp[ap hb]⟩
  |false=>rw[hb] at h;obtain⟨h1,h2⟩:=sN (l:=l) h;refine⟨by omega,?_⟩;rw[show k-n=(k-(n+1))+1 by omega,bV];exact h2
theorem xn: ∀ {l:List Nat} {x n:Nat},tO l x n=none->x∉l
 | [],x,n,_=>by simp
 |a::l,x,n,h=>by
  simp only[tO] at h;cases hb:Nat.beq a x with
  |true=>rw[hb] at h; cases h
  |false=>
   rw[hb] at h;have:=xn (l:=l) h;intro hm;rcases aR.1 hm with rfl|hm
   ·rw[co] at hb; cases hb
   ·exact this hm
theorem qZ: ∀ {l:List Nat},vj l=true-> ∀ (i j x:Nat),l[i]? =some x->l[j]? =some x->i=j
 | [],_,i,j,x,hi,_=>by simp at hi
 |a::l,h,i,j,x,hi,hj=>by
  simp only[vj,ao] at h
  have hna:a∉l:=by
   have h1:=h.1;split at h1
   ·cases h1
   ·rename_i hp; exact xn hp
  cases i with
  |zero=>
   simp only[aF,ae] at hi;subst hi;cases j with
   |zero=>rfl
   |succ j=>simp only[bV] at hj; exact absurd (aq hj) hna
  |succ i=>
   simp only[bV] at hi;cases j with
   |zero=>simp only[aF,ae] at hj;subst hj;exact absurd (aq hi) hna
   |succ j=>simp only[bV] at hj;rw[qZ h.2 i j x hi hj]
def Bt.ren (bt:Bt) (bs ls:List Nat):Bt where
 β:=fun p=>bt.β ⟨ls.getD p.r 0,p.l⟩
 κ:=fun p=>bt.κ ⟨ls.getD p.r 0,p.l⟩
 bb:=fun n=>bt.bb (bs.getD n 0)
 nb:=bs.length
 ng:=ls.length
 A:=bt.A
theorem yy {w:World} {bt:Bt} {bs ls:List Nat} {c:Cl} {u:Value} (h:VR w bt c.av u):VR w (bt.ren bs ls) (qY bs ls c).av u:=by
 have lt: ∀ {l:List Nat} {x k:Nat},tO l x 0=some k->k<l.length/\l.getD k 0=x:=by intro l x k hk;obtain⟨_,h2⟩:=sN hk;rw[df] at h2;exact⟨(ai.1 h2).1,by simp[ar,h2]⟩
 cases c with
 |c x=>
  cases x with
  |sc v=>cases h with |sc h=>exact .sc h
  |ls t l=>cases h with |ro h=>exact .ro h
 |em=>cases h with |em a=>exact .em a
 |own p sz lo len wh=>
  simp only[qY];split
  ·rename_i k hk;obtain⟨h1,h2⟩:=lt hk;have hp: (⟨ls.getD k 0,p.l⟩:eb)=p:=by rw[h2]
   have e1: (bt.ren bs ls).κ ⟨k,p.l⟩=bt.κ p:=by have e: (bt.ren bs ls).κ ⟨k,p.l⟩=bt.κ (eb.mk (ls.getD k 0) p.l):=rfl;rw[e,hp]
   have e2: (bt.ren bs ls).β ⟨k,p.l⟩=bt.β p:=by have e: (bt.ren bs ls).β ⟨k,p.l⟩=bt.β (eb.mk (ls.getD k 0) p.l):=rfl;rw[e,hp]
   cases h with
   |own hp' hc hkk ha=>exact .own h1 hc (by rw[e1]; exact hkk) (by rw[e2]; exact ha)
  ·exact .dead _
 |pro cs=>cases h with |pro cs hs hA hr ht=>exact .pro cs hs hA hr ht
 |ptrB n j=>
  simp only[qY];split
  ·rename_i k hk;obtain⟨h1,h2⟩:=lt hk;cases h with
   |ptrB j hn=>
    have :bt.bb n=(bt.ren bs ls).bb k:=by show bt.bb n=bt.bb (bs.getD k 0); rw[h2]
    rw[this];exact .ptrB j h1
  ·exact .dead _
 |ptrT p sz i j=>
  simp only[qY];split
  ·rename_i k hk;obtain⟨h1,h2⟩:=lt hk;have hp: (⟨ls.getD k 0,p.l⟩:eb)=p:=by rw[h2]
   cases h with
   |ptrT sz i j hp' hkk=>
    have e1:bt.β p=(bt.ren bs ls).β ⟨k,p.l⟩:=by show bt.β p=bt.β ⟨ls.getD k 0,p.l⟩; rw[hp]
    rw[e1];exact .ptrT sz i j h1 (by show _<bt.κ ⟨ls.getD k 0,p.l⟩; rw[hp]; exact hkk)
  ·exact .dead _
 |dead=>exact .dead _
theorem Gb {w:World} {bt:Bt} {bs ls:List Nat} {v:V1} {u:Value} (h:VR w bt v.av u):VR w (bt.ren bs ls) (F8 bs ls v).av u:=by
 have cells: ∀ (cs:List Cl) (us:List Value),us.length=cs.length->(∀ (k:Nat) (c:AV) (u:Value),(cs.map Cl.av)[k]? =some c->us[k]? =some u->VR w bt c u)-> ∀ (k:Nat) (c:AV) (u:Value),((cs.map (qY bs ls)).map Cl.av)[k]? =some c->us[k]? =some u->VR w (bt.ren bs ls) c u:=by intro cs us _ hr k c u hk hu;rw[an,an] at hk;simp only[ak] at hk;obtain⟨c1,⟨c0,hc0,rfl⟩,rfl⟩:=hk;exact yy (hr k c0.av u (by rw[an,hc0]; rfl) hu)
 cases v with
 |cl c=>exact yy h
 |agg cs=>
  simp only[V1.av] at h;cases h with
  |agg hl ho hr=>exact .agg (by simpa using hl) ho (cells cs _ (by simpa using hl) hr)
 |fn f cs=>
  simp only[V1.av] at h;cases h with
  |fn f hl hr=>exact .fn f (by simpa using hl) (cells cs _ (by simpa using hl) hr)
theorem HH {w:World} {bt:Bt} {bs ls:List Nat} {v:V} {u:Value} (h:VR w bt v.av u):VR w (bt.ren bs ls) (F9 bs ls v).av u:=by
 cases v with
 |v x=>exact Gb h
 |tup l=>exact .dead _
theorem xp (S:TS) (f:V->V): ∀ (keep:List Nat) (t:Nat),gn (keep.map fun t=>(t,f (gn S.env t))) t=V.dead\/gn (keep.map fun t=>(t,f (gn S.env t))) t=f (gn S.env t)
 | [],t=> .inl rfl
 |u::l,t=>by
  simp only[aP,gn];cases hb:Nat.beq u t with
  |true=>rw[ap hb]; exact .inr rfl
  |false=>exact xp S f l t
theorem pY (S:TS) (keep bs ls:List Nat) (r:Nat):eM (gp S keep bs ls).gh r=(ls[r]?).bind fun q=>eM S.gh q:=by show (kJ (ls.map fun r=>eM S.gh r) r).getD none=_;rw[eW,an];cases ls[r]?<;>rfl
theorem AH {S:TS} {keep bs ls:List Nat} (h:yx S bs ls=true):kR S.st (gp S keep bs ls).st:=by
 unfold yx at h;simp only[ao] at h;obtain⟨⟨⟨⟨hnb,hnl⟩,hbs⟩,hfz⟩,hlt⟩:=h;have hfz:=yq hfz;intro w0 W btI SI bt a w hl;have inv:=hl.inv
 have hls: ∀ (k:Nat),k<S.fz->ls[k]? =some k:=by
  intro k hk;have : (ls.take S.fz)[k]? =(List.range S.fz)[k]? :=by rw[hfz]
  rw[aZ,if_pos hk,List.getElem?_range hk] at this;exact this
 have look: ∀p s rs,(gp S keep bs ls).st.look p= .sl s rs-> ∃q,ls[p.r]? =some q/\S.st.look ⟨q,p.l⟩= .sl s rs/\ls.getD p.r 0=q:=by
  intro p s rs hp;unfold St.look at hp
  have e: (gp S keep bs ls).st.gh p.r=((ls[p.r]?).bind fun q=>eM S.gh q).map en.tree:=by show (eM _ _).map en.tree=_;rw[pY]
  rw[e] at hp;cases hq:ls[p.r]? with
  |none=>rw[hq] at hp; cases hp
  |some q=>refine⟨q,rfl,?_,by simp[ar,hq]⟩;rw[hq] at hp;exact hp
 have box: ∀n cells,(gp S keep bs ls).st.bx n=some cells-> ∃b cs,bs[n]? =some b/\S.bx[b]? =some cs/\cells=(cs.map (qY bs ls)).map Cl.av/\bs.getD n 0=b:=by intro n cells hn;have hn': (kJ (bs.map fun b=>((kJ S.bx b).getD []).map (qY bs ls)) n).map (fun cs=>cs.map Cl.av)=some cells:=hn;rw[eW,an] at hn';simp only[ak] at hn';obtain⟨x,⟨b,hb,rfl⟩,rfl⟩:=hn';have hlt':b<S.bx.length:=ax (au.1 hbs b (aq hb));refine⟨b,S.bx[b],hb,ah hlt',?_,by simp[ar,hb]⟩;rw[eW,ah hlt'];rfl
 have bxS: ∀ {b:Nat} {cs:List Cl},S.bx[b]? =some cs->S.st.bx b=some (cs.map Cl.av):=by intro b cs hb;show (kJ S.bx b).map _=_;rw[eW,hb];rfl
 refine⟨bt.ren bs ls,?_⟩
 refine⟨{ os:=inv.os,tape:=inv.tape,output:=inv.output,size:=inv.size,keep:=inv.keep
          nb:=by show bs.length=_; simp[TS.st,gp]
          ng:=by show ls.length=_; simp[TS.st,gp]
          bx:=fun n cells hn=> ?_
          gh:=fun r t hr=> ?_
          tr:=fun p sz rows hp=> ?_
          inj:=fun p q s rs s' rs' hp hq hk hk' he=> ?_
          bbinj:=fun n m cs cs' hn hm he=> ?_
          bbtr:=fun n cs p s rs hn hp hk=> ?_
          alt:=inv.alt
          atr:=fun p s rs hp hk=> ?_
          abb:=fun n cs hn=> ?_ },⟨hl.er.1,fun t=> ?_⟩,hl.defers,hl.fz,?_,fun p hp=> ?_,fun r hr hn=> ?_⟩
 ·obtain⟨b,cs,h1,h2,rfl,h4⟩:=box n cells hn;obtain⟨g1,g2,arr,e,g3,g4,g5⟩:=inv.bx b _ (bxS h2);refine⟨by show n<_; have:=(ai.1 h1).1; simpa [TS.st,gp] using this,by show _<=bt.bb (bs.getD n 0); rw[h4]; exact g2,arr,e,by show w.heap[bt.bb (bs.getD n 0)]? =_; rw[h4]; exact g3,by simpa using g4,fun j v hj=> ?_⟩;rw[an,an] at hj;simp only[ak] at hj;obtain⟨c1,⟨c0,hc0,rfl⟩,rfl⟩:=hj;obtain⟨c,k1,k2,k3⟩:=g5 j c0.av (by rw[an,hc0]; rfl);exact⟨c,k1,yy k2,k3⟩
 ·have hr': (eM (gp S keep bs ls).gh r).map en.tree=some t:=hr;rw[pY] at hr';show r<_;cases hq:ls[r]? with
  |none=>rw[hq] at hr'; cases hr'
  |some q=>have:=(ai.1 hq).1;simpa [TS.st,gp] using this
 ·obtain⟨q,h1,h2,h3⟩:=look p sz rows hp;obtain⟨g1,g2⟩:=inv.tr _ _ _ h2;have eκ: (bt.ren bs ls).κ p=bt.κ ⟨q,p.l⟩:=by show bt.κ ⟨ls.getD p.r 0,p.l⟩=_; rw[h3]
  have eβ: (bt.ren bs ls).β p=bt.β ⟨q,p.l⟩:=by show bt.β ⟨ls.getD p.r 0,p.l⟩=_; rw[h3]
  rw[eκ,eβ];refine⟨g1,fun hk=>⟨(g2 hk).1,?_⟩⟩;obtain⟨_,cs,e,k1,k2,k3,k4⟩:=g2 hk;refine⟨cs,e,by rw[eβ]; exact k1,by rw[eκ]; exact k2,k3,fun i r hi=> ?_⟩;obtain⟨m1,m2⟩:=k4 i r hi;refine⟨m1,fun j x hj=> ?_⟩;obtain⟨c,n1,n2⟩:=m2 j x hj;refine⟨c,n1,?_⟩;have f1: (bt.ren bs ls).κ (p.sub i j)=bt.κ (eb.sub ⟨q,p.l⟩ i j):=by show bt.κ ⟨ls.getD p.r 0,p.l++ [(i,j)]⟩=bt.κ ⟨q,p.l++ [(i,j)]⟩; rw[h3]
  have f2: (bt.ren bs ls).β (p.sub i j)=bt.β (eb.sub ⟨q,p.l⟩ i j):=by show bt.β ⟨ls.getD p.r 0,p.l++ [(i,j)]⟩=bt.β ⟨q,p.l++ [(i,j)]⟩; rw[h3]
  cases n2 with
  |sc h=>exact .sc h
  |dd u=>exact .dd _
  |sl q1 q2 q3=>exact .sl q1 (by rw[f1]; exact q2) (by rw[f2]; exact q3)
 ·obtain⟨p',h1,h2,h3⟩:=look p s rs hp;obtain⟨q',g1,g2,g3⟩:=look q s' rs' hq;have:=inv.inj ⟨p',p.l⟩ ⟨q',q.l⟩ _ _ _ _ h2 g2 (by rw[<-h3]; exact hk) (by rw[<-g3]; exact hk') (by rw[<-h3,<-g3]; exact he);simp only[eb.mk.injEq] at this;obtain⟨e1,e2⟩:=this;subst e1;have e3:=qZ hnl _ _ _ h1 g1;cases p; cases q;simp only at e3 e2;rw[e3,e2]
 ·obtain⟨b,c,h1,h2,_,h4⟩:=box n cs hn;obtain⟨b',c',g1,g2,_,g4⟩:=box m cs' hm
  have:=inv.bbinj b b' _ _ (bxS h2) (bxS g2) (by have he':bt.bb (bs.getD n 0)=bt.bb (bs.getD m 0):=he;rw[h4,g4] at he';exact he')
  subst this;exact qZ hnb _ _ _ h1 g1
 ·obtain⟨b,c,h1,h2,_,h4⟩:=box n cs hn;obtain⟨q,g1,g2,g3⟩:=look p s rs hp;have hk':0<bt.κ ⟨ls.getD p.r 0,p.l⟩:=hk;rw[g3] at hk';show bt.bb (bs.getD n 0)≠bt.β ⟨ls.getD p.r 0,p.l⟩;rw[h4,g3];exact inv.bbtr _ _ _ _ _ (bxS h2) g2 hk'
 ·obtain⟨q,g1,g2,g3⟩:=look p s rs hp;have hk':0<bt.κ ⟨ls.getD p.r 0,p.l⟩:=hk;rw[g3] at hk';show ¬bt.A (bt.β ⟨ls.getD p.r 0,p.l⟩);rw[g3];exact inv.atr _ _ _ g2 hk'
 ·obtain⟨b,c,h1,h2,_,h4⟩:=box n cs hn;show ¬bt.A (bt.bb (bs.getD n 0));rw[h4];exact inv.abb _ _ (bxS h2)
 ·show VR w _ (gn (gp S keep bs ls).env t).av _;rcases xp S (F9 bs ls) keep t with h1|h1
  ·have :gn (gp S keep bs ls).env t=V.dead:=h1;rw[this];exact .dead _
  ·have :gn (gp S keep bs ls).env t=F9 bs ls (gn S.env t):=h1;rw[this];exact HH (hl.er.2 t)
 ·show S.fz<=(gp S keep bs ls).gh.length;rcases bc S.fz with h0|h0
  ·omega
  ·have:=(ai.1 (hls (S.fz-1) (by omega))).1;simp[gp];omega
 ·have hp':p.r<S.fz:=by have:=hl.fz; have e:S.st.fz=S.fz:=rfl; omega
  have h3:ls.getD p.r 0=p.r:=by simp[ar,hls p.r hp']
  have:=hl.keep p hp;show bt.β ⟨ls.getD p.r 0,p.l⟩=_/\bt.κ ⟨ls.getD p.r 0,p.l⟩=_;rw[h3];exact this
 ·have hr':r<S.fz:=by have:=hl.fz; have e:S.st.fz=S.fz:=rfl; omega
  refine hl.gone r hr ?_;have hn': (eM (gp S keep bs ls).gh r).map en.tree=none:=hn;rw[pY,hls r hr'] at hn';exact hn'
theorem uf {S:TS} {bs ls:List Nat} {keep:List Nat} {c:Cl} (h:c.ok S.gh): (qY bs ls c).ok (gp S keep bs ls).gh:=by
 have lt: ∀ {x k:Nat},tO ls x 0=some k->k< (gp S keep bs ls).gh.length/\ls[k]? =some x:=by intro x k hk;obtain⟨_,h2⟩:=sN hk;rw[df] at h2;exact⟨by have:=(ai.1 h2).1; simpa [gp] using this,h2⟩
 cases c with
 |own p sz lo len w=>
  simp only[qY];split
  ·rename_i k hk;obtain⟨h1,h2⟩:=lt hk;refine⟨h1,fun hw=> ?_⟩;obtain⟨a,b,c⟩:=h.2 hw;refine⟨a,b,fun tr htr=>c tr ?_⟩;rw[pY,h2] at htr;exact htr
  ·trivial
 |ptrT p sz i j=>
  simp only[qY];split
  ·rename_i k hk; exact (lt hk).1
  ·trivial
 |ptrB n j=>simp only[qY]; split<;>trivial
 | _=>trivial
theorem HI {S:TS} {bs ls:List Nat} {keep:List Nat} {v:V} (h:v.ok S.gh): (F9 bs ls v).ok (gp S keep bs ls).gh:=by
 have one: ∀ {v:V1},v.ok S.gh->(F8 bs ls v).ok (gp S keep bs ls).gh:=by
  intro v h;cases v with
  |cl c=>exact uf h
  |agg cs=>intro c hc; obtain⟨x,hx,rfl⟩:=aL.1 hc; exact uf (h x hx)
  |fn f cs=>intro c hc; obtain⟨x,hx,rfl⟩:=aL.1 hc; exact uf (h x hx)
 cases v with
 |v x=>exact one h
 |tup l=>trivial
theorem xq {S:TS} (hS:S.ok) (keep bs ls:List Nat): (gp S keep bs ls).ok:=by
 refine⟨fun x hx=> ?_,fun cs hcs c hc=> ?_⟩
 ·obtain⟨t,_,rfl⟩:=aL.1 hx;exact HI (uc hS t)
 ·obtain⟨b,_,rfl⟩:=aL.1 hcs;obtain⟨x,hx,rfl⟩:=aL.1 hc;cases hb:kJ S.bx b with
  |none=>rw[hb] at hx; cases hx
  |some cs=>rw[hb] at hx;rw[eW] at hb;exact uf (hS.bx cs (aq hb) x hx)
theorem ug {G:List (Option en)} {c:Cl} (h:c.ok G):Eg G c=c:=by
 unfold Eg;split
 ·rename_i p sz lo len;split
  ·rename_i tr htr;rw[(h.2 rfl).2.2 tr (by unfold eM; rw[htr]; rfl)]
  ·rfl
 ·rfl
theorem AI {G:List (Option en)} {v:V1} (h:v.ok G):Ga G v=v:=by
 cases v with
 |cl c=>exact congrArg V1.cl (ug h)
 |agg cs=>exact congrArg V1.agg ((aG fun c hc=>ug (h c hc)).trans (List.map_id' cs))
 |fn f cs=>exact congrArg (V1.fn f) ((aG fun c hc=>ug (h c hc)).trans (List.map_id' cs))
theorem HJ {G:List (Option en)} {v:V} (h:v.ok G):JW G v=v:=by
 cases v with
 |v x=>exact congrArg V.v (AI h)
 |tup l=>exact congrArg V.tup ((aG fun c hc=>AI (h c hc)).trans (List.map_id' l))
theorem HK {S:TS} (h:S.ok):Jb S=S:=by unfold Jb;rw[aG (g:=id) (fun x hx=>by rw[HJ (h.env x hx)]; rfl),aG (g:=id) (l:=S.bx) (fun cs hcs=>(aG fun c hc=>ug (h.bx cs hcs c hc)).trans (List.map_id' cs)),List.map_id,List.map_id]
theorem n9 {ρ:Type} {S:TS} (hS:S.ok) {keep:List Nat} {κ:TS->Option ρ} {r:ρ} (h:sM keep S κ=some r): ∃S1:TS,kR S.st S1.st/\S1.ok/\κ S1=some r:=by unfold sM at h;obtain⟨h1,h⟩:=dG h;rw[HK (xq hS _ _ _)] at h;exact⟨_,AH h1,xq hS _ _ _,h⟩
end
end Go.Proofs.YtadpelkpdaohnaaGreatDoor.En
