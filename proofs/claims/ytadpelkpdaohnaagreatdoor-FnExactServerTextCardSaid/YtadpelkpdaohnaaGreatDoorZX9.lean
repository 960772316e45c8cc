import Derived.Test.YtadpelkpdaohnaaGreatDoorZX8
namespace Go.Proofs.YtadpelkpdaohnaaGreatDoor.En
section
open Go
section
variable {ρ:Type} {P:Program} {Θ:jE} {S:TS} {Y:qm}
theorem yj (hS:S.ok) {ops:Array Oper} {o:Oper} {κ:Bool->TS->Option ρ} {r:ρ} (h:AY S ops.toList o κ=some r): ∃b S1,iP S.st ops o=some b/\S1.st=S.st/\S1.ok/\S1.gh=S.gh/\κ b S1=some r:=by
 unfold AY at h;split at h
 ·rename_i hg;exact⟨true,S,by unfold iP; rw[hg],rfl,hS,rfl,h⟩
 ·rename_i j want hg;split at h
  ·rename_i oj hj;split at h
   ·rename_i d hd;rw[ew,cd] at hj;split at h
    ·rename_i he;refine⟨_,S,?_,rfl,hS,rfl,h⟩;unfold iP;rw[hg];simp only[hj,af,hd];have :S.st.env d= .tup [] :=by show (fB S.env d).av=_; rw[he]; rfl
     rw[this]
    ·obtain⟨b,S1,h1,h2,h3,h4,h5⟩:=sZ hS h;refine⟨_,S1,?_,h2,h3,h4,h5⟩;unfold iP;rw[hg];simp only[hj,af,hd];have :S.st.env d= .sc (.bool b):=h1;rw[this]
   ·cases h
  ·cases h
theorem ib (hS:S.ok) {d:Option Tmp} {v:V} (hv:v.ok S.gh) {κ:TS->Option ρ} {r:ρ} (h:lQ S d v κ=some r): ∃S1,S.st.put d v.av=some (TS.st S1)/\S1.ok/\S1.gh=S.gh/\κ S1=some r:=by
 unfold lQ at h;split at h
 ·rename_i t;obtain⟨h1,h⟩:=dq h;have h1:t<S.nt:=aw h1;refine⟨{ S with env:=(t,v)::S.env },?_,⟨fun x hx=> ?_,hS.bx⟩,rfl,h⟩
  ·simp only[St.put];rw[if_pos (show t<S.st.nt from h1)]
   congr 1
   unfold TS.st
   congr 1
   funext u
   unfold dJ;simp only[fB];cases hb:Nat.beq t u with
   |true=>have :t=u:=ao hb;subst this;simp
   |false=>
    have : ¬u=t:=by intro e; subst e; rw[ci] at hb; cases hb
    rw[if_neg this];rfl
  ·rcases aX.1 hx with rfl|hx
   ·exact hv
   ·exact hS.env x hx
 ·exact⟨S,rfl,hS,rfl,h⟩
theorem DV {α:Type} {x y:Option α} {r:α} (h:Fi x y none=some r):x=some r/\y=some r:=by
 unfold Fi at h;split at h
 ·rename_i e;exact⟨h,by rw[<-e]; exact h⟩
 ·cases h
theorem DW {α:Type} (x z:α):Fi x x z=x:=by unfold Fi; rw[if_pos rfl]
theorem wj {o:Oper} {t:TypeId} {x:Operand} (h:rS o=some (t,x)): (∃t',o.op= .binOp .eql t x (.const (.slice none 0 0)) t')/\o.guard=none:=by
 unfold rS at h;split at h
 ·rename_i t1 x1 t' ho;split at h
  ·rename_i hg;simp only[ae,am] at h;obtain⟨rfl,rfl⟩:=h;exact⟨⟨t',ho⟩,hg⟩
  ·cases h
 ·cases h
theorem Aa {o:Oper} {k:Nat} {g:FuncId} {caps:List Cl} {r sz:Nat} {us:List TypeId} {xs:List Operand} (h:xX Y S o=some (k,g,caps,r,sz,us,xs)):
  ∃f as ts x t lo len,o.op= .call { callee:= .value f,args:=as,argTypes:=ts } /\o.guard=none/\as.toList=x::xs/\ts.toList=t::us/\S.opd x= .v (.cl (.own ⟨r,[]⟩ sz lo len true))/\g<fF/\
   ((∃a b,S.opd f= .v (.cl (.c (.sc (.func (.func g) a b))))/\caps= [])\/S.opd f= .v (.fn g caps)):=by
 unfold xX at h;split at h
 ·rename_i f as ts hop;split at h
  ·cases h
  ·rename_i hg;split at h
   ·rename_i x xs' t us' e1 e2;split at h
    ·rename_i r' sz' lo len hx;split at h
     ·rename_i g' a b hf;obtain⟨h2,h⟩:=dq h;simp only[an] at h2;simp only[ae,am] at h;obtain⟨rfl,rfl,rfl,rfl,rfl,rfl,rfl⟩:=h;exact⟨f,as,ts,x,t,lo,len,hop,hg,e1,e2,hx,aw h2.1, .inl ⟨a,b,hf,rfl⟩⟩
     ·rename_i g' caps' hf;obtain⟨h2,h⟩:=dq h;simp only[an] at h2;simp only[ae,am] at h;obtain⟨rfl,rfl,rfl,rfl,rfl,rfl,rfl⟩:=h;exact⟨f,as,ts,x,t,lo,len,hop,hg,e1,e2,hx,aw h2.1, .inr hf⟩
     ·cases h
    ·cases h
   ·cases h
 ·cases h
theorem qJ (hΘ:eD P Θ) (hS:S.ok): ∀ (ts:List TypeId) (as:List Operand) (κ:List V1->Option ρ) (r:ρ),my Θ S ts as κ=some r->ts.length=as.length
 | [],[],_,_,_=>rfl
 | [],_::_,_,_,h=>by simp[my] at h
 | _::_,[],_,_,h=>by simp[my] at h
 |t::ts,a::as,κ,r,h=>by unfold my at h;obtain⟨v,_,h⟩:=DI hΘ hS (it hS a) h;rw[aW,aW,qJ hΘ hS ts as _ r h]
theorem DX (hΘ:eD P Θ) (hY:iJ P Y) (hS:S.ok) {ops:Array Oper} {o:Oper} {os:List Oper} {Post:St->Prop} {k:Nat} {g:FuncId} {caps:List Cl} {q sz:Nat} {us:List TypeId} {xs:List Operand} (ht:xX Y S o=some (k,g,caps,q,sz,us,xs)) {κ:TS->Option ρ} {r:ρ}
  (ih: ∀S3:TS,S3.ok->κ S3=some r->mt P ops os S3.st Post) (h:Ds Θ Y S k g caps q sz us xs o.dst κ=some r):mt P ops (o::os) S.st Post:=by
 obtain⟨f,as,ts,x,t,lo,len,hop,hgd,has,hts,hx,hgk,hf⟩:=Aa ht;unfold Ds at h;split at h
 ·rename_i el l hq;obtain⟨hsz0,h0⟩:=dq h;have hsz:sz=el.width:=ao hsz0;clear h hsz0;subst hsz;have h:=h0;clear h0
  have hql:q<S.gh.length:=by
   rcases bK q S.gh.length with h'|h'
   ·exact h'
   ·rw[om h'] at hq; cases hq
  have hS0: ({ S with gh:=ed S.gh q none }:TS).ok:=TS.ok_gh hS (fr.gone _ _);have hst0: ({ S with gh:=ed S.gh q none }:TS).st= { S.st with gh:=dJ S.st.gh q none } :=pU S q;have hlen:=qJ hΘ hS0 _ _ _ _ h;obtain⟨vs,h1,h⟩:=mA hΘ hS0 _ _ _ _ h
  have hcaps: ∀c∈caps,c.ok (ed S.gh q none):=by
   intro c hc;rcases hf with ⟨_,_,_,rfl⟩|hf
   ·cases hc
   ·have:=it hS f;rw[hf] at this;exact Cl.ok_mono (fr.gone _ _) (this c hc)
  obtain⟨cs,h2,h⟩:=pV hS0 _ _ _ hcaps h
  have hargs:ni P { S.st with gh:=dJ S.st.gh q none } us xs (caps.map Cl.av)=(vs++cs.map V1.cl).map V1.av:=by unfold ni;rw[<-hst0,h1,h2,bQ,be];rfl
  have hcal:callee S.st f=some (g,caps.map Cl.av):=by unfold callee;rw[dw];rcases hf with ⟨_,_,hf,rfl⟩|hf<;>(rw[hf]; rfl)
  have hxo:=it hS x;rw[hx] at hxo;obtain⟨_,hxo⟩:=hxo;obtain⟨_,hlo,hln⟩:=hxo rfl;have hln:=hln _ hq;subst hlo hln;have hxv:opd S.st x= .own ⟨q,[]⟩ el.width 0 l.length:=by rw[dw,hx]; rfl
  have htr:S.st.gh q=some (.sl el.width (l.map el.row)):=by show (eh S.gh q).map dM.tree=_;rw[hq];rfl
  cases hk:Nat.beq k 1 with
  |true=>
   rw[hk] at h;simp only[cond_true] at h;obtain⟨res,out,g1,g2,h⟩:=hY _ _ _ _ _ h;have g1:=(g1.io g rfl hgk).get;split at h
   ·rename_i t' l' _;obtain⟨hc,h⟩:=dq h;simp only[an,decide_eq_true_eq] at hc;obtain⟨rfl,hns⟩:=hc;unfold du at h;split at h
    ·rename_i hll;have hG:fr S.gh (ed S.gh q (some ⟨t',l',none⟩)):=fr.put hq hll
     have hrp:res.av.plain=true:=by unfold zY at hns;split at hns<;>first |rfl|cases hns
     have hro:res.ok (ed S.gh q (some ⟨t',l',none⟩)):=by
      unfold zY at hns;split at hns
      ·trivial
      ·intro x hx; cases hx
      ·cases hns
     obtain⟨S3,k1,k2,_,h⟩:=ib (S:= { S with gh:=ed S.gh q (some ⟨t',l',none⟩) }) (TS.ok_gh hS hG) hro h;rw[qF S _ hql] at k1;refine mt.hand hop hgd has hlen hcal hxv htr (m:=1) (by rw[hargs]; exact g1) (.inr ⟨rfl,_,rfl,hrp,S3.st,k1,ih S3 k2 h⟩)
    ·cases h
   ·cases h
  |false=>
   rw[hk] at h;simp only[cond_false] at h;obtain⟨hfz0,h⟩:=dq h;have hfz:S.st.fz<=q:=aw hfz0;obtain⟨res,out,g1,g2,h⟩:=hY _ _ _ _ _ h;have g1:=(g1.mv g rfl).get;have hl0: (ed S.gh q none).length=S.gh.length:=by rw[eV]; simp
   have hro: (mW S.gh.length res).ok (ed S.gh q none++out.map some):=by
    have:=qH (G:=ed S.gh q none) g2
    rwa [hl0] at this
   obtain⟨S3,k1,k2,_,h⟩:=ib (S:= { S with gh:=ed S.gh q none++out.map some }) (TS.ok_gh hS0 (fr.apps _ _)) hro h;rw[show ({ S with gh:=ed S.gh q none++out.map some }:TS).st=_ from pk { S with gh:=ed S.gh q none } res.av out,hst0,qG] at k1;exact mt.hand hop hgd has hlen hcal hxv htr (m:=0) (by rw[hargs]; exact g1) (.inl ⟨hfz,S3.st,k1,ih S3 k2 h⟩)
 ·cases h
structure lX (S S1:TS) (L:List Nat):Prop where
 env:S1.env=S.env
 bx:S1.bx=S.bx
 fz:S1.fz=S.fz
 nt:S1.nt=S.nt
 len:S1.gh.length=S.gh.length
 gh: ∀r,eh S1.gh r=if L.contains r then none else eh S.gh r
 was: ∀q∈L,∃tr,eh S.gh q=some tr
theorem lX.refl (S:TS):lX S S [] :=⟨rfl,rfl,rfl,rfl,rfl,fun _=>by simp,fun _ h=>by cases h⟩
theorem lX.one {q:Nat} {tr:dM} (h:eh S.gh q=some tr):lX S { S with gh:=ed S.gh q none } [q] :=
 ⟨rfl,rfl,rfl,rfl,by simp[eV],fun r=>by
  show eh (ed S.gh q none) r=_;rw[ka q r (.inr rfl)];by_cases hr:r=q
  ·subst hr; simp
  ·rw[if_neg hr,if_neg (by simpa using hr)],fun r hr=>by rw[ay.1 hr]; exact⟨tr,h⟩⟩
theorem lX.trans {S1 S2:TS} {L L':List Nat} (h:lX S S1 L) (k:lX S1 S2 L'):lX S S2 (L++L'):=
 ⟨k.env.trans h.env,k.bx.trans h.bx,k.fz.trans h.fz,k.nt.trans h.nt,k.len.trans h.len,fun r=>by
  rw[k.gh,h.gh]
  have e: (L++L').contains r=(L.contains r||L'.contains r):=by rw[bP];simp
  rw[e];cases L.contains r<;>cases L'.contains r<;>rfl,fun q hq=>by
  rcases bO.1 hq with hq|hq
  ·exact h.was q hq
  ·obtain⟨tr,ht⟩:=k.was q hq;rw[h.gh] at ht;split at ht
   ·cases ht
   ·exact⟨tr,ht⟩⟩
theorem lX.apart {S1 S2:TS} {L L':List Nat} (h:lX S S1 L) (k:lX S1 S2 L') (h1:L.Nodup) (h2:L'.Nodup): (L++L').Nodup:=by rw[List.nodup_append];refine⟨h1,h2,fun a ha b hb e=> ?_⟩;subst e;obtain⟨tr,ht⟩:=k.was a hb;rw[h.gh,if_pos (by simpa using ha)] at ht;cases ht
theorem lX.le {S1:TS} {L:List Nat} (h:lX S S1 L):fr S.gh S1.gh:=⟨by rw[h.len]; exact au _,fun r tr _ ht=>by
 rw[h.gh] at ht;split at ht
 ·cases ht
 ·exact⟨tr,ht,rfl⟩⟩
theorem lX.ok {S1:TS} {L:List Nat} (h:lX S S1 L) (hS:S.ok):S1.ok:=
 ⟨fun x hx=>V.ok_mono h.le (hS.env x (by rw[<-h.env]; exact hx)),fun cs hcs c hc=>Cl.ok_mono h.le (hS.bx cs (by rw[<-h.bx]; exact hcs) c hc)⟩
theorem lX.st {S1:TS} {L:List Nat} (h:lX S S1 L):S1.st=dropL S.st L:=by
 unfold TS.st dropL;rw[h.env,h.bx,h.fz,h.nt,h.len];simp only
 congr 1
 funext r
 rw[h.gh];cases L.contains r<;>rfl
theorem yk {o:Oper} {g:FuncId} {caps:List Cl} {a:zZ} {us:List TypeId} {xs:List Operand} (h:sX Y S o=some (g,caps,a,us,xs)):
  ∃f as ts x t,o.op= .call { callee:= .value f,args:=as,argTypes:=ts } /\o.guard=none/\as.toList=x::xs/\ts.toList=t::us/\vZ (S.opd x)=some a/\g<fF/\
   ((∃a b,S.opd f= .v (.cl (.c (.sc (.func (.func g) a b))))/\caps= [])\/S.opd f= .v (.fn g caps)):=by
 unfold sX at h;split at h
 ·rename_i f as ts hop;split at h
  ·cases h
  ·rename_i hg;split at h
   ·rename_i x xs' t us' e1 e2;split at h
    ·rename_i a' hx;split at h
     ·rename_i g' a b hf;obtain⟨h2,h⟩:=dq h;simp only[an] at h2;simp only[ae,am] at h;obtain⟨rfl,rfl,rfl,rfl,rfl⟩:=h;exact⟨f,as,ts,x,t,hop,hg,e1,e2,hx,aw h2.1, .inl ⟨a,b,hf,rfl⟩⟩
     ·rename_i g' caps' hf;obtain⟨h2,h⟩:=dq h;simp only[an] at h2;simp only[ae,am] at h;obtain⟨rfl,rfl,rfl,rfl,rfl⟩:=h;exact⟨f,as,ts,x,t,hop,hg,e1,e2,hx,aw h2.1, .inr hf⟩
     ·cases h
    ·cases h
   ·cases h
 ·cases h
theorem vg: ∀ (L:List Nat) (S:TS),L.Nodup->(∀r∈L,∃tr,eh S.gh r=some tr)->lX S { S with gh:=Dt S.gh L } L
 | [],S,_,_=>lX.refl S
 |r::L,S,hnd,h=>by
  obtain⟨tr,htr⟩:=h r aG;rw[List.nodup_cons] at hnd;have h1:=lX.one htr
  have h2:=vg L { S with gh:=ed S.gh r none } hnd.2 (fun r' hr'=>by
   obtain⟨tr',htr'⟩:=h r' (aB _ hr');refine⟨tr',?_⟩;rw[h1.gh,if_neg]
   ·exact htr'
   ·intro hc;rw[bc,ay] at hc;subst hc;exact hnd.1 hr')
  exact h1.trans h2
theorem pn: ∀ (cs:List Cl) (ys:List C) (L:List Nat),oh S cs=some (ys,L)->(∀c∈cs,c.ok S.gh)->ys.length=cs.length/\(kO ys).length=L.length/\
  (∀ (k r:Nat),L[k]? =some r-> ∃el l,(kO ys)[k]? =some ⟨el,l,none⟩/\eh S.gh r=some ⟨el,l,none⟩)/\
  ∀ (w:World) (bt bt':Bt) (m:Nat),(∀ (k r:Nat),L[k]? =some r->bt'.β ⟨m+k,[]⟩=bt.β ⟨r,[]⟩/\bt'.κ ⟨m+k,[]⟩=bt.κ ⟨r,[]⟩/\m+k<bt'.ng)->
    ∀ (j:Nat) (c c':Cl) (u:Value),cs[j]? =some c->(pj ys m)[j]? =some c'->VR w bt c.av u->VR w bt' c'.av u
 | [],ys,L,h,_=>by simp only[oh,ae,am] at h;obtain⟨rfl,rfl⟩:=h;exact⟨rfl,rfl,fun k r hk=>by simp at hk,fun w bt bt' m _ j c c' u hj=>by simp at hj⟩
 |c0::cs,ys,L,h,hok=>by
  unfold oh at h;split at h
  ·cases ‹_= []›
  ·rename_i v cs' e;simp only[bh] at e;obtain⟨rfl,rfl⟩:=e;split at h
   ·rename_i ys' L' hr;simp only[ae,am] at h;obtain⟨rfl,rfl⟩:=h;obtain⟨h1,h2,h3,h4⟩:=pn cs ys' L' hr (fun c hc=>hok c (aB _ hc));refine⟨by simp[h1],h2,h3,fun w bt bt' m hm j c c' u hj hj' hv=> ?_⟩;cases j with
    |zero=>
     simp only[pj,aD,ae] at hj hj';subst hj hj';cases hv with
     |sc h=>exact .sc h
    |succ j=>exact h4 w bt bt' m hm j c c' u (by simpa using hj) (by simpa [pj] using hj') hv
   ·cases h
  ·rename_i r sz lo len cs' e;simp only[bh] at e;obtain⟨rfl,rfl⟩:=e;split at h
   ·rename_i el l hg;obtain⟨hsz,h0⟩:=dq h;have hsz:sz=el.width:=ao hsz;clear h;split at h0
    ·rename_i ys' L' hr;simp only[ae,am] at h0;obtain⟨rfl,rfl⟩:=h0;obtain⟨h1,h2,h3,h4⟩:=pn cs ys' L' hr (fun c hc=>hok c (aB _ hc));obtain⟨_,hlo⟩:=hok (.own ⟨r,[]⟩ sz lo len true) aG;obtain⟨_,hlo,hln⟩:=hlo rfl;have hln:=hln _ hg;simp only at hln;refine⟨by simp[h1],by simp[kO,h2],fun k r' hk=> ?_,fun w bt bt' m hm j c c' u hj hj' hv=> ?_⟩
     ·cases k with
      |zero=>simp only[aD,ae] at hk;subst hk;exact⟨el,l,rfl,hg⟩
      |succ k=>exact h3 k r' (by simpa using hk)
     ·cases j with
      |zero=>
       simp only[pj,aD,ae] at hj hj';subst hj hj' hsz hlo hln;obtain⟨e1,e2,e3⟩:=hm 0 r rfl;rw[b6] at e1 e2 e3;cases hv with
       |own hp hc hk ha=>exact .own e3 hc (by rw[e2]; exact hk) (by rw[e1]; exact ha)
      |succ j=>exact h4 w bt bt' (m+1) (fun k r' hk=>by
        have:=hm (k+1) r' (by simpa using hk)
        rwa [show m+(k+1)=m+1+k by omega] at this) j c c' u (by simpa using hj) (by simpa [pj] using hj') hv
    ·cases h0
   ·cases h
  ·cases h
theorem lY: ∀ (ys:List C) (m:Nat),(pj ys m).length=ys.length
 | [],_=>rfl
 | .sc v::r,m=>by simp[pj,lY r m]
 | .ls t l::r,m=>by simp[pj,lY r (m+1)]
theorem yl: ∀ (L:List Nat) (S:TS) (out:List dM) (κ:TS->Option ρ) (r:ρ),L.Nodup->sY S L out κ=some r->
  ∃Sp:TS,Sp.env=S.env/\Sp.bx=S.bx/\Sp.fz=S.fz/\Sp.nt=S.nt/\Sp.gh.length=S.gh.length/\out.length=L.length/\(∀ (k q:Nat),L[k]? =some q->eh Sp.gh q=out[k]?)/\(∀q,q∉L->eh Sp.gh q=eh S.gh q)/\fr S.gh Sp.gh/\κ Sp=some r
 | [],S,out,κ,r,_,h=>by
   cases out with
   |nil=>exact⟨S,rfl,rfl,rfl,rfl,rfl,rfl,fun k q hk=>by simp at hk,fun _ _=>rfl,fr.refl _,h⟩
   |cons x out=>simp[sY] at h
 |q::L,S,out,κ,r,hnd,h=>by
  rw[List.nodup_cons] at hnd;cases out with
  |nil=>simp[sY] at h
  |cons x out=>
   obtain⟨t,l',hole⟩:=x;cases hole with
   |some y=>simp[sY] at h
   |none=>
    simp only[sY] at h;split at h
    ·rename_i el l hg;obtain⟨ht,h⟩:=dq h;have ht:t=el:=by simpa using ht
     subst ht;obtain⟨hl,h⟩:=dY h;obtain⟨Sp,a1,a2,a3,a4,a5,a6,a7,a8,a9,h⟩:=yl L { S with gh:=ed S.gh q (some ⟨t,l',none⟩) } out κ r hnd.2 h;have hql:=oo hg;have hG:fr S.gh (ed S.gh q (some ⟨t,l',none⟩)):=fr.put hg hl;refine⟨Sp,a1,a2,a3,a4,by rw[a5]; simp[eV],by simp[a6],fun k q' hk=> ?_,fun q' hq'=> ?_,hG.trans a9,h⟩
     ·cases k with
      |zero=>simp only[aD,ae] at hk;subst hk;rw[a8 q hnd.1];show eh (ed S.gh q _) q=_;rw[ka q q (.inl hql),if_pos rfl];rfl
      |succ k=>rw[a7 k q' (by simpa using hk)];simp
     ·rw[a8 q' (fun hm=>hq' (aB _ hm))];show eh (ed S.gh q _) q'=_;rw[ka q q' (.inl hql),if_neg (fun e=>hq' (by rw[e]; exact aG))]
    ·cases h
theorem th {res:V} (h:zY res=true):res.av.plain=true/\ ∀G,res.ok G:=by
 unfold zY at h;split at h
 ·exact⟨rfl,fun _=>trivial⟩
 ·exact⟨rfl,fun _ x hx=>by cases hx⟩
 ·cases h
theorem Ch (hΘ:eD P Θ) (hY:iJ P Y) (hS:S.ok) {ops:Array Oper} {o:Oper} {os:List Oper} {Post:St->Prop} {g:FuncId} {caps:List Cl} {a:zZ} {us:List TypeId} {xs:List Operand} (ht:sX Y S o=some (g,caps,a,us,xs)) {κ:TS->Option ρ} {r:ρ}
  (ih: ∀S3:TS,S3.ok->κ S3=some r->mt P ops os S3.st Post) (h:v6 Θ Y S g caps a us xs o.dst κ=some r):mt P ops (o::os) S.st Post:=by
 obtain⟨f,as,ts,x,t0,hop,hgd,has,hts,hx,hgk,hf⟩:=yk ht
 have hcal:callee S.st f=some (g,caps.map Cl.av):=by unfold callee;rw[dw];rcases hf with ⟨_,_,hf,rfl⟩|hf<;>(rw[hf]; rfl)
 have others: ∀ {S0:TS} (hS0:S0.ok) (hG:fr S.gh S0.gh) {K:List V1->List Cl->Option ρ},(my Θ S0 us xs fun vs=>sV (B8 S0 none) caps fun ks=>K vs ks)=some r->
   ∃vs ks,us.length=xs.length/\ni P S0.st us xs (caps.map Cl.av)=(vs++ks.map V1.cl).map V1.av/\K vs ks=some r:=by
  intro S0 hS0 hG K h;have hlen:=qJ hΘ hS0 _ _ _ _ h;obtain⟨vs,h1,h⟩:=mA hΘ hS0 _ _ _ _ h
  have hcaps: ∀c∈caps,c.ok S0.gh:=by
   intro c hc;rcases hf with ⟨_,_,_,rfl⟩|hf
   ·cases hc
   ·have:=it hS f;rw[hf] at this;exact Cl.ok_mono hG (this c hc)
  obtain⟨ks,h2,h⟩:=pV hS0 _ _ _ hcaps h;refine⟨vs,ks,hlen,?_,h⟩;unfold ni;rw[h1,h2,bQ,be];rfl
 have hxo:=it hS x;cases a with
 |agg cs=>
  have hxv:S.opd x= .v (.agg cs):=by
   unfold vZ at hx;split at hx
   ·cases hx
   ·rename_i e;simp only[ae,zZ.agg.injEq] at hx;rw[e,hx]
   ·cases hx
  rw[hxv] at hxo;unfold v6 at h;simp only at h;split at h
  ·rename_i ys L hga;obtain⟨hnd,h0⟩:=dq h;clear h;have hnd:L.Nodup:=rO.1 hnd;obtain⟨g1,g2,g3,g4⟩:=pn cs ys L hga hxo
   have hd:=vg L S hnd (fun q hq=>by obtain⟨k,hk,hkq⟩:=aV hq;obtain⟨el,l,_,e⟩:=g3 k q (by rw[<-hkq]; exact ah hk);exact⟨_,e⟩)
   obtain⟨vs,ks,hlen,hargs,h⟩:=others (hd.ok hS) hd.le h0;obtain⟨res,out,k1,k2,h⟩:=hY _ _ _ _ _ h;have k1:=(k1.io g rfl hgk).getA;obtain⟨hns,h⟩:=dq h;obtain⟨hpl,hrok⟩:=th hns;obtain⟨Sp,a1,a2,a3,a4,a5,a6,a7,a8,a9,h⟩:=yl L S out _ r hnd h;have hSp:Sp.ok:=⟨fun x hx=>V.ok_mono a9 (hS.env x (by rw[<-a1]; exact hx)),fun cs hcs c hc=>Cl.ok_mono a9 (hS.bx cs (by rw[<-a2]; exact hcs) c hc)⟩
   obtain⟨S3,m1,m2,_,h⟩:=ib hSp (hrok _) h
   have hGave:sR S.st (L.map fun r=>⟨r,[]⟩) ((kO ys).map dM.tree):=zO (by simp[g2]) hnd (fun k q hk=>by obtain⟨el,l,e1,e2⟩:=g3 k q hk;refine⟨el.width,l.map el.row,by rw[al,e1]; rfl,?_⟩;show (eh S.gh q).map dM.tree=_;rw[e2];rfl)
   have hps: (L.map fun r=>(⟨r,[]⟩:dG)).length=(kO ys).length:=by rw[az,g2]
   have hout: (out.map dM.tree).length=L.length:=by rw[az,a6]
   refine mt.handG hop hgd has hlen hcal (zP L) (fun w0 W bt w hI=>hI.dropL L) hGave (av0:= .agg ((pj ys 0).map Cl.av)) (fun w bt u hv=> ?_) (res:=res.av) (out:=out.map dM.tree) (by rw[<-hd.st,hargs,hps]; exact k1)
    (zQ hGave hout (by unfold TS.st; simp only[a1]) (by unfold TS.st; simp only[a2]) (by unfold TS.st; simp only[a2]) (by unfold TS.st; simp only[a5]) a3 a4 (fun k q hk=>by
      show (eh Sp.gh q).map dM.tree=_;rw[a7 k q hk,al]) (fun q hq=>by
      show (eh Sp.gh q).map dM.tree=(eh S.gh q).map dM.tree;rw[a8 q hq])) hpl ⟨S3.st,m1,ih S3 m2 h⟩
   rw[dw,hxv] at hv;have hv:VR w bt (.agg (cs.map Cl.av)) u:=hv;cases hv with
   |agg hl ho hr=>
    rename_i us0;refine .agg (by rw[az,lY,g1]; simpa using hl) ho (fun k c u hk hu=> ?_);rw[al] at hk;simp only[ak] at hk;obtain⟨c',hc',rfl⟩:=hk
    have hkl:k<cs.length:=by have:=(ai.1 hc').1;rw[lY,g1] at this;exact this
    refine g4 w bt _ 0 (fun i q hi=> ?_) k cs[k] c' u (ah hkl) hc' (hr k _ u (by rw[al,ah hkl]; rfl) hu)
    have hpi: (L.map fun r=>(⟨r,[]⟩:dG))[(⟨0+i,[]⟩:dG).r]? =some ⟨q,[]⟩:=by rw[al];show (L[0+i]?).map _=_;rw[aR,hi];rfl
    have hpl2:=qy hpi;refine⟨?_,?_,?_⟩
    ·show bt.β (w4 _ _)=_;rw[hpl2];rfl
    ·show bt.κ (w4 _ _)=_;rw[hpl2];rfl
    ·show 0+i< (L.map fun r=>(⟨r,[]⟩:dG)).length;rw[az,aR];exact (ai.1 hi).1
  ·cases h
 |nest q i j sz lo len=>
  obtain⟨w0,hxv⟩: ∃w,S.opd x= .v (.cl (.own ⟨q,[(i,j)]⟩ sz lo len w)):=by
   unfold vZ at hx;split at hx
   ·rename_i w e;simp only[ae,zZ.nest.injEq] at hx;obtain⟨rfl,rfl,rfl,rfl,rfl,rfl⟩:=hx;exact⟨_,e⟩
   ·cases hx
   ·cases hx
  rw[hxv] at hxo;unfold v6 at h;simp only at h;split at h
  ·rename_i t l hq;obtain⟨y,hy,h⟩:=aj.1 h;split at h
   ·rename_i el v hv;obtain⟨hsz,h0⟩:=dq h;have hsz:sz=el.width:=ao hsz;clear h;subst hsz;obtain⟨hll,h1⟩:=dY h0;clear h0;obtain⟨rfl,rfl⟩:=hll;have hql:=oo hq;have hhole:fr S.gh (ed S.gh q (some ⟨t,l,some (i,j)⟩)):=fr.put hq rfl;obtain⟨vs,ks,hlen,hargs,h⟩:=others (S0:= { S with gh:=ed S.gh q (some ⟨t,l,some (i,j)⟩) }) (TS.ok_gh hS hhole) hhole h1;clear h1;obtain⟨res,out,k1,k2,h⟩:=hY _ _ _ _ _ h;have k1:=(k1.io g rfl hgk).get;split at h
    ·rename_i t' v' _;obtain⟨hc,h⟩:=dq h;simp only[an,decide_eq_true_eq] at hc;obtain⟨rfl,hns⟩:=hc;obtain⟨hpl,hrok⟩:=th hns;obtain⟨hvl,h⟩:=dY h;split at h
     ·rename_i z hz;have hG:fr S.gh (ed S.gh q (some ⟨t,l.set i z,none⟩)):=fr.put hq (by simp);obtain⟨S3,m1,m2,_,h⟩:=ib (S:= { S with gh:=ed S.gh q (some ⟨t,l.set i z,none⟩) }) (TS.ok_gh hS hG) (hrok _) h
      have hrowy: (l.map t.row)[i]? =some ((t.flat y).map C.tree):=by rw[al,hy];simp only[ax,t.row_flat]
      have hcell: ((t.flat y).map C.tree)[j]? =some (.sl t'.width (v.map t'.row)):=by rw[ew] at hv;rw[al,hv];rfl
      have hgq:S.st.gh q=some (.sl t.width (l.map t.row)):=by show (eh S.gh q).map dM.tree=_;rw[hq];rfl
      have hlook:S.st.look ⟨q,[(i,j)]⟩= .sl t'.width (v.map t'.row):=by unfold St.look;simp only[hgq,T.go,T.cell,aq,hrowy,aI,hcell]
      have hforget: ∀ (w0:World) (W:Nat->Prop) (bt:Bt) (w:World),eg w0 W bt S.st w->_:=fun w0 W bt w hI=>hI.forget hlook
      have hSm: ({ S with gh:=ed S.gh q (some ⟨t,l,some (i,j)⟩) }:TS).st=S.st.setAt ⟨q,[(i,j)]⟩ .dd:=by rw[qF S _ hql];unfold St.setAt;simp only[hgq,ax];rfl
      have hSp: ({ S with gh:=ed S.gh q (some ⟨t,l.set i z,none⟩) }:TS).st=S.st.setAt ⟨q,[(i,j)]⟩ (.sl t'.width (v'.map t'.row)):=by
       rw[qF S _ hql];unfold St.setAt;simp only[hgq,ax,T.put]
       congr 3
       show T.sl t.width ((l.set i z).map t.row)=_;rw[List.map_set,t.row_flat z,t.unflat_some _ _ hz,eV,List.map_set];simp only[aq,hrowy,aI];rfl
      rw[hSp] at m1;refine mt.handG hop hgd has hlen hcal (Sm:=S.st.setAt ⟨q,[(i,j)]⟩ .dd) (ps:= [⟨q,[(i,j)]⟩]) ?_ (fun w0 W bt w hI=>(hforget w0 W bt w hI).1) (Di hlook) (av0:= .own ⟨0,[]⟩ t'.width 0 v.length) (fun w bt u hv=> ?_) (res:=res.av) (out:= [.sl t'.width (v'.map t'.row)]) (by rw[<-hSm,hargs]; exact k1) (Dj hlook (by simpa using hvl)) hpl ⟨S3.st,m1,ih S3 m2 h⟩
      ·refine⟨rfl,rfl,rfl,fun p s rs hp=> ?_⟩;rw[lp] at hp;by_cases hpr:p.r=q
       ·rw[if_pos hpr,hgq] at hp;simp only at hp
        rcases T.put_spec .dd [(i,j)] (.sl t.width (l.map t.row)) (.inl (by have:=hlook;unfold St.look at this;simp only[hgq] at this;rw[this];simp)) p.l s rs hp with ⟨m',hm,hgo⟩| ⟨rs0,e1,e2,e3,e4⟩
        ·rw[T.dd_go] at hgo; cases hgo
        ·refine⟨fun p' hp' hu=> ?_,rs0,by unfold St.look; rw[hpr,hgq]; exact e1⟩;rw[ay.1 hp'] at hu;obtain⟨_,m,b⟩:=hu;exact e3 m b.symm
       ·rw[if_neg hpr] at hp;refine⟨fun p' hp' hu=> ?_,rs,hp⟩;rw[ay.1 hp'] at hu;exact hpr hu.1
      ·rw[dw,hxv] at hv;have hv:VR w bt (.own ⟨q,[(i,j)]⟩ t'.width 0 v.length) u:=hv;cases hv with
       |own hp hc hk ha=>exact .own cF hc hk ha
     ·cases h
    ·cases h
   ·cases h
  ·cases h
theorem DY {el:Ty} (hw:el.width=1) (hf:el.flatB=true) {z:el.D} (hz:el.unflat el.zcs=some z): ∃zv,el.zvs= [zv] /\jl zv=true/\el.row z= [.sc zv] :=by
 have hr:el.row z=el.zcs.map C.tree:=by rw[el.row_flat,el.unflat_some _ _ hz]
 rw[hr];clear hr hz z;cases el with
 |i k=>exact⟨_,rfl,rfl,rfl⟩
 |b=>exact⟨_,rfl,rfl,rfl⟩
 |s=>exact⟨_,rfl,rfl,rfl⟩
 |st n=>cases n<;>first |exact⟨_,rfl,rfl,rfl⟩| (exfalso; revert hw; decide)| (exfalso; revert hf; decide)
 |ls t=>cases hf
theorem Ci (hΘ:eD P Θ) (hS:S.ok) {ops:Array Oper} {o:Oper} {os:List Oper} {Post:St->Prop} {t:TypeId} {q sz lo len:Nat} (ht:v7 S o=some (t,q,sz,lo,len)) {κ:TS->Option ρ} {r:ρ}
  (ih: ∀S3:TS,S3.ok->κ S3=some r->mt P ops os S3.st Post) (h:z6 Θ S t q sz lo len o.dst κ=some r):mt P ops (o::os) S.st Post:=by
 unfold v7 at ht;split at ht
 ·rename_i as ts hop;split at ht
  ·cases ht
  ·rename_i hgd;split at ht
   ·rename_i x t' e1 e2;split at ht
    ·rename_i r' sz' lo' len' w hx;simp only[ae,am] at ht;obtain⟨rfl,rfl,rfl,rfl,rfl⟩:=ht;have e1:as= #[x] :=by apply Array.ext'; simpa using e1
     have e2:ts= #[t'] :=by apply Array.ext'; simpa using e2
     subst e1 e2;unfold z6 at h;split at h
     ·rename_i ti hti;split at h
      ·rename_i el l hq;obtain⟨hc,h0⟩:=dq h;simp only[an,decide_eq_true_eq] at hc;obtain⟨⟨⟨hty,hw⟩,hsz⟩,hfl⟩:=hc;have hw:el.width=1:=ao hw;have hsz:sz'=1:=ao hsz;split at h0
       ·rename_i z hz;unfold du at h0;split at h0
        ·rename_i hle;obtain⟨elT',g1,g2,g3,g4,g5,g6⟩:=(hΘ _ _ hti).el el hty
         have hql:r'<S.gh.length:=by
          rcases bK r' S.gh.length with h'|h'
          ·exact h'
          ·rw[om h'] at hq; cases hq
         have hG:fr S.gh (ed S.gh r' (some ⟨el,l.take lo'++List.replicate len' z++l.drop (lo'+len'),none⟩)):=fr.put hq (by simp; omega);obtain⟨S3,k1,k2,_,h⟩:=ib (v:= .tup []) (TS.ok_gh hS hG) (fun x hx=>by cases hx) h0;rw[qF S _ hql] at k1;obtain⟨zv,hzv,hsc,hrow⟩:=DY hw hfl hz
         have htr:S.st.gh r'=some (.sl 1 (l.map el.row)):=by show (eh S.gh r').map dM.tree=_;rw[hq];show some (T.sl el.width (l.map el.row))=_;rw[hw]
         have hxv:opd S.st x= .own ⟨r',[]⟩ 1 lo' len':=by rw[dw,hx,<-hsz]; rfl
         refine mt.clear hop hgd g1 (by rw[g6,hzv]) hsc hxv htr (by simpa using hle) ⟨S3.st,?_,ih S3 k2 h⟩;rw[<-k1]
         congr 1
         show _=({ S.st with gh:=dJ S.st.gh r' (some (T.sl el.width ((l.take lo'++List.replicate len' z++l.drop (lo'+len')).map el.row))) }:St);rw[hw];simp only[bQ,bz,bG,dk,hrow]
        ·cases h0
       ·cases h0
      ·cases h
     ·cases h
    ·cases ht
   ·cases ht
 ·cases ht
theorem Fx (hΘ:eD P Θ) (hY:iJ P Y) {ops:Array Oper}: ∀ (os:List Oper) (S:TS) (κ:TS->Option ρ) (r:ρ),(∀o∈os,jJ P o=true)->S.ok->rD Θ Y ops.toList os S κ=some r->
  mt P ops os S.st (fun S'=> ∃S1:TS,S'=S1.st/\S1.ok/\κ S1=some r):=by
 intro os
 induction os with
 |nil=>intro S κ r _ hS h; exact mt.nil ⟨S,rfl,hS,h⟩
 |cons o os ih=>
  intro S κ r hok hS h;unfold rD at h;cases hn:rS o with
  |some tx=>
   obtain⟨t,x⟩:=tx;rw[hn] at h;simp only at h;obtain⟨hs,h⟩:=dq h;obtain⟨⟨t',ho⟩,hg⟩:=wj hn;unfold HI at hs;split at hs
   ·rename_i ti hti;split at hs
    ·rename_i e he;obtain⟨el,hel,_⟩:=(hΘ t ti hti).el e he;split at h
     ·rename_i t1 l hx
      have way: ∀ (b:Bool),(lQ S o.dst (xY b) fun S3=>rD Θ Y ops.toList os S3 κ)=some r-> ∃S1,S.st.put o.dst (.sc (.bool b))=some S1/\mt P ops os S1 (fun S'=> ∃S1:TS,S'=S1.st/\S1.ok/\κ S1=some r):=by intro b hb;obtain⟨S3,g5,g6,_,h⟩:=ib (v:=xY b) hS trivial hb;exact⟨S3.st,g5,ih S3 κ r (fun x hx=>hok x (aB _ hx)) g6 h⟩
      have hxv:opd S.st x= .ro t1.width (l.map t1.row):=by rw[dw,hx]; rfl
      cases l with
      |nil=>obtain⟨a1,a2⟩:=DV (show Fi _ _ none=some r from h);exact mt.eqnil hel ho hg hxv (fun _=>way true a1) (way false a2)
      |cons y l=>exact mt.eqnil hel ho hg hxv (fun h=>by cases h) (way false h)
     ·cases h
    ·cases hs
   ·cases hs
  |none=>
  rw[hn] at h;simp only at h;cases hcl:v7 S o with
  |some z=>obtain⟨t,q,sz,lo,len⟩:=z;rw[hcl] at h;exact Ci hΘ hS hcl (fun S3 hS3 h3=>ih S3 κ r (fun x hx=>hok x (aB _ hx)) hS3 h3) h
  |none=>
  rw[hcl] at h;simp only at h;cases hh:xX Y S o with
  |some z=>obtain⟨k,g,caps,q,sz,us,xs⟩:=z;rw[hh] at h;exact DX hΘ hY hS hh (fun S3 hS3 h3=>ih S3 κ r (fun x hx=>hok x (aB _ hx)) hS3 h3) h
  |none=>
  rw[hh] at h;simp only at h;cases hh':sX Y S o with
  |some z=>obtain⟨g,caps,a,us,xs⟩:=z;rw[hh'] at h;exact Ch hΘ hY hS hh' (fun S3 hS3 h3=>ih S3 κ r (fun x hx=>hok x (aB _ hx)) hS3 h3) h
  |none=>
  rw[hh'] at h;simp only at h;obtain⟨b,S1,h1,h2,h3,h4,h⟩:=yj hS h;refine mt.cons (b:=b) (hok o aG) h1 ?_;cases b with
  |true=>simp only[cond_true] at h;obtain⟨D,v,S2,g1,g2,g3,g4,h⟩:=tg hΘ hY h3 h;obtain⟨S3,g5,g6,_,h⟩:=ib g3 g4 h;rw[if_pos rfl];refine⟨D,S3.st,g1,?_,ih S3 κ r (fun x hx=>hok x (aB _ hx)) g6 h⟩;unfold one;rw[<-h2,g2];exact g5
  |false=>simp only[cond_false] at h;obtain⟨S3,g5,g6,_,h⟩:=ib (v:= .tup []) h3 (fun x hx=>by cases hx) h;rw[if_neg (by simp)];exact⟨S3.st,by rw[<-h2]; exact g5,ih S3 κ r (fun x hx=>hok x (aB _ hx)) g6 h⟩
theorem Fy {D D':lm} {X:St} {o:Oper} (h:D o.dst=D' o.dst):dt D P X o=dt D' P X o:=by
 obtain⟨dst,op,ty,pos,aft,gd⟩:=o;cases op with
 |call c=>
  obtain⟨cl,as,ts⟩:=c;cases cl with
  |value f=>simp only[dt]; simp only at h; rw[h]
  |invoke a b=>rfl
  |builtin b=>cases b<;>rfl
 |unOp op t x=>cases op<;>rfl
 |binOp op t x y t'=>cases op<;>rfl
 |makeFunc fn first caps=>cases fn<;>rfl
 |slice t x lo hi mx=>cases mx<;>rfl
 | _=>rfl
theorem Ba {D D':lm} {X:St} {o:Oper} (h:D o.dst=D' o.dst):eF D P X o=eF D' P X o:=by
 obtain⟨dst,op,ty,pos,aft,gd⟩:=o;cases op with
 |call c=>
  obtain⟨cl,as,ts⟩:=c;cases cl with
  |value f=>simp only[eF]; simp only at h; rw[h]
  |invoke a b=>rfl
  |builtin b=>cases b<;>rfl
 | _=>rfl
theorem HO {D D':lm} {ops:Array Oper}: ∀ (os:List Oper) (X:St),(∀o∈os,D o.dst=D' o.dst)->sb D P ops os X=sb D' P ops os X:=by
 intro os
 induction os with
 |nil=>intro X _; rfl
 |cons o os ih=>intro X h;have h1:=h o aG;have h2: ∀X,sb D P ops os X=sb D' P ops os X:=fun X=>ih X (fun x hx=>h x (aB _ hx));simp only[sb,h2,Fy h1,Ba h1]
theorem tj: ∀ (l m:List (Option dM)) (n:Nat),gone n l (l++m)= []
 | [],m,n=>by cases m<;>rfl
 |x::l,m,n=>by
  cases x with
  |none=>exact tj l m (n+1)
  |some y=>exact tj l m (n+1)
theorem Ab (l:List dM):Du (l.map some)=l.map dM.tree:=by unfold Du;rw[be];rfl
theorem Fz (S:TS) (out:List dM):S.st.make ⟨S.st.ng,out.map dM.tree,[]⟩=({ S with gh:=S.gh++out.map some }:TS).st:=by
 rw[pk S .dead out];unfold St.make jn;simp only[az]
 congr 1
theorem lX.make {S1:TS} {L:List Nat} (h:lX S S1 L) (x:dM):S.st.make ⟨S.st.ng,[x.tree],iM L⟩=({ S1 with gh:=S1.gh++ [some x] }:TS).st:=by
 rw[s4,h.st,h.len];unfold St.make dropL;simp only[cK,i7]
 congr 1
 funext r
 unfold dJ;by_cases hr:r=S.gh.length
 ·subst hr;rw[if_pos rfl,if_pos ⟨au _,cA _⟩];simp[TS.st]
 ·rw[if_neg hr,if_neg (by show ¬ (S.gh.length<=r/\r<S.gh.length+1); omega)]
theorem Bb: ∀ (l m x:List (Option dM)) (n:Nat) (L:List Nat),m.length=l.length->(∀k,k<l.length->(((∃y,l[k]? =some (some y))/\m[k]? =some none)↔(n+k)∈L))->gone n l (m++x)=(List.range' n l.length).filter fun r=>L.contains r
 | [],m,x,n,L,hl,_=>by have :m= [] :=bi hl;subst this;cases x<;>rfl
 |a::l,[],x,n,L,hl,_=>by cases hl
 |a::l,b::m,x,n,L,hl,h=>by
  have h0:=h 0 (Nat.zero_lt_succ _)
  have ih:=Bb l m x (n+1) L (by simpa using hl) (fun k hk=>by have:=h (k+1) (by simpa using hk);simp only[bL] at this;rw[this,show n+1+k=n+(k+1) by omega])
  simp only[aD,ae,b6] at h0;rw[aW,cc,List.filter_cons];cases a with
  |none=>
   have : ¬n∈L:=fun hn=>by obtain⟨⟨y,hy⟩,_⟩:=h0.2 hn;cases hy
   rw[if_neg (by simpa using this),<-ih];cases b<;>rfl
  |some y=>
   cases b with
   |none=>have :n∈L:=h0.1 ⟨⟨y,rfl⟩,rfl⟩;rw[if_pos (by simpa using this),<-ih];rfl
   |some z=>
    have : ¬n∈L:=fun hn=>by have:=(h0.2 hn).2;cases this
    rw[if_neg (by simpa using this),<-ih];rfl
theorem wk {L:List Nat} {N:Nat} (h: ∀r∈L,r<N):iM L=(List.range N).filter fun r=>L.contains r:=by
 have top:vB L<=N:=by
  induction L with
  |nil=>exact bm _
  |cons a l ih=>unfold vB;have h1:=h a aG;have h2:=ih (fun r hr=>h r (aB _ hr));omega
 unfold iM;obtain⟨k,rfl⟩: ∃k,N=vB L+k:=⟨N-vB L,by omega⟩
 rw[ch,ch,<-List.range'_append_1,co]
 have : (List.range' (0+vB L) k).filter (fun r=>L.contains r)= [] :=by rw[List.filter_eq_nil_iff];intro r hr hc;have h1:=vM (l:=L) (r:=r) (by simpa using hc);have h2:=(List.mem_range'_1.1 hr).1;omega
 rw[this,bq]
theorem lX.gone {S1:TS} {L:List Nat} (h:lX S S1 L) (x:List (Option dM)):gone 0 S.gh (S1.gh++x)=iM L:=by
 rw[wk (N:=S.gh.length) (fun r hr=>by obtain⟨tr,ht⟩:=h.was r hr;exact oo ht),ch]
 refine Bb _ _ _ _ _ h.len (fun k hk=> ?_);rw[aR];have g:=h.gh k;unfold eh at g;rw[ew,ew] at g;have hk1:k<S1.gh.length:=by rw[h.len]; exact hk
 rw[ah hk,ah hk1] at g ⊢;simp only[aI,ae] at g ⊢;constructor
 ·rintro⟨⟨y,hy⟩,hn⟩
  rw[hn,hy] at g;split at g
  ·rename_i hc;simpa using hc
  ·cases g
 ·intro hL;obtain⟨tr,ht⟩:=h.was k hL;unfold eh at ht;rw[ew,ah hk] at ht;simp only[aI] at ht;rw[if_pos (by simpa using hL)] at g;exact⟨⟨tr,ht⟩,g⟩
theorem ot {G:List (Option dM)} {r j:Nat} {c:Cl} (h:c.ok G) (hr:G.length<=r):kE r j c=c:=by
 have hb: ∀p:dG,p.r<G.length->Nat.beq p.r r=false:=fun p hp=>by
  cases hx:Nat.beq p.r r with
  |false=>rfl
  |true=>have:=ao hx;omega
 cases c with
 |own p sz lo len w=>simp only[kE];rw[hb p h.1];split<;>rfl
 |ptrT p sz a b=>simp only[kE];rw[hb p h];split<;>rfl
 | _=>rfl
theorem lz {α:Type} {f:α->α}: ∀ {l:List α},(∀x∈l,f x=x)->l.map f=l
 | [],_=>rfl
 |a::l,h=>by rw[aL,h a aG,lz fun x hx=>h x (aB _ hx)]
theorem ym (hS:S.ok) {r j:Nat} (hr:S.gh.length<=r):S.kill r j=S:=by
 have v1: ∀v:V1,v.ok S.gh->mb r j v=v:=by
  intro v hv;cases v with
  |cl c=>simp only[mb]; rw[ot hv hr]
  |agg cs=>simp only[mb]; rw[lz fun c hc=>ot (hv c hc) hr]
  |fn f cs=>simp only[mb]; rw[lz fun c hc=>ot (hv c hc) hr]
 have e1:S.env.map (fun x=>(x.1,u9 r j x.2))=S.env:=by
  refine lz (fun x hx=> ?_);have hx:=hS.env x hx;obtain⟨t,v⟩:=x;cases v with
  |v x=>simp only[u9]; rw[v1 x hx]
  |tup l=>simp only[u9]; rw[lz fun c hc=>v1 c (hx c hc)]
 have e2:S.bx.map (fun cs=>cs.map (kE r j))=S.bx:=by exact lz (fun cs hcs=>lz (fun c hc=>ot (hS.bx cs hcs c hc) hr))
 unfold TS.kill;rw[e1,e2]
theorem FA (hS:S.ok) {S1:TS} {no j:Nat} (hno:S.gh.length<=no) {et:Option Ty} {c:Cl} {x:C} (hc:c.ok S.gh) (h:fG S no j et c=some (x,S1)):
  ∃L,lX S S1 L/\L.Nodup/\ik S.st (zp et) c.av=some (x.tree,L):=by
 have wp: ∀t:Ty,¬zp (some t)=0:=fun t e=>by have:=t.width_pos;have e':t.width=0:=e;omega
 cases c with
 |c y=>
  cases y with
  |sc v=>
   cases et with
   |none=>simp only[fG,ae,am] at h;obtain⟨rfl,rfl⟩:=h;exact⟨[],lX.refl _,dh,rfl⟩
   |some t=>simp[fG] at h
  |ls t l=>cases et<;>simp[fG] at h
 |em=>
  cases et with
  |none=>simp[fG] at h
  |some t=>simp only[fG,ae,am] at h;obtain⟨rfl,rfl⟩:=h;rw[ym hS hno];refine⟨[],lX.refl _,dh,?_⟩;unfold ik;rw[if_neg (wp t)];rfl
 |own p sz lo len wh=>
  obtain⟨pr,pl⟩:=p;cases wh with
  |false=>cases et<;>simp[fG] at h
  |true=>
   cases et with
   |none=>simp[fG] at h
   |some t=>
    cases pl with
    |cons a l=>simp[fG] at h
    |nil=>
     simp only[fG] at h;obtain⟨h1,h⟩:=dq h;simp only[an,bH] at h1;obtain⟨⟨h1,h2⟩,h3⟩:=h1;have h1:t.width=sz:=ao h1;have h2:S.fz<=pr:=aw h2;split at h
     ·rename_i tr htr;split at h
      ·rename_i hh;obtain⟨h4,h⟩:=dq h;have h4':tr.t.width=sz:=ao h4;simp only[ae,am] at h;obtain⟨rfl,rfl⟩:=h;have hg:=dM.look htr;obtain⟨tt,l,hole⟩:=tr;simp only at hh h4';subst hh;obtain⟨e1,e2,e3⟩:=nI hc (fun _=>hg);have hd:=lX.one hg;rw[ym (hd.ok hS) (by rw[hd.len]; exact hno)];refine⟨[pr],hd,by simp,?_⟩;unfold ik;rw[if_neg (wp t)];simp only[Cl.av]
       have hrows:S.st.rows ⟨pr,[]⟩ sz=some (l.map tt.row):=by rw[<-h4'];refine ia ?_;unfold St.look;show (match (eh S.gh pr).map dM.tree with |some t=>t.go [] |none=> .dd)=_;rw[hg];rfl
       rw[if_pos ⟨trivial,h1.symm,e2,h2⟩,hrows];simp only[af,az];rw[if_pos (by omega),e3];have e4: (l.map tt.row).take l.length=l.map tt.row:=bR (by simp);rw[e4];simp only[C.tree,h4']
      ·cases h
     ·cases h
 |pro cs=>cases et<;>simp[fG] at h
 |ptrB n j=>cases et<;>simp[fG] at h
 |ptrT p sz a b=>cases et<;>simp[fG] at h
 |dead=>cases et<;>simp[fG] at h
theorem Ad {X Y:St} (hfz:Y.fz=X.fz) (hg: ∀r t,Y.gh r=some t->X.gh r=some t) {s:Nat} {v:AV} {y:T×List Nat} (h:ik Y s v=some y):ik X s v=some y:=by
 unfold ik at h ⊢;split at h
 ·rename_i h0; rw[if_pos h0]; exact h
 ·rename_i h0;rw[if_neg h0];split at h
  ·exact h
  ·rename_i q s' lo len;split at h
   ·rename_i hc;rw[hfz] at hc;rw[if_pos hc];simp only[aj] at h ⊢;obtain⟨rows,hr,h⟩:=h;refine⟨rows,?_,h⟩;have hl:=fI hr;unfold St.rows
    have :X.look q= .sl s' rows:=by
     unfold St.look at hl ⊢;cases hq:Y.gh q.r with
     |none=>rw[hq] at hl; cases hl
     |some t=>rw[hq] at hl; rw[hg _ _ hq]; exact hl
    rw[this];simp
   ·cases h
  ·cases h
theorem nK {X Y:St} (hfz:Y.fz=X.fz) (hg: ∀r t,Y.gh r=some t->X.gh r=some t): ∀ {ss:List Nat} {vs:List AV} {y:List T×List Nat},fx Y ss vs=some y->fx X ss vs=some y
 |s::ss,v::vs,y,h=>by unfold fx at h ⊢;simp only[aj,ak] at h ⊢;obtain⟨a,h1,b,h2,h3⟩:=h;exact⟨a,Ad hfz hg h1,b,nK hfz hg h2,h3⟩
 | [],[],_,h=>h
 | [],_::_,_,h=>h
 | _::_,[],_,h=>h
theorem rl {X Y:St} (hfz:Y.fz=X.fz) (hg: ∀r t,Y.gh r=some t->X.gh r=some t) {ss:List Nat}: ∀ {vss:List (List AV)} {y:List (List T)×List Nat},eT Y ss vss=some y->eT X ss vss=some y
 | [],_,h=>h
 |vs::vss,y,h=>by unfold eT at h ⊢;simp only[aj,ak] at h ⊢;obtain⟨a,h1,b,h2,h3⟩:=h;exact⟨a,nK hfz hg h1,b,rl hfz hg h2,h3⟩
theorem lX.less {S1:TS} {L:List Nat} (h:lX S S1 L): ∀r t,S1.st.gh r=some t->S.st.gh r=some t:=by
 intro r t ht;rw[h.st] at ht;unfold dropL at ht;simp only at ht;split at ht
 ·cases ht
 ·exact ht
theorem FB (no:Nat): ∀ (ets:List (Option Ty)) (cs:List Cl) (j:Nat) (S S1:TS) (xs:List C),S.ok->S.gh.length<=no->(∀c∈cs,c.ok S.gh)->kF no j S ets cs=some (xs,S1)->
  ∃L,lX S S1 L/\L.Nodup/\fx S.st (ets.map zp) (cs.map Cl.av)=some (xs.map C.tree,L):=by
 intro ets
 induction ets with
 |nil=>
  intro cs j S S1 xs hS hno hcs h;cases cs with
  |nil=>simp only[kF,ae,am] at h;obtain⟨rfl,rfl⟩:=h;exact⟨[],lX.refl _,dh,rfl⟩
  |cons c cs=>simp[kF] at h
 |cons et ets ih=>
  intro cs j S S1 xs hS hno hcs h;cases cs with
  |nil=>simp[kF] at h
  |cons c cs=>
   simp only[kF] at h;split at h
   ·rename_i x S2 hx;obtain⟨L1,d1,n1,e1⟩:=FA hS hno (hcs c aG) hx;split at h
    ·rename_i xs' S3 hxs;simp only[ae,am] at h;obtain⟨rfl,rfl⟩:=h;obtain⟨L2,d2,n2,e2⟩:=ih cs (j+1) S2 S3 xs' (d1.ok hS) (by rw[d1.len]; exact hno) (fun y hy=>Cl.ok_mono d1.le (hcs y (aB _ hy))) hxs;refine⟨L1++L2,d1.trans d2,d1.apart d2 n1 n2,?_⟩;simp only[aL,fx];rw[e1];simp only[af];rw[nK (X:=S.st) (Y:=S2.st) d1.fz d1.less e2];rfl
    ·cases h
   ·cases h
theorem DZ (el:Ty): ∀ (vs:List V) (S S1:TS) (l:List el.D),S.ok->(∀v∈vs,v.ok S.gh)->mc el S vs=some (l,S1)->
  ∃L,lX S S1 L/\L.Nodup/\eT S.st el.shs (vs.map fun v=>v.av.cells)=some (l.map el.row,L)/\l.length=vs.length/\ ∀v∈vs,v.av.cells.length=el.width/\v.av.isDead=false:=by
 intro vs
 induction vs with
 |nil=>intro S S1 l hS hv h;simp only[mc,ae,am] at h;obtain⟨rfl,rfl⟩:=h;exact⟨[],lX.refl _,dh,rfl,rfl,fun v hv=>by cases hv⟩
 |cons v vs ih=>
  intro S S1 l hS hv h;cases v with
  |tup x=>simp[mc] at h
  |v x=>
   have hx:=hv (.v x) aG;simp only[mc] at h;split at h
   ·rename_i ws S2 hw
    have hcells: ∀c∈x.cells,c.ok S.gh:=by
     intro c hc;cases x with
     |cl y=>rw[ay.1 hc]; exact hx
     |agg cs=>exact hx c hc
     |fn f cs=>rw[ay.1 hc]; trivial
    obtain⟨L1,d1,n1,e1⟩:=FB _ _ _ _ _ _ _ hS (au _) hcells hw
    have hw':el.csh.length=x.cells.length/\ ∀c∈x.cells,c≠ .dead:=by obtain⟨_,m2,_,m4,_⟩:=td S.gh.length 0 0 0 el.csh x.cells 0 S S2 ws [x.cells.map fun c=>T.ofSc c.av] (x.cells.map fun c=>T.ofSc c.av) hS hcells hw rfl (by simp) (fun k c hk=>by rw[aR,al,hk]; rfl);exact⟨m2,m4⟩
    split at h
    ·rename_i y ys S3 hy hys;simp only[ae,am] at h;obtain⟨rfl,rfl⟩:=h;obtain⟨L2,d2,n2,e2,e3,e4⟩:=ih S2 S3 ys (d1.ok hS) (fun u hu=>V.ok_mono d1.le (hv u (aB _ hu))) hys
     have hsh:el.shs=el.csh.map zp:=by unfold Ty.shs;refine aE fun c _=> ?_;cases c<;>rfl
     have hav: (V.v x).av.cells=x.cells.map Cl.av:=by
      cases x with
      |cl c=>
       simp only[V.av,V1.av,V1.cells,aL,bX];cases c with
       |c y=>cases y<;>rfl
       | _=>rfl
      |agg cs=>rfl
      |fn f cs=>exact absurd rfl (hw'.2 .dead (ay.2 rfl))
     refine⟨L1++L2,d1.trans d2,d1.apart d2 n1 n2,?_,by simp[e3],fun u hu=> ?_⟩
     ·simp only[aL,eT];rw[hav,hsh,e1];simp only[af];rw[<-hsh,rl (X:=S.st) (Y:=S2.st) d1.fz d1.less e2];simp only[ax];rw[el.row_flat,el.unflat_some _ _ hy]
     ·rcases aX.1 hu with rfl|hu
      ·refine⟨?_,?_⟩
       ·rw[hav,az,<-hw'.1];have:=pm el;unfold Ty.shs at this;simpa using this
       ·cases x with
        |cl c=>
         have:=hw'.2 c (ay.2 rfl);cases c with
         |c y=>cases y<;>rfl
         |dead=>exact absurd rfl this
         | _=>rfl
        |agg cs=>rfl
        |fn f cs=>rfl
      ·exact e4 u hu
    ·cases h
   ·cases h
theorem D0 (hΘ:eD P Θ) {t:TypeId} (h:Iz Θ t=true): ∃ti el elT',ir Θ t=some ti/\ti.ty= .ls el/\nr P t=some elT'/\P.cellsOf elT'=el.width/\P.bytesOf elT'=ti.el/\0<ti.el/\jm P 9 elT'=el.shs/\qk P elT'=some el.zvs:=by
 unfold Iz at h;split at h
 ·rename_i ti hti;split at h
  ·rename_i el he;obtain⟨elT',g⟩:=(hΘ _ _ hti).el el he;exact⟨ti,el,elT',hti,he,g⟩
  ·cases h
 ·cases h
theorem FC {el:Ty} {v:Cl} (hv:v.ok S.gh) {κ:List el.D->TS->Option ρ} {r:ρ} (h:Dr S el v κ=some r):
  ∃more L S1,lX S S1 L/\fe S.st el.width el.flatB v.av=some (more.map el.row,L)/\κ more S1=some r:=by
 unfold Dr at h;split at h
 ·exact⟨[],[],S,lX.refl _,rfl,h⟩
 ·rename_i t l;obtain⟨h1,h⟩:=dq h;split at h
  ·rename_i l' hl;obtain⟨e,hl⟩:=eX hl;subst e;simp only at hl;subst hl;refine⟨l,[],S,lX.refl _,?_,h⟩;simp only[Cl.av,C.av,fe];rw[if_pos ⟨trivial,oq h1 l⟩]
  ·cases h
 ·rename_i p sz lo len w;obtain⟨h0,h⟩:=dq h;have h0:el.width=sz:=ao h0;cases hfl:el.flatB with
  |true=>
   rw[hfl] at h;simp only[cond_true] at h;obtain⟨t,l,h1,h2,h⟩:=eL h;split at h
   ·rename_i l' hl;obtain⟨e,hl⟩:=eX hl;subst e;simp only at hl;subst hl
    have src: ∀ (lo len:Nat),lo+len<=l.length->fe S.st t.width true (.own p sz lo len)=some (((l.drop lo).take len).map t.row,[]):=by intro lo len hle;simp only[fe];rw[if_pos h0.symm,ia h1];simp only[af,az];rw[if_neg (by simp),if_pos ⟨hle,by rw[<-bG,<-bz]; exact oq hfl _⟩];simp[bz,bG]
    cases w with
    |true=>obtain⟨e1,e2,e3⟩:=nI hv h2;refine⟨l,[],S,lX.refl _,?_,h⟩;have:=src lo len (by omega);rw[e2,e3,bT,bW] at this;simp only[Cl.av];rw[e2,e3];exact this
    |false=>simp only[cond_false] at h;obtain⟨h3,h⟩:=dY h;exact⟨_,[],S,lX.refl _,src lo len h3,h⟩
   ·cases h
  |false=>
   rw[hfl] at h;simp only[cond_false] at h;split at h
   ·rename_i hpl;obtain⟨h1,h'⟩:=dq h;clear h;simp only[an] at h1;obtain⟨rfl,hfz⟩:=h1;have hfz:S.fz<=p.r:=aw hfz;obtain⟨t,l,g1,g2,h⟩:=eL h';split at h
    ·rename_i l' hl;obtain⟨e,hl⟩:=eX hl;subst e;simp only at hl;subst hl;obtain⟨e1,e2,e3⟩:=nI hv g2;refine⟨l,[p.r],_,lX.one (g2 e1),?_,h⟩;simp only[Cl.av,fe];rw[if_pos h0.symm,ia g1];simp only[af,az];rw[if_pos ⟨trivial,e1,e2,e3,hfz⟩]
    ·cases h
   ·cases h
 ·cases h
theorem D3 {el:Ty} {v:Cl} (hv:v.ok S.gh) (hroot:AZ (.v (.cl v))=true) {more:List el.D} {κ:List el.D->TS->Option ρ} {r:ρ} (h:xW S el v more κ=some r):
  ∃ (l0:List el.D) (cons:List Nat) (S':TS),jf S.st el.width v.av=some (l0.map el.row,cons)/\lX S S' cons/\κ (l0++more) S'=some r:=by
 unfold xW at h;split at h
 ·exact⟨[],[],S,rfl,lX.refl _,h⟩
 ·rename_i p sz lo len w;obtain⟨pr,pl⟩:=p;cases pl with
  |cons a l=>cases hroot
  |nil=>
   obtain⟨h0,h'⟩:=dq h;clear h;simp only[an] at h0;have hfz:S.fz<=pr:=aw h0.1;have hsz:el.width=sz:=ao h0.2;simp only at h';obtain⟨t,l,h1,h2,h⟩:=eL h';split at h
   ·rename_i l' hl;obtain⟨e,hl⟩:=eX hl;subst e;simp only at hl;subst hl
    have base: ∀ (len:Nat),¬l.length<len->jf S.st t.width (.own ⟨pr,[]⟩ sz 0 len)=some ((l.take len).map t.row,[pr]):=by intro len hlen;simp only[jf];rw[if_pos ⟨hsz.symm,trivial,trivial,hfz⟩,ia h1];simp only[af,az];rw[if_neg hlen,bz]
    cases w with
    |true=>obtain⟨e1,e2,e3⟩:=nI hv h2;refine⟨l,[pr],_,?_,lX.one (h2 rfl),h⟩;have:=base l.length (by omega);rw[bW] at this;simp only[Cl.av];rw[e2,e3];exact this
    |false=>simp only[cond_false] at h;obtain⟨h3,h⟩:=dY h;obtain⟨h4,h⟩:=qB h;refine⟨l.take len,[pr],_,?_,lX.one (h2 rfl),h⟩;simp only[Cl.av];rw[h3];exact base len h4
   ·cases h
 ·cases h
theorem FD (hΘ:eD P Θ) (hY:iJ P Y) (hS:S.ok) {o:Oper} (hn:dS o=true) (hf:HK Θ o=true) (hb:Gv S o=true) {κ:V->TS->Option ρ} {r:ρ} (h:oP Θ Y S o κ=some r):
  ∃D v0 v adds cons S',iR P D/\eF D P S.st o=some (v0,adds,cons)/\shift S.st.ng v0=V.av v/\S.st.make ⟨S.st.ng,adds,cons⟩=TS.st S'/\qA S S'=⟨S.st.ng,adds,cons⟩/\S'.ok/\v.ok S'.gh/\κ v S'=some r:=by
 obtain⟨dst,op,ty,pos,aft,gd⟩:=o;cases op with
 |buildSlice t len parts=>
  obtain⟨ti,el,elT',hti,he,g1,g2,g3,g4,g5,g6⟩:=D0 hΘ hf;unfold oP at h;simp only[hti,he] at h;obtain⟨hb',h'⟩:=dq h;clear h
  have hnr: ((parts.toList.map fun x=>S.opd x.2).any sW)=false:=by have hb: (!(parts.toList.map fun x=>S.opd x.2).any sW)=true:=hb;simpa using hb
  rw[hnr] at h';simp only[cond_false] at h';split at h'
  ·rename_i l S1 hp
   have hvok: ∀v∈parts.toList.map (fun x=>S.opd x.2),v.ok S.gh:=fun v hv=>by obtain⟨y,_,rfl⟩:=aH.1 hv;exact it hS _
   obtain⟨L,d,hnd,m1,m2,m3⟩:=DZ el _ S S1 l hS hvok hp;simp only[an] at hb';have hb1:len*el.width<=1048576:=aw hb'.1;have hb2:=wg hb'.2
   have hlen:l.length=len:=by rw[m2];have:=congrArg List.length hb2;simpa using this
   refine⟨we, .own ⟨0,[]⟩ el.width 0 len,_,[.sl el.width (l.map el.row)],iM L,{ S1 with gh:=S1.gh++ [some ⟨el,l,none⟩] },ft,?_,?_,d.make ⟨el,l,none⟩,?_,TS.ok_gh (d.ok hS) (fr.app _ _),?_,h'⟩
   ·simp only[eF,g1,af]
    rw[if_pos ⟨by rw[g2]; exact hb1,hb2,by rw[g2]; exact el.width_pos,by rw[g6]; rfl,by rw[ar];intro y hy;obtain⟨q1,q2⟩:=m3 (S.opd y.2) (aH.2 ⟨y,hy,rfl⟩);simp only[dw,q1,q2,g2];rfl⟩]
    have e: (parts.toList.map fun x=>(opd S.st x.2).cells)=(parts.toList.map fun x=>S.opd x.2).map fun v=>v.av.cells:=by rw[be];exact aE fun x _=>by simp only[dw,Function.comp]
    rw[e,g5,m1];simp only[af];rw[if_pos (rO.2 hnd),g2]
   ·simp only[shift,iL,jG,V.av,V1.av,Cl.av,aR,hlen];rw[d.len];rfl
   ·unfold qA;simp only;rw[d.gone,cH (by rw[d.len]; exact au _),b0 (by rw[d.len]; exact au _)];rfl
   ·refine⟨by simp,fun _=>⟨rfl,rfl,fun tr htr=> ?_⟩⟩;rw[iu,if_pos rfl] at htr;cases htr;rfl
  ·cases h'
 |call c=>
  obtain⟨cl,as,ts⟩:=c;cases cl with
  |invoke a b=>cases hn
  |value f=>
   unfold oP at h;simp only at h
   have fin: ∀ (g:FuncId) (caps:List AV) (vs:List V1),g<fF->callee S.st f=some (g,caps)->args P S.st ts as caps=vs.map V1.av->Y g vs ρ (fun res out=>κ (mW S.gh.length res) { S with gh:=S.gh++out.map some })=some r->
     ∃D v0 v adds cons S',iR P D/\eF D P S.st ⟨dst, .call { callee:= .value f,args:=as,argTypes:=ts },ty,pos,aft,gd⟩=some (v0,adds,cons)/\shift S.st.ng v0=V.av v/\S.st.make ⟨S.st.ng,adds,cons⟩=TS.st S'/\qA S S'=⟨S.st.ng,adds,cons⟩/\S'.ok/\v.ok S'.gh/\κ v S'=some r:=by
    intro g caps vs hg h1 h2 h3;obtain⟨res,out,h4,h5,h6⟩:=hY _ _ _ _ _ h3;have h4:=h4.fn hg;refine⟨Cd dst g (vs.map V1.av) (res.av,out.map dM.tree),res.av,_,out.map dM.tree,[],_,s6 h4,?_,?_,Fz S out,?_,TS.ok_gh hS (fr.apps _ _),qH h5,h6⟩
    ·simp only[eF,h1,af,h2];rw[A6];rfl
    ·rw[qG]; rfl
    ·unfold qA;simp only[tj,cH (au _),List.drop_length,bB,Ab];rfl
   unfold AX at h;split at h
   ·rename_i g x y hf';obtain⟨hg,h⟩:=dq h;have hg:g<fF:=aw hg;obtain⟨vs,h1,h⟩:=mA hΘ hS _ _ _ _ h;refine fin g [] vs hg ?_ ?_ h
    ·unfold callee;rw[dw,hf'];rfl
    ·unfold args;simp only[bX,bq];exact h1
   ·rename_i g caps hf';obtain⟨hg,h⟩:=dq h;have hg:g<fF:=aw hg;obtain⟨vs,h1,h⟩:=mA hΘ hS _ _ _ _ h
    have hcaps: ∀c∈caps,c.ok S.gh:=by have:=it hS f;rw[hf'] at this;exact this
    obtain⟨cs,h2,h⟩:=pV hS _ _ _ hcaps h;refine fin g (caps.map Cl.av) (vs++cs.map .cl) hg ?_ ?_ h
    ·unfold callee;rw[dw,hf'];rfl
    ·unfold args;rw[h1,h2,bQ,be];rfl
   ·cases h
  |builtin b=>
   cases b with
   |append=>
    unfold oP at h;simp only at h;split at h
    ·rename_i s x t t' e1 e2;have hbb: ((match ts.toList with | [t,t'] =>Nat.beq t t'| _=>true)&&(match as.toList with |s::_=>AZ (S.opd s)| [] =>true))=true:=hb;rw[e1,e2] at hbb;simp only[an] at hbb;rw[hbb.1] at h;simp only[cond_true] at h;have h':=h;have ht:t=t':=ao hbb.1;clear h;have e1:as= #[s,x] :=by apply Array.ext'; simpa using e1
     have e2:ts= #[t,t'] :=by apply Array.ext'; simpa using e2
     subst e1 e2;subst ht;obtain⟨ti,el,elT',hti,he,g1,g2,g3,g4,g5,g6⟩:=D0 hΘ hf;unfold Fh at h';simp only[hti] at h';split at h'
     ·rename_i el' sv xv he' hs hx;rw[he] at he';cases he';have hsv:=it hS s;rw[hs] at hsv;have hxv:=it hS x;rw[hx] at hxv;obtain⟨more,L,S1,d1,q1,h⟩:=FC (show xv.ok S.gh from hxv) h';have hroot:AZ (.v (.cl sv))=true:=by rw[<-hs]; exact hbb.2
      obtain⟨l0,cons,S2,q2,d2,h⟩:=D3 (show sv.ok S1.gh from Cl.ok_mono d1.le hsv) hroot h;obtain⟨hbd,h⟩:=dY h;have hlen: (l0++more).length<=2 ^ 40:=bA (Nat.le_mul_of_pos_right _ g4) hbd;have hll: (l0++more).length=l0.length+more.length:=by simp
      have d:=d1.trans d2;refine⟨we, .own ⟨0,[]⟩ el.width 0 (l0.length+more.length),_,[.sl el.width ((l0++more).map el.row)],iM (L++cons),{ S2 with gh:=S2.gh++ [some ⟨el,l0++more,none⟩] },ft,?_,?_,d.make ⟨el,l0++more,none⟩,?_,TS.ok_gh (d.ok hS) (fr.app _ _),?_,h⟩
      ·simp only[eF];rw[if_pos trivial,g1];simp only[af,g2,g5,qI,dw,hs,hx];show (fe S.st el.width el.flatB xv.av).bind _=_;rw[q1];simp only[af];show (jf (dropL S.st L) el.width sv.av).bind _=_;rw[<-d1.st,q2];simp only[af,az];rw[if_pos ⟨by rw[g3,<-hll]; exact hbd,by rw[<-hll]; exact hlen,el.width_pos,by rw[rU g2 g5 g6]; rfl⟩,bQ]
      ·simp only[shift,iL,jG,V.av,V1.av,Cl.av,aR,hll];rw[d.len];rfl
      ·unfold qA;simp only;rw[d.gone,cH (by rw[d.len]; exact au _),b0 (by rw[d.len]; exact au _)];rfl
      ·refine⟨by simp,fun _=>⟨rfl,rfl,fun tr htr=> ?_⟩⟩;rw[iu,if_pos rfl] at htr;cases htr;rfl
     ·cases h'
    ·cases h
   | _=>cases hn
 | _=>cases hn
end
end
section
open Go
section
variable {ρ:Type} {P:Program} {Θ:jE} {S:TS} {Y:qm}
open Classical in
noncomputable def pY (d:Option Tmp) (D1 D2:lm):lm:=fun d'=>if d'=d then D1 d' else D2 d'
theorem yn {d:Option Tmp} {D1 D2:lm} (h1:iR P D1) (h2:iR P D2):iR P (pY d D1 D2):=by
 intro d' f args gs res out h;unfold pY at h;split at h
 ·exact h1 _ _ _ _ _ _ h
 ·exact h2 _ _ _ _ _ _ h
theorem D4 (d:Option Tmp) (D1 D2:lm):pY d D1 D2 d=D1 d:=by unfold pY; rw[if_pos rfl]
theorem D5 {d d':Option Tmp} (D1 D2:lm) (h:d'≠d):pY d D1 D2 d'=D2 d':=by unfold pY; rw[if_neg h]
theorem FE (hΘ:eD P Θ) (hY:iJ P Y) {ops:Array Oper}: ∀ (os:List Oper) (S:TS) (ms:List fy) (κ:TS->List fy->Option ρ) (r:ρ),S.ok->xZ Θ Y ops.toList os S ms κ=some r->
  ∃D SV ms',iR P D/\sb D P ops os S.st=some (TS.st SV,ms')/\SV.ok/\κ SV (ms++ms')=some r:=by
 intro os
 induction os with
 |nil=>intro S ms κ r hS h; exact⟨we,S,[],ft,rfl,hS,by rw[bq]; exact h⟩
 |cons o os ih=>
  intro S ms κ r hS h;unfold xZ at h;cases hst:dp o with
  |true=>
   rw[hst] at h;simp only[cond_true] at h;obtain⟨D,SV,ms',h1,h2,h3,h4⟩:=ih _ _ _ _ hS h;refine⟨D,SV,⟨S.gh.length,[],[]⟩::ms',h1,?_,h3,?_⟩
   ·simp only[sb,hst,if_true,h2,ax];rfl
   ·rw[aP] at h4;exact h4
  |false=>
   rw[hst] at h;simp only[cond_false] at h;cases hbo:ej o with
   |true=>
    rw[hbo] at h;simp only[cond_true] at h;cases hgn:o.guard.isNone with
    |false=>rw[hgn] at h; cases h
    |true=>
    rw[hgn] at h;simp only[cond_true] at h;obtain⟨S3,g5,g6,_,h⟩:=ib (v:=V.v (.cl (.ptrB (S.bx.length-1-ef os) 0))) hS trivial h;obtain⟨D,SV,ms',k1,k2,k3,k4⟩:=ih _ _ _ _ g6 h;refine⟨D,SV,⟨S.gh.length,[],[]⟩::ms',k1,?_,k3,?_⟩
    ·simp only[sb,hst,aU,if_false,hbo,if_true,hgn];rw[show S.st.put o.dst (.ptrB (S.st.nb-1-ef os) 0)=some S3.st from g5];simp only[af,k2,ax];rfl
    ·rw[aP] at k4;exact k4
   |false=>
   rw[hbo] at h;simp only[cond_false] at h;obtain⟨b,S1,h1,h2,h3,h4,h⟩:=yj hS h;have hng:S.st.ng=S1.st.ng:=by rw[h2]
   cases b with
   |false=>
    simp only[cond_false] at h;obtain⟨S3,g5,g6,_,h⟩:=ib (v:= .tup []) h3 (fun x hx=>by cases hx) h;obtain⟨D,SV,ms',k1,k2,k3,k4⟩:=ih _ _ _ _ g6 h;refine⟨D,SV,⟨S1.gh.length,[],[]⟩::ms',k1,?_,k3,?_⟩
    ·simp only[sb,hst,hbo,aU,if_false,h1,af];rw[<-h2,show S1.st.put o.dst (.tup [])=some S3.st from g5];simp only[af,k2,ax];rfl
    ·rw[aP] at k4;exact k4
   |true=>
    simp only[cond_true] at h;cases hnw:dS o with
    |false=>
     rw[hnw] at h;simp only[cond_false] at h;obtain⟨v,S2,m1,m2,m3,m4,m5,h⟩:=qD (D:=we) hΘ h3 h;obtain⟨S3,g5,g6,_,h⟩:=ib m3 (by rw[m4]; exact m5) h;obtain⟨D,SV,ms',k1,k2,k3,k4⟩:=ih _ _ _ _ g6 h;refine⟨D,SV,⟨S1.gh.length,[],[]⟩::ms',k1,?_,k3,?_⟩
     ·have hV:dt D P S1.st o=some v.av:=by
       rw[<-m1]
       have : ∀D':lm,dt D P S1.st o=dt D' P S1.st o:=by
        intro D';obtain⟨dst,op,ty,pos,aft,gd⟩:=o;cases op with
        |call c=>
         obtain⟨cl,as,ts⟩:=c;cases cl with
         |value f=>cases hnw
         |invoke a b=>rfl
         |builtin b=>cases b<;>rfl
        |unOp op t x=>cases op<;>rfl
        |binOp op t x y t'=>cases op<;>rfl
        |makeFunc fn first caps=>cases fn<;>rfl
        |slice t x lo hi mx=>cases mx<;>rfl
        | _=>rfl
       exact this we
      simp only[sb,hst,hbo,aU,if_false,h1,af,if_true,hnw];rw[<-h2,hV];simp only[af];rw[<-m2,g5];simp only[af,k2,ax];rw[m2]; first |rfl|skip
     ·rw[aP] at k4;exact k4
    |true=>
     rw[hnw] at h;simp only[cond_true] at h;obtain⟨hc,h⟩:=dq h;simp only[an] at hc;obtain⟨D1,v0,v,adds,cons,S2,m1,m2,m3,m4,m5,m6,m7,h⟩:=FD hΘ hY h3 hnw hc.1.2 hc.2 h;obtain⟨S3,g5,g6,_,h⟩:=ib m6 m7 h;obtain⟨D,SV,ms',k1,k2,k3,k4⟩:=ih _ _ _ _ g6 h;refine⟨pY o.dst D1 D,SV,⟨S1.st.ng,adds,cons⟩::ms',yn m1 k1,?_,k3,?_⟩
     ·have hN:eF (pY o.dst D1 D) P S1.st o=some (v0,adds,cons):=by
       rw[<-m2];exact Ba (D4 _ _ _)
      have hrest:sb (pY o.dst D1 D) P ops os S3.st=some (SV.st,ms'):=by
       rw[<-k2];refine HO os _ (fun o' ho'=>D5 _ _ (fun e=> ?_));have hl:=hc.1.1;unfold HJ at hl;split at hl
       ·rename_i d hd;have:=ar.1 hl o' ho';unfold Gu at this;rw[e,hd] at this;simp only[ci,bu] at this;cases this
       ·cases hl
      simp only[sb,hst,hbo,aU,if_false,h1,af,if_true,hnw];rw[<-h2,hN];simp only[af];rw[m4,m3,g5];simp only[af,hrest,ax]
      first |rfl|skip
     ·rw[aP,m5] at k4;exact k4
theorem FF (hΘ:eD P Θ) (hY:iJ P Y) {ops:Array Oper} {D:lm}: ∀ (os:List Oper) (S:TS) (κ:TS->Option ρ) (r:ρ),S.ok->Dw Θ Y os S κ=some r->
  ∃S',t7 D P ops os S.st=some (TS.st S')/\S'.ok/\κ S'=some r:=by
 intro os
 induction os with
 |nil=>intro S κ r hS h; exact⟨S,rfl,hS,h⟩
 |cons o os ih=>
  intro S κ r hS h;unfold Dw at h;cases hst:dp o with
  |false=>rw[hst] at h;obtain⟨S',h1,h2,h3⟩:=ih S κ r hS h;exact⟨S',by simp only[t7,hst,aU,if_false]; exact h1,h2,h3⟩
  |true=>
   rw[hst] at h;simp only[cond_true] at h;obtain⟨hc,h⟩:=dq h;simp only[an] at hc;obtain⟨D',v,S1,g1,g2,g3,g4,h⟩:=tg hΘ hY hS h;obtain⟨S',h1,h2,h3⟩:=ih S1 κ r g3 h;refine⟨S',?_,h2,h3⟩;have hd:o.dst=none:=cx.1 hc.2
   have hs:eK D P S.st o=some (v.av,S1.st):=by
    rw[<-g2];obtain⟨dst,op,ty,pos,aft,gd⟩:=o;cases op with
    |store t a x=>rfl
    | _=>cases hst
   have ho:one D P S.st o=some S1.st:=by unfold one;rw[hs];simp only[af,hd,St.put]
   simp only[t7,hst,if_true,ho,af,h1];rw[if_pos ⟨hc.1,by rw[hd]; rfl⟩]
theorem FG (hΘ:eD P Θ): ∀ (os:List Oper) (S:TS) (κ:TS->Option ρ) (r:ρ),S.ok->Dv Θ os S κ=some r-> ∃S0,vC P os S.st=some (TS.st S0)/\S0.ok/\κ S0=some r:=by
 intro os
 induction os with
 |nil=>intro S κ r hS h; exact⟨S,rfl,hS,h⟩
 |cons o os ih=>
  intro S κ r hS h;unfold Dv at h;unfold vC;split at h
  ·rename_i t hop;split at h
   ·rename_i ti hti
    obtain⟨S0,h1,h2,h3⟩:=ih { S with bx:=S.bx++ [ti.ty.zvs.map cC] } κ r ⟨hS.env,fun cs hcs c hc=>by
     rcases bO.1 hcs with h1|h1
     ·exact hS.bx cs h1 c hc
     ·simp only[ay] at h1;subst h1;exact DE _ _ c hc⟩ h
    refine⟨S0,?_,h2,h3⟩;rw[hop];simp only[(hΘ _ _ hti).ze,af];rw[<-h1]
    congr 1
    rw[z7,DD];rfl
   ·cases h
  ·rename_i hno;obtain⟨S0,h1,h2,h3⟩:=ih S κ r hS h;exact⟨S0,by rw[<-h1]; split<;>first | (rename_i t ht; exact absurd ht (hno t))|rfl,h2,h3⟩
theorem Ae {f g:TypeId->Bool} (h: ∀t,f t=true->g t=true) {t:TypeId} {a:AV} (hs:uV f t a=true):uV g t a=true:=by cases a<;>simp only[uV] at hs ⊢<;>first |exact h t hs|exact hs
theorem yp {f g:TypeId->Bool} (h: ∀t,f t=true->g t=true) {ops:List Oper} {B:List (List Nat)} {S SV:St} {i j:Nat} {oi oj:Oper} (hs:mO f ops B S SV i j oi oj=true):mO g ops B S SV i j oi oj=true:=by
 unfold mO at hs ⊢;split at hs
 ·simp only[an] at hs ⊢;exact⟨Ae h hs.1,hs.2⟩
 ·cases hs
theorem yq {ops:List Oper} {B:List (List Nat)} {f g:Nat->Nat->Oper->Oper->Bool} (h: ∀i j oi oj,f i j oi oj=true->g i j oi oj=true) (hs:o7 ops B f=true):o7 ops B g=true:=by
 unfold o7 at hs ⊢;refine ar.2 fun j hj=> ?_;have h1:=ar.1 hs j hj;split at h1
 ·cases h1
 ·simp only[ba] at h1 ⊢;refine h1.imp id fun h1=>ar.2 fun i hi=> ?_;have h2:=ar.1 h1 i hi;split at h2
  ·cases h2
  ·simp only[ba] at h2 ⊢;exact h2.imp id (h _ _ _ _)
theorem Cj {f g:TypeId->Bool} (h: ∀t,f t=true->g t=true) {ops:List Oper} {B:List (List Nat)} {S SV:St} {ms:List fy} (hs:zq f ops B S ms SV=true):zq g ops B S ms SV=true:=by unfold zq at hs ⊢;simp only[an,ba] at hs ⊢;exact⟨⟨hs.1.1,hs.1.2.imp (yq fun _ _ _ _=>yp h) id⟩,hs.2⟩
theorem FH (hΘ:eD P Θ) (t:TypeId) (h:Dx Θ t=true):oJ P t=true:=by
 unfold Dx at h;split at h
 ·rename_i ti hti;unfold oJ;rw[(hΘ t ti hti).sh];unfold Ty.flatB at h;unfold Ty.shs;rw[List.all_map,ar];intro x hx;have:=ar.1 h x hx;cases x with
  |none=>rfl
  |some e=>cases this
 ·cases h
theorem FI (hΘ:eD P Θ) (hY:iJ P Y) {n0:Nat} {ops:List Oper} {B:List (List Nat)}: ∀ (os:List Oper) (k:Nat) (S:TS) (κ:TS->Option ρ) (r:ρ),(∀o∈os,jH o=false)->S.ok->Dy Θ Y n0 ops B k os S κ=some r->
  ∃S':TS,Fa P n0 ops B k os S.st=some S'.st/\S'.ok/\κ S'=some r:=by
 intro os
 induction os with
 |nil=>intro k S κ r _ hS h; exact⟨S,rfl,hS,h⟩
 |cons o os ih=>
  intro k S κ r hf hS h;unfold Dy at h;have hf': ∀o∈os,jH o=false:=fun x hx=>hf x (aB _ hx);cases hn:dS o||dp o with
  |true=>
   rw[hn] at h;simp only[cond_true] at h;obtain⟨D,v,S2,_,g2,g3,g4,h⟩:=tg hΘ hY hS h;obtain⟨S3,g5,g6,_,h⟩:=ib g3 g4 h;obtain⟨S',k1,k2,k3⟩:=ih _ _ _ _ hf' g6 h;refine⟨S',?_,k2,k3⟩
   have hd:eK uj P S.st o=some (v.av,S2.st):=by rw[<-g2];exact Dd (hf o aG) (by simpa using hn)
   simp only[Fa,sL];rw[hn,if_pos rfl,hd];simp only[af];rw[g5];exact k1
  |false=>rw[hn] at h;simp only[cond_false] at h;obtain⟨hp,h⟩:=dq h;obtain⟨v,S2,m1,m2,m3,m4,m5,h⟩:=qD (D:=uj) hΘ hS h;obtain⟨S3,g5,g6,_,h⟩:=ib m3 (by rw[m4]; exact m5) h;obtain⟨S',k1,k2,k3⟩:=ih _ _ _ _ hf' g6 h;refine⟨S',?_,k2,k3⟩;simp only[Fa,sL];rw[hn,if_neg (by simp),if_pos hp,m1];simp only[ax,af];rw[<-m2,g5];exact k1
theorem FJ (hΘ:eD P Θ) (hY:iJ P Y) (hm:P.follows .mixedOrders=true) {id:Nat} {ops:Array Oper} (hok:gJ P (.region id ops true)=true) (hS:S.ok) {κ:TS->Option ρ} {r:ρ} (h:GZ Θ Y ops.toList S κ=some r):
  kw P (.region id ops true) S.st (fun x S'=>x= .nor/\ ∃S1:TS,S'=S1.st/\S1.ok/\κ S1=some r):=by
 unfold GZ at h;simp only[gJ] at hok;cases hc:sM ops with
 |true=>rw[hc,if_pos rfl] at hok;rw[show sM ops.toList.toArray=true from hc] at h;simp only[cond_true] at h;obtain⟨S',h1,h2,h3⟩:=FI hΘ hY _ _ _ _ _ (zI hc) hS h;exact kw.chain hm hok h1 ⟨rfl,S',rfl,h2,h3⟩
 |false=>
 rw[hc,if_neg (by simp)] at hok;rw[show sM ops.toList.toArray=false from hc] at h;simp only[cond_false] at h;obtain⟨S0,h0,hS0,h⟩:=FG hΘ _ _ _ _ hS h;obtain⟨D,SV,ms,h1,h2,h3,h4⟩:=FE hΘ hY _ _ _ _ _ hS0 h;obtain⟨h5,h6⟩:=dq h4;rw[bB] at h5;obtain⟨S',h7,h8,h9⟩:=FF (D:=D) (ops:=ops) hΘ hY _ _ _ _ h3 h6;exact kw.draw h1 hm hok h0 h2 (Cj (FH hΘ) h5) h7 ⟨rfl,S',rfl,h8,h9⟩
def ez:Code->List Code
 | .seq a b=>ez a++ez b
 | .cond _ a b=>ez a++ez b
 | .block _ c=>ez c
 | .loop c=> [c]
 | _=> []
def fR (P:Program) (Λ:lW) (cs:List Code):Prop:= ∀c∈cs,∀ (S:TS) (ρ:Type) (κ:X->TS->Option ρ) (r:ρ),S.ok->Λ (fb c) S ρ κ=some r->kw P (.loop c) S.st (fun x S'=> ∃S1:TS,S'=S1.st/\S1.ok/\κ x S1=some r)
theorem rV (hΘ:eD P Θ) (hY:iJ P Y) (hm:P.follows .mixedOrders=true) {Λ:lW}: ∀ (c:Code) (S:TS) (κ:X->TS->Option ρ) (r:ρ),gJ P c=true->fR P Λ (ez c)->S.ok->pQ Θ Y Λ c S κ=some r->
  kw P c S.st (fun x S'=> ∃S1:TS,S'=S1.st/\S1.ok/\κ x S1=some r):=by
 intro c
 induction c with
 |skip=>intro S κ r _ _ hS h; exact kw.skip ⟨S,rfl,hS,h⟩
 |exit i=>intro S κ r _ _ hS h; exact kw.exit ⟨S,rfl,hS,h⟩
 |ret=>intro S κ r _ _ hS h; exact kw.ret ⟨S,rfl,hS,h⟩
 |region id ops dr=>
  intro S κ r hok _ hS h;cases dr with
  |false=>exact kw.region (Fx hΘ hY _ _ _ _ (fun o ho=>ar.1 hok o ho) hS h)
  |true=>refine (FJ hΘ hY hm hok hS h).mono (fun x S' hx=> ?_);obtain⟨rfl,hx⟩:=hx;exact⟨S',jK.refl,hx⟩
 |seq a b iha ihb=>
  intro S κ r hok hL hS h;simp only[gJ,an] at hok;have hLa:fR P Λ (ez a):=fun c hc=>hL c (bI _ hc);have hLb:fR P Λ (ez b):=fun c hc=>hL c (cr _ hc);unfold pQ at h;refine kw.seq ((iha S _ r hok.1 hLa hS h).mono (fun x S' hx=>⟨S',jK.refl,?_⟩));obtain⟨S1,rfl,h1,h2⟩:=hx;cases x with
  |nor=>exact ihb S1 κ r hok.2 hLb h1 h2
  |ret=>exact⟨S1,rfl,h1,h2⟩
  |ext i=>exact⟨S1,rfl,h1,h2⟩
 |cond t a b iha ihb=>
  intro S κ r hok hL hS h;simp only[gJ,an] at hok;have hLa:fR P Λ (ez a):=fun c hc=>hL c (bI _ hc);have hLb:fR P Λ (ez b):=fun c hc=>hL c (cr _ hc);unfold pQ at h;obtain⟨v,S1,h1,h2,h3,h4,h⟩:=sZ hS h;refine kw.cond h1 ?_;rw[<-h2];cases v with
  |true=>exact iha S1 κ r hok.1 hLa h3 h
  |false=>exact ihb S1 κ r hok.2 hLb h3 h
 |block i c ih=>
  intro S κ r hok hL hS h;unfold pQ at h;refine kw.block ((ih S _ r hok hL hS h).mono (fun x S' hx=>⟨S',jK.refl,?_⟩));obtain⟨S1,rfl,h1,h2⟩:=hx;cases x with
  |nor=>exact⟨S1,rfl,h1,h2⟩
  |ret=>exact⟨S1,rfl,h1,h2⟩
  |ext j=>
   simp only at h2 ⊢;cases hb:Nat.beq j i with
   |true=>rw[hb] at h2;rw[if_pos (ao hb)];exact⟨S1,rfl,h1,h2⟩
   |false=>rw[hb] at h2;rw[if_neg (by intro e; subst e; rw[ci] at hb; cases hb)];exact⟨S1,rfl,h1,h2⟩
 |loop c ih=>intro S κ r hok hL hS h;exact hL c (ay.2 rfl) S ρ κ r hS h
 | _=>intro S κ r hok; cases hok
end
end
section
open Go
section
variable {ρ:Type} {P:Program} {Θ:jE} {S:TS} {Y:qm}
theorem Bc (hS:S.ok) {gs:List dM} {et:Option Ty} {c:Cl} (hc:c.ok S.gh) {κ:Cl->List dM->TS->Option ρ} {r:ρ} (h:Fj S gs et c κ=some r):
  ∃c' gs' S',ry S.st (gs.map dM.tree) (zp et) c.av=some (Cl.av c',gs'.map dM.tree,TS.st S')/\S'.ok/\fr S.gh S'.gh/\fr (gs.map some) (gs'.map some)/\c'.ok (gs'.map some)/\κ c' gs' S'=some r:=by
 have new: ∀ (t:Ty) (l:List t.D) (n:Nat),n=l.length->(Cl.own ⟨gs.length,[]⟩ t.width 0 n true).ok ((gs++ [(⟨t,l,none⟩:dM)]).map some):=by intro t l n hn;refine⟨by simp,fun _=>⟨rfl,rfl,fun tr htr=> ?_⟩⟩;rw[bQ] at htr;have e:=iu (G:=gs.map some) (x:=some (⟨t,l,none⟩:dM)) gs.length;simp only[az,if_true] at e;have htr':eh (gs.map some++ [some (⟨t,l,none⟩:dM)]) gs.length=some tr:=htr;rw[e] at htr';cases htr';exact hn
 have grow: ∀ (x:dM),fr (gs.map some) ((gs++ [x]).map some):=fun x=>by rw[bQ]; exact fr.app _ _
 unfold Fj at h;split at h
 ·refine⟨_,_,_,rfl,hS,fr.refl _,fr.refl _,?_,h⟩;trivial
 ·rename_i t;refine⟨_,_,S,?_,hS,fr.refl _,grow _,new t [] 0 rfl,h⟩;simp only[Cl.av,ry,zp,az,bQ,aL,bX];rfl
 ·rename_i p sz lo len w t';obtain⟨pr,pl⟩:=p;cases pl with
  |cons a l=>cases h
  |nil=>
   simp only at h;obtain⟨h1,h'⟩:=dq h;clear h;simp only[an] at h1;have h2:S.fz<=pr:=aw h1.1;have h3:t'.width=sz:=ao h1.2;obtain⟨t,l,k1,k2,h⟩:=eL h';obtain⟨k3,h⟩:=dq h;have k3:t.width=sz:=ao k3
   have fin: ∀ (len:Nat),len<=l.length->ry S.st (gs.map dM.tree) (zp (some t')) (.own ⟨pr,[]⟩ sz 0 len)=some (.own ⟨gs.length,[]⟩ sz 0 len,(gs++ [(⟨t,l.take len,none⟩:dM)]).map dM.tree,({ S with gh:=ed S.gh pr none }:TS).st):=by
    intro len hlen;simp only[ry];have hrows:S.st.rows ⟨pr,[]⟩ sz=some (l.map t.row):=by rw[<-k3]; exact ia k1
    rw[if_pos ⟨trivial,by show sz=t'.width; exact h3.symm,trivial,h2⟩,hrows];simp only[af,az];rw[if_pos hlen,pU];simp only[zp,h3,bQ,aL,bX,dM.tree,bz,k3]
   cases w with
   |true=>obtain⟨e1,e2,e3⟩:=nI hc k2;refine⟨_,_,_,?_,TS.ok_gh hS (fr.gone _ _),fr.gone _ _,grow _,by rw[<-k3]; exact new t l _ rfl,h⟩;have:=fin l.length (au _);rw[bW] at this;simp only[Cl.av];rw[e2,e3];exact this
   |false=>
    simp only[cond_false] at h;obtain⟨h4,h⟩:=dY h;refine⟨_,_,_,?_,TS.ok_gh hS (fr.gone _ _),fr.gone _ _,grow _,by rw[<-k3]; exact new t (l.take len) _ rfl,h⟩;have hl: (l.take len).length=len:=by simp; omega
    simp only[Cl.av];rw[h4.1,hl];exact fin len h4.2
 ·cases h
theorem D6: ∀ (ets:List (Option Ty)) (cs:List Cl) (S:TS) (gs:List dM) (κ:List Cl->List dM->TS->Option ρ) (r:ρ),S.ok->(∀c∈cs,c.ok S.gh)->A0 S gs ets cs κ=some r->
  ∃cs' gs' S',mN S.st (gs.map dM.tree) (ets.map zp) (cs.map Cl.av)=some (cs'.map Cl.av,gs'.map dM.tree,TS.st S')/\S'.ok/\fr S.gh S'.gh/\fr (gs.map some) (gs'.map some)/\(∀c∈cs',c.ok (gs'.map some))/\κ cs' gs' S'=some r:=by
 intro ets
 induction ets with
 |nil=>
  intro cs S gs κ r hS hcs h;cases cs with
  |nil=>exact⟨[],gs,S,rfl,hS,fr.refl _,fr.refl _,(fun c hc=>by cases hc),h⟩
  |cons c cs=>cases h
 |cons et ets ih=>
  intro cs S gs κ r hS hcs h;cases cs with
  |nil=>cases h
  |cons c cs=>
   unfold A0 at h;obtain⟨c',g1,S1,h1,h2,h3,h4,h5,h⟩:=Bc hS (hcs c aG) h;obtain⟨cs',g2,S2,k1,k2,k3,k4,k5,h⟩:=ih cs S1 g1 _ r h2 (fun x hx=>Cl.ok_mono h3 (hcs x (aB _ hx))) h;refine⟨c'::cs',g2,S2,?_,k2,h3.trans k3,h4.trans k4,fun x hx=> ?_,h⟩
   ·simp only[aL,mN,h1,af,k1,ax]
   ·rcases aX.1 hx with rfl|hx
    ·exact Cl.ok_mono k4 h5
    ·exact k5 x hx
theorem FK (hΘ:eD P Θ) (hS:S.ok) {gs:List dM} {t:TypeId} {v:V} (hv:v.ok S.gh) {κ:V1->List dM->TS->Option ρ} {r:ρ} (h:G0 Θ S gs t v κ=some r):
  ∃v' gs' S',BH P S.st (gs.map dM.tree) t v.av=some (V1.av v',gs'.map dM.tree,TS.st S')/\S'.ok/\fr S.gh S'.gh/\fr (gs.map some) (gs'.map some)/\v'.ok (gs'.map some)/\κ v' gs' S'=some r:=by
 unfold G0 at h;split at h
 ·cases h
 ·rename_i ti hti;have hsh:=(hΘ _ _ hti).sh;split at h
  ·rename_i cs;obtain⟨cs',g1,S1,h1,h2,h3,h4,h5,h⟩:=D6 _ _ _ _ _ _ hS hv h;refine⟨.agg cs',g1,S1,?_,h2,h3,h4,h5,h⟩;simp only[V.av,V1.av,BH,hsh];rw[show ti.ty.shs=ti.ty.csh.map zp from rfl,h1];rfl
  ·rename_i c;obtain⟨c',g1,S1,h1,h2,h3,h4,h5,h⟩:=Bc hS hv h;refine⟨.cl c',g1,S1,?_,h2,h3,h4,h5,h⟩
   have e:BH P S.st (gs.map dM.tree) t (V.v (.cl c)).av=ry S.st (gs.map dM.tree) ((jm P 9 t).headD 0) c.av:=by
    cases c with
    |c x=>cases x<;>rfl
    | _=>rfl
   rw[e,hsh]
   have e2:ti.ty.shs.headD 0=zp (ti.ty.csh.headD none):=by
    unfold Ty.shs;cases ti.ty.csh with
    |nil=>rfl
    |cons a l=>cases a<;>rfl
   rw[e2];exact h1
  ·cases h
theorem yr (hΘ:eD P Θ): ∀ (rs:List (TypeId×V)) (S:TS) (gs:List dM) (κ:List V1->List dM->Option ρ) (r:ρ),S.ok->(∀x∈rs,x.2.ok S.gh)->nF Θ S gs rs κ=some r->
  ∃vs gs',w5 P S.st (gs.map dM.tree) (rs.map fun x=>(x.1,x.2.av))=some (vs.map V1.av,gs'.map dM.tree)/\fr (gs.map some) (gs'.map some)/\(∀v∈vs,v.ok (gs'.map some))/\vs.length=rs.length/\κ vs gs'=some r:=by
 intro rs
 induction rs with
 |nil=>intro S gs κ r hS hrs h; exact⟨[],gs,rfl,fr.refl _,(fun v hv=>by cases hv),rfl,h⟩
 |cons x rs ih=>
  intro S gs κ r hS hrs h;obtain⟨t,v⟩:=x;unfold nF at h;obtain⟨v',g1,S1,h1,h2,h3,h4,h5,h⟩:=FK hΘ hS (hrs _ aG) h;obtain⟨vs,g2,k1,k2,k3,k4,h⟩:=ih S1 g1 _ r h2 (fun x hx=>V.ok_mono h3 (hrs x (aB _ hx))) h;refine⟨v'::vs,g2,?_,h4.trans k2,fun y hy=> ?_,by simp[k4],h⟩
  ·simp only[aL,w5,h1,af,k1,ax]
  ·rcases aX.1 hy with rfl|hy
   ·exact V1.ok_mono k2 h5
   ·exact k3 y hy
theorem Bd (hΘ:eD P Θ) (hS:S.ok): ∀ (rs:List ResultVar) (ts:List TypeId) (κ:List (TypeId×V)->Option ρ) (r:ρ),ul Θ S rs ts κ=some r->
  ∃l:List (TypeId×V),rs.mapM (pP P S.st)=some (l.map fun x=>x.2.av)/\l.map (·.1)=ts/\(∀x∈l,x.2.ok S.gh)/\κ l=some r:=by
 intro rs
 induction rs with
 |nil=>
  intro ts κ r h;cases ts with
  |nil=>exact⟨[],rfl,rfl,(fun x hx=>by cases hx),h⟩
  |cons t ts=>cases h
 |cons a rs ih=>
  intro ts κ r h;cases ts with
  |nil=>cases a<;>cases h
  |cons t ts=>
   cases a with
   |tmp a=>
    unfold ul at h;obtain⟨l,h1,h2,h3,h⟩:=ih ts _ r h;refine⟨(t,fB S.env a)::l,?_,by simp[h2],fun x hx=> ?_,h⟩
    ·simp only[cI,h1,pP];rfl
    ·rcases aX.1 hx with rfl|hx
     ·exact rT hS a
     ·exact h3 x hx
   |cell a t'=>
    unfold ul at h
    have hw:0<P.cellsOf t':=by
     have h':=h;unfold xS at h';split at h'
     ·rename_i ti hti;rw[(hΘ _ _ hti).cells];exact Ty.width_pos _
     ·cases h'
    obtain⟨u,g1,g2,h⟩:=yc hΘ hS (rT hS a) h;obtain⟨l,h1,h2,h3,h⟩:=ih ts _ r h;refine⟨(t,u)::l,?_,by simp[h2],fun x hx=> ?_,h⟩
    ·simp only[cI,h1,pP];rw[if_pos hw];have :load P S.st t' (S.st.env a)=some u.av:=g1;rw[this];rfl
    ·rcases aX.1 hx with rfl|hx
     ·exact g2
     ·exact h3 x hx
theorem wl {α β γ:Type} (f:α×β->γ): ∀l:List (α×β),(l.map (·.1)).zip (l.map f)=l.map fun x=>(x.1,f x)
 | [] =>rfl
 |a::l=>by simp only[aL,List.zip_cons_cons,wl f l]
theorem Be (vs:List V1): (pR vs).av=sP (vs.map V1.av):=by
 match vs with
 | [] =>rfl
 | [v] =>rfl
 |v::u::vs=>rfl
theorem po: ∀ (args:List V1) (n t:Nat),(fB (jr n args) (n+t)).av=(args.map V1.av).getD t .dead
 | [],n,t=>by simp[jr,fB]; rfl
 |a::l,n,0=>by simp[jr,fB]; rfl
 |a::l,n,t+1=>by
  have :Nat.beq n (n+(t+1))=false:=by
   cases h:Nat.beq n (n+(t+1)) with
   |false=>rfl
   |true=>have:=ao h; omega
  simp only[jr,fB,this,cond_false];rw[show n+(t+1)=(n+1)+t by omega,po l (n+1) t];simp
theorem pp: ∀ (args:List V1) (n:Nat) (x:Nat×V),x∈jr n args-> ∃a∈args,x.2= .v a
 | [],n,x,h=>by cases h
 |a::l,n,x,h=>by
  simp only[jr,aX] at h;rcases h with rfl|h
  ·exact⟨a,aG,rfl⟩
  ·obtain⟨b,hb,he⟩:=pp l (n+1) x h;exact⟨b,aB _ hb,he⟩
theorem G4 (hΘ:eD P Θ) (hY:iJ P Y) (hm:P.follows .mixedOrders=true) {Λ:lW} {f:FuncId} {fn:Func} (hf:xJ P f=some fn) (hL: ∀c,fn.body=some c->fR P Λ (ez c)) {args:List V1} (ha: ∀a∈args,a.ok []) {res:V} {out:List dM}
  (h:HL Θ Y Λ fn args (fun v g=>some (v,g))=some (res,out)):ku P f (args.map V1.av) [] res.av (out.map dM.tree):=by
 unfold HL at h;split at h
 ·cases h
 ·rename_i c hc
  have hcok:gJ P c=true:=by
   unfold xJ at hf;simp only[aj] at hf;obtain⟨fn',g1,g2⟩:=hf;split at g2
   ·cases g2
   ·rename_i c' hc';split at g2
    ·cases g2
    ·rename_i hn;simp only[ae] at g2;subst g2;rw[hc] at hc';simp only[ae] at hc';subst hc';simp only[ba,not_or,da,cT] at hn;exact hn.2
  have hS0: ({ env:=jr 0 args,bx:= [],gh:= [],fz:=0,nt:=args.length+(fn.ntmps-args.length) }:TS).ok:=
   ⟨fun x hx=>by obtain⟨a,h1,h2⟩:=pp _ _ _ hx; rw[h2]; exact ha a h1,fun cs hcs=>by cases hcs⟩
  have hbeg: ({ env:=jr 0 args,bx:= [],gh:= [],fz:=0,nt:=args.length+(fn.ntmps-args.length) }:TS).st=uk fn.ntmps (args.map V1.av) [] :=by
   unfold TS.st uk;simp only[az,bE]
   congr 1
   funext t
   have:=po args 0 t;rw[aR] at this;exact this
  have hW:=rV hΘ hY hm c _ _ _ hcok (hL c hc) hS0 h;rw[hbeg] at hW
  have fb: ∀ (x:X) (S1:TS),S1.ok->(match x with | .ext _=>none| _=>ul Θ S1 fn.results.toList fn.resultTypes.toList fun rs=>nF Θ S1 [] rs fun vs gs=>some (pR vs,gs))=some (res,out)->
    (match x with | .ext _=>False| _=>rC P fn.results.toList fn.resultTypes.toList 0 S1.st=some (res.av,out.map dM.tree)):=by
   intro x S1 hS1 h
   have main: (ul Θ S1 fn.results.toList fn.resultTypes.toList fun rs=>nF Θ S1 [] rs fun vs gs=>some (pR vs,gs))=some (res,out)->rC P fn.results.toList fn.resultTypes.toList 0 S1.st=some (res.av,out.map dM.tree):=by
    intro h;obtain⟨l,h1,h2,h3,h⟩:=Bd (P:=P) hΘ hS1 _ _ _ _ h;obtain⟨vs,gs',k1,k2,k3,k4,h⟩:=yr (P:=P) hΘ _ _ _ _ _ hS1 h3 h;simp only[ae,am] at h;obtain⟨rfl,rfl⟩:=h;unfold rC;rw[h1];simp only[af,az]
    have hz: (fn.resultTypes.toList.zip (l.map fun x=>x.2.av))=l.map fun x=>(x.1,x.2.av):=by rw[<-h2];exact wl _ l
    rw[if_pos (by rw[<-h2]; simp),hz];have k1':w5 P S1.st [] (l.map fun x=>(x.1,x.2.av))=some (vs.map V1.av,gs'.map dM.tree):=k1;simp only[List.range_zero,bX,k1',ax,Be]
   cases x with
   |ext i=>cases h
   |nor=>exact main h
   |ret=>exact main h
  refine xK hf hc (hW.mono (fun x S' hx=>⟨S',jK.refl,?_⟩));obtain⟨S1,rfl,h1,h2⟩:=hx;have:=fb x S1 h1 h2;cases x<;>exact this
theorem yt (a:List V1) (t:Nat): (fB (jr 0 a) t).av=(a.map V1.av).getD t .dead:=by
 have:=po a 0 t
 rwa [aR] at this
theorem Bf (hΘ:eD P Θ) (hY:iJ P Y) (hm:P.follows .mixedOrders=true) {Λ:lW} {f:FuncId} {fn:Func} (hf:xJ P f=some fn) (hL: ∀c,fn.body=some c->fR P Λ (ez c)) {m:Nat} (hm1:m<=1) {el:Ty} {l:List el.D} {args:List V1} (ha: ∀a∈args,a.ok []) {res:V} {out:List dM}
  (h:Ca Θ Y Λ fn m el l args (fun v g=>some (v,g))=some (res,out)):jq P f (.own ⟨0,[]⟩ el.width 0 l.length::args.map V1.av) [.sl el.width (l.map el.row)] m res.av (out.map dM.tree):=by
 unfold Ca at h;split at h
 ·cases h
 ·rename_i c hc
  have hcok:gJ P c=true:=by
   unfold xJ at hf;simp only[aj] at hf;obtain⟨fn',g1,g2⟩:=hf;split at g2
   ·cases g2
   ·rename_i c' hc';split at g2
    ·cases g2
    ·rename_i hn;simp only[ae] at g2;subst g2;rw[hc] at hc';simp only[ae] at hc';subst hc';simp only[ba,not_or,da,cT] at hn;exact hn.2
  have hS0: ({ env:=jr 0 (.cl (.own ⟨0,[]⟩ el.width 0 l.length true)::args),bx:= [],gh:= [some ⟨el,l,none⟩],fz:=m,nt:=(args.length+1)+(fn.ntmps-(args.length+1)) }:TS).ok:=
   ⟨fun x hx=>by
    obtain⟨a,h1,h2⟩:=pp _ _ _ hx;rw[h2];rcases aX.1 h1 with rfl|h1
    ·refine⟨cF,fun _=>⟨rfl,rfl,fun tr htr=> ?_⟩⟩;have htr:some (⟨el,l,none⟩:dM)=some tr:=htr;cases htr;rfl
    ·exact V1.ok_mono (G:= []) ⟨bm _,fun r tr hr=>by cases hr⟩ (ha a h1),fun cs hcs=>by cases hcs⟩
  have hbeg: ({ env:=jr 0 (.cl (.own ⟨0,[]⟩ el.width 0 l.length true)::args),bx:= [],gh:= [some ⟨el,l,none⟩],fz:=m,nt:=(args.length+1)+(fn.ntmps-(args.length+1)) }:TS).st=B3 fn.ntmps (.own ⟨0,[]⟩ el.width 0 l.length::args.map V1.av) [.sl el.width (l.map el.row)] m:=by
   unfold TS.st B3 uk;simp only[az,aW,bE]
   congr 1
   ·funext t
    exact yt _ t
   ·funext r
    show (eh [some ⟨el,l,none⟩] r).map dM.tree= [T.sl el.width (l.map el.row)][r]?;unfold eh;rw[ew];cases r<;>rfl
  have hW:=rV hΘ hY hm c _ _ _ hcok (hL c hc) hS0 h;rw[hbeg] at hW
  have fin: ∀ (S1:TS),S1.ok-> ∀gs:List dM,((List.range m).map fun r=>(S1.st.gh r).getD .dd)=gs.map dM.tree-> ∀l,(fn.results.toList.mapM (pP P S1.st))=some (l.map fun x:TypeId×V=>x.2.av)->l.map (·.1)=fn.resultTypes.toList->(∀x∈l,x.2.ok S1.gh)->
    (nF Θ S1 gs l fun vs gs=>some (pR vs,gs))=some (res,out)->rC P fn.results.toList fn.resultTypes.toList m S1.st=some (res.av,out.map dM.tree):=by
   intro S1 hS1 gs hgs l h1 h2 h3 h;obtain⟨vs,gs',k1,k2,k3,k4,h⟩:=yr (P:=P) hΘ _ _ _ _ _ hS1 h3 h;simp only[ae,am] at h;obtain⟨rfl,rfl⟩:=h;unfold rC;rw[h1];simp only[af,az]
   have hz: (fn.resultTypes.toList.zip (l.map fun x=>x.2.av))=l.map fun x=>(x.1,x.2.av):=by rw[<-h2];exact wl _ l
   rw[if_pos (by rw[<-h2]; simp),hz,hgs,k1];simp only[ax,Be]
  have main: ∀ (S1:TS),S1.ok->(ul Θ S1 fn.results.toList fn.resultTypes.toList fun rs=>bif Nat.beq m 0 then nF Θ S1 [] rs fun vs gs=>some (pR vs,gs) else match eh S1.gh 0 with
    |some ⟨t,l',none⟩=>nF Θ S1 [⟨t,l',none⟩] rs fun vs gs=>some (pR vs,gs)
    | _=>none)=some (res,out)->rC P fn.results.toList fn.resultTypes.toList m S1.st=some (res.av,out.map dM.tree):=by
   intro S1 hS1 h0;obtain⟨l,h1,h2,h3,h⟩:=Bd (P:=P) hΘ hS1 _ _ _ _ h0;clear h0;cases hm0:Nat.beq m 0 with
   |true=>rw[hm0] at h;have e:m=0:=ao hm0;exact fin S1 hS1 [] (by rw[e]; rfl) l h1 h2 h3 h
   |false=>
    rw[hm0] at h;simp only[cond_false] at h
    have e:m=1:=by
     have :m≠0:=fun e=>by rw[e] at hm0; cases hm0
     omega
    split at h
    ·rename_i t l' hg
     exact fin S1 hS1 [⟨t,l',none⟩] (by
      rw[e];show [(S1.st.gh 0).getD .dd] =_
      have :S1.st.gh 0=some (dM.tree ⟨t,l',none⟩):=by show (eh S1.gh 0).map dM.tree=_;rw[hg];rfl
      rw[this];rfl) l h1 h2 h3 h
    ·cases h
  refine xN hf hc (by simpa using hm1) (hW.mono (fun x S' hx=>⟨S',jK.refl,?_⟩));obtain⟨S1,rfl,h1,h2⟩:=hx;cases x with
  |ext i=>cases h2
  |nor=>exact main S1 h1 h2
  |ret=>exact main S1 h1 h2
end
end
section
open Go
def rE:List Nat->Nat->Nat->Option Nat
 | [],_,_=>none
 |a::l,x,n=>bif Nat.beq a x then some n else rE l x (n+1)
def pq (bs ls:List Nat):Cl->Cl
 | .own p sz lo len w=>match rE ls p.r 0 with |some k=> .own ⟨k,p.l⟩ sz lo len w|none=> .dead
 | .ptrT p sz i j=>match rE ls p.r 0 with |some k=> .ptrT ⟨k,p.l⟩ sz i j|none=> .dead
 | .ptrB n j=>match rE bs n 0 with |some k=> .ptrB k j|none=> .dead
 |c=>c
def D7 (bs ls:List Nat):V1->V1
 | .cl c=> .cl (pq bs ls c)
 | .agg cs=> .agg (cs.map (pq bs ls))
 | .fn f cs=> .fn f (cs.map (pq bs ls))
def D8 (bs ls:List Nat):V->V
 | .v x=> .v (D7 bs ls x)
 | .tup _=>V.dead
def Bg:List Nat->List Nat->List Nat
 | [],acc=>acc
 |a::l,acc=>match rE acc a 0 with |some _=>Bg l acc|none=>Bg l (acc++ [a])
def to:List Nat->Bool
 | [] =>true
 |a::l=>(match rE l a 0 with |some _=>false|none=>true)&&to l
def IP:Cl->List Nat| .ptrB n _=> [n] | _=> []
def HP:Cl->List Nat| .own p _ _ _ _=> [p.r] | .ptrT p _ _ _=> [p.r] | _=> []
def V1.all:V1->List Cl| .cl c=> [c] | .agg cs=>cs| .fn _ cs=>cs
def V.all:V->List Cl| .v x=>x.all| .tup _=> []
def Bh (S:TS) (keep:List Nat):List Nat:=Bg (keep.flatMap fun t=>(fB S.env t).all.flatMap IP) []
def Gw (S:TS) (keep bs:List Nat):List Nat:=Bg (List.range S.fz++(keep.flatMap fun t=>(fB S.env t).all.flatMap HP)++bs.flatMap fun b=>((jC S.bx b).getD []).flatMap HP) []
def fC (S:TS) (keep bs ls:List Nat):TS where
 env:=keep.map fun t=>(t,D8 bs ls (fB S.env t))
 bx:=bs.map fun b=>((jC S.bx b).getD []).map (pq bs ls)
 gh:=ls.map fun r=>eh S.gh r
 fz:=S.fz
 nt:=S.nt
def wm (S:TS) (bs ls:List Nat):Bool:=to bs&&to ls&&bs.all (fun b=>Nat.blt b S.bx.length)&&HG (ls.take S.fz) (List.range S.fz)&&ls.all (fun r=>Nat.blt r S.gh.length)
def Ck (G:List (Option dM)):Cl->Cl
 | .own p sz lo len true=> .own p sz lo (match jC G p.r with |some (some tr)=>tr.l.length| _=>len) true
 |c=>c
def D9 (G:List (Option dM)):V1->V1
 | .cl c=> .cl (Ck G c)
 | .agg cs=> .agg (cs.map (Ck G))
 | .fn f cs=> .fn f (cs.map (Ck G))
def HQ (G:List (Option dM)):V->V
 | .v x=> .v (D9 G x)
 | .tup l=> .tup (l.map (D9 G))
def G5 (S:TS):TS:= { S with env:=S.env.map (fun x=>(x.1,HQ S.gh x.2)),bx:=S.bx.map (fun cs=>cs.map (Ck S.gh)) }
def qK {ρ:Type} (keep:List Nat) (S:TS) (κ:TS->Option ρ):Option ρ:=bif wm S (Bh S keep) (Gw S keep (Bh S keep)) then κ (G5 (fC S keep (Bh S keep) (Gw S keep (Bh S keep)))) else none
theorem qL: ∀ {l:List Nat} {x n k:Nat},rE l x n=some k->n<=k/\l[k-n]? =some x
 | [],x,n,k,h=>by cases h
 |a::l,x,n,k,h=>by
  simp only[rE] at h;cases hb:Nat.beq a x with
  |true=>rw[hb] at h;simp only[cond_true,ae] at h;subst h;exact⟨au _,by simp[ao hb]⟩
  |false=>rw[hb] at h;obtain⟨h1,h2⟩:=qL (l:=l) h;refine⟨by omega,?_⟩;rw[show k-n=(k-(n+1))+1 by omega,bL];exact h2
theorem vh: ∀ {l:List Nat} {x n:Nat},rE l x n=none->x∉l
 | [],x,n,_=>by simp
 |a::l,x,n,h=>by
  simp only[rE] at h;cases hb:Nat.beq a x with
  |true=>rw[hb] at h; cases h
  |false=>
   rw[hb] at h;have:=vh (l:=l) h;intro hm;rcases aX.1 hm with rfl|hm
   ·rw[ci] at hb; cases hb
   ·exact this hm
theorem pt: ∀ {l:List Nat},to l=true-> ∀ (i j x:Nat),l[i]? =some x->l[j]? =some x->i=j
 | [],_,i,j,x,hi,_=>by simp at hi
 |a::l,h,i,j,x,hi,hj=>by
  simp only[to,an] at h
  have hna:a∉l:=by
   have h1:=h.1;split at h1
   ·cases h1
   ·rename_i hp; exact vh hp
  cases i with
  |zero=>
   simp only[aD,ae] at hi;subst hi;cases j with
   |zero=>rfl
   |succ j=>simp only[bL] at hj; exact absurd (ap hj) hna
  |succ i=>
   simp only[bL] at hi;cases j with
   |zero=>simp only[aD,ae] at hj;subst hj;exact absurd (ap hi) hna
   |succ j=>simp only[bL] at hj;rw[pt h.2 i j x hi hj]
def Bt.ren (bt:Bt) (bs ls:List Nat):Bt where
 β:=fun p=>bt.β ⟨ls.getD p.r 0,p.l⟩
 κ:=fun p=>bt.κ ⟨ls.getD p.r 0,p.l⟩
 bb:=fun n=>bt.bb (bs.getD n 0)
 nb:=bs.length
 ng:=ls.length
 A:=bt.A
theorem wn {w:World} {bt:Bt} {bs ls:List Nat} {c:Cl} {u:Value} (h:VR w bt c.av u):VR w (bt.ren bs ls) (pq bs ls c).av u:=by
 have lt: ∀ {l:List Nat} {x k:Nat},rE l x 0=some k->k<l.length/\l.getD k 0=x:=by intro l x k hk;obtain⟨_,h2⟩:=qL hk;rw[Nat.sub_zero] at h2;exact⟨(ai.1 h2).1,by simp[aq,h2]⟩
 cases c with
 |c x=>
  cases x with
  |sc v=>cases h with |sc h=>exact .sc h
  |ls t l=>cases h with |ro h=>exact .ro h
 |em=>cases h with |em a=>exact .em a
 |own p sz lo len wh=>
  simp only[pq];split
  ·rename_i k hk;obtain⟨h1,h2⟩:=lt hk;have hp: (⟨ls.getD k 0,p.l⟩:dG)=p:=by rw[h2]
   have e1: (bt.ren bs ls).κ ⟨k,p.l⟩=bt.κ p:=by have e: (bt.ren bs ls).κ ⟨k,p.l⟩=bt.κ (dG.mk (ls.getD k 0) p.l):=rfl;rw[e,hp]
   have e2: (bt.ren bs ls).β ⟨k,p.l⟩=bt.β p:=by have e: (bt.ren bs ls).β ⟨k,p.l⟩=bt.β (dG.mk (ls.getD k 0) p.l):=rfl;rw[e,hp]
   cases h with
   |own hp' hc hkk ha=>exact .own h1 hc (by rw[e1]; exact hkk) (by rw[e2]; exact ha)
  ·exact .dead _
 |pro cs=>cases h with |pro cs hs hA hr ht=>exact .pro cs hs hA hr ht
 |ptrB n j=>
  simp only[pq];split
  ·rename_i k hk;obtain⟨h1,h2⟩:=lt hk;cases h with
   |ptrB j hn=>
    have :bt.bb n=(bt.ren bs ls).bb k:=by show bt.bb n=bt.bb (bs.getD k 0); rw[h2]
    rw[this];exact .ptrB j h1
  ·exact .dead _
 |ptrT p sz i j=>
  simp only[pq];split
  ·rename_i k hk;obtain⟨h1,h2⟩:=lt hk;have hp: (⟨ls.getD k 0,p.l⟩:dG)=p:=by rw[h2]
   cases h with
   |ptrT sz i j hp' hkk=>
    have e1:bt.β p=(bt.ren bs ls).β ⟨k,p.l⟩:=by show bt.β p=bt.β ⟨ls.getD k 0,p.l⟩; rw[hp]
    rw[e1];exact .ptrT sz i j h1 (by show _<bt.κ ⟨ls.getD k 0,p.l⟩; rw[hp]; exact hkk)
  ·exact .dead _
 |dead=>exact .dead _
theorem Ea {w:World} {bt:Bt} {bs ls:List Nat} {v:V1} {u:Value} (h:VR w bt v.av u):VR w (bt.ren bs ls) (D7 bs ls v).av u:=by
 have cells: ∀ (cs:List Cl) (us:List Value),us.length=cs.length->(∀ (k:Nat) (c:AV) (u:Value),(cs.map Cl.av)[k]? =some c->us[k]? =some u->VR w bt c u)-> ∀ (k:Nat) (c:AV) (u:Value),((cs.map (pq bs ls)).map Cl.av)[k]? =some c->us[k]? =some u->VR w (bt.ren bs ls) c u:=by intro cs us _ hr k c u hk hu;rw[al,al] at hk;simp only[ak] at hk;obtain⟨c1,⟨c0,hc0,rfl⟩,rfl⟩:=hk;exact wn (hr k c0.av u (by rw[al,hc0]; rfl) hu)
 cases v with
 |cl c=>exact wn h
 |agg cs=>
  simp only[V1.av] at h;cases h with
  |agg hl ho hr=>exact .agg (by simpa using hl) ho (cells cs _ (by simpa using hl) hr)
 |fn f cs=>
  simp only[V1.av] at h;cases h with
  |fn f hl hr=>exact .fn f (by simpa using hl) (cells cs _ (by simpa using hl) hr)
theorem FL {w:World} {bt:Bt} {bs ls:List Nat} {v:V} {u:Value} (h:VR w bt v.av u):VR w (bt.ren bs ls) (D8 bs ls v).av u:=by
 cases v with
 |v x=>exact Ea h
 |tup l=>exact .dead _
theorem vi (S:TS) (f:V->V): ∀ (keep:List Nat) (t:Nat),fB (keep.map fun t=>(t,f (fB S.env t))) t=V.dead\/fB (keep.map fun t=>(t,f (fB S.env t))) t=f (fB S.env t)
 | [],t=> .inl rfl
 |u::l,t=>by
  simp only[aL,fB];cases hb:Nat.beq u t with
  |true=>rw[ao hb]; exact .inr rfl
  |false=>exact vi S f l t
theorem ou (S:TS) (keep bs ls:List Nat) (r:Nat):eh (fC S keep bs ls).gh r=(ls[r]?).bind fun q=>eh S.gh q:=by show (jC (ls.map fun r=>eh S.gh r) r).getD none=_;rw[ew,al];cases ls[r]?<;>rfl
theorem yu {S:TS} {keep bs ls:List Nat} (h:wm S bs ls=true):jK S.st (fC S keep bs ls).st:=by
 unfold wm at h;simp only[an] at h;obtain⟨⟨⟨⟨hnb,hnl⟩,hbs⟩,hfz⟩,hlt⟩:=h;have hfz:=wg hfz;intro w0 W btI SI bt a w hl;have inv:=hl.inv
 have hls: ∀ (k:Nat),k<S.fz->ls[k]? =some k:=by
  intro k hk;have : (ls.take S.fz)[k]? =(List.range S.fz)[k]? :=by rw[hfz]
  rw[aY,if_pos hk,List.getElem?_range hk] at this;exact this
 have look: ∀p s rs,(fC S keep bs ls).st.look p= .sl s rs-> ∃q,ls[p.r]? =some q/\S.st.look ⟨q,p.l⟩= .sl s rs/\ls.getD p.r 0=q:=by
  intro p s rs hp;unfold St.look at hp
  have e: (fC S keep bs ls).st.gh p.r=((ls[p.r]?).bind fun q=>eh S.gh q).map dM.tree:=by show (eh _ _).map dM.tree=_;rw[ou]
  rw[e] at hp;cases hq:ls[p.r]? with
  |none=>rw[hq] at hp; cases hp
  |some q=>refine⟨q,rfl,?_,by simp[aq,hq]⟩;rw[hq] at hp;exact hp
 have box: ∀n cells,(fC S keep bs ls).st.bx n=some cells-> ∃b cs,bs[n]? =some b/\S.bx[b]? =some cs/\cells=(cs.map (pq bs ls)).map Cl.av/\bs.getD n 0=b:=by intro n cells hn;have hn': (jC (bs.map fun b=>((jC S.bx b).getD []).map (pq bs ls)) n).map (fun cs=>cs.map Cl.av)=some cells:=hn;rw[ew,al] at hn';simp only[ak] at hn';obtain⟨x,⟨b,hb,rfl⟩,rfl⟩:=hn';have hlt':b<S.bx.length:=aw (ar.1 hbs b (ap hb));refine⟨b,S.bx[b],hb,ah hlt',?_,by simp[aq,hb]⟩;rw[ew,ah hlt'];rfl
 have bxS: ∀ {b:Nat} {cs:List Cl},S.bx[b]? =some cs->S.st.bx b=some (cs.map Cl.av):=by intro b cs hb;show (jC S.bx b).map _=_;rw[ew,hb];rfl
 refine⟨bt.ren bs ls,?_⟩
 refine⟨{ os:=inv.os,tape:=inv.tape,output:=inv.output,size:=inv.size,keep:=inv.keep
          nb:=by show bs.length=_; simp[TS.st,fC]
          ng:=by show ls.length=_; simp[TS.st,fC]
          bx:=fun n cells hn=> ?_
          gh:=fun r t hr=> ?_
          tr:=fun p sz rows hp=> ?_
          inj:=fun p q s rs s' rs' hp hq hk hk' he=> ?_
          bbinj:=fun n m cs cs' hn hm he=> ?_
          bbtr:=fun n cs p s rs hn hp hk=> ?_
          alt:=inv.alt
          atr:=fun p s rs hp hk=> ?_
          abb:=fun n cs hn=> ?_ },⟨hl.er.1,fun t=> ?_⟩,hl.defers,hl.fz,?_,fun p hp=> ?_,fun r hr hn=> ?_⟩
 ·obtain⟨b,cs,h1,h2,rfl,h4⟩:=box n cells hn;obtain⟨g1,g2,arr,e,g3,g4,g5⟩:=inv.bx b _ (bxS h2);refine⟨by show n<_; have:=(ai.1 h1).1; simpa [TS.st,fC] using this,by show _<=bt.bb (bs.getD n 0); rw[h4]; exact g2,arr,e,by show w.heap[bt.bb (bs.getD n 0)]? =_; rw[h4]; exact g3,by simpa using g4,fun j v hj=> ?_⟩;rw[al,al] at hj;simp only[ak] at hj;obtain⟨c1,⟨c0,hc0,rfl⟩,rfl⟩:=hj;obtain⟨c,k1,k2,k3⟩:=g5 j c0.av (by rw[al,hc0]; rfl);exact⟨c,k1,wn k2,k3⟩
 ·have hr': (eh (fC S keep bs ls).gh r).map dM.tree=some t:=hr;rw[ou] at hr';show r<_;cases hq:ls[r]? with
  |none=>rw[hq] at hr'; cases hr'
  |some q=>have:=(ai.1 hq).1;simpa [TS.st,fC] using this
 ·obtain⟨q,h1,h2,h3⟩:=look p sz rows hp;obtain⟨g1,g2⟩:=inv.tr _ _ _ h2;have eκ: (bt.ren bs ls).κ p=bt.κ ⟨q,p.l⟩:=by show bt.κ ⟨ls.getD p.r 0,p.l⟩=_; rw[h3]
  have eβ: (bt.ren bs ls).β p=bt.β ⟨q,p.l⟩:=by show bt.β ⟨ls.getD p.r 0,p.l⟩=_; rw[h3]
  rw[eκ,eβ];refine⟨g1,fun hk=>⟨(g2 hk).1,?_⟩⟩;obtain⟨_,cs,e,k1,k2,k3,k4⟩:=g2 hk;refine⟨cs,e,by rw[eβ]; exact k1,by rw[eκ]; exact k2,k3,fun i r hi=> ?_⟩;obtain⟨m1,m2⟩:=k4 i r hi;refine⟨m1,fun j x hj=> ?_⟩;obtain⟨c,n1,n2⟩:=m2 j x hj;refine⟨c,n1,?_⟩;have f1: (bt.ren bs ls).κ (p.sub i j)=bt.κ (dG.sub ⟨q,p.l⟩ i j):=by show bt.κ ⟨ls.getD p.r 0,p.l++ [(i,j)]⟩=bt.κ ⟨q,p.l++ [(i,j)]⟩; rw[h3]
  have f2: (bt.ren bs ls).β (p.sub i j)=bt.β (dG.sub ⟨q,p.l⟩ i j):=by show bt.β ⟨ls.getD p.r 0,p.l++ [(i,j)]⟩=bt.β ⟨q,p.l++ [(i,j)]⟩; rw[h3]
  cases n2 with
  |sc h=>exact .sc h
  |dd u=>exact .dd _
  |sl q1 q2 q3=>exact .sl q1 (by rw[f1]; exact q2) (by rw[f2]; exact q3)
 ·obtain⟨p',h1,h2,h3⟩:=look p s rs hp;obtain⟨q',g1,g2,g3⟩:=look q s' rs' hq;have:=inv.inj ⟨p',p.l⟩ ⟨q',q.l⟩ _ _ _ _ h2 g2 (by rw[<-h3]; exact hk) (by rw[<-g3]; exact hk') (by rw[<-h3,<-g3]; exact he);simp only[dG.mk.injEq] at this;obtain⟨e1,e2⟩:=this;subst e1;have e3:=pt hnl _ _ _ h1 g1;cases p; cases q;simp only at e3 e2;rw[e3,e2]
 ·obtain⟨b,c,h1,h2,_,h4⟩:=box n cs hn;obtain⟨b',c',g1,g2,_,g4⟩:=box m cs' hm
  have:=inv.bbinj b b' _ _ (bxS h2) (bxS g2) (by have he':bt.bb (bs.getD n 0)=bt.bb (bs.getD m 0):=he;rw[h4,g4] at he';exact he')
  subst this;exact pt hnb _ _ _ h1 g1
 ·obtain⟨b,c,h1,h2,_,h4⟩:=box n cs hn;obtain⟨q,g1,g2,g3⟩:=look p s rs hp;have hk':0<bt.κ ⟨ls.getD p.r 0,p.l⟩:=hk;rw[g3] at hk';show bt.bb (bs.getD n 0)≠bt.β ⟨ls.getD p.r 0,p.l⟩;rw[h4,g3];exact inv.bbtr _ _ _ _ _ (bxS h2) g2 hk'
 ·obtain⟨q,g1,g2,g3⟩:=look p s rs hp;have hk':0<bt.κ ⟨ls.getD p.r 0,p.l⟩:=hk;rw[g3] at hk';show ¬bt.A (bt.β ⟨ls.getD p.r 0,p.l⟩);rw[g3];exact inv.atr _ _ _ g2 hk'
 ·obtain⟨b,c,h1,h2,_,h4⟩:=box n cs hn;show ¬bt.A (bt.bb (bs.getD n 0));rw[h4];exact inv.abb _ _ (bxS h2)
 ·show VR w _ (fB (fC S keep bs ls).env t).av _;rcases vi S (D8 bs ls) keep t with h1|h1
  ·have :fB (fC S keep bs ls).env t=V.dead:=h1;rw[this];exact .dead _
  ·have :fB (fC S keep bs ls).env t=D8 bs ls (fB S.env t):=h1;rw[this];exact FL (hl.er.2 t)
 ·show S.fz<=(fC S keep bs ls).gh.length;rcases bg S.fz with h0|h0
  ·omega
  ·have:=(ai.1 (hls (S.fz-1) (by omega))).1;simp[fC];omega
 ·have hp':p.r<S.fz:=by have:=hl.fz; have e:S.st.fz=S.fz:=rfl; omega
  have h3:ls.getD p.r 0=p.r:=by simp[aq,hls p.r hp']
  have:=hl.keep p hp;show bt.β ⟨ls.getD p.r 0,p.l⟩=_/\bt.κ ⟨ls.getD p.r 0,p.l⟩=_;rw[h3];exact this
 ·have hr':r<S.fz:=by have:=hl.fz; have e:S.st.fz=S.fz:=rfl; omega
  refine hl.gone r hr ?_;have hn': (eh (fC S keep bs ls).gh r).map dM.tree=none:=hn;rw[ou,hls r hr'] at hn';exact hn'
theorem rX {S:TS} {bs ls:List Nat} {keep:List Nat} {c:Cl} (h:c.ok S.gh): (pq bs ls c).ok (fC S keep bs ls).gh:=by
 have lt: ∀ {x k:Nat},rE ls x 0=some k->k< (fC S keep bs ls).gh.length/\ls[k]? =some x:=by intro x k hk;obtain⟨_,h2⟩:=qL hk;rw[Nat.sub_zero] at h2;exact⟨by have:=(ai.1 h2).1; simpa [fC] using this,h2⟩
 cases c with
 |own p sz lo len w=>
  simp only[pq];split
  ·rename_i k hk;obtain⟨h1,h2⟩:=lt hk;refine⟨h1,fun hw=> ?_⟩;obtain⟨a,b,c⟩:=h.2 hw;refine⟨a,b,fun tr htr=>c tr ?_⟩;rw[ou,h2] at htr;exact htr
  ·trivial
 |ptrT p sz i j=>
  simp only[pq];split
  ·rename_i k hk; exact (lt hk).1
  ·trivial
 |ptrB n j=>simp only[pq]; split<;>trivial
 | _=>trivial
theorem FM {S:TS} {bs ls:List Nat} {keep:List Nat} {v:V} (h:v.ok S.gh): (D8 bs ls v).ok (fC S keep bs ls).gh:=by
 have one: ∀ {v:V1},v.ok S.gh->(D7 bs ls v).ok (fC S keep bs ls).gh:=by
  intro v h;cases v with
  |cl c=>exact rX h
  |agg cs=>intro c hc; obtain⟨x,hx,rfl⟩:=aH.1 hc; exact rX (h x hx)
  |fn f cs=>intro c hc; obtain⟨x,hx,rfl⟩:=aH.1 hc; exact rX (h x hx)
 cases v with
 |v x=>exact one h
 |tup l=>trivial
theorem vj {S:TS} (hS:S.ok) (keep bs ls:List Nat): (fC S keep bs ls).ok:=by
 refine⟨fun x hx=> ?_,fun cs hcs c hc=> ?_⟩
 ·obtain⟨t,_,rfl⟩:=aH.1 hx;exact FM (rT hS t)
 ·obtain⟨b,_,rfl⟩:=aH.1 hcs;obtain⟨x,hx,rfl⟩:=aH.1 hc;cases hb:jC S.bx b with
  |none=>rw[hb] at hx; cases hx
  |some cs=>rw[hb] at hx;rw[ew] at hb;exact rX (hS.bx cs (ap hb) x hx)
theorem rY {G:List (Option dM)} {c:Cl} (h:c.ok G):Ck G c=c:=by
 unfold Ck;split
 ·rename_i p sz lo len;split
  ·rename_i tr htr;rw[(h.2 rfl).2.2 tr (by unfold eh; rw[htr]; rfl)]
  ·rfl
 ·rfl
theorem yw {G:List (Option dM)} {v:V1} (h:v.ok G):D9 G v=v:=by
 cases v with
 |cl c=>exact congrArg V1.cl (rY h)
 |agg cs=>exact congrArg V1.agg ((aE fun c hc=>rY (h c hc)).trans (List.map_id' cs))
 |fn f cs=>exact congrArg (V1.fn f) ((aE fun c hc=>rY (h c hc)).trans (List.map_id' cs))
theorem FN {G:List (Option dM)} {v:V} (h:v.ok G):HQ G v=v:=by
 cases v with
 |v x=>exact congrArg V.v (yw h)
 |tup l=>exact congrArg V.tup ((aE fun c hc=>yw (h c hc)).trans (List.map_id' l))
theorem FO {S:TS} (h:S.ok):G5 S=S:=by unfold G5;rw[aE (g:=id) (fun x hx=>by rw[FN (h.env x hx)]; rfl),aE (g:=id) (l:=S.bx) (fun cs hcs=>(aE fun c hc=>rY (h.bx cs hcs c hc)).trans (List.map_id' cs)),List.map_id,List.map_id]
theorem mB {ρ:Type} {S:TS} (hS:S.ok) {keep:List Nat} {κ:TS->Option ρ} {r:ρ} (h:qK keep S κ=some r): ∃S1:TS,jK S.st S1.st/\S1.ok/\κ S1=some r:=by unfold qK at h;obtain⟨h1,h⟩:=dq h;rw[FO (vj hS _ _ _)] at h;exact⟨_,yu h1,vj hS _ _ _,h⟩
end
end Go.Proofs.YtadpelkpdaohnaaGreatDoor.En
