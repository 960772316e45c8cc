import Derived.Test.YtadabkgmdllbfaaGreatZX7
namespace Go.Proofs.YtadabkgmdllbfaaGreat.En
section
open Go
section
variable {ρ:Type} {P:Program} {Θ:mN} {S:TS} {Y:wl}
theorem Gy (hS:S.ok) {ops:Array Oper} {o:Oper} {κ:Bool->TS->Option ρ} {r:ρ} (h:Jo S ops.toList o κ=some r): ∃b S1,nr S.st ops o=some b/\S1.st=S.st/\S1.ok/\S1.gh=S.gh/\κ b S1=some r:=by
 unfold Jo at h;split at h
 ·rename_i hg;exact⟨true,S,by unfold nr; rw[hg],rfl,hS,rfl,h⟩
 ·rename_i j want hg;split at h
  ·rename_i oj hj;split at h
   ·rename_i d hd;rw[fQ,cD] at hj;split at h
    ·rename_i he;refine⟨_,S,?_,rfl,hS,rfl,h⟩;unfold nr;rw[hg];simp only[hj,ae,hd];have :S.st.env d= .tup [] :=by show (iV S.env d).av=_; rw[he]; rfl
     rw[this]
    ·obtain⟨b,S1,h1,h2,h3,h4,h5⟩:=Bc hS h;refine⟨_,S1,?_,h2,h3,h4,h5⟩;unfold nr;rw[hg];simp only[hj,ae,hd];have :S.st.env d= .sc (.bool b):=h1;rw[this]
   ·cases h
  ·cases h
theorem jJ (hS:S.ok) {d:Option Tmp} {v:V} (hv:v.ok S.gh) {κ:TS->Option ρ} {r:ρ} (h:qw S d v κ=some r): ∃S1,S.st.put d v.av=some (TS.st S1)/\S1.ok/\S1.gh=S.gh/\κ S1=some r:=by
 unfold qw at h;split at h
 ·rename_i t;obtain⟨h1,h⟩:=dX h;have h1:t<S.nt:=ar h1;refine⟨{ S with env:=(t,v)::S.env },?_,⟨fun x hx=> ?_,hS.bx⟩,rfl,h⟩
  ·simp only[St.put];rw[if_pos (show t<S.st.nt from h1)]
   congr 1
   unfold TS.st
   congr 1
   funext u
   unfold eT;simp only[iV];cases hb:Nat.beq t u with
   |true=>simp_all
   |false=>
    have : ¬u=t:=by intro e; subst e; rw[cN] at hb; cases hb
    rw[if_neg this];rfl
  ·rcases bc.1 hx with rfl|hx
   ·exact hv
   ·exact hS.env x hx
 ·exact⟨S,rfl,hS,rfl,h⟩
theorem Mu {α:Type} {x y:Option α} {r:α} (h:Og x y none=some r):x=some r/\y=some r:=by grind [Og]
theorem Mv {α:Type} (x z:α):Og x x z=x:=by unfold Og; rw[if_pos rfl]
theorem Et {o:Oper} {t:TypeId} {x:Operand} (h:Aq o=some (t,x)): (∃t',o.op= .binOp .eql t x (.const (.slice none 0 0)) t')/\o.guard=none:=by
 unfold Aq at h
 grind
theorem Bq {o:Oper} {k:Nat} {g:FuncId} {caps:List Cl} {a:Ej} {us:List TypeId} {xs:List Operand} (h:A7 Y S o=some (k,g,caps,a,us,xs)):
  ∃f as ts x t,o.op= .call { callee:= .value f,args:=as,argTypes:=ts } /\as.toList=x::xs/\ts.toList=t::us/\yr (S.opd x)=some a/\g<iW/\
   ((∃a b,S.opd f= .v (.cl (.c (.sc (.func (.func g) a b))))/\caps= [])\/S.opd f= .v (.fn g caps)):=by
 unfold A7 at h;split at h
 ·rename_i f as ts hop;split at h
  ·rename_i x xs' t us' e1 e2;split at h
   ·rename_i a' hx;split at h
    ·rename_i g' a b hf;obtain⟨h2,h⟩:=dX h;simp only[al] at h2;simp only[af,an] at h;obtain⟨rfl,rfl,rfl,rfl,rfl,rfl⟩:=h;exact⟨f,as,ts,x,t,hop,e1,e2,hx,ar h2.1, .inl ⟨a,b,hf,rfl⟩⟩
    ·rename_i g' caps' hf;obtain⟨h2,h⟩:=dX h;simp only[al] at h2;simp only[af,an] at h;obtain⟨rfl,rfl,rfl,rfl,rfl,rfl⟩:=h;exact⟨f,as,ts,x,t,hop,e1,e2,hx,ar h2.1, .inr hf⟩
    ·cases h
   ·cases h
  ·cases h
 ·cases h
theorem JE (c:Cl): (zU c).av=yn 1 c.av:=by
 cases c with
 |c x=>cases x<;>rfl
 |own p sz lo len w=>
  cases h:Nat.ble 1 p.r with
  |true=>simp only[zU,h,cond_true,Cl.av,yn]; rw[if_pos (ar h)]
  |false=>simp only[zU,h,cond_false,Cl.av,yn]; rw[if_neg fun e=>by rw[cS e] at h; cases h]
 |ptrT p sz i j=>
  cases h:Nat.ble 1 p.r with
  |true=>simp only[zU,h,cond_true,Cl.av,yn]; rw[if_pos (ar h)]
  |false=>simp only[zU,h,cond_false,Cl.av,yn]; rw[if_neg fun e=>by rw[cS e] at h; cases h]
 | _=>rfl
theorem OC (c:Cl):F7 1 c.av=yn 1 c.av:=by
 cases c with
 |c x=>cases x<;>rfl
 | _=>rfl
theorem Gz (v:V1): (Gg v).av=F7 1 v.av:=by
 cases v with
 |cl c=>exact (JE c).trans (OC c).symm
 |agg cs=>simp_all [Gg,V1.av,F7,JE]
 |fn f cs=>rfl
theorem OD (v:V): (L0 v).av=LR 1 v.av:=by
 cases v with
 |v x=>
  refine (Gz x).trans ?_;cases x with
  |cl c=>cases c with
   |c x=>cases x<;>rfl
   | _=>rfl
  | _=>rfl
 |tup l=>simp_all [L0,V.av,LR,Gz]
theorem JF {x:eB} {G:List eB} {c:Cl} (h:c.ok ((x::G).map some)): (zU c).ok (G.map some):=by
 cases c with
 |own p sz lo len w=>
  cases hb:Nat.ble 1 p.r with
  |true=>
   have h1:=ar hb;simp only[zU,hb,cond_true];obtain⟨h2,h3⟩:=h;refine⟨by simp at h2 ⊢; omega,fun hw=> ?_⟩
   grind [fy,fQ]
  |false=>simp only[zU,hb,cond_false]; trivial
 |ptrT p sz i j=>
  cases hb:Nat.ble 1 p.r with
  |true=>have h1:=ar hb;simp only[zU,hb,cond_true];have h:p.r< ((x::G).map some).length:=h;show p.r-1< (G.map some).length;simp at h ⊢;omega
  |false=>simp only[zU,hb,cond_false]; trivial
 |c x=>cases x<;>trivial
 | _=>trivial
theorem GA {x:eB} {G:List eB} {v:V1} (h:v.ok ((x::G).map some)): (Gg v).ok (G.map some):=by
 cases v with
 |cl c=>exact JF h
 |agg cs=>intro c hc;obtain⟨y,hy,rfl⟩:=aJ.1 hc;exact JF (h y hy)
 |fn f cs=>trivial
theorem OE {x:eB} {G:List eB} {v:V} (h:v.ok ((x::G).map some)): (L0 v).ok (G.map some):=by
 cases v with
 |v x=>exact GA h
 |tup l=>intro c hc;obtain⟨y,hy,rfl⟩:=aJ.1 hc;exact GA (h y hy)
theorem DD (hΘ:fS P Θ) (hS:S.ok): ∀ (ts:List TypeId) (as:List Operand) (κ:List V1->Option ρ) (r:ρ),vG Θ S ts as κ=some r->ts.length=as.length
 | [],[],_,_,_=>rfl
 | [],_::_,_,_,h=>by simp[vG] at h
 | _::_,[],_,_,h=>by simp[vG] at h
 |t::ts,a::as,κ,r,h=>by unfold vG at h;obtain⟨v,_,h⟩:=Mh hΘ hS (mO hS a) h;rw[bz,bz,DD hΘ hS ts as _ r h]
structure qy (S S1:TS) (L:List Nat):Prop where
 env:S1.env=S.env
 bx:S1.bx=S.bx
 fz:S1.fz=S.fz
 nt:S1.nt=S.nt
 len:S1.gh.length=S.gh.length
 gh: ∀r,fy S1.gh r=if L.contains r then none else fy S.gh r
 was: ∀q∈L,∃tr,fy S.gh q=some tr
theorem qy.refl (S:TS):qy S S [] :=⟨rfl,rfl,rfl,rfl,rfl,fun _=>by simp,fun _ h=>by cases h⟩
theorem qy.one {q:Nat} {tr:eB} (h:fy S.gh q=some tr):qy S { S with gh:=fj S.gh q none } [q] :=
 ⟨rfl,rfl,rfl,rfl,by simp[gF],fun r=>by
  show fy (fj S.gh q none) r=_
  simp_all [o9],fun r hr=>by grind⟩
theorem qy.trans {S1 S2:TS} {L L':List Nat} (h:qy S S1 L) (k:qy S1 S2 L'):qy S S2 (L++L'):=
 ⟨k.env.trans h.env,k.bx.trans h.bx,k.fz.trans h.fz,k.nt.trans h.nt,k.len.trans h.len,fun r=>by
  rw[k.gh,h.gh]
  grind,fun q hq=>by
  rcases bf.1 hq with hq|hq
  ·exact h.was q hq
  ·obtain⟨tr,ht⟩:=k.was q hq;rw[h.gh] at ht
   grind⟩
theorem qy.apart {S1 S2:TS} {L L':List Nat} (h:qy S S1 L) (k:qy S1 S2 L') (h1:L.Nodup) (h2:L'.Nodup): (L++L').Nodup:=by rw[List.nodup_append];refine⟨h1,h2,fun a ha b hb e=> ?_⟩;subst e;obtain⟨tr,ht⟩:=k.was a hb;rw[h.gh,if_pos (by simpa using ha)] at ht;cases ht
theorem qy.le {S1:TS} {L:List Nat} (h:qy S S1 L):iA S.gh S1.gh:=⟨by rw[h.len]; exact aq _,fun r tr _ ht=>by
 rw[h.gh] at ht
 grind⟩
theorem qy.ok {S1:TS} {L:List Nat} (h:qy S S1 L) (hS:S.ok):S1.ok:=
 ⟨fun x hx=>V.ok_mono h.le (hS.env x (by rw[<-h.env]; exact hx)),fun cs hcs c hc=>Cl.ok_mono h.le (hS.bx cs (by rw[<-h.bx]; exact hcs) c hc)⟩
theorem qy.st {S1:TS} {L:List Nat} (h:qy S S1 L):S1.st=dropL S.st L:=by
 unfold TS.st dropL;rw[h.env,h.bx,h.fz,h.nt,h.len];simp only
 congr 1
 funext r
 rw[h.gh];cases L.contains r<;>rfl
theorem DE: ∀ (L:List Nat) (S:TS),L.Nodup->(∀r∈L,∃tr,fy S.gh r=some tr)->qy S { S with gh:=PN S.gh L } L
 | [],S,_,_=>qy.refl S
 |r::L,S,hnd,h=>by
  obtain⟨tr,htr⟩:=h r aL;rw[List.nodup_cons] at hnd;have h1:=qy.one htr
  have h2:=DE L { S with gh:=fj S.gh r none } hnd.2 (fun r' hr'=>by
   obtain⟨tr',htr'⟩:=h r' (aM _ hr');refine⟨tr',?_⟩;rw[h1.gh,if_neg]
   ·exact htr'
   ·intro hc;rw[bL,aE] at hc;subst hc;exact hnd.1 hr')
  exact h1.trans h2
theorem wt: ∀ (cs:List Cl) (ys:List C) (L:List Nat),vb S cs=some (ys,L)->(∀c∈cs,c.ok S.gh)->ys.length=cs.length/\(pQ ys).length=L.length/\
  (∀ (k r:Nat),L[k]? =some r-> ∃el l,(pQ ys)[k]? =some ⟨el,l,none⟩/\fy S.gh r=some ⟨el,l,none⟩)/\
  ∀ (w:World) (bt bt':Bt) (m:Nat),(∀ (k r:Nat),L[k]? =some r->bt'.β ⟨m+k,[]⟩=bt.β ⟨r,[]⟩/\bt'.κ ⟨m+k,[]⟩=bt.κ ⟨r,[]⟩/\m+k<bt'.ng)->
    ∀ (j:Nat) (c c':Cl) (u:Value),cs[j]? =some c->(wn ys m)[j]? =some c'->VR w bt c.av u->VR w bt' c'.av u
 | [],ys,L,h,_=>by simp only[vb,af,an] at h;obtain⟨rfl,rfl⟩:=h;exact⟨rfl,rfl,fun k r hk=>by simp at hk,fun w bt bt' m _ j c c' u hj=>by simp at hj⟩
 |c0::cs,ys,L,h,hok=>by
  unfold vb at h;split at h
  ·cases ‹_= []›
  ·rename_i v cs' e;simp only[bI] at e;obtain⟨rfl,rfl⟩:=e;split at h
   ·rename_i ys' L' hr;simp only[af,an] at h;obtain⟨rfl,rfl⟩:=h;obtain⟨h1,h2,h3,h4⟩:=wt cs ys' L' hr (fun c hc=>hok c (aM _ hc));refine⟨by simp[h1],h2,h3,fun w bt bt' m hm j c c' u hj hj' hv=> ?_⟩;cases j with
    |zero=>
     simp only[wn,aN,af] at hj hj';subst hj hj';cases hv with
     |sc h=>exact .sc h
    |succ j=>exact h4 w bt bt' m hm j c c' u (by simpa using hj) (by simpa [wn] using hj') hv
   ·cases h
  ·rename_i r sz lo len cs' e;simp only[bI] at e;obtain⟨rfl,rfl⟩:=e;split at h
   ·rename_i el l hg;obtain⟨hsz,h0⟩:=dX h;have hsz:sz=el.width:=ao hsz;clear h;split at h0
    ·rename_i ys' L' hr;simp only[af,an] at h0;obtain⟨rfl,rfl⟩:=h0;obtain⟨h1,h2,h3,h4⟩:=wt cs ys' L' hr (fun c hc=>hok c (aM _ hc));obtain⟨_,hlo⟩:=hok (.own ⟨r,[]⟩ sz lo len true) aL;obtain⟨_,hlo,hln⟩:=hlo rfl;have hln:=hln _ hg;simp only at hln;refine⟨by simp[h1],by simp[pQ,h2],fun k r' hk=> ?_,fun w bt bt' m hm j c c' u hj hj' hv=> ?_⟩
     ·cases k with
      |zero=>simp only[aN,af] at hk;subst hk;exact⟨el,l,rfl,hg⟩
      |succ k=>exact h3 k r' (by simpa using hk)
     ·cases j with
      |zero=>
       simp only[wn,aN,af] at hj hj';subst hj hj' hsz hlo hln;obtain⟨e1,e2,e3⟩:=hm 0 r rfl;rw[b0] at e1 e2 e3;cases hv with
       |own hp hc hk ha=>exact .own e3 hc (by rw[e2]; exact hk) (by rw[e1]; exact ha)
      |succ j=>exact h4 w bt bt' (m+1) (fun k r' hk=>by
        have:=hm (k+1) r' (by simpa using hk)
        rwa [show m+(k+1)=m+1+k by omega] at this) j c c' u (by simpa using hj) (by simpa [wn] using hj') hv
    ·cases h0
   ·cases h
  ·cases h
theorem rr: ∀ (ys:List C) (m:Nat),(wn ys m).length=ys.length
 | [],_=>rfl
 | .sc v::r,m=>by simp[wn,rr r m]
 | .ls t l::r,m=>by simp[wn,rr r (m+1)]
theorem GB: ∀ (L:List Nat) (S:TS) (out:List eB) (κ:TS->Option ρ) (r:ρ),L.Nodup->A8 S L out κ=some r->
  ∃Sp:TS,Sp.env=S.env/\Sp.bx=S.bx/\Sp.fz=S.fz/\Sp.nt=S.nt/\Sp.gh.length=S.gh.length/\out.length=L.length/\(∀ (k q:Nat),L[k]? =some q->fy Sp.gh q=out[k]?)/\(∀q,q∉L->fy Sp.gh q=fy S.gh q)/\iA S.gh Sp.gh/\κ Sp=some r
 | [],S,out,κ,r,_,h=>by
   cases out with
   |nil=>exact⟨S,rfl,rfl,rfl,rfl,rfl,rfl,fun k q hk=>by simp at hk,fun _ _=>rfl,iA.refl _,h⟩
   |cons x out=>simp[A8] at h
 |q::L,S,out,κ,r,hnd,h=>by
  rw[List.nodup_cons] at hnd;cases out with
  |nil=>simp[A8] at h
  |cons x out=>
   obtain⟨t,l',hole⟩:=x;cases hole with
   |some y=>simp[A8] at h
   |none=>
    simp only[A8] at h;split at h
    ·rename_i el l hg;obtain⟨ht,h⟩:=dX h;have ht:t=el:=by simpa using ht
     subst ht;obtain⟨hl,h⟩:=eY h;obtain⟨Sp,a1,a2,a3,a4,a5,a6,a7,a8,a9,h⟩:=GB L { S with gh:=fj S.gh q (some ⟨t,l',none⟩) } out κ r hnd.2 h;have hql:=te hg;have hG:iA S.gh (fj S.gh q (some ⟨t,l',none⟩)):=iA.put hg hl;refine⟨Sp,a1,a2,a3,a4,by rw[a5]; simp[gF],by simp[a6],fun k q' hk=> ?_,fun q' hq'=> ?_,hG.trans a9,h⟩
     ·cases k with
      |zero=>
       simp only[aN,af] at hk;subst hk;rw[a8 q hnd.1];show fy (fj S.gh q _) q=_
       simp_all [o9]
      |succ k=>grind
     ·rw[a8 q' (fun hm=>hq' (aM _ hm))];show fy (fj S.gh q _) q'=_
      simp_all [o9]
    ·cases h
theorem Br {res:V} (h:Oh res=true):res.av.plain=true/\ ∀G,res.ok G:=by
 unfold Oh at h;split at h
 ·exact⟨rfl,fun _=>trivial⟩
 ·exact⟨rfl,fun _ x hx=>by cases hx⟩
 ·cases h
theorem GC [dP] (hΘ:fS P Θ) (hY:kz P Y) (hS:S.ok) {o:Oper} {k:Nat} {g:FuncId} {caps:List Cl} {a:Ej} {us:List TypeId} {xs:List Operand} (ht:A7 Y S o=some (k,g,caps,a,us,xs)) {κ:TS->Option ρ} {r:ρ}
  (h:A9 Θ Y S k g caps a us xs o.dst κ=some r): ∃S3:TS,(∀n0,kw P n0 S.st o S3.st)/\S3.ok/\κ S3=some r:=by
 obtain⟨f,as,ts,x,t0,hop,has,hts,hx,hgk,hf⟩:=Bq ht
 have hcal:callee S.st f=some (g,caps.map Cl.av):=by unfold callee;rw[eg];rcases hf with ⟨_,_,hf,rfl⟩|hf<;>(rw[hf]; rfl)
 have others: ∀ {S0:TS} (hS0:S0.ok) (hG:iA S.gh S0.gh) {K:List V1->Option ρ},w9 Θ S0 us xs caps K=some r->
   ∃vs,us.length=xs.length/\tL P S0.st us xs (caps.map Cl.av)=vs.map V1.av/\K vs=some r:=by
  intro S0 hS0 hG K h;have hlen:=DD hΘ hS0 _ _ _ _ h;obtain⟨vs,h1,h⟩:=ul hΘ hS0 _ _ _ _ h
  have hcaps: ∀c∈caps,c.ok S0.gh:=by
   intro c hc;rcases hf with ⟨_,_,_,rfl⟩|hf
   ·cases hc
   ·have:=mO hS f;rw[hf] at this;exact Cl.ok_mono hG (this c hc)
  obtain⟨ks,h2,h⟩:=Bi hS0 _ _ _ hcaps h;refine⟨_,hlen,?_,h⟩;unfold tL;rw[h1,h2,bT,bF];rfl
 have stays: ∀ {q:Nat} {el:Ty} {l:List el.D} {vs:List V1} {av0:AV} {res:V} {out:List eB},fy S.gh q=some ⟨el,l,none⟩->us.length=xs.length->tL P ({ S with gh:=fj S.gh q none }:TS).st us xs (caps.map Cl.av)=vs.map V1.av->
   (∀ (w:World) (bt:Bt) (u:Value),VR w bt (opd S.st x) u->VR w (handG bt S.st w [⟨q,[]⟩]) av0 u)->jb P g (av0::vs.map V1.av) [.sl el.width (l.map el.row)] 1 res.av (out.map eB.tree)->res.ok (out.map some)->Jp S q el l res out o.dst κ=some r-> ∃S3:TS,(∀n0,kw P n0 S.st o S3.st)/\S3.ok/\κ S3=some r:=by
  intro q el l vs av0 res out hq hlen hargs hx hSK hro h;unfold Jp at h;split at h
  ·rename_i t' l' more;obtain⟨hc,h⟩:=dX h;have hc:=of_decide_eq_true hc;subst hc;obtain⟨hll,h⟩:=eY h;have hd:=qy.one hq;have hG:iA S.gh (fj S.gh q (some ⟨t',l',none⟩)):=iA.put hq hll;have hl0: (fj S.gh q (some ⟨t',l',none⟩)).length=S.gh.length:=by rw[gF]; simp
   have hrk: (qv S.gh.length (L0 res)).ok (fj S.gh q (some ⟨t',l',none⟩)++more.map some):=by
    have:=vg (G:=fj S.gh q (some ⟨t',l',none⟩)) (OE hro)
    rwa [hl0] at this
   obtain⟨S3,k1,k2,_,h⟩:=jJ (S:= { S with gh:=fj S.gh q (some ⟨t',l',none⟩)++more.map some }) (TS.ok_gh hS (hG.trans (iA.apps _ _))) hrk h;rw[show ({ S with gh:=fj S.gh q (some ⟨t',l',none⟩)++more.map some }:TS).st=_ from tf { S with gh:=fj S.gh q (some ⟨t',l',none⟩) } res.av more,vf,OD] at k1
   have htr:S.st.gh q=some (.sl t'.width (l.map t'.row)):=by show (fy S.gh q).map eB.tree=_;rw[hq];rfl
   have hql:=te hq
   have hGave:zS S.st ([q].map fun r=>⟨r,[]⟩) [.sl t'.width (l.map t'.row)] :=wi rfl (by simp) (fun k r hk=>by grind)
   refine⟨S3,fun n0=>kw.handG hop has hlen hcal (s9 [q]) (fun w0 W bt w hI=>hI.dropL [q]) hGave hx (m:=1) (res:=res.av) (out:=eB.tree ⟨t',l',none⟩::more.map eB.tree) (by rw[<-hd.st,hargs]; exact hSK)
    (A2 (Sp:=({ S with gh:=fj S.gh q (some ⟨t',l',none⟩) }:TS).st) hGave (by simp) rfl rfl rfl hl0 rfl rfl (fun k r hk=> ?_) (fun r hr=> ?_)) k1,k2,h⟩
   ·cases k with
    |zero=>simp_all [wo,eT]
    |succ k=>simp at hk
   simp_all [wo,eT]
  ·cases h
 have hxo:=mO hS x;cases a with
 |own q sz=>
  obtain⟨lo,len,hxv⟩: ∃lo len,S.opd x= .v (.cl (.own ⟨q,[]⟩ sz lo len true)):=by
   unfold yr at hx
   grind
  rw[hxv] at hxo;unfold A9 at h;simp only at h;split at h
  ·rename_i el l hq;obtain⟨hsz,h0⟩:=dX h;have hsz:sz=el.width:=ao hsz;clear h;subst hsz;have hd:=qy.one hq;obtain⟨vs,hlen,hargs,h⟩:=others (hd.ok hS) hd.le h0;obtain⟨_,hlo,hln⟩:=hxo.2 rfl;have hln:=hln _ hq;subst hlo hln
   have hav: ∀ (w:World) (bt:Bt) (u:Value),VR w bt (opd S.st x) u->VR w (handG bt S.st w [⟨q,[]⟩]) (.own ⟨0,[]⟩ el.width 0 l.length) u:=fun w bt u hv=>by
    rw[eg,hxv] at hv;have hv:VR w bt (.own ⟨q,[]⟩ el.width 0 l.length) u:=hv;cases hv with
    |own hp hc hk ha=>exact .own cE hc hk ha
   cases hk:Nat.beq k 1 with
   |true=>rw[hk] at h;simp only[cond_true] at h;obtain⟨res,out,g1,g2,h⟩:=hY _ _ _ _ _ h;exact stays hq hlen hargs hav (g1.io g rfl hgk).get g2 h
   |false=>
    rw[hk] at h;simp only[cond_false] at h;obtain⟨hfz0,h⟩:=dX h;have hfz:S.st.fz<=q:=ar hfz0;obtain⟨res,out,g1,g2,h⟩:=hY _ _ _ _ _ h;have g1:=(g1.mv g rfl hgk).get;have hl0: (fj S.gh q none).length=S.gh.length:=by rw[gF]; simp
    have hro: (qv S.gh.length res).ok (fj S.gh q none++out.map some):=by
     have:=vg (G:=fj S.gh q none) g2
     rwa [hl0] at this
    obtain⟨S3,k1,k2,_,h⟩:=jJ (S:= { S with gh:=fj S.gh q none++out.map some }) (TS.ok_gh (hd.ok hS) (iA.apps _ _)) hro h;rw[show ({ S with gh:=fj S.gh q none++out.map some }:TS).st=_ from tf { S with gh:=fj S.gh q none } res.av out,hd.st,vf,<-H0] at k1
    have htr:S.st.gh q=some (.sl el.width (l.map el.row)):=by show (fy S.gh q).map eB.tree=_;rw[hq];rfl
    exact⟨S3,fun n0=>kw.handG hop has hlen hcal (s9 [q]) (fun w0 W bt w hI=>hI.dropL [q]) (wi (ts:= [.sl el.width (l.map el.row)]) rfl (by simp) (fun k r hk=>by grind)) hav (m:=0) (by rw[<-hd.st,hargs]; exact g1) (KB fun r hr=>by rw[aE.1 hr]; exact hfz) k1,k2,h⟩
  ·cases h
 |pt q sz=>
  have hxv:S.opd x= .v (.cl (.ptrT ⟨q,[]⟩ sz 0 0)):=by
   unfold yr at hx;split at hx<;>simp only[af,Ej.pt.injEq,reduceCtorEq] at hx;obtain⟨rfl,rfl⟩:=hx
   assumption
  unfold A9 at h;simp only at h;split at h
  ·rename_i el l hq;obtain⟨hsz,h0⟩:=dX h;have hsz:sz=el.width:=ao hsz;clear h;subst hsz;have hd:=qy.one hq;obtain⟨vs,hlen,hargs,h⟩:=others (hd.ok hS) hd.le h0;obtain⟨res,out,g1,g2,h⟩:=hY _ _ _ _ _ h;refine stays hq hlen hargs (fun w bt u hv=> ?_) (g1.pt g rfl hgk).get g2 h;rw[eg,hxv] at hv;have hv:VR w bt (.ptrT ⟨q,[]⟩ el.width 0 0) u:=hv;cases hv with
   |ptrT _ _ _ hp hk=>exact .ptrT (p:=⟨0,[]⟩) _ 0 0 cE hk
  ·cases h
 |agg cs=>
  have hxv:S.opd x= .v (.agg cs):=by
   unfold yr at hx;split at hx<;>simp only[af,Ej.agg.injEq,reduceCtorEq] at hx;subst hx
   assumption
  rw[hxv] at hxo;unfold A9 at h;simp only at h;split at h
  ·rename_i ys L hga;obtain⟨hnd,h0⟩:=dX h;clear h;have hnd:L.Nodup:=Ao.1 hnd;obtain⟨g1,g2,g3,g4⟩:=wt cs ys L hga hxo
   have hd:=DE L S hnd (fun q hq=>by obtain⟨k,hk,hkq⟩:=aP hq;obtain⟨el,l,_,e⟩:=g3 k q (by grind);exact⟨_,e⟩)
   obtain⟨vs,hlen,hargs,h⟩:=others (hd.ok hS) hd.le h0;obtain⟨res,out,k1,k2,h⟩:=hY _ _ _ _ _ h;have k1:=(k1.io g rfl hgk).getA;obtain⟨hns,h⟩:=dX h;obtain⟨hpl,hrok⟩:=Br hns;obtain⟨Sp,a1,a2,a3,a4,a5,a6,a7,a8,a9,h⟩:=GB L S out _ r hnd h;have hSp:Sp.ok:=⟨fun x hx=>V.ok_mono a9 (hS.env x (by rw[<-a1]; exact hx)),fun cs hcs c hc=>Cl.ok_mono a9 (hS.bx cs (by rw[<-a2]; exact hcs) c hc)⟩
   obtain⟨S3,m1,m2,_,h⟩:=jJ hSp (hrok _) h
   have hGave:zS S.st (L.map fun r=>⟨r,[]⟩) ((pQ ys).map eB.tree):=wi (by simp[g2]) hnd (fun k q hk=>by obtain⟨el,l,e1,e2⟩:=g3 k q hk;refine⟨el.width,l.map el.row,by rw[ap,e1]; rfl,?_⟩;show (fy S.gh q).map eB.tree=_;rw[e2];rfl)
   have hps: (L.map fun r=>(⟨r,[]⟩:eK)).length=(pQ ys).length:=by rw[aK,g2]
   have hout: (out.map eB.tree).length=L.length:=by rw[aK,a6]
   refine⟨S3,fun n0=>kw.handG hop has hlen hcal (s9 L) (fun w0 W bt w hI=>hI.dropL L) hGave (av0:= .agg ((wn ys 0).map Cl.av)) (fun w bt u hv=> ?_) (res:=res.av) (out:=out.map eB.tree) (m:=L.length) (by rw[<-hd.st,hargs,<-g2]; exact k1)
    (A2 (Sp:=Sp.st) hGave (dz hout.symm) (by unfold TS.st; simp only[a1]) (by unfold TS.st; simp only[a2]) (by unfold TS.st; simp only[a2]) (by unfold TS.st; simp only[a5]) a3 a4 (fun k q hk=>by
      show (fy Sp.gh q).map eB.tree=_;rw[a7 k q hk,ap]) (fun q hq=>by
      show (fy Sp.gh q).map eB.tree=(fy S.gh q).map eB.tree;rw[a8 q hq])) (by grind [Dv,Jk]),m2,h⟩
   rw[eg,hxv] at hv;have hv:VR w bt (.agg (cs.map Cl.av)) u:=hv;cases hv with
   |agg hl ho hr=>
    rename_i us0;refine .agg (by grind [rr]) ho (fun k c u hk hu=> ?_);rw[ap] at hk;simp only[ak] at hk;obtain⟨c',hc',rfl⟩:=hk
    have hkl:k<cs.length:=by have:=(aj.1 hc').1;rw[rr,g1] at this;exact this
    refine g4 w bt _ 0 (fun i q hi=> ?_) k cs[k] c' u (ah hkl) hc' (hr k _ u (by grind) hu)
    have hpi: (L.map fun r=>(⟨r,[]⟩:eK))[(⟨0+i,[]⟩:eK).r]? =some ⟨q,[]⟩:=by rw[ap];show (L[0+i]?).map _=_;rw[aR,hi];rfl
    have hpl2:=wg hpi;refine⟨?_,?_,?_⟩
    ·show bt.β (Du _ _)=_;rw[hpl2];rfl
    ·show bt.κ (Du _ _)=_;rw[hpl2];rfl
    ·show 0+i< (L.map fun r=>(⟨r,[]⟩:eK)).length
     grind
  ·cases h
 |nest q i j sz lo len=>
  obtain⟨w0,hxv⟩: ∃w,S.opd x= .v (.cl (.own ⟨q,[(i,j)]⟩ sz lo len w)):=by
   unfold yr at hx
   grind
  rw[hxv] at hxo;unfold A9 at h;simp only at h;split at h
  ·rename_i t l hq;obtain⟨y,hy,h⟩:=ai.1 h;split at h
   ·rename_i el v hv;obtain⟨hsz,h0⟩:=dX h;have hsz:sz=el.width:=ao hsz;clear h;subst hsz;obtain⟨hll,h1⟩:=eY h0;clear h0;obtain⟨rfl,rfl⟩:=hll;have hql:=te hq;have hhole:iA S.gh (fj S.gh q (some ⟨t,l,some (i,j)⟩)):=iA.put hq rfl;obtain⟨vs,hlen,hargs,h⟩:=others (S0:= { S with gh:=fj S.gh q (some ⟨t,l,some (i,j)⟩) }) (TS.ok_gh hS hhole) hhole h1;clear h1;obtain⟨res,out,k1,k2,h⟩:=hY _ _ _ _ _ h;have k1:=(k1.io g rfl hgk).get;split at h
    ·rename_i t' v' _;obtain⟨hc,h⟩:=dX h;simp only[al,decide_eq_true_eq] at hc;obtain⟨rfl,hns⟩:=hc;obtain⟨hpl,hrok⟩:=Br hns;obtain⟨hvl,h⟩:=eY h;split at h
     ·rename_i z hz;have hG:iA S.gh (fj S.gh q (some ⟨t,l.set i z,none⟩)):=iA.put hq (by simp);obtain⟨S3,m1,m2,_,h⟩:=jJ (S:= { S with gh:=fj S.gh q (some ⟨t,l.set i z,none⟩) }) (TS.ok_gh hS hG) (hrok _) h
      have hrowy: (l.map t.row)[i]? =some ((t.flat y).map C.tree):=by rw[ap,hy];simp only[aH,t.row_flat]
      have hcell: ((t.flat y).map C.tree)[j]? =some (.sl t'.width (v.map t'.row)):=by rw[fQ] at hv;rw[ap,hv];rfl
      have hgq:S.st.gh q=some (.sl t.width (l.map t.row)):=by show (fy S.gh q).map eB.tree=_;rw[hq];rfl
      have hlook:S.st.look ⟨q,[(i,j)]⟩= .sl t'.width (v.map t'.row):=by unfold St.look;simp only[hgq,T.go,T.cell,aD,hrowy,bi,hcell]
      have hforget: ∀ (w0:World) (W:Nat->Prop) (bt:Bt) (w:World),fR w0 W bt S.st w->_:=fun w0 W bt w hI=>hI.forget hlook
      have hSm: ({ S with gh:=fj S.gh q (some ⟨t,l,some (i,j)⟩) }:TS).st=S.st.setAt ⟨q,[(i,j)]⟩ .dd:=by rw[wo S _ hql];unfold St.setAt;simp only[hgq,aH];rfl
      have hSp: ({ S with gh:=fj S.gh q (some ⟨t,l.set i z,none⟩) }:TS).st=S.st.setAt ⟨q,[(i,j)]⟩ (.sl t'.width (v'.map t'.row)):=by
       rw[wo S _ hql];unfold St.setAt;simp only[hgq,aH,T.put]
       congr 3
       show T.sl t.width ((l.set i z).map t.row)=_;rw[List.map_set,t.row_flat z,t.unflat_some _ _ hz,gF,List.map_set];simp only[aD,hrowy,bi];rfl
      rw[hSp] at m1;refine⟨S3,fun n0=>kw.handG hop has hlen hcal (Sm:=S.st.setAt ⟨q,[(i,j)]⟩ .dd) (ps:= [⟨q,[(i,j)]⟩]) ?_ (fun w0 W bt w hI=>(hforget w0 W bt w hI).1) (LS hlook) (av0:= .own ⟨0,[]⟩ t'.width 0 v.length) (fun w bt u hv=> ?_) (res:=res.av) (out:= [.sl t'.width (v'.map t'.row)]) (m:=1) (by rw[<-hSm,hargs]; exact k1) (LU hlook (by simpa using hvl)) (by rw[Dv hpl,List.drop_succ_cons,List.drop_nil,Jk]; exact m1),m2,h⟩
      ·refine⟨rfl,rfl,rfl,fun p s rs hp=> ?_⟩;rw[qp] at hp;by_cases hpr:p.r=q
       ·rw[if_pos hpr,hgq] at hp;simp only at hp
        rcases T.put_spec .dd [(i,j)] (.sl t.width (l.map t.row)) (.inl (by grind [St.look])) p.l s rs hp with ⟨m',hm,hgo⟩| ⟨rs0,e1,e2,e3,e4⟩
        ·rw[T.dd_go] at hgo; cases hgo
        ·refine⟨fun p' hp' hu=> ?_,rs0,by unfold St.look; rw[hpr,hgq]; exact e1⟩;rw[aE.1 hp'] at hu;obtain⟨_,m,b⟩:=hu;exact e3 m b.symm
       ·rw[if_neg hpr] at hp;refine⟨fun p' hp' hu=> ?_,rs,hp⟩;rw[aE.1 hp'] at hu;exact hpr hu.1
      ·rw[eg,hxv] at hv;have hv:VR w bt (.own ⟨q,[(i,j)]⟩ t'.width 0 v.length) u:=hv;cases hv with
       |own hp hc hk ha=>exact .own cE hc hk ha
     ·cases h
    ·cases h
   ·cases h
  ·cases h
theorem Mw {el:Ty} (hw:el.width=1) (hf:el.flatB=true) {z:el.D} (hz:el.unflat el.zcs=some z): ∃zv,el.zvs= [zv] /\ou zv=true/\el.row z= [.sc zv] :=by
 have hr:el.row z=el.zcs.map C.tree:=by rw[el.row_flat,el.unflat_some _ _ hz]
 rw[hr];clear hr hz z;cases el with
 |i k=>exact⟨_,rfl,rfl,rfl⟩
 |b=>exact⟨_,rfl,rfl,rfl⟩
 |s=>exact⟨_,rfl,rfl,rfl⟩
 |h=>exact⟨_,rfl,rfl,rfl⟩
 |st n=>cases n<;>first |exact⟨_,rfl,rfl,rfl⟩| (exfalso; revert hw; decide)| (exfalso; revert hf; decide)
 |ls t=>cases hf
theorem KM [dP] (hΘ:fS P Θ) (hS:S.ok) {ops:Array Oper} {o:Oper} {os:List Oper} {Post:St->Prop} {t:TypeId} {q sz lo len:Nat} (ht:Ek S o=some (t,q,sz,lo,len)) {κ:TS->Option ρ} {r:ρ}
  (ih: ∀S3:TS,S3.ok->κ S3=some r->zt P ops os S3.st Post) (h:H9 Θ S t q sz lo len o.dst κ=some r):zt P ops (o::os) S.st Post:=by
 unfold Ek at ht;split at ht
 ·rename_i as ts hop;split at ht
  ·cases ht
  ·rename_i hgd;split at ht
   ·rename_i x t' e1 e2;split at ht
    ·rename_i r' sz' lo' len' w hx;simp only[af,an] at ht;obtain⟨rfl,rfl,rfl,rfl,rfl⟩:=ht;have e1:as= #[x] :=by apply Array.ext'; simpa using e1
     have e2:ts= #[t'] :=by apply Array.ext'; simpa using e2
     subst e1 e2;unfold H9 at h;split at h
     ·rename_i ti hti;split at h
      ·rename_i el l hq;obtain⟨hc,h0⟩:=dX h;simp only[al,decide_eq_true_eq] at hc;obtain⟨⟨⟨hty,hw⟩,hsz⟩,hfl⟩:=hc;have hw:el.width=1:=ao hw;have hsz:sz'=1:=ao hsz;split at h0
       ·rename_i z hz;unfold iteP at h0;split at h0
        ·rename_i hle;obtain⟨elT',g1,g2,g3,g4,g5,g6⟩:=(hΘ _ _ hti).el el hty
         have hql:r'<S.gh.length:=by
          rcases cM r' S.gh.length with h'|h'
          ·exact h'
          ·rw[yz h'] at hq; cases hq
         have hG:iA S.gh (fj S.gh r' (some ⟨el,l.take lo'++List.replicate len' z++l.drop (lo'+len'),none⟩)):=iA.put hq (by simp; omega);obtain⟨S3,k1,k2,_,h⟩:=jJ (v:= .tup []) (TS.ok_gh hS hG) (fun x hx=>by cases hx) h0;rw[wo S _ hql] at k1;obtain⟨zv,hzv,hsc,hrow⟩:=Mw hw hfl hz
         have htr:S.st.gh r'=some (.sl 1 (l.map el.row)):=by show (fy S.gh r').map eB.tree=_;rw[hq];show some (T.sl el.width (l.map el.row))=_;rw[hw]
         have hxv:opd S.st x= .own ⟨r',[]⟩ 1 lo' len':=by rw[eg,hx,<-hsz]; rfl
         refine zt.clear hop hgd g1 (by rw[g6,hzv]) hsc hxv htr (by simpa using hle) ⟨S3.st,?_,ih S3 k2 h⟩;rw[<-k1]
         congr 1
         show _=({ S.st with gh:=eT S.st.gh r' (some (T.sl el.width ((l.take lo'++List.replicate len' z++l.drop (lo'+len')).map el.row))) }:St)
         simp_all
        ·cases h0
       ·cases h0
      ·cases h
     ·cases h
    ·cases ht
   ·cases ht
 ·cases ht
theorem OF [dP] (hΘ:fS P Θ) (hY:kz P Y) {ops:Array Oper}: ∀ (os:List Oper) (S:TS) (κ:TS->Option ρ) (r:ρ),(∀o∈os,mL P o=true)->S.ok->Ba Θ Y ops.toList os S κ=some r->
  zt P ops os S.st (fun S'=> ∃S1:TS,S'=S1.st/\S1.ok/\κ S1=some r):=by
 intro os
 induction os with
 |nil=>intro S κ r _ hS h; exact zt.nil ⟨S,rfl,hS,h⟩
 |cons o os ih=>
  intro S κ r hok hS h;unfold Ba at h;cases hn:Aq o with
  |some tx=>
   obtain⟨t,x⟩:=tx;rw[hn] at h;simp only at h;obtain⟨hs,h⟩:=dX h;obtain⟨⟨t',ho⟩,hg⟩:=Et hn;unfold Rt at hs;split at hs
   ·rename_i ti hti;split at hs
    ·rename_i e he;obtain⟨el,hel,_⟩:=(hΘ t ti hti).el e he;split at h
     ·rename_i t1 l hx
      have way: ∀ (b:Bool),(qw S o.dst (Gj b) fun S3=>Ba Θ Y ops.toList os S3 κ)=some r-> ∃S1,S.st.put o.dst (.sc (.bool b))=some S1/\zt P ops os S1 (fun S'=> ∃S1:TS,S'=S1.st/\S1.ok/\κ S1=some r):=by intro b hb;obtain⟨S3,g5,g6,_,h⟩:=jJ (v:=Gj b) hS trivial hb;exact⟨S3.st,g5,ih S3 κ r (fun x hx=>hok x (aM _ hx)) g6 h⟩
      have hxv:opd S.st x= .ro t1.width (l.map t1.row):=by rw[eg,hx]; rfl
      cases l with
      |nil=>
       obtain⟨a1,a2⟩:=Mu (show Og _ _ none=some r from h)
       grind [zt.eqnil]
      |cons y l=>exact zt.eqnil hel ho hg hxv (fun h=>by cases h) (way false h)
     ·cases h
    ·cases hs
   ·cases hs
  |none=>
  rw[hn] at h;simp only at h;cases hcl:Ek S o with
  |some z=>grind [KM]
  |none=>
  rw[hcl] at h;simp only at h;obtain⟨b,S1,h1,h2,h3,h4,h⟩:=Gy hS h;refine zt.cons (b:=b) h1 ?_;cases b with
  |true=>
   simp only[cond_true] at h;rw[if_pos rfl,<-h2];cases hh:A7 Y S1 o with
   |some z=>obtain⟨k,g,caps,a,us,xs⟩:=z;rw[hh] at h;obtain⟨S3,g1,g2,g3⟩:=GC hΘ hY h3 hh h;exact⟨S3.st,(g1 0).op,ih S3 κ r (fun x hx=>hok x (aM _ hx)) g2 g3⟩
   |none=>
   grind [uq,jJ,LO.one,one]
  |false=>simp only[cond_false] at h;obtain⟨S3,g5,g6,_,h⟩:=jJ (v:= .tup []) h3 (fun x hx=>by cases hx) h;rw[if_neg (by simp)];exact⟨S3.st,by rw[<-h2]; exact g5,ih S3 κ r (fun x hx=>hok x (aM _ hx)) g6 h⟩
theorem OG {D D':rg} {X:St} {o:Oper} (h:D o.dst=D' o.dst):dZ D P X o=dZ D' P X o:=by simp_all [dZ]
theorem JG {D D':rg} {X:St} {o:Oper} (h:D o.dst=D' o.dst):fK D P X o=fK D' P X o:=by simp_all [fK]
theorem Rz {D D':rg} {ops:Array Oper}: ∀ (os:List Oper) (X:St),(∀o∈os,D o.dst=D' o.dst)->Cy D P ops os X=Cy D' P ops os X:=by
 intro os
 induction os with
 |nil=>intro X _; rfl
 |cons o os ih=>grind [Cy,OG,JG]
theorem xg: ∀ (l m:List (Option eB)) (n:Nat),gone n l (l++m)= []
 | [],m,n=>by cases m<;>rfl
 |x::l,m,n=>by
  cases x with
  |none=>exact xg l m (n+1)
  |some y=>exact xg l m (n+1)
theorem Bs (l:List eB):L4 (l.map some)=l.map eB.tree:=by unfold L4;rw[bF];rfl
theorem JH (S:TS) (out:List eB):S.st.make ⟨S.st.ng,out.map eB.tree,[]⟩=({ S with gh:=S.gh++out.map some }:TS).st:=by
 rw[tf S .dead out];unfold St.make rj;simp only[aK]
 congr 1
theorem qy.make {S1:TS} {L:List Nat} (h:qy S S1 L) (x:eB):S.st.make ⟨S.st.ng,[x.tree],l4 L⟩=({ S1 with gh:=S1.gh++ [some x] }:TS).st:=by
 rw[Bd,h.st,h.len];unfold St.make dropL;simp only[az,my]
 congr 1
 funext r
 unfold eT;by_cases hr:r=S.gh.length
 ·simp_all [TS.st]
 ·rw[if_neg hr,if_neg (by show ¬ (S.gh.length<=r/\r<S.gh.length+1); omega)]
theorem JI: ∀ (l m x:List (Option eB)) (n:Nat) (L:List Nat),m.length=l.length->(∀k,k<l.length->(((∃y,l[k]? =some (some y))/\m[k]? =some none)↔(n+k)∈L))->gone n l (m++x)=(List.range' n l.length).filter fun r=>L.contains r
 | [],m,x,n,L,hl,_=>by have :m= [] :=bq hl;subst this;cases x<;>rfl
 |a::l,[],x,n,L,hl,_=>by cases hl
 |a::l,b::m,x,n,L,hl,h=>by
  have h0:=h 0 (Nat.zero_lt_succ _)
  have ih:=JI l m x (n+1) L (by simpa using hl) (fun k hk=>by
   have:=h (k+1) (by simpa using hk)
   grind)
  simp only[aN,af,b0] at h0;rw[bz,cz,List.filter_cons];cases a with
  |none=>
   have : ¬n∈L:=fun hn=>by grind
   rw[if_neg (by simpa using this),<-ih];cases b<;>rfl
  |some y=>
   cases b with
   |none=>have :n∈L:=h0.1 ⟨⟨y,rfl⟩,rfl⟩;rw[if_pos (by simpa using this),<-ih];rfl
   |some z=>
    have : ¬n∈L:=fun hn=>by have:=(h0.2 hn).2;cases this
    rw[if_neg (by simpa using this),<-ih];rfl
theorem Eu {L:List Nat} {N:Nat} (h: ∀r∈L,r<N):l4 L=(List.range N).filter fun r=>L.contains r:=by
 have top:DU L<=N:=by
  induction L with
  |nil=>exact ay _
  |cons a l ih=>grind [DU,List.mem_cons_self]
 unfold l4;obtain⟨k,rfl⟩: ∃k,N=DU L+k:=⟨N-DU L,by omega⟩
 rw[ci,ci,<-List.range'_append_1,ca]
 have : (List.range' (0+DU L) k).filter (fun r=>L.contains r)= [] :=by rw[List.filter_eq_nil_iff];intro r hr hc;have h1:=D6 (l:=L) (r:=r) (by simpa using hc);have h2:=(List.mem_range'_1.1 hr).1;omega
 rw[this,b7]
theorem qy.gone {S1:TS} {L:List Nat} (h:qy S S1 L) (x:List (Option eB)):gone 0 S.gh (S1.gh++x)=l4 L:=by
 rw[Eu (N:=S.gh.length) (fun r hr=>by obtain⟨tr,ht⟩:=h.was r hr;exact te ht),ci]
 refine JI _ _ _ _ _ h.len (fun k hk=> ?_);rw[aR];have g:=h.gh k;unfold fy at g;rw[fQ,fQ] at g;have hk1:k<S1.gh.length:=by rw[h.len]; exact hk
 rw[ah hk,ah hk1] at g ⊢;simp only[bi,af] at g ⊢;constructor
 ·grind
 ·intro hL;obtain⟨tr,ht⟩:=h.was k hL
  simp_all [fy,fQ]
theorem vi {G:List (Option eB)} {r j:Nat} {c:Cl} (h:c.ok G) (hr:G.length<=r):pI r j c=c:=by
 have hb: ∀p:eK,p.r<G.length->Nat.beq p.r r=false:=fun p hp=>by
  cases hx:Nat.beq p.r r with
  |false=>rfl
  |true=>have:=ao hx;omega
 cases c with
 |own p sz lo len w=>simp only[pI];rw[hb p h.1];split<;>rfl
 |ptrT p sz a b=>simp only[pI];rw[hb p h];split<;>rfl
 | _=>rfl
theorem qz {α:Type} {f:α->α}: ∀ {l:List α},(∀x∈l,f x=x)->l.map f=l
 | [],_=>rfl
 |a::l,h=>by rw[aV,h a aL,qz fun x hx=>h x (aM _ hx)]
theorem GD (hS:S.ok) {r j:Nat} (hr:S.gh.length<=r):S.kill r j=S:=by
 have v1: ∀v:V1,v.ok S.gh->rF r j v=v:=by
  intro v hv;cases v with
  |cl c=>simp only[rF]; rw[vi hv hr]
  |agg cs=>simp only[rF]; rw[qz fun c hc=>vi (hv c hc) hr]
  |fn f cs=>simp only[rF]; rw[qz fun c hc=>vi (hv c hc) hr]
 have e1:S.env.map (fun x=>(x.1,Dx r j x.2))=S.env:=by
  refine qz (fun x hx=> ?_);have hx:=hS.env x hx;obtain⟨t,v⟩:=x;cases v with
  |v x=>simp only[Dx]; rw[v1 x hx]
  |tup l=>simp only[Dx]; rw[qz fun c hc=>v1 c (hx c hc)]
 have e2:S.bx.map (fun cs=>cs.map (pI r j))=S.bx:=by exact qz (fun cs hcs=>qz (fun c hc=>vi (hS.bx cs hcs c hc) hr))
 unfold TS.kill;rw[e1,e2]
theorem OH (hS:S.ok) {S1:TS} {no j:Nat} (hno:S.gh.length<=no) {et:Option Ty} {c:Cl} {x:C} (hc:c.ok S.gh) (h:i9 S no j et c=some (x,S1)):
  ∃L,qy S S1 L/\L.Nodup/\l8 S.st (Gv et) c.av=some (x.tree,L):=by
 have wp: ∀t:Ty,¬Gv (some t)=0:=fun t e=>by have:=t.width_pos;have e':t.width=0:=e;omega
 cases c with
 |c y=>
  cases y with
  |sc v=>
   cases et with
   |none=>simp only[i9,af,an] at h;obtain⟨rfl,rfl⟩:=h;exact⟨[],qy.refl _,dH,rfl⟩
   |some t=>simp[i9] at h
  |ls t l=>cases et<;>simp[i9] at h
 |em=>
  cases et with
  |none=>simp[i9] at h
  |some t=>simp only[i9,af,an] at h;obtain⟨rfl,rfl⟩:=h;rw[GD hS hno];refine⟨[],qy.refl _,dH,?_⟩;unfold l8;rw[if_neg (wp t)];rfl
 |own p sz lo len wh=>
  obtain⟨pr,pl⟩:=p;cases wh with
  |false=>cases et<;>simp[i9] at h
  |true=>
   cases et with
   |none=>simp[i9] at h
   |some t=>
    cases pl with
    |cons a l=>simp[i9] at h
    |nil=>
     simp only[i9] at h;obtain⟨h1,h⟩:=dX h;simp only[al,bZ] at h1;obtain⟨⟨h1,h2⟩,h3⟩:=h1;have h1:t.width=sz:=ao h1;have h2:S.fz<=pr:=ar h2;split at h
     ·rename_i tr htr;split at h
      ·rename_i hh;obtain⟨h4,h⟩:=dX h;have h4':tr.t.width=sz:=ao h4;simp only[af,an] at h;obtain⟨rfl,rfl⟩:=h;have hg:=eB.look htr;obtain⟨tt,l,hole⟩:=tr;simp only at hh h4';subst hh;obtain⟨e1,e2,e3⟩:=uk hc (fun _=>hg);have hd:=qy.one hg;rw[GD (hd.ok hS) (by rw[hd.len]; exact hno)];refine⟨[pr],hd,by simp,?_⟩;unfold l8;rw[if_neg (wp t)];simp only[Cl.av]
       have hrows:S.st.rows ⟨pr,[]⟩ sz=some (l.map tt.row):=by rw[<-h4'];refine kg ?_;unfold St.look;show (match (fy S.gh pr).map eB.tree with |some t=>t.go [] |none=> .dd)=_;rw[hg];rfl
       rw[if_pos ⟨trivial,h1.symm,e2,h2⟩,hrows]
       simp_all [bJ,C.tree]
      ·cases h
     ·cases h
 |pro cs=>cases et<;>simp[i9] at h
 |ptrB n j=>cases et<;>simp[i9] at h
 |ptrT p sz a b=>cases et<;>simp[i9] at h
 |dead=>cases et<;>simp[i9] at h
theorem Ig {X Y:St} (hfz:Y.fz=X.fz) (hg: ∀r t,Y.gh r=some t->X.gh r=some t) {s:Nat} {v:AV} {y:T×List Nat} (h:l8 Y s v=some y):l8 X s v=some y:=by
 unfold l8 at h ⊢;split at h
 ·rename_i h0; rw[if_pos h0]; exact h
 ·rename_i h0;rw[if_neg h0];split at h
  ·exact h
  ·rename_i q s' lo len;split at h
   ·rename_i hc;rw[hfz] at hc;rw[if_pos hc]
    grind [St.rows,St.look]
   ·cases h
  ·cases h
theorem ur {X Y:St} (hfz:Y.fz=X.fz) (hg: ∀r t,Y.gh r=some t->X.gh r=some t): ∀ {ss:List Nat} {vs:List AV} {y:List T×List Nat},iU Y ss vs=some y->iU X ss vs=some y
 |s::ss,v::vs,y,h=>by unfold iU at h ⊢;simp only[ai,ak] at h ⊢;obtain⟨a,h1,b,h2,h3⟩:=h;exact⟨a,Ig hfz hg h1,b,ur hfz hg h2,h3⟩
 | [],[],_,h=>h
 | [],_::_,_,h=>h
 | _::_,[],_,h=>h
theorem zx {X Y:St} (hfz:Y.fz=X.fz) (hg: ∀r t,Y.gh r=some t->X.gh r=some t) {ss:List Nat}: ∀ {vss:List (List AV)} {y:List (List T)×List Nat},gZ Y ss vss=some y->gZ X ss vss=some y
 | [],_,h=>h
 |vs::vss,y,h=>by unfold gZ at h ⊢;simp only[ai,ak] at h ⊢;obtain⟨a,h1,b,h2,h3⟩:=h;exact⟨a,ur hfz hg h1,b,zx hfz hg h2,h3⟩
theorem qy.less {S1:TS} {L:List Nat} (h:qy S S1 L): ∀r t,S1.st.gh r=some t->S.st.gh r=some t:=by
 intro r t ht;rw[h.st] at ht
 grind [dropL]
theorem OI (no:Nat): ∀ (ets:List (Option Ty)) (cs:List Cl) (j:Nat) (S S1:TS) (xs:List C),S.ok->S.gh.length<=no->(∀c∈cs,c.ok S.gh)->pJ no j S ets cs=some (xs,S1)->
  ∃L,qy S S1 L/\L.Nodup/\iU S.st (ets.map Gv) (cs.map Cl.av)=some (xs.map C.tree,L):=by
 intro ets
 induction ets with
 |nil=>
  intro cs j S S1 xs hS hno hcs h;cases cs with
  |nil=>simp only[pJ,af,an] at h;obtain⟨rfl,rfl⟩:=h;exact⟨[],qy.refl _,dH,rfl⟩
  |cons c cs=>simp[pJ] at h
 |cons et ets ih=>
  intro cs j S S1 xs hS hno hcs h;cases cs with
  |nil=>simp[pJ] at h
  |cons c cs=>
   simp only[pJ] at h;split at h
   ·rename_i x S2 hx;obtain⟨L1,d1,n1,e1⟩:=OH hS hno (hcs c aL) hx;split at h
    ·rename_i xs' S3 hxs;simp only[af,an] at h;obtain⟨rfl,rfl⟩:=h;obtain⟨L2,d2,n2,e2⟩:=ih cs (j+1) S2 S3 xs' (d1.ok hS) (by rw[d1.len]; exact hno) (fun y hy=>Cl.ok_mono d1.le (hcs y (aM _ hy))) hxs;refine⟨L1++L2,d1.trans d2,d1.apart d2 n1 n2,?_⟩;simp only[aV,iU];rw[e1];simp only[ae];rw[ur (X:=S.st) (Y:=S2.st) d1.fz d1.less e2];rfl
    ·cases h
   ·cases h
theorem Mx (el:Ty): ∀ (vs:List V) (S S1:TS) (l:List el.D),S.ok->(∀v∈vs,v.ok S.gh)->rG el S vs=some (l,S1)->
  ∃L,qy S S1 L/\L.Nodup/\gZ S.st el.shs (vs.map fun v=>v.av.cells)=some (l.map el.row,L)/\l.length=vs.length/\ ∀v∈vs,v.av.cells.length=el.width/\v.av.isDead=false:=by
 intro vs
 induction vs with
 |nil=>intro S S1 l hS hv h;simp only[rG,af,an] at h;obtain⟨rfl,rfl⟩:=h;exact⟨[],qy.refl _,dH,rfl,rfl,fun v hv=>by cases hv⟩
 |cons v vs ih=>
  intro S S1 l hS hv h;cases v with
  |tup x=>simp[rG] at h
  |v x=>
   have hx:=hv (.v x) aL;simp only[rG] at h;split at h
   ·rename_i ws S2 hw
    have hcells: ∀c∈x.cells,c.ok S.gh:=by
     intro c hc;cases x with
     |cl y=>rw[aE.1 hc]; exact hx
     |agg cs=>exact hx c hc
     |fn f cs=>rw[aE.1 hc]; trivial
    obtain⟨L1,d1,n1,e1⟩:=OI _ _ _ _ _ _ _ hS (aq _) hcells hw
    have hw':el.csh.length=x.cells.length/\ ∀c∈x.cells,c≠ .dead:=by obtain⟨_,m2,_,m4,_⟩:=Bm S.gh.length 0 0 0 el.csh x.cells 0 S S2 ws [x.cells.map fun c=>T.ofSc c.av] (x.cells.map fun c=>T.ofSc c.av) hS hcells hw rfl (by simp) (fun k c hk=>by grind);exact⟨m2,m4⟩
    split at h
    ·rename_i y ys S3 hy hys;simp only[af,an] at h;obtain⟨rfl,rfl⟩:=h;obtain⟨L2,d2,n2,e2,e3,e4⟩:=ih S2 S3 ys (d1.ok hS) (fun u hu=>V.ok_mono d1.le (hv u (aM _ hu))) hys
     have hsh:el.shs=el.csh.map Gv:=by unfold Ty.shs;refine aI fun c _=> ?_;cases c<;>rfl
     have hav: (V.v x).av.cells=x.cells.map Cl.av:=by
      cases x with
      |cl c=>
       simp only[V.av,V1.av,V1.cells,aV,cB];cases c with
       |c y=>cases y<;>rfl
       | _=>rfl
      |agg cs=>rfl
      |fn f cs=>exact absurd rfl (hw'.2 .dead (aE.2 rfl))
     refine⟨L1++L2,d1.trans d2,d1.apart d2 n1 n2,?_,by simp[e3],fun u hu=> ?_⟩
     ·simp only[aV,gZ];rw[hav,hsh,e1];simp only[ae];rw[<-hsh,zx (X:=S.st) (Y:=S2.st) d1.fz d1.less e2];simp only[aH];rw[el.row_flat,el.unflat_some _ _ hy]
     ·rcases bc.1 hu with rfl|hu
      ·refine⟨?_,?_⟩
       ·grind [wq]
       ·cases x with
        |cl c=>
         have:=hw'.2 c (aE.2 rfl);cases c with
         |c y=>cases y<;>rfl
         |dead=>exact absurd rfl this
         | _=>rfl
        |agg cs=>rfl
        |fn f cs=>rfl
      ·exact e4 u hu
    ·cases h
   ·cases h
theorem Ih (hΘ:fS P Θ) {t:TypeId} (h:Ri Θ t=true): ∃ti el elT',la Θ t=some ti/\ti.ty= .ls el/\sS P t=some elT'/\P.cellsOf elT'=el.width/\P.bytesOf elT'=ti.el/\0<ti.el/\np P 9 elT'=el.shs/\xY P elT'=some el.zvs:=by
 unfold Ri at h;split at h
 ·rename_i ti hti;split at h
  ·rename_i el he;obtain⟨elT',g⟩:=(hΘ _ _ hti).el el he;exact⟨ti,el,elT',hti,he,g⟩
  ·cases h
 ·cases h
theorem OJ {el:Ty} {v:Cl} (hv:v.ok S.gh) {κ:List el.D->TS->Option ρ} {r:ρ} (h:L3 S el v κ=some r):
  ∃more L S1,qy S S1 L/\iB S.st el.width el.flatB v.av=some (more.map el.row,L)/\κ more S1=some r:=by
 unfold L3 at h;split at h
 ·exact⟨[],[],S,qy.refl _,rfl,h⟩
 ·rename_i t l;obtain⟨h1,h⟩:=dX h;split at h
  ·rename_i l' hl;obtain⟨e,hl⟩:=gx hl;subst e;simp only at hl;subst hl;refine⟨l,[],S,qy.refl _,?_,h⟩;simp only[Cl.av,C.av,iB];rw[if_pos ⟨trivial,rX h1 l⟩]
  ·cases h
 ·rename_i p sz lo len w;obtain⟨h0,h⟩:=dX h;have h0:el.width=sz:=ao h0;cases hfl:el.flatB with
  |true=>
   rw[hfl] at h;simp only[cond_true] at h;obtain⟨t,l,h1,h2,h⟩:=gz h;split at h
   ·rename_i l' hl;obtain⟨e,hl⟩:=gx hl;subst e;simp only at hl;subst hl
    have src: ∀ (lo len:Nat),lo+len<=l.length->iB S.st t.width true (.own p sz lo len)=some (((l.drop lo).take len).map t.row,[]):=by intro lo len hle;simp only[iB];rw[if_pos h0.symm,kg h1];simp only[ae,aK];rw[if_neg (by simp),if_pos ⟨hle,by grind [rX]⟩];simp[cq,cH]
    cases w with
    |true=>
     obtain⟨e1,e2,e3⟩:=uk hv h2;refine⟨l,[],S,qy.refl _,?_,h⟩
     grind [Cl.av]
    |false=>simp only[cond_false] at h;obtain⟨h3,h⟩:=eY h;exact⟨_,[],S,qy.refl _,src lo len h3,h⟩
   ·cases h
  |false=>
   rw[hfl] at h;simp only[cond_false] at h;split at h
   ·rename_i hpl;obtain⟨h1,h'⟩:=dX h;clear h;simp only[al] at h1;obtain⟨rfl,hfz⟩:=h1;have hfz:S.fz<=p.r:=ar hfz;obtain⟨t,l,g1,g2,h⟩:=gz h';split at h
    ·rename_i l' hl;obtain⟨e,hl⟩:=gx hl;subst e;simp only at hl;subst hl;obtain⟨e1,e2,e3⟩:=uk hv g2;refine⟨l,[p.r],_,qy.one (g2 e1),?_,h⟩;simp only[Cl.av,iB];rw[if_pos h0.symm,kg g1];simp only[ae,aK];rw[if_pos ⟨trivial,e1,e2,e3,hfz⟩]
    ·cases h
   ·cases h
 ·cases h
theorem My {el:Ty} {v:Cl} (hv:v.ok S.gh) (hroot:Jq (.v (.cl v))=true) {more:List el.D} {κ:List el.D->TS->Option ρ} {r:ρ} (h:Gi S el v more κ=some r):
  ∃ (l0:List el.D) (cons:List Nat) (S':TS),ot S.st el.width v.av=some (l0.map el.row,cons)/\qy S S' cons/\κ (l0++more) S'=some r:=by
 unfold Gi at h;split at h
 ·exact⟨[],[],S,rfl,qy.refl _,h⟩
 ·rename_i p sz lo len w;obtain⟨pr,pl⟩:=p;cases pl with
  |cons a l=>cases hroot
  |nil=>
   obtain⟨h0,h'⟩:=dX h;clear h;simp only[al] at h0;have hfz:S.fz<=pr:=ar h0.1;have hsz:el.width=sz:=ao h0.2;simp only at h';obtain⟨t,l,h1,h2,h⟩:=gz h';split at h
   ·rename_i l' hl;obtain⟨e,hl⟩:=gx hl;subst e;simp only at hl;subst hl
    have base: ∀ (len:Nat),¬l.length<len->ot S.st t.width (.own ⟨pr,[]⟩ sz 0 len)=some ((l.take len).map t.row,[pr]):=by intro len hlen;simp only[ot];rw[if_pos ⟨hsz.symm,trivial,trivial,hfz⟩,kg h1];simp only[ae,aK];rw[if_neg hlen,cq]
    cases w with
    |true=>
     obtain⟨e1,e2,e3⟩:=uk hv h2;refine⟨l,[pr],_,?_,qy.one (h2 rfl),h⟩
     grind [Cl.av]
    |false=>
     simp only[cond_false] at h;obtain⟨h3,h⟩:=eY h;obtain⟨h4,h⟩:=yu h;refine⟨l.take len,[pr],_,?_,qy.one (h2 rfl),h⟩
     grind [Cl.av]
   ·cases h
 ·cases h
theorem JJ [dP] (hΘ:fS P Θ) (hY:kz P Y) (hS:S.ok) {o:Oper} (hn:gv o=true) (hf:Oi Θ o=true) (hb:Jr S o=true) {κ:V->TS->Option ρ} {r:ρ} (h:tM Θ Y S o κ=some r):
  ∃D v0 v adds cons S',kv P D/\fK D P S.st o=some (v0,adds,cons)/\shift S.st.ng v0=V.av v/\S.st.make ⟨S.st.ng,adds,cons⟩=TS.st S'/\wm S S'=⟨S.st.ng,adds,cons⟩/\S'.ok/\v.ok S'.gh/\κ v S'=some r:=by
 obtain⟨dst,op,ty,pos,aft,gd⟩:=o;cases op with
 |buildSlice t len parts=>
  obtain⟨ti,el,elT',hti,he,g1,g2,g3,g4,g5,g6⟩:=Ih hΘ hf;unfold tM at h;simp only[hti,he] at h;obtain⟨hb',h'⟩:=dX h;clear h
  have hnr: ((parts.toList.map fun x=>S.opd x.2).any A6)=false:=by have hb: (!(parts.toList.map fun x=>S.opd x.2).any A6)=true:=hb;simpa using hb
  rw[hnr] at h';simp only[cond_false] at h';split at h'
  ·rename_i l S1 hp
   have hvok: ∀v∈parts.toList.map (fun x=>S.opd x.2),v.ok S.gh:=fun v hv=>by obtain⟨y,_,rfl⟩:=aJ.1 hv;exact mO hS _
   obtain⟨L,d,hnd,m1,m2,m3⟩:=Mx el _ S S1 l hS hvok hp;simp only[al] at hb';have hb1:len*el.width<=1048576:=ar hb'.1;have hb2:=Er hb'.2
   have hlen:l.length=len:=by rw[m2];have:=congrArg List.length hb2;simpa using this
   refine⟨Ep, .own ⟨0,[]⟩ el.width 0 len,_,[.sl el.width (l.map el.row)],l4 L,{ S1 with gh:=S1.gh++ [some ⟨el,l,none⟩] },ik,?_,?_,d.make ⟨el,l,none⟩,?_,TS.ok_gh (d.ok hS) (iA.app _ _),?_,h'⟩
   ·simp only[fK,g1,ae]
    rw[if_pos ⟨by rw[g2]; exact hb1,hb2,by rw[g2]; exact el.width_pos,by rw[g6]; rfl,by rw[ax];intro y hy;obtain⟨q1,q2⟩:=m3 (S.opd y.2) (aJ.2 ⟨y,hy,rfl⟩);simp only[eg,q1,q2,g2];rfl⟩]
    have e: (parts.toList.map fun x=>(opd S.st x.2).cells)=(parts.toList.map fun x=>S.opd x.2).map fun v=>v.av.cells:=by rw[bF];exact aI fun x _=>by simp only[eg,Function.comp]
    rw[e,g5,m1];simp only[ae];rw[if_pos (Ao.2 hnd),g2]
   ·simp only[shift,jC,ke,V.av,V1.av,Cl.av,aR,hlen];rw[d.len];rfl
   ·unfold wm;simp only;rw[d.gone,cx (by rw[d.len]; exact aq _),cm (by rw[d.len]; exact aq _)];rfl
   ·refine⟨by simp,fun _=>⟨rfl,rfl,fun tr htr=> ?_⟩⟩;rw[ky,if_pos rfl] at htr;cases htr;rfl
  ·cases h'
 |call c=>
  obtain⟨cl,as,ts⟩:=c;cases cl with
  |invoke a b=>cases hn
  |value f=>
   unfold tM at h;simp only at h
   have fin: ∀ (g:FuncId) (caps:List AV) (vs:List V1),g<iW->callee S.st f=some (g,caps)->args P S.st ts as caps=vs.map V1.av->Y g vs ρ (fun res out=>κ (qv S.gh.length res) { S with gh:=S.gh++out.map some })=some r->
     ∃D v0 v adds cons S',kv P D/\fK D P S.st ⟨dst, .call { callee:= .value f,args:=as,argTypes:=ts },ty,pos,aft,gd⟩=some (v0,adds,cons)/\shift S.st.ng v0=V.av v/\S.st.make ⟨S.st.ng,adds,cons⟩=TS.st S'/\wm S S'=⟨S.st.ng,adds,cons⟩/\S'.ok/\v.ok S'.gh/\κ v S'=some r:=by
    intro g caps vs hg h1 h2 h3;obtain⟨res,out,h4,h5,h6⟩:=hY _ _ _ _ _ h3;have h4:=h4.fn hg;refine⟨KI dst g (vs.map V1.av) (res.av,out.map eB.tree),res.av,_,out.map eB.tree,[],_,Bf h4,?_,?_,JH S out,?_,TS.ok_gh hS (iA.apps _ _),vg h5,h6⟩
    ·simp_all [fK,JA]
    ·rw[vf]; rfl
    ·unfold wm;simp only[xg,cx (aq _),List.drop_length,aY,Bs];rfl
   unfold Jn at h;split at h
   ·rename_i g x y hf';obtain⟨hg,h⟩:=dX h;have hg:g<iW:=ar hg;obtain⟨vs,h1,h⟩:=ul hΘ hS _ _ _ _ h;refine fin g [] vs hg ?_ ?_ h
    ·unfold callee;rw[eg,hf'];rfl
    grind [args]
   ·rename_i g caps hf';obtain⟨hg,h⟩:=dX h;have hg:g<iW:=ar hg;obtain⟨vs,h1,h⟩:=ul hΘ hS _ _ _ _ h
    have hcaps: ∀c∈caps,c.ok S.gh:=by have:=mO hS f;rw[hf'] at this;exact this
    obtain⟨cs,h2,h⟩:=Bi hS _ _ _ hcaps h;refine fin g (caps.map Cl.av) (vs++cs.map .cl) hg ?_ ?_ h
    ·unfold callee;rw[eg,hf'];rfl
    ·unfold args;rw[h1,h2,bT,bF];rfl
   ·cases h
  |builtin b=>
   cases b with
   |append=>
    unfold tM at h;simp only at h;split at h
    ·rename_i s x t t' e1 e2;have hbb: ((match ts.toList with | [t,t'] =>Nat.beq t t'| _=>true)&&(match as.toList with |s::_=>Jq (S.opd s)| [] =>true))=true:=hb;rw[e1,e2] at hbb;simp only[al] at hbb;rw[hbb.1] at h;simp only[cond_true] at h;have h':=h;have ht:t=t':=ao hbb.1;clear h;have e1:as= #[s,x] :=by apply Array.ext'; simpa using e1
     have e2:ts= #[t,t'] :=by apply Array.ext'; simpa using e2
     subst e1 e2;subst ht;obtain⟨ti,el,elT',hti,he,g1,g2,g3,g4,g5,g6⟩:=Ih hΘ hf;unfold Of at h';simp only[hti] at h';split at h'
     ·rename_i el' sv xv he' hs hx;rw[he] at he';cases he';have hsv:=mO hS s;rw[hs] at hsv;have hxv:=mO hS x;rw[hx] at hxv;obtain⟨more,L,S1,d1,q1,h⟩:=OJ (show xv.ok S.gh from hxv) h';have hroot:Jq (.v (.cl sv))=true:=by rw[<-hs]; exact hbb.2
      obtain⟨l0,cons,S2,q2,d2,h⟩:=My (show sv.ok S1.gh from Cl.ok_mono d1.le hsv) hroot h;obtain⟨hbd,h⟩:=eY h;have hlen: (l0++more).length<=2 ^ 40:=aO (Nat.le_mul_of_pos_right _ g4) hbd;have hll: (l0++more).length=l0.length+more.length:=by simp
      have d:=d1.trans d2;refine⟨Ep, .own ⟨0,[]⟩ el.width 0 (l0.length+more.length),_,[.sl el.width ((l0++more).map el.row)],l4 (L++cons),{ S2 with gh:=S2.gh++ [some ⟨el,l0++more,none⟩] },ik,?_,?_,d.make ⟨el,l0++more,none⟩,?_,TS.ok_gh (d.ok hS) (iA.app _ _),?_,h⟩
      ·simp only[fK];rw[if_pos trivial,g1];simp only[ae,g2,g5,vh,eg,hs,hx];show (iB S.st el.width el.flatB xv.av).bind _=_;rw[q1];simp only[ae];show (ot (dropL S.st L) el.width sv.av).bind _=_;rw[<-d1.st,q2];simp only[ae,aK];rw[if_pos ⟨by rw[g3,<-hll]; exact hbd,by rw[<-hll]; exact hlen,el.width_pos,by rw[xd g2 g5 g6]; rfl⟩,bT]
      ·simp only[shift,jC,ke,V.av,V1.av,Cl.av,aR,hll];rw[d.len];rfl
      ·unfold wm;simp only;rw[d.gone,cx (by rw[d.len]; exact aq _),cm (by rw[d.len]; exact aq _)];rfl
      ·refine⟨by simp,fun _=>⟨rfl,rfl,fun tr htr=> ?_⟩⟩;rw[ky,if_pos rfl] at htr;cases htr;rfl
     ·cases h'
    ·cases h
   | _=>cases hn
 |makeSlice t l c=>
  unfold tM at h;simp only at h;split at h
  ·rename_i ti hti;split at h
   ·rename_i el he;obtain⟨elT',g1,g2,g3,g4,g5,g6⟩:=(hΘ _ _ hti).el el he;obtain⟨n,h1,h⟩:=td h;obtain⟨m,h2,h⟩:=td h;split at h
    ·rename_i z hz;obtain⟨hb,h⟩:=eY h;have hz':=Ty.unflat_some _ _ _ hz
     have hzr:el.row z=List.zipWith zc el.shs el.zvs:=by rw[el.row_flat,hz',Bo]
     refine⟨Ep, .own ⟨0,[]⟩ el.width 0 n.toNat,_,[(⟨el,List.replicate n.toNat z,none⟩:eB)].map eB.tree,[],{ S with gh:=S.gh++ [(⟨el,List.replicate n.toNat z,none⟩:eB)].map some },ik,?_,?_,JH S _,?_,TS.ok_gh hS (iA.apps _ _),?_,h⟩
     ·simp only[fK,g1,ae,eg,h1,h2];rw[xd g2 g5 g6];simp only[ae]
      have hn:n<=n*(ti.el:Int):=by
       have h1e: (1:Int)<=ti.el:=by omega
       have:=cP h1e hb.1
       rwa [Int.mul_one] at this
      rw[if_pos ⟨hb.1,hb.2.1,by rw[g3,Int.mul_comm]; exact hb.2.2,Int.le_trans hn hb.2.2⟩,g2,<-hzr];simp[eB.tree]
     ·simp only[shift,jC,ke,V.av,V1.av,Cl.av,aR];rfl
     ·unfold wm;simp only[xg,cx (aq _),List.drop_length,aY,Bs];rfl
     ·refine⟨by simp,fun _=>⟨rfl,by simp,fun tr htr=> ?_⟩⟩;rw[show [(⟨el,List.replicate n.toNat z,none⟩:eB)].map some= [some ⟨el,List.replicate n.toNat z,none⟩] from rfl,ky,if_pos rfl] at htr;cases htr;simp
    ·cases h
   ·cases h
  ·cases h
 | _=>cases hn
end
end
section
open Go
section
variable {ρ:Type} {P:Program} {Θ:mN} {S:TS} {Y:wl}
open Classical in
noncomputable def xh (d:Option Tmp) (D1 D2:rg):rg:=fun d'=>if d'=d then D1 d' else D2 d'
theorem GF [dP] {d:Option Tmp} {D1 D2:rg} (h1:kv P D1) (h2:kv P D2):kv P (xh d D1 D2):=by
 intro d' f args gs res out h;unfold xh at h;split at h
 ·exact h1 _ _ _ _ _ _ h
 ·exact h2 _ _ _ _ _ _ h
theorem Mz (d:Option Tmp) (D1 D2:rg):xh d D1 D2 d=D1 d:=by unfold xh; rw[if_pos rfl]
theorem MA {d d':Option Tmp} (D1 D2:rg) (h:d'≠d):xh d D1 D2 d'=D2 d':=by unfold xh; rw[if_neg h]
theorem OK [dP] (hΘ:fS P Θ) (hY:kz P Y) {ops:Array Oper}: ∀ (os:List Oper) (S:TS) (ms:List iK) (κ:TS->List iK->Option ρ) (r:ρ),S.ok->Gk Θ Y ops.toList os S ms κ=some r->
  ∃D SV ms',kv P D/\Cy D P ops os S.st=some (TS.st SV,ms')/\SV.ok/\κ SV (ms++ms')=some r:=by
 intro os
 induction os with
 |nil=>intro S ms κ r hS h; exact⟨Ep,S,[],ik,rfl,hS,by rw[b7]; exact h⟩
 |cons o os ih=>
  intro S ms κ r hS h;unfold Gk at h;cases hst:dU o with
  |true=>
   rw[hst] at h;simp only[cond_true] at h;obtain⟨D,SV,ms',h1,h2,h3,h4⟩:=ih _ _ _ _ hS h;refine⟨D,SV,⟨S.gh.length,[],[]⟩::ms',h1,?_,h3,?_⟩
   ·simp only[Cy,hst,if_true,h2,aH];rfl
   grind
  |false=>
   rw[hst] at h;simp only[cond_false] at h;cases hbo:fB o with
   |true=>
    rw[hbo] at h;simp only[cond_true] at h;cases hgn:o.guard.isNone with
    |false=>rw[hgn] at h; cases h
    |true=>
    rw[hgn] at h;simp only[cond_true] at h;obtain⟨S3,g5,g6,_,h⟩:=jJ (v:=V.v (.cl (.ptrB (S.bx.length-1-fY os) 0))) hS trivial h;obtain⟨D,SV,ms',k1,k2,k3,k4⟩:=ih _ _ _ _ g6 h;refine⟨D,SV,⟨S.gh.length,[],[]⟩::ms',k1,?_,k3,?_⟩
    ·simp only[Cy,hst,aX,if_false,hbo,if_true,hgn];rw[show S.st.put o.dst (.ptrB (S.st.nb-1-fY os) 0)=some S3.st from g5];simp only[ae,k2,aH];rfl
    grind
   |false=>
   rw[hbo] at h;simp only[cond_false] at h;obtain⟨b,S1,h1,h2,h3,h4,h⟩:=Gy hS h;have hng:S.st.ng=S1.st.ng:=by rw[h2]
   cases b with
   |false=>
    simp only[cond_false] at h;obtain⟨S3,g5,g6,_,h⟩:=jJ (v:= .tup []) h3 (fun x hx=>by cases hx) h;obtain⟨D,SV,ms',k1,k2,k3,k4⟩:=ih _ _ _ _ g6 h;refine⟨D,SV,⟨S1.gh.length,[],[]⟩::ms',k1,?_,k3,?_⟩
    ·simp only[Cy,hst,hbo,aX,if_false,h1,ae];rw[<-h2,show S1.st.put o.dst (.tup [])=some S3.st from g5];simp only[ae,k2,aH];rfl
    grind
   |true=>
    simp only[cond_true] at h;cases hnw:gv o with
    |false=>
     rw[hnw] at h;simp only[cond_false] at h;obtain⟨v,S2,m1,m2,m3,m4,m5,h⟩:=yx (D:=Ep) hΘ h3 h;obtain⟨S3,g5,g6,_,h⟩:=jJ m3 (by rw[m4]; exact m5) h;obtain⟨D,SV,ms',k1,k2,k3,k4⟩:=ih _ _ _ _ g6 h;refine⟨D,SV,⟨S1.gh.length,[],[]⟩::ms',k1,?_,k3,?_⟩
     ·have hV:dZ D P S1.st o=some v.av:=by
       rw[<-m1]
       have : ∀D':rg,dZ D P S1.st o=dZ D' P S1.st o:=by
        intro D';obtain⟨dst,op,ty,pos,aft,gd⟩:=o;cases op with
        |call c=>
         obtain⟨cl,as,ts⟩:=c;cases cl with
         |value f=>cases hnw
         |invoke a b=>rfl
         |builtin b=>cases b<;>rfl
        |unOp op t x=>cases op<;>rfl
        |binOp op t x y t'=>cases op<;>rfl
        |makeFunc fn first caps=>cases fn<;>rfl
        |slice t x lo hi mx=>cases mx<;>rfl
        | _=>rfl
       exact this Ep
      simp only[Cy,hst,hbo,aX,if_false,h1,ae,if_true,hnw];rw[<-h2,hV];simp only[ae];rw[<-m2,g5];simp only[ae,k2,aH];rw[m2]; first |rfl|skip
     grind
    |true=>
     rw[hnw] at h;simp only[cond_true] at h;obtain⟨hc,h⟩:=dX h;simp only[al] at hc;obtain⟨D1,v0,v,adds,cons,S2,m1,m2,m3,m4,m5,m6,m7,h⟩:=JJ hΘ hY h3 hnw hc.1.2 hc.2 h;obtain⟨S3,g5,g6,_,h⟩:=jJ m6 m7 h;obtain⟨D,SV,ms',k1,k2,k3,k4⟩:=ih _ _ _ _ g6 h;refine⟨xh o.dst D1 D,SV,⟨S1.st.ng,adds,cons⟩::ms',GF m1 k1,?_,k3,?_⟩
     ·have hN:fK (xh o.dst D1 D) P S1.st o=some (v0,adds,cons):=by
       rw[<-m2];exact JG (Mz _ _ _)
      have hrest:Cy (xh o.dst D1 D) P ops os S3.st=some (SV.st,ms'):=by
       rw[<-k2];refine Rz os _ (fun o' ho'=>MA _ _ (fun e=> ?_));have hl:=hc.1.1;unfold Ru at hl;split at hl
       ·grind [PO,Nat.beq_refl]
       ·cases hl
      simp_all [Cy]
     grind
theorem OL [dP] (hΘ:fS P Θ) (hY:kz P Y) {ops:Array Oper} {D:rg}: ∀ (os:List Oper) (S:TS) (κ:TS->Option ρ) (r:ρ),S.ok->L6 Θ Y os S κ=some r->
  ∃S',Cz D P ops os S.st=some (TS.st S')/\S'.ok/\κ S'=some r:=by
 intro os
 induction os with
 |nil=>intro S κ r hS h; exact⟨S,rfl,hS,h⟩
 |cons o os ih=>
  intro S κ r hS h;unfold L6 at h;cases hst:dU o with
  |false=>simp_all [Cz]
  |true=>
   rw[hst] at h;simp only[cond_true] at h;obtain⟨hc,h⟩:=dX h;simp only[al] at hc;obtain⟨D',v,S1,g1,g2,g3,g4,h⟩:=uq hΘ hY hS h;obtain⟨S',h1,h2,h3⟩:=ih S1 κ r g3 h;refine⟨S',?_,h2,h3⟩;have hd:o.dst=none:=cI.1 hc.2
   have hs:step D P S.st o=some (v.av,S1.st):=by
    rw[<-g2];obtain⟨dst,op,ty,pos,aft,gd⟩:=o;cases op with
    |store t a x=>rfl
    | _=>cases hst
   simp_all [one,St.put,Cz]
theorem OM (hΘ:fS P Θ): ∀ (os:List Oper) (S:TS) (κ:TS->Option ρ) (r:ρ),S.ok->L5 Θ os S κ=some r-> ∃S0,DV P os S.st=some (TS.st S0)/\S0.ok/\κ S0=some r:=by
 intro os
 induction os with
 |nil=>intro S κ r hS h; exact⟨S,rfl,hS,h⟩
 |cons o os ih=>
  intro S κ r hS h;unfold L5 at h;unfold DV;split at h
  ·rename_i t hop;split at h
   ·rename_i ti hti
    obtain⟨S0,h1,h2,h3⟩:=ih { S with bx:=S.bx++ [ti.ty.zvs.map cC] } κ r ⟨hS.env,fun cs hcs c hc=>by
     rcases bf.1 hcs with h1|h1
     ·exact hS.bx cs h1 c hc
     grind [Me]⟩ h
    refine⟨S0,?_,h2,h3⟩;rw[hop];simp only[(hΘ _ _ hti).ze,ae];rw[<-h1]
    congr 1
    rw[Ic,Md];rfl
   ·cases h
  grind
theorem Ii {f g:TypeId->Bool} (h: ∀t,f t=true->g t=true) {t:TypeId} {a:AV} (hs:wW f t a=true):wW g t a=true:=by cases a<;>simp only[wW] at hs ⊢<;>first |exact h t hs|exact hs
theorem GG {f g:TypeId->Bool} (h: ∀t,f t=true->g t=true) {ops:List Oper} {B:List (List Nat)} {S SV:St} {i j:Nat} {oi oj:Oper} (hs:sU f ops B S SV i j oi oj=true):sU g ops B S SV i j oi oj=true:=by
 unfold sU at hs ⊢;split at hs
 ·simp only[al] at hs ⊢;exact⟨Ii h hs.1,hs.2⟩
 ·cases hs
theorem GH {ops:List Oper} {B:List (List Nat)} {f g:Nat->Nat->Oper->Oper->Bool} (h: ∀i j oi oj,f i j oi oj=true->g i j oi oj=true) (hs:v5 ops B f=true):v5 ops B g=true:=by
 unfold v5 at hs ⊢
 grind
theorem KN {f g:TypeId->Bool} (h: ∀t,f t=true->g t=true) {ops:List Oper} {B:List (List Nat)} {S SV:St} {ms:List iK} (hs:HC f ops B S ms SV=true):HC g ops B S ms SV=true:=by
 unfold HC at hs ⊢;simp only[al,bO] at hs ⊢
 grind [GH,GG]
theorem JK (hΘ:fS P Θ) (t:TypeId) (h:Js Θ t=true):rk P t=true:=by
 unfold Js at h;split at h
 ·rename_i ti hti;unfold rk;rw[(hΘ t ti hti).sh];unfold Ty.flatB at h;unfold Ty.shs
  grind
 ·cases h
theorem MB (hΘ:fS P Θ) {S:TS} {o:Oper} (h:L7 Θ S o=true): ∀t x v,o.op= .store t x v->wW (rk P) t (opd S.st x)=true:=by
 intro t x v ho;unfold L7 at h;rw[ho] at h;simp only at h;rw[eg];split at h
 ·rename_i e; rw[e]; rfl
 ·rename_i e; rw[e]; exact JK hΘ t h
 ·cases h
theorem KO (hΘ:fS P Θ) {o:Oper} (h:El Θ o=true):AX P o=true:=by
 unfold AX;split
 ·rename_i t a b he;unfold El at h;rw[he] at h;simp only at h;split at h
  ·rename_i ti hti;split at h
   ·rename_i el hel;have hl:Ri Θ t=true:=by unfold Ri; rw[hti]; simp only[hel]
    grind [Ih,rk,vh]
   ·cases h
  ·cases h
 ·rfl
theorem OO [dP] (hΘ:fS P Θ) (hY:kz P Y) {n0:Nat} {ops:List Oper} {B:List (List Nat)}: ∀ (os:List Oper) (k:Nat) (S:TS) (κ:TS->Option ρ) (r:ρ),(∀o∈os,mL P o=true)->(os≠ [] ->n0<=S.gh.length)->S.ok->Gl Θ Y n0 ops B k os S κ=some r->
  ∃ (T:Nat->St) (S':TS),T k=S.st/\T (k+os.length)=S'.st/\S'.ok/\κ S'=some r/\ ∀i o,os[i]? =some o->Ds P n0 ops B T (k+i) o\/(i+1=os.length/\dU o=true/\LO P (T (k+i)) o (T (k+i+1))/\ ∀j,j<k+i->j∈B.getD (k+i) []):=by
 intro os
 induction os with
 |nil=>intro k S κ r _ _ hS h; exact⟨fun _=>S.st,S,rfl,rfl,hS,h,fun i o h=>by simp at h⟩
 |cons o os ih=>
  intro k S κ r hop hn0 hS h;have hop': ∀o∈os,mL P o=true:=fun x hx=>hop x (aM _ hx);have hok:=hop o aL;have hn0:=hn0 (by simp)
  have glue: ∀ {S3:TS},(os≠ [] ->n0<=S3.gh.length)->S3.ok->Gl Θ Y n0 ops B (k+1) os S3 κ=some r->((ug o=true/\kw P n0 S.st o S3.st)\/LP P n0 (LM ops B k) S.st o S3.st\/(os= [] /\dU o=true/\LO P S.st o S3.st/\ ∀j,j<k->j∈B.getD k []))->
    ∃ (T:Nat->St) (S':TS),T k=S.st/\T (k+(o::os).length)=S'.st/\S'.ok/\κ S'=some r/\ ∀i o',(o::os)[i]? =some o'->Ds P n0 ops B T (k+i) o'\/(i+1=(o::os).length/\dU o'=true/\LO P (T (k+i)) o' (T (k+i+1))/\ ∀j,j<k+i->j∈B.getD (k+i) []):=by
   intro S3 hn3 hS3 h3 hst;obtain⟨T,S',t1,t2,hS',hk,hT⟩:=ih (k+1) S3 κ r hop' hn3 hS3 h3
   let T':Nat->St:=fun i=>if i=k then S.st else T i
   have e0:T' k=S.st:=if_pos rfl;have e1: ∀i,k<i->T' i=T i:=fun i hi=>if_neg (by omega);refine⟨T',S',e0,?_,hS',hk,fun i o' ho'=> ?_⟩
   ·grind
   ·cases i with
    |zero=>
     simp only[aN,af] at ho';subst ho';have e2:T' (k+1)=S3.st:=by rw[e1 _ (by omega),t1]
     rcases hst with h|h| ⟨rfl,h1,h2,h3⟩
     ·left;left
      grind
     ·left;right
      grind
     grind
    |succ i=>grind [Ds]
  unfold Gl at h;cases hh:A7 Y S o with
  |some z=>
   obtain⟨kd,g,caps,a,us,xs⟩:=z;rw[hh] at h;obtain⟨S3,g1,g2,g3⟩:=GC hΘ hY hS hh h
   have hv:ug o=true:=by obtain⟨f,as,ts,x,t0,hop,_⟩:=Bq hh;unfold ug gv;rw[hop];rfl
   exact glue (fun _=>aO hn0 (g1 0).ng) g2 g3 (.inl ⟨hv,g1 n0⟩)
  |none=>
  rw[hh] at h;simp only at h;cases hs:dU o with
  |true=>
   rw[hs] at h;simp only[cond_true] at h;obtain⟨hc,h⟩:=dX h;obtain⟨D,v,S2,hD,g2,g3,g4,h⟩:=uq hΘ hY hS h;obtain⟨S3,g5,g6,g7,h⟩:=jJ g3 g4 h;rcases Bool.or_eq_true_iff.1 hc with hc|hc
   ·have hst:=kw.store hD hok hs (MB hΘ hc) g2 g5 (n0:=n0);exact glue (fun _=>aO hn0 hst.ng) g6 h (.inl ⟨by simp[ug,hs],hst⟩)
   ·simp only[al,dv,ax,bH,bL] at hc;exact glue (fun hne=>absurd hc.1 hne) g6 h (.inr (.inr ⟨hc.1,hs,LO.one hD hok (by unfold one; rw[g2]; exact g5),hc.2⟩))
  |false=>
  rw[hs] at h;simp only[cond_false] at h;cases hn:gv o with
  |true=>
   rw[hn] at h;simp only[cond_true] at h;have hv:ug o=true:=by simp[ug,hn]
   cases hfl: !qn o&&El Θ o with
   |true=>simp only[hfl,Bool.true_or,cond_true] at h;simp only[al,bZ] at hfl;obtain⟨D,v,S2,hD,g2,g3,g4,h⟩:=uq hΘ hY hS h;obtain⟨S3,g5,g6,g7,h⟩:=jJ g3 g4 h;have hst:=kw.flat hD hok hn hfl.1 (KO hΘ hfl.2) g2 g5 (n0:=n0) hn0;exact glue (fun _=>aO hn0 hst.ng) g6 h (.inl ⟨hv,hst⟩)
   |false=>
    simp only[hfl,ch] at h;cases hfb:Oi Θ o&&Jr S o with
    |false=>
     obtain⟨D,v,S2,hD,g2,g3,g4,h⟩:=uq hΘ hY hS h
     grind
    |true=>
     have hfb':=hfb;simp only[al] at hfb';obtain⟨D,v0,v,adds,cons,S2,hD,g2,g3,g4,g8,g9,g10,h⟩:=JJ hΘ hY hS hn hfb'.1 hfb'.2 h;simp only[hfb,dq] at h;obtain⟨hc,h⟩:=dX h;obtain⟨S3,g5,g6,g7,h⟩:=jJ g9 g10 h
     have hst:kw P n0 S.st o S3.st:=kw.new hD hok hn g2 (by rw[g4,g3]; exact g5) hn0 fun ha r hr=>by
      rw[ha,ch] at hc;have e:gone 0 S.gh S2.gh=cons:=congrArg iK.cons g8
      simp_all
     exact glue (fun _=>aO hn0 hst.ng) g6 h (.inl ⟨hv,hst⟩)
  |false=>rw[hn] at h;simp only[cond_false] at h;obtain⟨hp,h⟩:=dX h;obtain⟨v,S2,m1,m2,m3,m4,m5,h⟩:=yx (D:=N9) hΘ hS h;obtain⟨S3,g5,g6,g7,h⟩:=jJ m3 (by rw[m4]; exact m5) h;refine glue (fun _=>by rw[g7,m4]; exact hn0) g6 h (.inr (.inl ⟨by simp[ug,hs,hn],hok,v.av,m1,hp,by rw[<-m2]; exact g5⟩))
theorem OP [dP] (hΘ:fS P Θ) (hY:kz P Y) (hm:P.follows .mixedOrders=true) {id:Nat} {ops:Array Oper} (hok:li P (.region id ops true)=true) (hS:S.ok) {κ:TS->Option ρ} {r:ρ} (h:Qu Θ Y ops.toList S κ=some r):
  pA P (.region id ops true) S.st (fun x S'=>x= .nor/\ ∃S1:TS,S'=S1.st/\S1.ok/\κ S1=some r):=by
 unfold Qu at h;simp only[li] at hok;cases hc:F0 ops||(ops.toList.any (Sy Y)&&PL ops) with
 |true=>
  rw[show (F0 ops.toList.toArray||(ops.toList.any (Sy Y)&&PL ops.toList.toArray))=true from hc] at h;simp only[cond_true] at h
  have hph:PL ops=true:=by
   unfold F0 at hc;simp only[bO,al] at hc;rcases hc with hc|hc
   ·exact hc.2
   ·exact hc.2
  obtain⟨T,S',t1,t2,h2,h3,hT⟩:=OO hΘ hY ops.toList 0 S κ r (fun o ho=>ax.1 hok o ho) (fun _=>aq _) hS h;have hsz:ops.toList.length=ops.size:=by simp
  rw[aR,hsz] at t2;have tl: ∀ {i:Nat} {o:Oper},ops[i]? =some o->ops.toList[i]? =some o:=by intro i o h; simpa using h
  by_cases hl: ∃o,ops[ops.size-1]? =some o/\ ¬Ds P S.st.ng ops.toList (fL ops.toList) T (ops.size-1) o
  ·obtain⟨o,ho,hnp⟩:=hl;have hlt:=(aF.1 ho).1;refine pA.phase hm (F1 hph) T t1 (m:=ops.size-1) (.inr ⟨by omega,o,ho,?_⟩) (fun i o hi ho=> ?_) ⟨rfl,S',t2,h2,h3⟩
   ·have:=hT _ o (tl ho);rw[aR] at this;rcases this with h|h
    ·exact absurd h hnp
    ·exact⟨h.2.1,h.2.2.1,h.2.2.2⟩
   ·have:=hT _ o (tl ho);rw[aR] at this;rcases this with h|h
    ·exact h
    ·omega
  ·refine pA.phase hm (F1 hph) T t1 (m:=ops.size) (.inl rfl) (fun i o hi ho=> ?_) ⟨rfl,S',t2,h2,h3⟩;have:=hT _ o (tl ho);rw[aR] at this;rcases this with h|h
   ·exact h
   grind
 |false=>
 rw[show (F0 ops.toList.toArray||(ops.toList.any (Sy Y)&&PL ops.toList.toArray))=false from hc] at h;simp only[cond_false] at h;obtain⟨hd,h⟩:=dX h;have hd:Jg ops=true:=hd;obtain⟨S0,h0,hS0,h⟩:=OM hΘ _ _ _ _ hS h;obtain⟨D,SV,ms,h1,h2,h3,h4⟩:=OK hΘ hY _ _ _ _ _ hS0 h;obtain⟨h5,h6⟩:=dX h4;rw[aY] at h5;obtain⟨S',h7,h8,h9⟩:=OL (D:=D) (ops:=ops) hΘ hY _ _ _ _ h3 h6;exact pA.draw h1 hm (by unfold AK; rw[hd,hok]; rfl) h0 h2 (KN (JK hΘ) h5) h7 ⟨rfl,S',rfl,h8,h9⟩
def fr:Code->List Code
 | .seq a b=>fr a++fr b
 | .cond _ a b=>fr a++fr b
 | .block _ c=>fr c
 | .loop c=> [c]
 | _=> []
def il [dP] (P:Program) (Λ:m8) (cs:List Code):Prop:= ∀c∈cs,∀ (S:TS) (ρ:Type) (κ:X->TS->Option ρ) (r:ρ),S.ok->Λ (gi c) S ρ κ=some r->pA P (.loop c) S.st (fun x S'=> ∃S1:TS,S'=S1.st/\S1.ok/\κ x S1=some r)
theorem Ev [dP] (hΘ:fS P Θ) (hY:kz P Y) (hm:P.follows .mixedOrders=true) {Λ:m8}: ∀ (c:Code) (S:TS) (κ:X->TS->Option ρ) (r:ρ),li P c=true->il P Λ (fr c)->S.ok->yt Θ Y Λ c S κ=some r->
  pA P c S.st (fun x S'=> ∃S1:TS,S'=S1.st/\S1.ok/\κ x S1=some r):=by
 intro c
 induction c with
 |skip=>intro S κ r _ _ hS h; exact pA.skip ⟨S,rfl,hS,h⟩
 |exit i=>intro S κ r _ _ hS h; exact pA.exit ⟨S,rfl,hS,h⟩
 |ret=>intro S κ r _ _ hS h; exact pA.ret ⟨S,rfl,hS,h⟩
 |region id ops dr=>
  intro S κ r hok _ hS h;cases dr with
  |false=>exact pA.region (OF hΘ hY _ _ _ _ (fun o ho=>ax.1 hok o ho) hS h)
  |true=>refine (OP hΘ hY hm hok hS h).mono (fun x S' hx=> ?_);obtain⟨rfl,hx⟩:=hx;exact⟨S',o8.refl,hx⟩
 |seq a b iha ihb=>
  intro S κ r hok hL hS h;simp only[li,al] at hok;have hLa:il P Λ (fr a):=fun c hc=>hL c (cj _ hc);have hLb:il P Λ (fr b):=fun c hc=>hL c (List.mem_append_right _ hc);unfold yt at h;refine pA.seq ((iha S _ r hok.1 hLa hS h).mono (fun x S' hx=>⟨S',o8.refl,?_⟩))
  grind
 |cond t a b iha ihb=>
  intro S κ r hok hL hS h;simp only[li,al] at hok
  grind [il,fr,yt,Bc,pA.cond]
 |block i c ih=>
  intro S κ r hok hL hS h;unfold yt at h;refine pA.block ((ih S _ r hok hL hS h).mono (fun x S' hx=>⟨S',o8.refl,?_⟩));obtain⟨S1,rfl,h1,h2⟩:=hx;cases x with
  |nor=>exact⟨S1,rfl,h1,h2⟩
  |ret=>exact⟨S1,rfl,h1,h2⟩
  |ext j=>
   simp only at h2 ⊢;cases hb:Nat.beq j i with
   |true=>rw[hb] at h2;rw[if_pos (ao hb)];exact⟨S1,rfl,h1,h2⟩
   |false=>rw[hb] at h2;rw[if_neg (by grind [Nat.beq_refl])];exact⟨S1,rfl,h1,h2⟩
 |loop c ih=>intro S κ r hok hL hS h;exact hL c (aE.2 rfl) S ρ κ r hS h
 | _=>intro S κ r hok; cases hok
end
end
section
open Go
section
variable {ρ:Type} {P:Program} {Θ:mN} {S:TS} {Y:wl}
theorem Ew (hS:S.ok) {gs:List eB} {et:Option Ty} {c:Cl} (hc:c.ok S.gh) {κ:Cl->List eB->TS->Option ρ} {r:ρ} (h:L8 S gs et c κ=some r):
  ∃c' gs' S',v4 S.st (gs.map eB.tree) (Gv et) c.av=some (Cl.av c',gs'.map eB.tree,TS.st S')/\S'.ok/\iA S.gh S'.gh/\iA (gs.map some) (gs'.map some)/\c'.ok (gs'.map some)/\κ c' gs' S'=some r:=by
 have new: ∀ (t:Ty) (l:List t.D) (n:Nat),n=l.length->(Cl.own ⟨gs.length,[]⟩ t.width 0 n true).ok ((gs++ [(⟨t,l,none⟩:eB)]).map some):=by intro t l n hn;refine⟨by simp,fun _=>⟨rfl,rfl,fun tr htr=> ?_⟩⟩;rw[bT] at htr;have e:=ky (G:=gs.map some) (x:=some (⟨t,l,none⟩:eB)) gs.length;simp only[aK,if_true] at e;have htr':fy (gs.map some++ [some (⟨t,l,none⟩:eB)]) gs.length=some tr:=htr;rw[e] at htr';cases htr';exact hn
 have grow: ∀ (x:eB),iA (gs.map some) ((gs++ [x]).map some):=fun x=>by rw[bT]; exact iA.app _ _
 unfold L8 at h;split at h
 ·refine⟨_,_,_,rfl,hS,iA.refl _,iA.refl _,?_,h⟩;trivial
 ·rename_i t;refine⟨_,_,S,?_,hS,iA.refl _,grow _,new t [] 0 rfl,h⟩;simp only[Cl.av,v4,Gv,aK,bT,aV,cB];rfl
 ·rename_i p sz lo len w t';obtain⟨pr,pl⟩:=p;cases pl with
  |cons a l=>cases h
  |nil=>
   simp only at h;obtain⟨h1,h'⟩:=dX h;clear h;simp only[al] at h1;have h2:S.fz<=pr:=ar h1.1;have h3:t'.width=sz:=ao h1.2;obtain⟨t,l,k1,k2,h⟩:=gz h';obtain⟨k3,h⟩:=dX h;have k3:t.width=sz:=ao k3
   have fin0: ∀ (lo len:Nat),lo+len<=l.length->(lo=0\/sz<=3/\t.flatB=true)->v4 S.st (gs.map eB.tree) (Gv (some t')) (.own ⟨pr,[]⟩ sz lo len)=some (.own ⟨gs.length,[]⟩ sz 0 len,(gs++ [(⟨t,(l.drop lo).take len,none⟩:eB)]).map eB.tree,({ S with gh:=fj S.gh pr none }:TS).st):=by
    intro lo len hlen hoff;simp only[v4];have hrows:S.st.rows ⟨pr,[]⟩ sz=some (l.map t.row):=by rw[<-k3]; exact kg k1
    rw[if_pos ⟨trivial,by show sz=t'.width; exact h3.symm,h2⟩,hrows];simp only[ae,aK];rw[if_pos ⟨hlen,hoff.imp id fun h=>⟨h.1,rX h.2 l⟩⟩,xb];simp only[Gv,h3,bT,aV,cB,eB.tree,cq,cH,k3]
   have fin: ∀ (len:Nat),len<=l.length->v4 S.st (gs.map eB.tree) (Gv (some t')) (.own ⟨pr,[]⟩ sz 0 len)=some (.own ⟨gs.length,[]⟩ sz 0 len,(gs++ [(⟨t,l.take len,none⟩:eB)]).map eB.tree,({ S with gh:=fj S.gh pr none }:TS).st):=fun len hlen=>by
    have:=fin0 0 len (by omega) (.inl rfl)
    rwa [bK] at this
   cases w with
   |true=>
    obtain⟨e1,e2,e3⟩:=uk hc k2;refine⟨_,_,_,?_,TS.ok_gh hS (iA.gone _ _),iA.gone _ _,grow _,by rw[<-k3]; exact new t l _ rfl,h⟩
    simp_all [Cl.av]
   |false=>
    simp only[cond_false] at h;rcases Ol h with ⟨h4,h⟩| ⟨_,h⟩
    case inr=>
     obtain⟨hz,h⟩:=dX h;simp only[al] at hz;obtain⟨h4,h⟩:=eY h;refine⟨_,_,_,?_,TS.ok_gh hS (iA.gone _ _),iA.gone _ _,grow _,by rw[<-k3]; exact new t ((l.drop lo).take len) _ rfl,h⟩;have:=fin0 lo len h4 (.inr ⟨ar hz.2,hz.1⟩);have hl: ((l.drop lo).take len).length=len:=by simp; omega
     simp only[Cl.av];rw[hl];exact this
    case inl=>
     refine⟨_,_,_,?_,TS.ok_gh hS (iA.gone _ _),iA.gone _ _,grow _,by rw[<-k3]; exact new t (l.take len) _ rfl,h⟩
     grind [Cl.av]
 ·rename_i p sz i j;obtain⟨pr,pl⟩:=p;cases pl with
  |cons a l=>cases h
  |nil=>
   simp only at h;obtain⟨h1,h'⟩:=dX h;clear h;obtain⟨t,l,k1,k2,h⟩:=gz h';obtain⟨k3,h⟩:=dX h;have k3:t.width=sz:=ao k3;have hrows:S.st.rows ⟨pr,[]⟩ sz=some (l.map t.row):=by rw[<-k3]; exact kg k1
   refine⟨_,_,_,?_,TS.ok_gh hS (iA.gone _ _),iA.gone _ _,grow _,?_,h⟩
   ·simp only[Cl.av,v4];rw[if_pos ⟨trivial,ar h1⟩,hrows];simp only[ae,xb,aK,bT,aV,cB,eB.tree,k3]
   ·show gs.length< ((gs++ [(⟨t,l,none⟩:eB)]).map some).length;simp
 ·cases h
theorem MC: ∀ (ets:List (Option Ty)) (cs:List Cl) (S:TS) (gs:List eB) (κ:List Cl->List eB->TS->Option ρ) (r:ρ),S.ok->(∀c∈cs,c.ok S.gh)->Jt S gs ets cs κ=some r->
  ∃cs' gs' S',sT S.st (gs.map eB.tree) (ets.map Gv) (cs.map Cl.av)=some (cs'.map Cl.av,gs'.map eB.tree,TS.st S')/\S'.ok/\iA S.gh S'.gh/\iA (gs.map some) (gs'.map some)/\(∀c∈cs',c.ok (gs'.map some))/\κ cs' gs' S'=some r:=by
 intro ets
 induction ets with
 |nil=>
  intro cs S gs κ r hS hcs h;cases cs with
  |nil=>exact⟨[],gs,S,rfl,hS,iA.refl _,iA.refl _,(fun c hc=>by cases hc),h⟩
  |cons c cs=>cases h
 |cons et ets ih=>
  intro cs S gs κ r hS hcs h;cases cs with
  |nil=>cases h
  |cons c cs=>
   unfold Jt at h;obtain⟨c',g1,S1,h1,h2,h3,h4,h5,h⟩:=Ew hS (hcs c aL) h;obtain⟨cs',g2,S2,k1,k2,k3,k4,k5,h⟩:=ih cs S1 g1 _ r h2 (fun x hx=>Cl.ok_mono h3 (hcs x (aM _ hx))) h;refine⟨c'::cs',g2,S2,?_,k2,h3.trans k3,h4.trans k4,fun x hx=> ?_,h⟩
   ·simp only[aV,sT,h1,ae,k1,aH]
   ·rcases bc.1 hx with rfl|hx
    all_goals grind [Cl.ok_mono]
theorem OQ (hΘ:fS P Θ) (hS:S.ok) {gs:List eB} {t:TypeId} {v:V} (hv:v.ok S.gh) {κ:V1->List eB->TS->Option ρ} {r:ρ} (h:Qv Θ S gs t v κ=some r):
  ∃v' gs' S',Kh P S.st (gs.map eB.tree) t v.av=some (V1.av v',gs'.map eB.tree,TS.st S')/\S'.ok/\iA S.gh S'.gh/\iA (gs.map some) (gs'.map some)/\v'.ok (gs'.map some)/\κ v' gs' S'=some r:=by
 unfold Qv at h;split at h
 ·rename_i p sz i j;obtain⟨c',g1,S1,h1,h2,h3,h4,h5,h⟩:=Ew hS (show Cl.ok S.gh (.ptrT p sz i j) from hv) h;exact⟨.cl c',g1,S1,h1,h2,h3,h4,h5,h⟩
 split at h
 ·cases h
 ·rename_i ti hti;have hsh:=(hΘ _ _ hti).sh;split at h
  ·rename_i cs _;obtain⟨cs',g1,S1,h1,h2,h3,h4,h5,h⟩:=MC _ _ _ _ _ _ hS hv h;refine⟨.agg cs',g1,S1,?_,h2,h3,h4,h5,h⟩;simp only[V.av,V1.av,Kh,hsh];rw[show ti.ty.shs=ti.ty.csh.map Gv from rfl,h1];rfl
  ·rename_i c _;obtain⟨c',g1,S1,h1,h2,h3,h4,h5,h⟩:=Ew hS hv h;refine⟨.cl c',g1,S1,?_,h2,h3,h4,h5,h⟩
   have e:Kh P S.st (gs.map eB.tree) t (V.v (.cl c)).av=v4 S.st (gs.map eB.tree) ((np P 9 t).headD 0) c.av:=by
    cases c with
    |c x=>cases x<;>rfl
    | _=>rfl
   rw[e,hsh]
   have e2:ti.ty.shs.headD 0=Gv (ti.ty.csh.headD none):=by
    unfold Ty.shs;cases ti.ty.csh with
    |nil=>rfl
    |cons a l=>cases a<;>rfl
   rw[e2];exact h1
  ·cases h
theorem MD (hΘ:fS P Θ): ∀ (rs:List (TypeId×V)) (S:TS) (gs:List eB) (κ:List V1->List eB->Option ρ) (r:ρ),S.ok->(∀x∈rs,x.2.ok S.gh)->Gm Θ S gs rs κ=some r->
  ∃vs gs',HB P S.st (gs.map eB.tree) (rs.map fun x=>(x.1,x.2.av))=some (vs.map V1.av,gs'.map eB.tree)/\iA (gs.map some) (gs'.map some)/\(∀v∈vs,v.ok (gs'.map some))/\vs.length=rs.length/\κ vs gs'=some r:=by
 intro rs
 induction rs with
 |nil=>intro S gs κ r hS hrs h; exact⟨[],gs,rfl,iA.refl _,(fun v hv=>by cases hv),rfl,h⟩
 |cons x rs ih=>
  intro S gs κ r hS hrs h;obtain⟨t,v⟩:=x;unfold Gm at h;obtain⟨v',g1,S1,h1,h2,h3,h4,h5,h⟩:=OQ hΘ hS (hrs _ aL) h;obtain⟨vs,g2,k1,k2,k3,k4,h⟩:=ih S1 g1 _ r h2 (fun x hx=>V.ok_mono h3 (hrs x (aM _ hx))) h;refine⟨v'::vs,g2,?_,h4.trans k2,fun y hy=> ?_,by simp[k4],h⟩
  ·simp only[aV,HB,h1,ae,k1,aH]
  ·rcases bc.1 hy with rfl|hy
   all_goals grind [V1.ok_mono]
theorem OS (hΘ:fS P Θ) (hS:S.ok): ∀ (rs:List ResultVar) (ts:List TypeId) (κ:List (TypeId×V)->Option ρ) (r:ρ),Ia Θ S rs ts κ=some r->
  ∃l:List (TypeId×V),rs.mapM (zq P S.st)=some (l.map fun x=>x.2.av)/\l.map (·.1)=ts/\(∀x∈l,x.2.ok S.gh)/\κ l=some r:=by
 intro rs
 induction rs with
 |nil=>
  intro ts κ r h;cases ts with
  |nil=>exact⟨[],rfl,rfl,(fun x hx=>by cases hx),h⟩
  |cons t ts=>cases h
 |cons a rs ih=>
  intro ts κ r h;cases ts with
  |nil=>cases a<;>cases h
  |cons t ts=>
   cases a with
   |tmp a=>
    unfold Ia at h;obtain⟨l,h1,h2,h3,h⟩:=ih ts _ r h;refine⟨(t,iV S.env a)::l,?_,by simp[h2],fun x hx=> ?_,h⟩
    ·simp only[cJ,h1,zq];rfl
    ·rcases bc.1 hx with rfl|hx
     all_goals grind [Ar]
   |cell a t'=>
    unfold Ia at h
    have hw:0<P.cellsOf t':=by
     have h':=h;unfold Gc at h';split at h'
     ·rename_i ti hti;rw[(hΘ _ _ hti).cells];exact Ty.width_pos _
     ·cases h'
    obtain⟨u,g1,g2,h⟩:=Gr hΘ hS (Ar hS a) h;obtain⟨l,h1,h2,h3,h⟩:=ih ts _ r h;refine⟨(t,u)::l,?_,by simp[h2],fun x hx=> ?_,h⟩
    ·simp only[cJ,h1,zq];rw[if_pos hw];have :load P S.st t' (S.st.env a)=some u.av:=g1;rw[this];rfl
    grind
theorem OT {α β γ:Type} (f:α×β->γ): ∀l:List (α×β),(l.map (·.1)).zip (l.map f)=l.map fun x=>(x.1,f x)
 | [] =>rfl
 |a::l=>by grind
theorem OU (vs:List V1): (Em vs).av=Rp (vs.map V1.av):=by
 match vs with
 | [] =>rfl
 | [v] =>rfl
 |v::u::vs=>rfl
theorem Bu: ∀ (args:List V1) (n t:Nat),(iV (qx n args) (n+t)).av=(args.map V1.av).getD t .dead
 | [],n,t=>by simp[qx,iV]; rfl
 |a::l,n,0=>by simp[qx,iV]; rfl
 |a::l,n,t+1=>by
  have :Nat.beq n (n+(t+1))=false:=by
   cases h:Nat.beq n (n+(t+1)) with
   |false=>rfl
   |true=>have:=ao h; omega
  simp only[qx,iV,this,cond_false];rw[show n+(t+1)=(n+1)+t by omega,Bu l (n+1) t];simp
theorem Bv: ∀ (args:List V1) (n:Nat) (x:Nat×V),x∈qx n args-> ∃a∈args,x.2= .v a
 | [],n,x,h=>by cases h
 |a::l,n,x,h=>by
  simp only[qx,bc] at h;rcases h with rfl|h
  ·exact⟨a,aL,rfl⟩
  ·obtain⟨b,hb,he⟩:=Bv l (n+1) x h;exact⟨b,aM _ hb,he⟩
theorem GI (a:List V1) (t:Nat): (iV (qx 0 a) t).av=(a.map V1.av).getD t .dead:=by
 have:=Bu a 0 t
 rwa [aR] at this
theorem Ij (_P:Program) (S:TS): ∀ (n r:Nat) (gs:List eB),vd S r n=some gs->((List.range' r n).map fun r=>(S.st.gh r).getD .dd)=gs.map eB.tree:=by
 intro n
 induction n with
 |zero=>simp_all [vd]
 |succ n ih=>
  intro r gs h;simp only[vd] at h;split at h
  ·rename_i t l hg;split at h
   ·rename_i ts hts;simp only[af] at h;subst h;rw[cz,aV,aV,ih _ _ hts]
    congr 1
    show ((fy S.gh r).map eB.tree).getD .dd=_;rw[hg];rfl
   ·cases h
  ·cases h
theorem Ik [dP] (hΘ:fS P Θ) (hY:kz P Y) (hm:P.follows .mixedOrders=true) {Λ:m8} {f:FuncId} {fn:Func} (hf:Dt P f=some fn) (hL: ∀c,fn.body=some c->il P Λ (fr c)) {args:List V1} {G:List eB} {m:Nat} (hmG:m<=G.length) (ha: ∀a∈args,a.ok (G.map some)) {res:V} {out:List eB}
  (h:Rv Θ Y Λ fn args G m (fun v g=>some (v,g))=some (res,out)):jb P f (args.map V1.av) (G.map eB.tree) m res.av (out.map eB.tree):=by
 unfold Rv at h;split at h
 ·cases h
 ·rename_i c hc
  have hcok:li P c=true:=by
   unfold Dt at hf;simp only[ai] at hf;obtain⟨fn',g1,g2⟩:=hf;split at g2
   ·cases g2
   ·grind
  have hS0: ({ env:=qx 0 args,bx:= [],gh:=G.map some,fz:=m,nt:=args.length+(fn.ntmps-args.length) }:TS).ok:=
   ⟨fun x hx=>by obtain⟨a,h1,h2⟩:=Bv _ _ _ hx; rw[h2]; exact ha a h1,fun cs hcs=>by cases hcs⟩
  have hbeg: ({ env:=qx 0 args,bx:= [],gh:=G.map some,fz:=m,nt:=args.length+(fn.ntmps-args.length) }:TS).st=Ky fn.ntmps (args.map V1.av) (G.map eB.tree) m:=by
   unfold TS.st Ky Qk;simp only[aK,b9]
   congr 1
   ·funext t
    exact GI _ t
   ·funext r
    show (fy (G.map some) r).map eB.tree=(G.map eB.tree)[r]?;unfold fy;rw[fQ,ap,ap];cases G[r]?<;>rfl
  have hW:=Ev hΘ hY hm c _ _ _ hcok (hL c hc) hS0 h;rw[hbeg] at hW
  have main: ∀ (S1:TS),S1.ok->(Ia Θ S1 fn.results.toList fn.resultTypes.toList fun rs=>match vd S1 0 m with
    |some gs=>Gm Θ S1 gs rs fun vs gs'=>some (Em vs,gs')
    |none=>none)=some (res,out)->LQ P fn.results.toList fn.resultTypes.toList m S1.st=some (res.av,out.map eB.tree):=by
   intro S1 hS1 h0;obtain⟨l,h1,h2,h3,h⟩:=OS (P:=P) hΘ hS1 _ _ _ _ h0;clear h0;split at h
   ·rename_i gs hgs;have hgs:=Ij P S1 m 0 gs hgs;obtain⟨vs,gs',k1,k2,k3,k4,h⟩:=MD (P:=P) hΘ _ _ _ _ _ hS1 h3 h;simp only[af,an] at h;obtain⟨rfl,rfl⟩:=h;unfold LQ;rw[h1];simp only[ae,aK]
    have hz: (fn.resultTypes.toList.zip (l.map fun x=>x.2.av))=l.map fun x=>(x.1,x.2.av):=by rw[<-h2];exact OT _ l
    rw[if_pos (by rw[<-h2]; simp),hz,ci,hgs,k1];simp only[aH,OU]
   ·cases h
  refine F4 hf hc (by simpa using hmG) (hW.mono (fun x S' hx=>⟨S',o8.refl,?_⟩))
  grind
theorem ME {G:List (Option eB)} {a:V1} (h:a.ok []):a.ok G:=V1.ok_mono (G:= []) ⟨ay _,fun r tr hr=>by cases hr⟩ h
theorem MF [dP] (hΘ:fS P Θ) (hY:kz P Y) (hm:P.follows .mixedOrders=true) {Λ:m8} {f:FuncId} {fn:Func} (hf:Dt P f=some fn) (hL: ∀c,fn.body=some c->il P Λ (fr c)) {args:List V1} (ha: ∀a∈args,a.ok []) {res:V} {out:List eB}
  (h:Rj Θ Y Λ fn args (fun v g=>some (v,g))=some (res,out)):pw P f (args.map V1.av) [] res.av (out.map eB.tree):=Ik hΘ hY hm hf hL (ay 0) ha h
theorem JL [dP] (hΘ:fS P Θ) (hY:kz P Y) (hm:P.follows .mixedOrders=true) {Λ:m8} {f:FuncId} {fn:Func} (hf:Dt P f=some fn) (hL: ∀c,fn.body=some c->il P Λ (fr c)) {m:Nat} (hm1:m<=1) {el:Ty} {l:List el.D} {args:List V1} (ha: ∀a∈args,a.ok []) {res:V} {out:List eB}
  (h:L9 Θ Y Λ fn m el l args (fun v g=>some (v,g))=some (res,out)):jb P f (.own ⟨0,[]⟩ el.width 0 l.length::args.map V1.av) [.sl el.width (l.map el.row)] m res.av (out.map eB.tree):=
 Ik hΘ hY hm hf hL (args:= .cl (.own ⟨0,[]⟩ el.width 0 l.length true)::args) (G:= [⟨el,l,none⟩]) hm1 (dD.2 ⟨⟨cE,fun _=>⟨rfl,rfl,fun tr htr=>by have htr:some (⟨el,l,none⟩:eB)=some tr:=htr;cases htr;rfl⟩⟩,fun a h=>ME (ha a h)⟩) h
theorem OV [dP] (hΘ:fS P Θ) (hY:kz P Y) (hm:P.follows .mixedOrders=true) {Λ:m8} {f:FuncId} {fn:Func} (hf:Dt P f=some fn) (hL: ∀c,fn.body=some c->il P Λ (fr c)) {el:Ty} {l:List el.D} {args:List V1} (ha: ∀a∈args,a.ok []) {res:V} {out:List eB}
  (h:Qx Θ Y Λ fn el l args (fun v g=>some (v,g))=some (res,out)):jb P f (.ptrT ⟨0,[]⟩ el.width 0 0::args.map V1.av) [.sl el.width (l.map el.row)] 1 res.av (out.map eB.tree):=
 Ik hΘ hY hm hf hL (args:= .cl (.ptrT ⟨0,[]⟩ el.width 0 0)::args) (G:= [⟨el,l,none⟩]) (aq 1) (dD.2 ⟨cE,fun a h=>ME (ha a h)⟩) h
end
end
section
open Go
def zV:List Nat->Nat->Nat->Option Nat
 | [],_,_=>none
 |a::l,x,n=>bif Nat.beq a x then some n else zV l x (n+1)
def wu (bs ls:List Nat):Cl->Cl
 | .own p sz lo len w=>match zV ls p.r 0 with |some k=> .own ⟨k,p.l⟩ sz lo len w|none=> .dead
 | .ptrT p sz i j=>match zV ls p.r 0 with |some k=> .ptrT ⟨k,p.l⟩ sz i j|none=> .dead
 | .ptrB n j=>match zV bs n 0 with |some k=> .ptrB k j|none=> .dead
 |c=>c
def MG (bs ls:List Nat):V1->V1
 | .cl c=> .cl (wu bs ls c)
 | .agg cs=> .agg (cs.map (wu bs ls))
 | .fn f cs=> .fn f (cs.map (wu bs ls))
def MH (bs ls:List Nat):V->V
 | .v x=> .v (MG bs ls x)
 | .tup _=>V.dead
def JM:List Nat->List Nat->List Nat
 | [],acc=>acc
 |a::l,acc=>match zV acc a 0 with |some _=>JM l acc|none=>JM l (acc++ [a])
def Bw:List Nat->Bool
 | [] =>true
 |a::l=>(match zV l a 0 with |some _=>false|none=>true)&&Bw l
def SJ:Cl->List Nat| .ptrB n _=> [n] | _=> []
def RA:Cl->List Nat| .own p _ _ _ _=> [p.r] | .ptrT p _ _ _=> [p.r] | _=> []
def V1.all:V1->List Cl| .cl c=> [c] | .agg cs=>cs| .fn _ cs=>cs
def V.all:V->List Cl| .v x=>x.all| .tup _=> []
def JN (S:TS) (keep:List Nat):List Nat:=JM (keep.flatMap fun t=>(iV S.env t).all.flatMap SJ) []
def PP (S:TS) (keep bs:List Nat):List Nat:=JM (List.range S.fz++(keep.flatMap fun t=>(iV S.env t).all.flatMap RA)++bs.flatMap fun b=>((oo S.bx b).getD []).flatMap RA) []
def jc (S:TS) (keep bs ls:List Nat):TS where
 env:=keep.map fun t=>(t,MH bs ls (iV S.env t))
 bx:=bs.map fun b=>((oo S.bx b).getD []).map (wu bs ls)
 gh:=ls.map fun r=>fy S.gh r
 fz:=S.fz
 nt:=S.nt
def Ey (S:TS) (bs ls:List Nat):Bool:=Bw bs&&Bw ls&&bs.all (fun b=>Nat.blt b S.bx.length)&&Rr (ls.take S.fz) (List.range S.fz)&&ls.all (fun r=>Nat.blt r S.gh.length)
def KP (G:List (Option eB)):Cl->Cl
 | .own p sz lo len true=> .own p sz lo (match oo G p.r with |some (some tr)=>tr.l.length| _=>len) true
 |c=>c
def MI (G:List (Option eB)):V1->V1
 | .cl c=> .cl (KP G c)
 | .agg cs=> .agg (cs.map (KP G))
 | .fn f cs=> .fn f (cs.map (KP G))
def RB (G:List (Option eB)):V->V
 | .v x=> .v (MI G x)
 | .tup l=> .tup (l.map (MI G))
def Qz (S:TS):TS:= { S with env:=S.env.map (fun x=>(x.1,RB S.gh x.2)),bx:=S.bx.map (fun cs=>cs.map (KP S.gh)) }
def yA {ρ:Type} (keep:List Nat) (S:TS) (κ:TS->Option ρ):Option ρ:=bif Ey S (JN S keep) (PP S keep (JN S keep)) then κ (Qz (jc S keep (JN S keep) (PP S keep (JN S keep)))) else none
theorem yB: ∀ {l:List Nat} {x n k:Nat},zV l x n=some k->n<=k/\l[k-n]? =some x
 | [],x,n,k,h=>by cases h
 |a::l,x,n,k,h=>by
  simp only[zV] at h;cases hb:Nat.beq a x with
  |true=>simp_all
  |false=>
   rw[hb] at h;obtain⟨h1,h2⟩:=yB (l:=l) h
   grind
theorem DF: ∀ {l:List Nat} {x n:Nat},zV l x n=none->x∉l
 | [],x,n,_=>by simp
 |a::l,x,n,h=>by
  simp only[zV] at h;cases hb:Nat.beq a x with
  |true=>rw[hb] at h; cases h
  |false=>
   rw[hb] at h;have:=DF (l:=l) h;intro hm
   simp_all
theorem wv: ∀ {l:List Nat},Bw l=true-> ∀ (i j x:Nat),l[i]? =some x->l[j]? =some x->i=j
 | [],_,i,j,x,hi,_=>by simp at hi
 |a::l,h,i,j,x,hi,hj=>by
  simp only[Bw,al] at h
  have hna:a∉l:=by
   have h1:=h.1;split at h1
   ·cases h1
   ·rename_i hp; exact DF hp
  cases i with
  |zero=>
   simp only[aN,af] at hi;subst hi;cases j with
   |zero=>rfl
   |succ j=>simp only[cy] at hj; exact absurd (au hj) hna
  |succ i=>
   simp only[cy] at hi;cases j with
   |zero=>simp only[aN,af] at hj;subst hj;exact absurd (au hi) hna
   |succ j=>simp only[cy] at hj;rw[wv h.2 i j x hi hj]
def Bt.ren (bt:Bt) (bs ls:List Nat):Bt where
 β:=fun p=>bt.β ⟨ls.getD p.r 0,p.l⟩
 κ:=fun p=>bt.κ ⟨ls.getD p.r 0,p.l⟩
 bb:=fun n=>bt.bb (bs.getD n 0)
 nb:=bs.length
 ng:=ls.length
 A:=bt.A
theorem Ez {w:World} {bt:Bt} {bs ls:List Nat} {c:Cl} {u:Value} (h:VR w bt c.av u):VR w (bt.ren bs ls) (wu bs ls c).av u:=by
 have lt: ∀ {l:List Nat} {x k:Nat},zV l x 0=some k->k<l.length/\l.getD k 0=x:=by intro l x k hk;obtain⟨_,h2⟩:=yB hk;rw[cT] at h2;exact⟨(aj.1 h2).1,by simp[aD,h2]⟩
 cases c with
 |c x=>
  cases x with
  |sc v=>cases h with |sc h=>exact .sc h
  |ls t l=>cases h with |ro h=>exact .ro h
 |em=>cases h with |em a=>exact .em a
 |own p sz lo len wh=>
  simp only[wu];split
  ·rename_i k hk;obtain⟨h1,h2⟩:=lt hk;have hp: (⟨ls.getD k 0,p.l⟩:eK)=p:=by rw[h2]
   have e1: (bt.ren bs ls).κ ⟨k,p.l⟩=bt.κ p:=by have e: (bt.ren bs ls).κ ⟨k,p.l⟩=bt.κ (eK.mk (ls.getD k 0) p.l):=rfl;rw[e,hp]
   have e2: (bt.ren bs ls).β ⟨k,p.l⟩=bt.β p:=by have e: (bt.ren bs ls).β ⟨k,p.l⟩=bt.β (eK.mk (ls.getD k 0) p.l):=rfl;rw[e,hp]
   cases h with
   |own hp' hc hkk ha=>exact .own h1 hc (by rw[e1]; exact hkk) (by rw[e2]; exact ha)
  ·exact .dead _
 |pro cs=>cases h with |pro cs hs hA hr ht=>exact .pro cs hs hA hr ht
 |ptrB n j=>
  simp only[wu];split
  ·rename_i k hk;obtain⟨h1,h2⟩:=lt hk;cases h with
   |ptrB j hn=>
    have :bt.bb n=(bt.ren bs ls).bb k:=by show bt.bb n=bt.bb (bs.getD k 0); rw[h2]
    rw[this];exact .ptrB j h1
  ·exact .dead _
 |ptrT p sz i j=>
  simp only[wu];split
  ·rename_i k hk;obtain⟨h1,h2⟩:=lt hk;have hp: (⟨ls.getD k 0,p.l⟩:eK)=p:=by rw[h2]
   cases h with
   |ptrT sz i j hp' hkk=>
    have e1:bt.β p=(bt.ren bs ls).β ⟨k,p.l⟩:=by show bt.β p=bt.β ⟨ls.getD k 0,p.l⟩; rw[hp]
    rw[e1];exact .ptrT sz i j h1 (by show _<bt.κ ⟨ls.getD k 0,p.l⟩; rw[hp]; exact hkk)
  ·exact .dead _
 |dead=>exact .dead _
theorem MJ {w:World} {bt:Bt} {bs ls:List Nat} {v:V1} {u:Value} (h:VR w bt v.av u):VR w (bt.ren bs ls) (MG bs ls v).av u:=by
 have cells: ∀ (cs:List Cl) (us:List Value),us.length=cs.length->(∀ (k:Nat) (c:AV) (u:Value),(cs.map Cl.av)[k]? =some c->us[k]? =some u->VR w bt c u)-> ∀ (k:Nat) (c:AV) (u:Value),((cs.map (wu bs ls)).map Cl.av)[k]? =some c->us[k]? =some u->VR w (bt.ren bs ls) c u:=by intro cs us _ hr k c u hk hu;rw[ap,ap] at hk;simp only[ak] at hk;obtain⟨c1,⟨c0,hc0,rfl⟩,rfl⟩:=hk;exact Ez (hr k c0.av u (by rw[ap,hc0]; rfl) hu)
 cases v with
 |cl c=>exact Ez h
 |agg cs=>
  simp only[V1.av] at h;cases h with
  |agg hl ho hr=>exact .agg (by simpa using hl) ho (cells cs _ (by simpa using hl) hr)
 |fn f cs=>
  simp only[V1.av] at h;cases h with
  |fn f hl hr=>exact .fn f (by simpa using hl) (cells cs _ (by simpa using hl) hr)
theorem OW {w:World} {bt:Bt} {bs ls:List Nat} {v:V} {u:Value} (h:VR w bt v.av u):VR w (bt.ren bs ls) (MH bs ls v).av u:=by
 cases v with
 |v x=>exact MJ h
 |tup l=>exact .dead _
theorem DG (S:TS) (f:V->V): ∀ (keep:List Nat) (t:Nat),iV (keep.map fun t=>(t,f (iV S.env t))) t=V.dead\/iV (keep.map fun t=>(t,f (iV S.env t))) t=f (iV S.env t)
 | [],t=> .inl rfl
 |u::l,t=>by
  simp only[aV,iV];cases hb:Nat.beq u t with
  |true=>simp_all
  |false=>exact DG S f l t
theorem vj (S:TS) (keep bs ls:List Nat) (r:Nat):fy (jc S keep bs ls).gh r=(ls[r]?).bind fun q=>fy S.gh q:=by show (oo (ls.map fun r=>fy S.gh r) r).getD none=_;rw[fQ,ap];cases ls[r]?<;>rfl
theorem GJ [dP] {S:TS} {keep bs ls:List Nat} (h:Ey S bs ls=true):o8 S.st (jc S keep bs ls).st:=by
 unfold Ey at h;simp only[al] at h;obtain⟨⟨⟨⟨hnb,hnl⟩,hbs⟩,hfz⟩,hlt⟩:=h;have hfz:=Er hfz;intro w0 W btI SI bt a w hl;have inv:=hl.inv
 have hls: ∀ (k:Nat),k<S.fz->ls[k]? =some k:=by
  intro k hk;have : (ls.take S.fz)[k]? =(List.range S.fz)[k]? :=by rw[hfz]
  rw[bh,if_pos hk,List.getElem?_range hk] at this;exact this
 have look: ∀p s rs,(jc S keep bs ls).st.look p= .sl s rs-> ∃q,ls[p.r]? =some q/\S.st.look ⟨q,p.l⟩= .sl s rs/\ls.getD p.r 0=q:=by
  intro p s rs hp;unfold St.look at hp
  have e: (jc S keep bs ls).st.gh p.r=((ls[p.r]?).bind fun q=>fy S.gh q).map eB.tree:=by show (fy _ _).map eB.tree=_;rw[vj]
  rw[e] at hp;cases hq:ls[p.r]? with
  |none=>rw[hq] at hp; cases hp
  |some q=>refine⟨q,rfl,?_,by simp[aD,hq]⟩;rw[hq] at hp;exact hp
 have box: ∀n cells,(jc S keep bs ls).st.bx n=some cells-> ∃b cs,bs[n]? =some b/\S.bx[b]? =some cs/\cells=(cs.map (wu bs ls)).map Cl.av/\bs.getD n 0=b:=by intro n cells hn;have hn': (oo (bs.map fun b=>((oo S.bx b).getD []).map (wu bs ls)) n).map (fun cs=>cs.map Cl.av)=some cells:=hn;rw[fQ,ap] at hn';simp only[ak] at hn';obtain⟨x,⟨b,hb,rfl⟩,rfl⟩:=hn';have hlt':b<S.bx.length:=ar (ax.1 hbs b (au hb));refine⟨b,S.bx[b],hb,ah hlt',?_,by simp[aD,hb]⟩;rw[fQ,ah hlt'];rfl
 have bxS: ∀ {b:Nat} {cs:List Cl},S.bx[b]? =some cs->S.st.bx b=some (cs.map Cl.av):=by intro b cs hb;show (oo S.bx b).map _=_;rw[fQ,hb];rfl
 refine⟨bt.ren bs ls,?_⟩
 refine⟨{ good:=inv.good,os:=inv.os,tape:=inv.tape,output:=inv.output,size:=inv.size,keep:=inv.keep
          nb:=by show bs.length=_; simp[TS.st,jc]
          ng:=by show ls.length=_; simp[TS.st,jc]
          bx:=fun n cells hn=> ?_
          gh:=fun r t hr=> ?_
          tr:=fun p sz rows hp=> ?_
          inj:=fun p q s rs s' rs' hp hq hk hk' he=> ?_
          bbinj:=fun n m cs cs' hn hm he=> ?_
          bbtr:=fun n cs p s rs hn hp hk=> ?_
          alt:=inv.alt
          atr:=fun p s rs hp hk=> ?_
          abb:=fun n cs hn=> ?_ },⟨hl.er.1,fun t=> ?_⟩,hl.defers,hl.fz,?_,fun p hp=> ?_,fun r hr hn=> ?_⟩
 ·obtain⟨b,cs,h1,h2,rfl,h4⟩:=box n cells hn;obtain⟨g1,g2,arr,e,g3,g4,g5⟩:=inv.bx b _ (bxS h2);refine⟨by grind [TS.st,jc],by show _<=bt.bb (bs.getD n 0); rw[h4]; exact g2,arr,e,by show w.heap[bt.bb (bs.getD n 0)]? =_; rw[h4]; exact g3,by simpa using g4,fun j v hj=> ?_⟩;rw[ap,ap] at hj;simp only[ak] at hj;obtain⟨c1,⟨c0,hc0,rfl⟩,rfl⟩:=hj;obtain⟨c,k1,k2,k3⟩:=g5 j c0.av (by rw[ap,hc0]; rfl);exact⟨c,k1,Ez k2,k3⟩
 ·grind [jc,vj,TS.st]
 ·obtain⟨q,h1,h2,h3⟩:=look p sz rows hp;obtain⟨g1,g2⟩:=inv.tr _ _ _ h2;have eκ: (bt.ren bs ls).κ p=bt.κ ⟨q,p.l⟩:=by show bt.κ ⟨ls.getD p.r 0,p.l⟩=_; rw[h3]
  have eβ: (bt.ren bs ls).β p=bt.β ⟨q,p.l⟩:=by show bt.β ⟨ls.getD p.r 0,p.l⟩=_; rw[h3]
  rw[eκ,eβ];refine⟨g1,fun hk=>⟨(g2 hk).1,?_⟩⟩;obtain⟨_,cs,e,k1,k2,k3,k4⟩:=g2 hk;refine⟨cs,e,by rw[eβ]; exact k1,by rw[eβ,eκ]; exact k2,k3,fun i r hi=> ?_⟩;obtain⟨m1,m2⟩:=k4 i r hi;refine⟨m1,fun j x hj=> ?_⟩;obtain⟨c,n1,n2⟩:=m2 j x hj;refine⟨c,by rw[eβ]; exact n1,?_⟩;have f1: (bt.ren bs ls).κ (p.sub i j)=bt.κ (eK.sub ⟨q,p.l⟩ i j):=by show bt.κ ⟨ls.getD p.r 0,p.l++ [(i,j)]⟩=bt.κ ⟨q,p.l++ [(i,j)]⟩; rw[h3]
  have f2: (bt.ren bs ls).β (p.sub i j)=bt.β (eK.sub ⟨q,p.l⟩ i j):=by show bt.β ⟨ls.getD p.r 0,p.l++ [(i,j)]⟩=bt.β ⟨q,p.l++ [(i,j)]⟩; rw[h3]
  cases n2 with
  |sc h=>exact .sc h
  |dd u=>exact .dd _
  |sl q1 q2 q3=>exact .sl q1 (by rw[f1]; exact q2) (by rw[f2]; exact q3)
 ·obtain⟨p',h1,h2,h3⟩:=look p s rs hp;obtain⟨q',g1,g2,g3⟩:=look q s' rs' hq;have:=inv.inj ⟨p',p.l⟩ ⟨q',q.l⟩ _ _ _ _ h2 g2 (by rw[<-h3]; exact hk) (by rw[<-g3]; exact hk') (by rw[<-h3,<-g3]; exact he);simp only[eK.mk.injEq] at this;obtain⟨e1,e2⟩:=this;subst e1;have e3:=wv hnl _ _ _ h1 g1;cases p<;>simp_all
 ·obtain⟨b,c,h1,h2,_,h4⟩:=box n cs hn;obtain⟨b',c',g1,g2,_,g4⟩:=box m cs' hm
  have:=inv.bbinj b b' _ _ (bxS h2) (bxS g2) (by have he':bt.bb (bs.getD n 0)=bt.bb (bs.getD m 0):=he;rw[h4,g4] at he';exact he')
  grind [wv]
 ·obtain⟨b,c,h1,h2,_,h4⟩:=box n cs hn;obtain⟨q,g1,g2,g3⟩:=look p s rs hp;have hk':0<bt.κ ⟨ls.getD p.r 0,p.l⟩:=hk;rw[g3] at hk';show bt.bb (bs.getD n 0)≠(bt.β ⟨ls.getD p.r 0,p.l⟩).1;rw[h4,g3];exact inv.bbtr _ _ _ _ _ (bxS h2) g2 hk'
 ·obtain⟨q,g1,g2,g3⟩:=look p s rs hp;have hk':0<bt.κ ⟨ls.getD p.r 0,p.l⟩:=hk;rw[g3] at hk';show ¬bt.A (bt.β ⟨ls.getD p.r 0,p.l⟩).1;rw[g3];exact inv.atr _ _ _ g2 hk'
 ·obtain⟨b,c,h1,h2,_,h4⟩:=box n cs hn;show ¬bt.A (bt.bb (bs.getD n 0));rw[h4];exact inv.abb _ _ (bxS h2)
 ·show VR w _ (iV (jc S keep bs ls).env t).av _;rcases DG S (MH bs ls) keep t with h1|h1
  ·have :iV (jc S keep bs ls).env t=V.dead:=h1;rw[this];exact .dead _
  ·have :iV (jc S keep bs ls).env t=MH bs ls (iV S.env t):=h1;rw[this];exact OW (hl.er.2 t)
 ·show S.fz<=(jc S keep bs ls).gh.length
  grind [jc]
 ·have hp':p.r<S.fz:=by have:=hl.fz; have e:S.st.fz=S.fz:=rfl; omega
  have h3:ls.getD p.r 0=p.r:=by simp[aD,hls p.r hp']
  have:=hl.keep p hp;show bt.β ⟨ls.getD p.r 0,p.l⟩=_/\bt.κ ⟨ls.getD p.r 0,p.l⟩=_;rw[h3];exact this
 ·have hr':r<S.fz:=by have:=hl.fz; have e:S.st.fz=S.fz:=rfl; omega
  refine hl.gone r hr ?_;have hn': (fy (jc S keep bs ls).gh r).map eB.tree=none:=hn;rw[vj,hls r hr'] at hn';exact hn'
theorem Au {S:TS} {bs ls:List Nat} {keep:List Nat} {c:Cl} (h:c.ok S.gh): (wu bs ls c).ok (jc S keep bs ls).gh:=by
 have lt: ∀ {x k:Nat},zV ls x 0=some k->k< (jc S keep bs ls).gh.length/\ls[k]? =some x:=by intro x k hk;obtain⟨_,h2⟩:=yB hk;rw[cT] at h2;exact⟨by grind [jc],h2⟩
 cases c with
 |own p sz lo len w=>
  simp only[wu];split
  ·rename_i k hk;obtain⟨h1,h2⟩:=lt hk;refine⟨h1,fun hw=> ?_⟩;obtain⟨a,b,c⟩:=h.2 hw
   grind [vj]
  ·trivial
 |ptrT p sz i j=>
  simp only[wu];split
  ·rename_i k hk; exact (lt hk).1
  ·trivial
 |ptrB n j=>simp only[wu]; split<;>trivial
 | _=>trivial
theorem OX {S:TS} {bs ls:List Nat} {keep:List Nat} {v:V} (h:v.ok S.gh): (MH bs ls v).ok (jc S keep bs ls).gh:=by
 have one: ∀ {v:V1},v.ok S.gh->(MG bs ls v).ok (jc S keep bs ls).gh:=by
  intro v h;cases v with
  |cl c=>exact Au h
  |agg cs=>intro c hc; obtain⟨x,hx,rfl⟩:=aJ.1 hc; exact Au (h x hx)
  |fn f cs=>intro c hc; obtain⟨x,hx,rfl⟩:=aJ.1 hc; exact Au (h x hx)
 cases v with
 |v x=>exact one h
 |tup l=>trivial
theorem KQ {S:TS} (hS:S.ok) (keep bs ls:List Nat): (jc S keep bs ls).ok:=by
 refine⟨fun x hx=> ?_,fun cs hcs c hc=> ?_⟩
 ·obtain⟨t,_,rfl⟩:=aJ.1 hx;exact OX (Ar hS t)
 ·obtain⟨b,_,rfl⟩:=aJ.1 hcs;obtain⟨x,hx,rfl⟩:=aJ.1 hc;cases hb:oo S.bx b with
  |none=>rw[hb] at hx; cases hx
  |some cs=>rw[hb] at hx;rw[fQ] at hb;exact Au (hS.bx cs (au hb) x hx)
theorem Av {G:List (Option eB)} {c:Cl} (h:c.ok G):KP G c=c:=by
 unfold KP;split
 ·rename_i p sz lo len;split
  ·rename_i tr htr;rw[(h.2 rfl).2.2 tr (by unfold fy; rw[htr]; rfl)]
  ·rfl
 ·rfl
theorem GK {G:List (Option eB)} {v:V1} (h:v.ok G):MI G v=v:=by
 cases v with
 |cl c=>exact congrArg V1.cl (Av h)
 |agg cs=>exact congrArg V1.agg ((aI fun c hc=>Av (h c hc)).trans (List.map_id' cs))
 |fn f cs=>exact congrArg (V1.fn f) ((aI fun c hc=>Av (h c hc)).trans (List.map_id' cs))
theorem OY {G:List (Option eB)} {v:V} (h:v.ok G):RB G v=v:=by
 cases v with
 |v x=>exact congrArg V.v (GK h)
 |tup l=>exact congrArg V.tup ((aI fun c hc=>GK (h c hc)).trans (List.map_id' l))
theorem OZ {S:TS} (h:S.ok):Qz S=S:=by unfold Qz;rw[aI (g:=id) (fun x hx=>by rw[OY (h.env x hx)]; rfl),aI (g:=id) (l:=S.bx) (fun cs hcs=>(aI fun c hc=>Av (h.bx cs hcs c hc)).trans (List.map_id' cs)),List.map_id,List.map_id]
theorem rY [dP] {ρ:Type} {S:TS} (hS:S.ok) {keep:List Nat} {κ:TS->Option ρ} {r:ρ} (h:yA keep S κ=some r): ∃S1:TS,o8 S.st S1.st/\S1.ok/\κ S1=some r:=by
 unfold yA at h;obtain⟨h1,h⟩:=dX h
 grind [OZ,KQ,GJ]
end
end Go.Proofs.YtadabkgmdllbfaaGreat.En
