import Derived.Test.YtadabkgmdllbfabGreatZX7
namespace Go.Proofs.YtadabkgmdllbfabGreat.En
section
open Go
section
variable {ρ:Type} {P:Program} {Θ:nD} {S:TS} {Y:ya}
theorem HJ (hS:S.ok) {ops:Array Oper} {o:Oper} {κ:Bool->TS->Option ρ} {r:ρ} (h:Ku S ops.toList o κ=some r): ∃b S1,nX S.st ops o=some b/\S1.st=S.st/\S1.ok/\S1.gh=S.gh/\κ b S1=some r:=by
 unfold Ku at h;split at h
 ·rename_i hg;exact⟨true,S,by unfold nX; rw[hg],rfl,hS,rfl,h⟩
 ·rename_i j want hg;split at h
  ·rename_i oj hj;split at h
   ·rename_i d hd;rw[gv,cM] at hj;split at h
    ·rename_i he;refine⟨_,S,?_,rfl,hS,rfl,h⟩;unfold nX;rw[hg];simp only[hj,ae,hd];have :S.st.env d= .tup [] :=by show (jx S.env d).av=_; rw[he]; rfl
     rw[this]
    ·obtain⟨b,S1,h1,h2,h3,h4,h5⟩:=B7 hS h;refine⟨_,S1,?_,h2,h3,h4,h5⟩;unfold nX;rw[hg];simp only[hj,ae,hd];have :S.st.env d= .sc (.bool b):=h1;rw[this]
   ·cases h
  ·cases h
theorem kp (hS:S.ok) {d:Option Tmp} {v:V} (hv:v.ok S.gh) {κ:TS->Option ρ} {r:ρ} (h:rd S d v κ=some r): ∃S1,S.st.put d v.av=some (TS.st S1)/\S1.ok/\S1.gh=S.gh/\κ S1=some r:=by
 unfold rd at h;split at h
 ·rename_i t;obtain⟨h1,h⟩:=ej h;have h1:t<S.nt:=ar h1;refine⟨{ S with env:=(t,v)::S.env },?_,⟨fun x hx=> ?_,hS.bx⟩,rfl,h⟩
  ·simp only[St.put];rw[if_pos (show t<S.st.nt from h1)]
   congr 1
   unfold TS.st
   congr 1
   funext u
   unfold fp;simp only[jx];cases hb:Nat.beq t u with
   |true=>simp_all
   |false=>
    have : ¬u=t:=by intro e; subst e; rw[cX] at hb; cases hb
    rw[if_neg this];rfl
  ·rcases aX.1 hx with rfl|hx
   ·exact hv
   ·exact hS.env x hx
 ·exact⟨S,rfl,hS,rfl,h⟩
theorem NE {α:Type} {x y:Option α} {r:α} (h:Pr x y none=some r):x=some r/\y=some r:=by grind [Pr]
theorem NF {α:Type} (x z:α):Pr x x z=x:=by unfold Pr; rw[if_pos rfl]
theorem FD {o:Oper} {t:TypeId} {x:Operand} (h:Bn o=some (t,x)): (∃t',o.op= .binOp .eql t x (.const (.slice none 0 0)) t')/\o.guard=none:=by
 unfold Bn at h
 grind
theorem Ck {o:Oper} {k:Nat} {g:FuncId} {caps:List Cl} {a:Fv} {us:List TypeId} {xs:List Operand} (h:B3 Y S o=some (k,g,caps,a,us,xs)):
  ∃f as ts x t,o.op= .call { callee:= .value f,args:=as,argTypes:=ts } /\as.toList=x::xs/\ts.toList=t::us/\zy (S.opd x)=some a/\g<jy/\
   ((∃a b,S.opd f= .v (.cl (.c (.sc (.func (.func g) a b))))/\caps= [])\/S.opd f= .v (.fn g caps)):=by
 unfold B3 at h;split at h
 ·rename_i f as ts hop;split at h
  ·rename_i x xs' t us' e1 e2;split at h
   ·rename_i a' hx;split at h
    ·rename_i g' a b hf;obtain⟨h2,h⟩:=ej h;simp only[al] at h2;simp only[af,an] at h;obtain⟨rfl,rfl,rfl,rfl,rfl,rfl⟩:=h;exact⟨f,as,ts,x,t,hop,e1,e2,hx,ar h2.1, .inl ⟨a,b,hf,rfl⟩⟩
    ·rename_i g' caps' hf;obtain⟨h2,h⟩:=ej h;simp only[al] at h2;simp only[af,an] at h;obtain⟨rfl,rfl,rfl,rfl,rfl,rfl⟩:=h;exact⟨f,as,ts,x,t,hop,e1,e2,hx,ar h2.1, .inr hf⟩
    ·cases h
   ·cases h
  ·cases h
 ·cases h
theorem KK (c:Cl): (AW c).av=zu 1 c.av:=by
 cases c with
 |c x=>cases x<;>rfl
 |own p sz lo len w=>
  cases h:Nat.ble 1 p.r with
  |true=>simp only[AW,h,cond_true,Cl.av,zu]; rw[if_pos (ar h)]
  |false=>simp only[AW,h,cond_false,Cl.av,zu]; rw[if_neg fun e=>by rw[dh e] at h; cases h]
 |ptrT p sz i j=>
  cases h:Nat.ble 1 p.r with
  |true=>simp only[AW,h,cond_true,Cl.av,zu]; rw[if_pos (ar h)]
  |false=>simp only[AW,h,cond_false,Cl.av,zu]; rw[if_neg fun e=>by rw[dh e] at h; cases h]
 | _=>rfl
theorem PJ (c:Cl):Hi 1 c.av=zu 1 c.av:=by
 cases c with
 |c x=>cases x<;>rfl
 | _=>rfl
theorem HK (v:V1): (Hs v).av=Hi 1 v.av:=by
 cases v with
 |cl c=>exact (KK c).trans (PJ c).symm
 |agg cs=>simp_all [Hs,V1.av,Hi,KK]
 |fn f cs=>rfl
theorem PK (v:V): (Nb v).av=M4 1 v.av:=by
 cases v with
 |v x=>
  refine (HK x).trans ?_;cases x with
  |cl c=>cases c with
   |c x=>cases x<;>rfl
   | _=>rfl
  | _=>rfl
 |tup l=>simp_all [Nb,V.av,M4,HK]
theorem KL {x:eT} {G:List eT} {c:Cl} (h:c.ok ((x::G).map some)): (AW c).ok (G.map some):=by
 cases c with
 |own p sz lo len w=>
  cases hb:Nat.ble 1 p.r with
  |true=>
   have h1:=ar hb;simp only[AW,hb,cond_true];obtain⟨h2,h3⟩:=h;refine⟨by simp at h2 ⊢; omega,fun hw=> ?_⟩
   grind [fW,gv]
  |false=>simp only[AW,hb,cond_false]; trivial
 |ptrT p sz i j=>
  cases hb:Nat.ble 1 p.r with
  |true=>have h1:=ar hb;simp only[AW,hb,cond_true];have h:p.r< ((x::G).map some).length:=h;show p.r-1< (G.map some).length;simp at h ⊢;omega
  |false=>simp only[AW,hb,cond_false]; trivial
 |c x=>cases x<;>trivial
 | _=>trivial
theorem HL {x:eT} {G:List eT} {v:V1} (h:v.ok ((x::G).map some)): (Hs v).ok (G.map some):=by
 cases v with
 |cl c=>exact KL h
 |agg cs=>intro c hc;obtain⟨y,hy,rfl⟩:=aM.1 hc;exact KL (h y hy)
 |fn f cs=>trivial
theorem PL {x:eT} {G:List eT} {v:V} (h:v.ok ((x::G).map some)): (Nb v).ok (G.map some):=by
 cases v with
 |v x=>exact HL h
 |tup l=>intro c hc;obtain⟨y,hy,rfl⟩:=aM.1 hc;exact HL (h y hy)
theorem EN (hΘ:gz P Θ) (hS:S.ok): ∀ (ts:List TypeId) (as:List Operand) (κ:List V1->Option ρ) (r:ρ),wK Θ S ts as κ=some r->ts.length=as.length
 | [],[],_,_,_=>rfl
 | [],_::_,_,_,h=>by simp[wK] at h
 | _::_,[],_,_,h=>by simp[wK] at h
 |t::ts,a::as,κ,r,h=>by unfold wK at h;obtain⟨v,_,h⟩:=Ns hΘ hS (nq hS a) h;rw[bB,bB,EN hΘ hS ts as _ r h]
structure rg (S S1:TS) (L:List Nat):Prop where
 env:S1.env=S.env
 bx:S1.bx=S.bx
 fz:S1.fz=S.fz
 nt:S1.nt=S.nt
 len:S1.gh.length=S.gh.length
 gh: ∀r,fW S1.gh r=if L.contains r then none else fW S.gh r
 was: ∀q∈L,∃tr,fW S.gh q=some tr
theorem rg.refl (S:TS):rg S S [] :=⟨rfl,rfl,rfl,rfl,rfl,fun _=>by simp,fun _ h=>by cases h⟩
theorem rg.one {q:Nat} {tr:eT} (h:fW S.gh q=some tr):rg S { S with gh:=fL S.gh q none } [q] :=
 ⟨rfl,rfl,rfl,rfl,by simp[ik],fun r=>by
  show fW (fL S.gh q none) r=_
  simp_all [pL],fun r hr=>by grind⟩
theorem rg.trans {S1 S2:TS} {L L':List Nat} (h:rg S S1 L) (k:rg S1 S2 L'):rg S S2 (L++L'):=
 ⟨k.env.trans h.env,k.bx.trans h.bx,k.fz.trans h.fz,k.nt.trans h.nt,k.len.trans h.len,fun r=>by
  rw[k.gh,h.gh]
  grind,fun q hq=>by
  rcases aY.1 hq with hq|hq
  ·exact h.was q hq
  ·obtain⟨tr,ht⟩:=k.was q hq;rw[h.gh] at ht
   grind⟩
theorem rg.apart {S1 S2:TS} {L L':List Nat} (h:rg S S1 L) (k:rg S1 S2 L') (h1:L.Nodup) (h2:L'.Nodup): (L++L').Nodup:=by rw[List.nodup_append];refine⟨h1,h2,fun a ha b hb e=> ?_⟩;subst e;obtain⟨tr,ht⟩:=k.was a hb;rw[h.gh,if_pos (by simpa using ha)] at ht;cases ht
theorem rg.le {S1:TS} {L:List Nat} (h:rg S S1 L):jb S.gh S1.gh:=⟨by rw[h.len]; exact aq _,fun r tr _ ht=>by
 rw[h.gh] at ht
 grind⟩
theorem rg.ok {S1:TS} {L:List Nat} (h:rg S S1 L) (hS:S.ok):S1.ok:=
 ⟨fun x hx=>V.ok_mono h.le (hS.env x (by rw[<-h.env]; exact hx)),fun cs hcs c hc=>Cl.ok_mono h.le (hS.bx cs (by rw[<-h.bx]; exact hcs) c hc)⟩
theorem rg.st {S1:TS} {L:List Nat} (h:rg S S1 L):S1.st=dropL S.st L:=by
 unfold TS.st dropL;rw[h.env,h.bx,h.fz,h.nt,h.len];simp only
 congr 1
 funext r
 rw[h.gh];cases L.contains r<;>rfl
theorem EO: ∀ (L:List Nat) (S:TS),L.Nodup->(∀r∈L,∃tr,fW S.gh r=some tr)->rg S { S with gh:=Q1 S.gh L } L
 | [],S,_,_=>rg.refl S
 |r::L,S,hnd,h=>by
  obtain⟨tr,htr⟩:=h r aK;rw[List.nodup_cons] at hnd;have h1:=rg.one htr
  have h2:=EO L { S with gh:=fL S.gh r none } hnd.2 (fun r' hr'=>by
   obtain⟨tr',htr'⟩:=h r' (aL _ hr');refine⟨tr',?_⟩;rw[h1.gh,if_neg]
   ·exact htr'
   ·intro hc;rw[bR,aD] at hc;subst hc;exact hnd.1 hr')
  exact h1.trans h2
theorem xD: ∀ (cs:List Cl) (ys:List C) (L:List Nat),we S cs=some (ys,L)->(∀c∈cs,c.ok S.gh)->ys.length=cs.length/\(qA ys).length=L.length/\
  (∀ (k r:Nat),L[k]? =some r-> ∃el l,(qA ys)[k]? =some ⟨el,l,none⟩/\fW S.gh r=some ⟨el,l,none⟩)/\
  ∀ (w:World) (bt bt':Bt) (m:Nat),(∀ (k r:Nat),L[k]? =some r->bt'.β ⟨m+k,[]⟩=bt.β ⟨r,[]⟩/\bt'.κ ⟨m+k,[]⟩=bt.κ ⟨r,[]⟩/\m+k<bt'.ng)->
    ∀ (j:Nat) (c c':Cl) (u:Value),cs[j]? =some c->(xA ys m)[j]? =some c'->VR w bt c.av u->VR w bt' c'.av u
 | [],ys,L,h,_=>by simp only[we,af,an] at h;obtain⟨rfl,rfl⟩:=h;exact⟨rfl,rfl,fun k r hk=>by simp at hk,fun w bt bt' m _ j c c' u hj=>by simp at hj⟩
 |c0::cs,ys,L,h,hok=>by
  unfold we at h;split at h
  ·cases ‹_= []›
  ·rename_i v cs' e;simp only[bN] at e;obtain⟨rfl,rfl⟩:=e;split at h
   ·rename_i ys' L' hr;simp only[af,an] at h;obtain⟨rfl,rfl⟩:=h;obtain⟨h1,h2,h3,h4⟩:=xD cs ys' L' hr (fun c hc=>hok c (aL _ hc));refine⟨by simp[h1],h2,h3,fun w bt bt' m hm j c c' u hj hj' hv=> ?_⟩;cases j with
    |zero=>
     simp only[xA,aP,af] at hj hj';subst hj hj';cases hv with
     |sc h=>exact .sc h
    |succ j=>exact h4 w bt bt' m hm j c c' u (by simpa using hj) (by simpa [xA] using hj') hv
   ·cases h
  ·rename_i r sz lo len cs' e;simp only[bN] at e;obtain⟨rfl,rfl⟩:=e;split at h
   ·rename_i el l hg;obtain⟨hsz,h0⟩:=ej h;have hsz:sz=el.width:=ao hsz;clear h;split at h0
    ·rename_i ys' L' hr;simp only[af,an] at h0;obtain⟨rfl,rfl⟩:=h0;obtain⟨h1,h2,h3,h4⟩:=xD cs ys' L' hr (fun c hc=>hok c (aL _ hc));obtain⟨_,hlo⟩:=hok (.own ⟨r,[]⟩ sz lo len true) aK;obtain⟨_,hlo,hln⟩:=hlo rfl;have hln:=hln _ hg;simp only at hln;refine⟨by simp[h1],by simp[qA,h2],fun k r' hk=> ?_,fun w bt bt' m hm j c c' u hj hj' hv=> ?_⟩
     ·cases k with
      |zero=>simp only[aP,af] at hk;subst hk;exact⟨el,l,rfl,hg⟩
      |succ k=>exact h3 k r' (by simpa using hk)
     ·cases j with
      |zero=>
       simp only[xA,aP,af] at hj hj';subst hj hj' hsz hlo hln;obtain⟨e1,e2,e3⟩:=hm 0 r rfl;rw[bX] at e1 e2 e3;cases hv with
       |own hp hc hk ha=>exact .own e3 hc (by rw[e2]; exact hk) (by rw[e1]; exact ha)
      |succ j=>exact h4 w bt bt' (m+1) (fun k r' hk=>by
        have:=hm (k+1) r' (by simpa using hk)
        rwa [show m+(k+1)=m+1+k by omega] at this) j c c' u (by simpa using hj) (by simpa [xA] using hj') hv
    ·cases h0
   ·cases h
  ·cases h
theorem so: ∀ (ys:List C) (m:Nat),(xA ys m).length=ys.length
 | [],_=>rfl
 | .sc v::r,m=>by simp[xA,so r m]
 | .ls t l::r,m=>by simp[xA,so r (m+1)]
theorem HM: ∀ (L:List Nat) (S:TS) (out:List eT) (κ:TS->Option ρ) (r:ρ),L.Nodup->B4 S L out κ=some r->
  ∃Sp:TS,Sp.env=S.env/\Sp.bx=S.bx/\Sp.fz=S.fz/\Sp.nt=S.nt/\Sp.gh.length=S.gh.length/\out.length=L.length/\(∀ (k q:Nat),L[k]? =some q->fW Sp.gh q=out[k]?)/\(∀q,q∉L->fW Sp.gh q=fW S.gh q)/\jb S.gh Sp.gh/\κ Sp=some r
 | [],S,out,κ,r,_,h=>by
   cases out with
   |nil=>exact⟨S,rfl,rfl,rfl,rfl,rfl,rfl,fun k q hk=>by simp at hk,fun _ _=>rfl,jb.refl _,h⟩
   |cons x out=>simp[B4] at h
 |q::L,S,out,κ,r,hnd,h=>by
  rw[List.nodup_cons] at hnd;cases out with
  |nil=>simp[B4] at h
  |cons x out=>
   obtain⟨t,l',hole⟩:=x;cases hole with
   |some y=>simp[B4] at h
   |none=>
    simp only[B4] at h;split at h
    ·rename_i el l hg;obtain⟨ht,h⟩:=ej h;have ht:t=el:=by simpa using ht
     subst ht;obtain⟨hl,h⟩:=fA h;obtain⟨Sp,a1,a2,a3,a4,a5,a6,a7,a8,a9,h⟩:=HM L { S with gh:=fL S.gh q (some ⟨t,l',none⟩) } out κ r hnd.2 h;have hql:=uk hg;have hG:jb S.gh (fL S.gh q (some ⟨t,l',none⟩)):=jb.put hg hl;refine⟨Sp,a1,a2,a3,a4,by rw[a5]; simp[ik],by simp[a6],fun k q' hk=> ?_,fun q' hq'=> ?_,hG.trans a9,h⟩
     ·cases k with
      |zero=>
       simp only[aP,af] at hk;subst hk;rw[a8 q hnd.1];show fW (fL S.gh q _) q=_
       simp_all [pL]
      |succ k=>grind
     ·rw[a8 q' (fun hm=>hq' (aL _ hm))];show fW (fL S.gh q _) q'=_
      simp_all [pL]
    ·cases h
theorem Cm {res:V} (h:Ps res=true):res.av.plain=true/\ ∀G,res.ok G:=by
 unfold Ps at h;split at h
 ·exact⟨rfl,fun _=>trivial⟩
 ·exact⟨rfl,fun _ x hx=>by cases hx⟩
 ·cases h
theorem HN [dY] (hΘ:gz P Θ) (hY:lN P Y) (hS:S.ok) {o:Oper} {k:Nat} {g:FuncId} {caps:List Cl} {a:Fv} {us:List TypeId} {xs:List Operand} (ht:B3 Y S o=some (k,g,caps,a,us,xs)) {κ:TS->Option ρ} {r:ρ}
  (h:B5 Θ Y S k g caps a us xs o.dst κ=some r): ∃S3:TS,(∀n0,ll P n0 S.st o S3.st)/\S3.ok/\κ S3=some r:=by
 obtain⟨f,as,ts,x,t0,hop,has,hts,hx,hgk,hf⟩:=Ck ht
 have hcal:callee S.st f=some (g,caps.map Cl.av):=by unfold callee;rw[ez];rcases hf with ⟨_,_,hf,rfl⟩|hf<;>(rw[hf]; rfl)
 have others: ∀ {S0:TS} (hS0:S0.ok) (hG:jb S.gh S0.gh) {K:List V1->Option ρ},ym Θ S0 us xs caps K=some r->
   ∃vs,us.length=xs.length/\uJ P S0.st us xs (caps.map Cl.av)=vs.map V1.av/\K vs=some r:=by
  intro S0 hS0 hG K h;have hlen:=EN hΘ hS0 _ _ _ _ h;obtain⟨vs,h1,h⟩:=vn hΘ hS0 _ _ _ _ h
  have hcaps: ∀c∈caps,c.ok S0.gh:=by
   intro c hc;rcases hf with ⟨_,_,_,rfl⟩|hf
   ·cases hc
   ·have:=nq hS f;rw[hf] at this;exact Cl.ok_mono hG (this c hc)
  obtain⟨ks,h2,h⟩:=Cd hS0 _ _ _ hcaps h;refine⟨_,hlen,?_,h⟩;unfold uJ;rw[h1,h2,b0,bK];rfl
 have stays: ∀ {q:Nat} {el:Ty} {l:List el.D} {vs:List V1} {av0:AV} {res:V} {out:List eT},fW S.gh q=some ⟨el,l,none⟩->us.length=xs.length->uJ P ({ S with gh:=fL S.gh q none }:TS).st us xs (caps.map Cl.av)=vs.map V1.av->
   (∀ (w:World) (bt:Bt) (u:Value),VR w bt (opd S.st x) u->VR w (handG bt S.st w [⟨q,[]⟩]) av0 u)->jI P g (av0::vs.map V1.av) [.sl el.width (l.map el.row)] 1 res.av (out.map eT.tree)->res.ok (out.map some)->Kv S q el l res out o.dst κ=some r-> ∃S3:TS,(∀n0,ll P n0 S.st o S3.st)/\S3.ok/\κ S3=some r:=by
  intro q el l vs av0 res out hq hlen hargs hx hSK hro h;unfold Kv at h;split at h
  ·rename_i t' l' more;obtain⟨hc,h⟩:=ej h;have hc:=of_decide_eq_true hc;subst hc;obtain⟨hll,h⟩:=fA h;have hd:=rg.one hq;have hG:jb S.gh (fL S.gh q (some ⟨t',l',none⟩)):=jb.put hq hll;have hl0: (fL S.gh q (some ⟨t',l',none⟩)).length=S.gh.length:=by rw[ik]; simp
   have hrk: (rc S.gh.length (Nb res)).ok (fL S.gh q (some ⟨t',l',none⟩)++more.map some):=by
    have:=wk (G:=fL S.gh q (some ⟨t',l',none⟩)) (PL hro)
    rwa [hl0] at this
   obtain⟨S3,k1,k2,_,h⟩:=kp (S:= { S with gh:=fL S.gh q (some ⟨t',l',none⟩)++more.map some }) (TS.ok_gh hS (hG.trans (jb.apps _ _))) hrk h;rw[show ({ S with gh:=fL S.gh q (some ⟨t',l',none⟩)++more.map some }:TS).st=_ from ul { S with gh:=fL S.gh q (some ⟨t',l',none⟩) } res.av more,wj,PK] at k1
   have htr:S.st.gh q=some (.sl t'.width (l.map t'.row)):=by show (fW S.gh q).map eT.tree=_;rw[hq];rfl
   have hql:=uk hq
   have hGave:AR S.st ([q].map fun r=>⟨r,[]⟩) [.sl t'.width (l.map t'.row)] :=xw rfl (by simp) (fun k r hk=>by grind)
   refine⟨S3,fun n0=>ll.handG hop has hlen hcal (ug [q]) (fun w0 W bt w hI=>hI.dropL [q]) hGave hx (m:=1) (res:=res.av) (out:=eT.tree ⟨t',l',none⟩::more.map eT.tree) (by rw[<-hd.st,hargs]; exact hSK)
    (BV (Sp:=({ S with gh:=fL S.gh q (some ⟨t',l',none⟩) }:TS).st) hGave (by simp) rfl rfl rfl hl0 rfl rfl (fun k r hk=> ?_) (fun r hr=> ?_)) k1,k2,h⟩
   ·cases k with
    |zero=>simp_all [xB,fp]
    |succ k=>simp at hk
   simp_all [xB,fp]
  ·cases h
 have hxo:=nq hS x;cases a with
 |own q sz=>
  obtain⟨lo,len,hxv⟩: ∃lo len,S.opd x= .v (.cl (.own ⟨q,[]⟩ sz lo len true)):=by
   unfold zy at hx
   grind
  rw[hxv] at hxo;unfold B5 at h;simp only at h;split at h
  ·rename_i el l hq;obtain⟨hsz,h0⟩:=ej h;have hsz:sz=el.width:=ao hsz;clear h;subst hsz;have hd:=rg.one hq;obtain⟨vs,hlen,hargs,h⟩:=others (hd.ok hS) hd.le h0;obtain⟨_,hlo,hln⟩:=hxo.2 rfl;have hln:=hln _ hq;subst hlo hln
   have hav: ∀ (w:World) (bt:Bt) (u:Value),VR w bt (opd S.st x) u->VR w (handG bt S.st w [⟨q,[]⟩]) (.own ⟨0,[]⟩ el.width 0 l.length) u:=fun w bt u hv=>by
    rw[ez,hxv] at hv;have hv:VR w bt (.own ⟨q,[]⟩ el.width 0 l.length) u:=hv;cases hv with
    |own hp hc hk ha=>exact .own cN hc hk ha
   cases hk:Nat.beq k 1 with
   |true=>rw[hk] at h;simp only[cond_true] at h;obtain⟨res,out,g1,g2,h⟩:=hY _ _ _ _ _ h;exact stays hq hlen hargs hav (g1.io g rfl hgk).get g2 h
   |false=>
    rw[hk] at h;simp only[cond_false] at h;obtain⟨hfz0,h⟩:=ej h;have hfz:S.st.fz<=q:=ar hfz0;obtain⟨res,out,g1,g2,h⟩:=hY _ _ _ _ _ h;have g1:=(g1.mv g rfl hgk).get;have hl0: (fL S.gh q none).length=S.gh.length:=by rw[ik]; simp
    have hro: (rc S.gh.length res).ok (fL S.gh q none++out.map some):=by
     have:=wk (G:=fL S.gh q none) g2
     rwa [hl0] at this
    obtain⟨S3,k1,k2,_,h⟩:=kp (S:= { S with gh:=fL S.gh q none++out.map some }) (TS.ok_gh (hd.ok hS) (jb.apps _ _)) hro h;rw[show ({ S with gh:=fL S.gh q none++out.map some }:TS).st=_ from ul { S with gh:=fL S.gh q none } res.av out,hd.st,wj,<-Jg] at k1
    have htr:S.st.gh q=some (.sl el.width (l.map el.row)):=by show (fW S.gh q).map eT.tree=_;rw[hq];rfl
    exact⟨S3,fun n0=>ll.handG hop has hlen hcal (ug [q]) (fun w0 W bt w hI=>hI.dropL [q]) (xw (ts:= [.sl el.width (l.map el.row)]) rfl (by simp) (fun k r hk=>by grind)) hav (m:=0) (by rw[<-hd.st,hargs]; exact g1) (LG fun r hr=>by rw[aD.1 hr]; exact hfz) k1,k2,h⟩
  ·cases h
 |pt q sz=>
  have hxv:S.opd x= .v (.cl (.ptrT ⟨q,[]⟩ sz 0 0)):=by
   unfold zy at hx;split at hx<;>simp only[af,Fv.pt.injEq,reduceCtorEq] at hx;obtain⟨rfl,rfl⟩:=hx
   assumption
  unfold B5 at h;simp only at h;split at h
  ·rename_i el l hq;obtain⟨hsz,h0⟩:=ej h;have hsz:sz=el.width:=ao hsz;clear h;subst hsz;have hd:=rg.one hq;obtain⟨vs,hlen,hargs,h⟩:=others (hd.ok hS) hd.le h0;obtain⟨res,out,g1,g2,h⟩:=hY _ _ _ _ _ h;refine stays hq hlen hargs (fun w bt u hv=> ?_) (g1.pt g rfl hgk).get g2 h;rw[ez,hxv] at hv;have hv:VR w bt (.ptrT ⟨q,[]⟩ el.width 0 0) u:=hv;cases hv with
   |ptrT _ _ _ hp hk=>exact .ptrT (p:=⟨0,[]⟩) _ 0 0 cN hk
  ·cases h
 |agg cs=>
  have hxv:S.opd x= .v (.agg cs):=by
   unfold zy at hx;split at hx<;>simp only[af,Fv.agg.injEq,reduceCtorEq] at hx;subst hx
   assumption
  rw[hxv] at hxo;unfold B5 at h;simp only at h;split at h
  ·rename_i ys L hga;obtain⟨hnd,h0⟩:=ej h;clear h;have hnd:L.Nodup:=Bl.1 hnd;obtain⟨g1,g2,g3,g4⟩:=xD cs ys L hga hxo
   have hd:=EO L S hnd (fun q hq=>by obtain⟨k,hk,hkq⟩:=aJ hq;obtain⟨el,l,_,e⟩:=g3 k q (by grind);exact⟨_,e⟩)
   obtain⟨vs,hlen,hargs,h⟩:=others (hd.ok hS) hd.le h0;obtain⟨res,out,k1,k2,h⟩:=hY _ _ _ _ _ h;have k1:=(k1.io g rfl hgk).getA;obtain⟨hns,h⟩:=ej h;obtain⟨hpl,hrok⟩:=Cm hns;obtain⟨Sp,a1,a2,a3,a4,a5,a6,a7,a8,a9,h⟩:=HM L S out _ r hnd h;have hSp:Sp.ok:=⟨fun x hx=>V.ok_mono a9 (hS.env x (by rw[<-a1]; exact hx)),fun cs hcs c hc=>Cl.ok_mono a9 (hS.bx cs (by rw[<-a2]; exact hcs) c hc)⟩
   obtain⟨S3,m1,m2,_,h⟩:=kp hSp (hrok _) h
   have hGave:AR S.st (L.map fun r=>⟨r,[]⟩) ((qA ys).map eT.tree):=xw (by simp[g2]) hnd (fun k q hk=>by obtain⟨el,l,e1,e2⟩:=g3 k q hk;refine⟨el.width,l.map el.row,by rw[ap,e1]; rfl,?_⟩;show (fW S.gh q).map eT.tree=_;rw[e2];rfl)
   have hps: (L.map fun r=>(⟨r,[]⟩:fg)).length=(qA ys).length:=by rw[aN,g2]
   have hout: (out.map eT.tree).length=L.length:=by rw[aN,a6]
   refine⟨S3,fun n0=>ll.handG hop has hlen hcal (ug L) (fun w0 W bt w hI=>hI.dropL L) hGave (av0:= .agg ((xA ys 0).map Cl.av)) (fun w bt u hv=> ?_) (res:=res.av) (out:=out.map eT.tree) (m:=L.length) (by rw[<-hd.st,hargs,<-g2]; exact k1)
    (BV (Sp:=Sp.st) hGave (dI hout.symm) (by unfold TS.st; simp only[a1]) (by unfold TS.st; simp only[a2]) (by unfold TS.st; simp only[a2]) (by unfold TS.st; simp only[a5]) a3 a4 (fun k q hk=>by
      show (fW Sp.gh q).map eT.tree=_;rw[a7 k q hk,ap]) (fun q hq=>by
      show (fW Sp.gh q).map eT.tree=(fW S.gh q).map eT.tree;rw[a8 q hq])) (by grind [EF,Kq]),m2,h⟩
   rw[ez,hxv] at hv;have hv:VR w bt (.agg (cs.map Cl.av)) u:=hv;cases hv with
   |agg hl ho hr=>
    rename_i us0;refine .agg (by grind [so]) ho (fun k c u hk hu=> ?_);rw[ap] at hk;simp only[ak] at hk;obtain⟨c',hc',rfl⟩:=hk
    have hkl:k<cs.length:=by have:=(aj.1 hc').1;rw[so,g1] at this;exact this
    refine g4 w bt _ 0 (fun i q hi=> ?_) k cs[k] c' u (ah hkl) hc' (hr k _ u (by grind) hu)
    have hpi: (L.map fun r=>(⟨r,[]⟩:fg))[(⟨0+i,[]⟩:fg).r]? =some ⟨q,[]⟩:=by rw[ap];show (L[0+i]?).map _=_;rw[aQ,hi];rfl
    have hpl2:=xt hpi;refine⟨?_,?_,?_⟩
    ·show bt.β (EE _ _)=_;rw[hpl2];rfl
    ·show bt.κ (EE _ _)=_;rw[hpl2];rfl
    ·show 0+i< (L.map fun r=>(⟨r,[]⟩:fg)).length
     grind
  ·cases h
 |nest q i j sz lo len=>
  obtain⟨w0,hxv⟩: ∃w,S.opd x= .v (.cl (.own ⟨q,[(i,j)]⟩ sz lo len w)):=by
   unfold zy at hx
   grind
  rw[hxv] at hxo;unfold B5 at h;simp only at h;split at h
  ·rename_i t l hq;obtain⟨y,hy,h⟩:=ai.1 h;split at h
   ·rename_i el v hv;obtain⟨hsz,h0⟩:=ej h;have hsz:sz=el.width:=ao hsz;clear h;subst hsz;obtain⟨hll,h1⟩:=fA h0;clear h0;obtain⟨rfl,rfl⟩:=hll;have hql:=uk hq;have hhole:jb S.gh (fL S.gh q (some ⟨t,l,some (i,j)⟩)):=jb.put hq rfl;obtain⟨vs,hlen,hargs,h⟩:=others (S0:= { S with gh:=fL S.gh q (some ⟨t,l,some (i,j)⟩) }) (TS.ok_gh hS hhole) hhole h1;clear h1;obtain⟨res,out,k1,k2,h⟩:=hY _ _ _ _ _ h;have k1:=(k1.io g rfl hgk).get;split at h
    ·rename_i t' v' _;obtain⟨hc,h⟩:=ej h;simp only[al,decide_eq_true_eq] at hc;obtain⟨rfl,hns⟩:=hc;obtain⟨hpl,hrok⟩:=Cm hns;obtain⟨hvl,h⟩:=fA h;split at h
     ·rename_i z hz;have hG:jb S.gh (fL S.gh q (some ⟨t,l.set i z,none⟩)):=jb.put hq (by simp);obtain⟨S3,m1,m2,_,h⟩:=kp (S:= { S with gh:=fL S.gh q (some ⟨t,l.set i z,none⟩) }) (TS.ok_gh hS hG) (hrok _) h
      have hrowy: (l.map t.row)[i]? =some ((t.flat y).map C.tree):=by rw[ap,hy];simp only[aH,t.row_flat]
      have hcell: ((t.flat y).map C.tree)[j]? =some (.sl t'.width (v.map t'.row)):=by rw[gv] at hv;rw[ap,hv];rfl
      have hgq:S.st.gh q=some (.sl t.width (l.map t.row)):=by show (fW S.gh q).map eT.tree=_;rw[hq];rfl
      have hlook:S.st.look ⟨q,[(i,j)]⟩= .sl t'.width (v.map t'.row):=by unfold St.look;simp only[hgq,T.go,T.cell,aF,hrowy,bn,hcell]
      have hforget: ∀ (w0:World) (W:Nat->Prop) (bt:Bt) (w:World),gx w0 W bt S.st w->_:=fun w0 W bt w hI=>hI.forget hlook
      have hSm: ({ S with gh:=fL S.gh q (some ⟨t,l,some (i,j)⟩) }:TS).st=S.st.setAt ⟨q,[(i,j)]⟩ .dd:=by rw[xB S _ hql];unfold St.setAt;simp only[hgq,aH];rfl
      have hSp: ({ S with gh:=fL S.gh q (some ⟨t,l.set i z,none⟩) }:TS).st=S.st.setAt ⟨q,[(i,j)]⟩ (.sl t'.width (v'.map t'.row)):=by
       rw[xB S _ hql];unfold St.setAt;simp only[hgq,aH,T.put]
       congr 3
       show T.sl t.width ((l.set i z).map t.row)=_;rw[List.map_set,t.row_flat z,t.unflat_some _ _ hz,ik,List.map_set];simp only[aF,hrowy,bn];rfl
      rw[hSp] at m1;refine⟨S3,fun n0=>ll.handG hop has hlen hcal (Sm:=S.st.setAt ⟨q,[(i,j)]⟩ .dd) (ps:= [⟨q,[(i,j)]⟩]) ?_ (fun w0 W bt w hI=>(hforget w0 W bt w hI).1) (M5 hlook) (av0:= .own ⟨0,[]⟩ t'.width 0 v.length) (fun w bt u hv=> ?_) (res:=res.av) (out:= [.sl t'.width (v'.map t'.row)]) (m:=1) (by rw[<-hSm,hargs]; exact k1) (M6 hlook (by simpa using hvl)) (by rw[EF hpl,List.drop_succ_cons,List.drop_nil,Kq]; exact m1),m2,h⟩
      ·refine⟨rfl,rfl,rfl,fun p s rs hp=> ?_⟩;rw[qX] at hp;by_cases hpr:p.r=q
       ·rw[if_pos hpr,hgq] at hp;simp only at hp
        rcases T.put_spec .dd [(i,j)] (.sl t.width (l.map t.row)) (.inl (by grind [St.look])) p.l s rs hp with ⟨m',hm,hgo⟩| ⟨rs0,e1,e2,e3,e4⟩
        ·rw[T.dd_go] at hgo; cases hgo
        ·refine⟨fun p' hp' hu=> ?_,rs0,by unfold St.look; rw[hpr,hgq]; exact e1⟩;rw[aD.1 hp'] at hu;obtain⟨_,m,b⟩:=hu;exact e3 m b.symm
       ·rw[if_neg hpr] at hp;refine⟨fun p' hp' hu=> ?_,rs,hp⟩;rw[aD.1 hp'] at hu;exact hpr hu.1
      ·rw[ez,hxv] at hv;have hv:VR w bt (.own ⟨q,[(i,j)]⟩ t'.width 0 v.length) u:=hv;cases hv with
       |own hp hc hk ha=>exact .own cN hc hk ha
     ·cases h
    ·cases h
   ·cases h
  ·cases h
theorem NG {el:Ty} (hw:el.width=1) (hf:el.flatB=true) {z:el.D} (hz:el.unflat el.zcs=some z): ∃zv,el.zvs= [zv] /\o6 zv=true/\el.row z= [.sc zv] :=by
 have hr:el.row z=el.zcs.map C.tree:=by rw[el.row_flat,el.unflat_some _ _ hz]
 rw[hr];clear hr hz z;cases el with
 |i k=>exact⟨_,rfl,rfl,rfl⟩
 |b=>exact⟨_,rfl,rfl,rfl⟩
 |s=>exact⟨_,rfl,rfl,rfl⟩
 |h=>exact⟨_,rfl,rfl,rfl⟩
 |st n=>cases n<;>first |exact⟨_,rfl,rfl,rfl⟩| (exfalso; revert hw; decide)| (exfalso; revert hf; decide)
 |ls t=>cases hf
theorem LR [dY] (hΘ:gz P Θ) (hS:S.ok) {ops:Array Oper} {o:Oper} {os:List Oper} {Post:St->Prop} {t:TypeId} {q sz lo len:Nat} (ht:Fw S o=some (t,q,sz,lo,len)) {κ:TS->Option ρ} {r:ρ}
  (ih: ∀S3:TS,S3.ok->κ S3=some r->Ao P ops os S3.st Post) (h:Jp Θ S t q sz lo len o.dst κ=some r):Ao P ops (o::os) S.st Post:=by
 unfold Fw at ht;split at ht
 ·rename_i as ts hop;split at ht
  ·cases ht
  ·rename_i hgd;split at ht
   ·rename_i x t' e1 e2;split at ht
    ·rename_i r' sz' lo' len' w hx;simp only[af,an] at ht;obtain⟨rfl,rfl,rfl,rfl,rfl⟩:=ht;have e1:as= #[x] :=by apply Array.ext'; simpa using e1
     have e2:ts= #[t'] :=by apply Array.ext'; simpa using e2
     subst e1 e2;unfold Jp at h;split at h
     ·rename_i ti hti;split at h
      ·rename_i el l hq;obtain⟨hc,h0⟩:=ej h;simp only[al,decide_eq_true_eq] at hc;obtain⟨⟨⟨hty,hw⟩,hsz⟩,hfl⟩:=hc;have hw:el.width=1:=ao hw;have hsz:sz'=1:=ao hsz;split at h0
       ·rename_i z hz;unfold iteP at h0;split at h0
        ·rename_i hle;obtain⟨elT',g1,g2,g3,g4,g5,g6⟩:=(hΘ _ _ hti).el el hty
         have hql:r'<S.gh.length:=by
          rcases cW r' S.gh.length with h'|h'
          ·exact h'
          ·rw[zE h'] at hq; cases hq
         have hG:jb S.gh (fL S.gh r' (some ⟨el,l.take lo'++List.replicate len' z++l.drop (lo'+len'),none⟩)):=jb.put hq (by simp; omega);obtain⟨S3,k1,k2,_,h⟩:=kp (v:= .tup []) (TS.ok_gh hS hG) (fun x hx=>by cases hx) h0;rw[xB S _ hql] at k1;obtain⟨zv,hzv,hsc,hrow⟩:=NG hw hfl hz
         have htr:S.st.gh r'=some (.sl 1 (l.map el.row)):=by show (fW S.gh r').map eT.tree=_;rw[hq];show some (T.sl el.width (l.map el.row))=_;rw[hw]
         have hxv:opd S.st x= .own ⟨r',[]⟩ 1 lo' len':=by rw[ez,hx,<-hsz]; rfl
         refine Ao.clear hop hgd g1 (by rw[g6,hzv]) hsc hxv htr (by simpa using hle) ⟨S3.st,?_,ih S3 k2 h⟩;rw[<-k1]
         congr 1
         show _=({ S.st with gh:=fp S.st.gh r' (some (T.sl el.width ((l.take lo'++List.replicate len' z++l.drop (lo'+len')).map el.row))) }:St)
         simp_all
        ·cases h0
       ·cases h0
      ·cases h
     ·cases h
    ·cases ht
   ·cases ht
 ·cases ht
theorem PM [dY] (hΘ:gz P Θ) (hY:lN P Y) {ops:Array Oper}: ∀ (os:List Oper) (S:TS) (κ:TS->Option ρ) (r:ρ),(∀o∈os,nn P o=true)->S.ok->B6 Θ Y ops.toList os S κ=some r->
  Ao P ops os S.st (fun S'=> ∃S1:TS,S'=S1.st/\S1.ok/\κ S1=some r):=by
 intro os
 induction os with
 |nil=>intro S κ r _ hS h; exact Ao.nil ⟨S,rfl,hS,h⟩
 |cons o os ih=>
  intro S κ r hok hS h;unfold B6 at h;cases hn:Bn o with
  |some tx=>
   obtain⟨t,x⟩:=tx;rw[hn] at h;simp only at h;obtain⟨hs,h⟩:=ej h;obtain⟨⟨t',ho⟩,hg⟩:=FD hn;unfold SR at hs;split at hs
   ·rename_i ti hti;split at hs
    ·rename_i e he;obtain⟨el,hel,_⟩:=(hΘ t ti hti).el e he;split at h
     ·rename_i t1 l hx
      have way: ∀ (b:Bool),(rd S o.dst (Hv b) fun S3=>B6 Θ Y ops.toList os S3 κ)=some r-> ∃S1,S.st.put o.dst (.sc (.bool b))=some S1/\Ao P ops os S1 (fun S'=> ∃S1:TS,S'=S1.st/\S1.ok/\κ S1=some r):=by intro b hb;obtain⟨S3,g5,g6,_,h⟩:=kp (v:=Hv b) hS trivial hb;exact⟨S3.st,g5,ih S3 κ r (fun x hx=>hok x (aL _ hx)) g6 h⟩
      have hxv:opd S.st x= .ro t1.width (l.map t1.row):=by rw[ez,hx]; rfl
      cases l with
      |nil=>
       obtain⟨a1,a2⟩:=NE (show Pr _ _ none=some r from h)
       grind [Ao.eqnil]
      |cons y l=>exact Ao.eqnil hel ho hg hxv (fun h=>by cases h) (way false h)
     ·cases h
    ·cases hs
   ·cases hs
  |none=>
  rw[hn] at h;simp only at h;cases hcl:Fw S o with
  |some z=>grind [LR]
  |none=>
  rw[hcl] at h;simp only at h;obtain⟨b,S1,h1,h2,h3,h4,h⟩:=HJ hS h;refine Ao.cons (b:=b) h1 ?_;cases b with
  |true=>
   simp only[cond_true] at h;rw[if_pos rfl,<-h2];cases hh:B3 Y S1 o with
   |some z=>obtain⟨k,g,caps,a,us,xs⟩:=z;rw[hh] at h;obtain⟨S3,g1,g2,g3⟩:=HN hΘ hY h3 hh h;exact⟨S3.st,(g1 0).op,ih S3 κ r (fun x hx=>hok x (aL _ hx)) g2 g3⟩
   |none=>
   grind [vp,kp,M1.one,one]
  |false=>simp only[cond_false] at h;obtain⟨S3,g5,g6,_,h⟩:=kp (v:= .tup []) h3 (fun x hx=>by cases hx) h;rw[if_neg (by simp)];exact⟨S3.st,by rw[<-h2]; exact g5,ih S3 κ r (fun x hx=>hok x (aL _ hx)) g6 h⟩
theorem PN {D D':rZ} {X:St} {o:Oper} (h:D o.dst=D' o.dst):eu D P X o=eu D' P X o:=by simp_all [eu]
theorem KM {D D':rZ} {X:St} {o:Oper} (h:D o.dst=D' o.dst):gm D P X o=gm D' P X o:=by simp_all [gm]
theorem SY {D D':rZ} {ops:Array Oper}: ∀ (os:List Oper) (X:St),(∀o∈os,D o.dst=D' o.dst)->DC D P ops os X=DC D' P ops os X:=by
 intro os
 induction os with
 |nil=>intro X _; rfl
 |cons o os ih=>grind [DC,PN,KM]
theorem yt: ∀ (l m:List (Option eT)) (n:Nat),gone n l (l++m)= []
 | [],m,n=>by cases m<;>rfl
 |x::l,m,n=>by
  cases x with
  |none=>exact yt l m (n+1)
  |some y=>exact yt l m (n+1)
theorem Cn (l:List eT):Nd (l.map some)=l.map eT.tree:=by unfold Nd;rw[bK];rfl
theorem KN (S:TS) (out:List eT):S.st.make ⟨S.st.ng,out.map eT.tree,[]⟩=({ S with gh:=S.gh++out.map some }:TS).st:=by
 rw[ul S .dead out];unfold St.make sg;simp only[aN]
 congr 1
theorem rg.make {S1:TS} {L:List Nat} (h:rg S S1 L) (x:eT):S.st.make ⟨S.st.ng,[x.tree],mD L⟩=({ S1 with gh:=S1.gh++ [some x] }:TS).st:=by
 rw[B8,h.st,h.len];unfold St.make dropL;simp only[aB,m8]
 congr 1
 funext r
 unfold fp;by_cases hr:r=S.gh.length
 ·simp_all [TS.st]
 ·rw[if_neg hr,if_neg (by show ¬ (S.gh.length<=r/\r<S.gh.length+1); omega)]
theorem KO: ∀ (l m x:List (Option eT)) (n:Nat) (L:List Nat),m.length=l.length->(∀k,k<l.length->(((∃y,l[k]? =some (some y))/\m[k]? =some none)↔(n+k)∈L))->gone n l (m++x)=(List.range' n l.length).filter fun r=>L.contains r
 | [],m,x,n,L,hl,_=>by have :m= [] :=bz hl;subst this;cases x<;>rfl
 |a::l,[],x,n,L,hl,_=>by cases hl
 |a::l,b::m,x,n,L,hl,h=>by
  have h0:=h 0 (Nat.zero_lt_succ _)
  have ih:=KO l m x (n+1) L (by simpa using hl) (fun k hk=>by
   have:=h (k+1) (by simpa using hk)
   grind)
  simp only[aP,af,bX] at h0;rw[bB,cJ,List.filter_cons];cases a with
  |none=>
   have : ¬n∈L:=fun hn=>by grind
   rw[if_neg (by simpa using this),<-ih];cases b<;>rfl
  |some y=>
   cases b with
   |none=>have :n∈L:=h0.1 ⟨⟨y,rfl⟩,rfl⟩;rw[if_pos (by simpa using this),<-ih];rfl
   |some z=>
    have : ¬n∈L:=fun hn=>by have:=(h0.2 hn).2;cases this
    rw[if_neg (by simpa using this),<-ih];rfl
theorem FE {L:List Nat} {N:Nat} (h: ∀r∈L,r<N):mD L=(List.range N).filter fun r=>L.contains r:=by
 have top:E8 L<=N:=by
  induction L with
  |nil=>exact aA _
  |cons a l ih=>grind [E8,List.mem_cons_self]
 unfold mD;obtain⟨k,rfl⟩: ∃k,N=E8 L+k:=⟨N-E8 L,by omega⟩
 rw[cq,cq,<-List.range'_append_1,cf]
 have : (List.range' (0+E8 L) k).filter (fun r=>L.contains r)= [] :=by rw[List.filter_eq_nil_iff];intro r hr hc;have h1:=Fi (l:=L) (r:=r) (by simpa using hc);have h2:=(List.mem_range'_1.1 hr).1;omega
 rw[this,bT]
theorem rg.gone {S1:TS} {L:List Nat} (h:rg S S1 L) (x:List (Option eT)):gone 0 S.gh (S1.gh++x)=mD L:=by
 rw[FE (N:=S.gh.length) (fun r hr=>by obtain⟨tr,ht⟩:=h.was r hr;exact uk ht),cq]
 refine KO _ _ _ _ _ h.len (fun k hk=> ?_);rw[aQ];have g:=h.gh k;unfold fW at g;rw[gv,gv] at g;have hk1:k<S1.gh.length:=by rw[h.len]; exact hk
 rw[ah hk,ah hk1] at g ⊢;simp only[bn,af] at g ⊢;constructor
 ·grind
 ·intro hL;obtain⟨tr,ht⟩:=h.was k hL
  simp_all [fW,gv]
theorem wm {G:List (Option eT)} {r j:Nat} {c:Cl} (h:c.ok G) (hr:G.length<=r):qs r j c=c:=by
 have hb: ∀p:fg,p.r<G.length->Nat.beq p.r r=false:=fun p hp=>by
  cases hx:Nat.beq p.r r with
  |false=>rfl
  |true=>have:=ao hx;omega
 cases c with
 |own p sz lo len w=>simp only[qs];rw[hb p h.1];split<;>rfl
 |ptrT p sz a b=>simp only[qs];rw[hb p h];split<;>rfl
 | _=>rfl
theorem rh {α:Type} {f:α->α}: ∀ {l:List α},(∀x∈l,f x=x)->l.map f=l
 | [],_=>rfl
 |a::l,h=>by rw[aW,h a aK,rh fun x hx=>h x (aL _ hx)]
theorem HO (hS:S.ok) {r j:Nat} (hr:S.gh.length<=r):S.kill r j=S:=by
 have v1: ∀v:V1,v.ok S.gh->sL r j v=v:=by
  intro v hv;cases v with
  |cl c=>simp only[sL]; rw[wm hv hr]
  |agg cs=>simp only[sL]; rw[rh fun c hc=>wm (hv c hc) hr]
  |fn f cs=>simp only[sL]; rw[rh fun c hc=>wm (hv c hc) hr]
 have e1:S.env.map (fun x=>(x.1,EH r j x.2))=S.env:=by
  refine rh (fun x hx=> ?_);have hx:=hS.env x hx;obtain⟨t,v⟩:=x;cases v with
  |v x=>simp only[EH]; rw[v1 x hx]
  |tup l=>simp only[EH]; rw[rh fun c hc=>v1 c (hx c hc)]
 have e2:S.bx.map (fun cs=>cs.map (qs r j))=S.bx:=by exact rh (fun cs hcs=>rh (fun c hc=>wm (hS.bx cs hcs c hc) hr))
 unfold TS.kill;rw[e1,e2]
theorem PO (hS:S.ok) {S1:TS} {no j:Nat} (hno:S.gh.length<=no) {et:Option Ty} {c:Cl} {x:C} (hc:c.ok S.gh) (h:jG S no j et c=some (x,S1)):
  ∃L,rg S S1 L/\L.Nodup/\mG S.st (HG et) c.av=some (x.tree,L):=by
 have wp: ∀t:Ty,¬HG (some t)=0:=fun t e=>by have:=t.width_pos;have e':t.width=0:=e;omega
 cases c with
 |c y=>
  cases y with
  |sc v=>
   cases et with
   |none=>simp only[jG,af,an] at h;obtain⟨rfl,rfl⟩:=h;exact⟨[],rg.refl _,dR,rfl⟩
   |some t=>simp[jG] at h
  |ls t l=>cases et<;>simp[jG] at h
 |em=>
  cases et with
  |none=>simp[jG] at h
  |some t=>simp only[jG,af,an] at h;obtain⟨rfl,rfl⟩:=h;rw[HO hS hno];refine⟨[],rg.refl _,dR,?_⟩;unfold mG;rw[if_neg (wp t)];rfl
 |own p sz lo len wh=>
  obtain⟨pr,pl⟩:=p;cases wh with
  |false=>cases et<;>simp[jG] at h
  |true=>
   cases et with
   |none=>simp[jG] at h
   |some t=>
    cases pl with
    |cons a l=>simp[jG] at h
    |nil=>
     simp only[jG] at h;obtain⟨h1,h⟩:=ej h;simp only[al,b8] at h1;obtain⟨⟨h1,h2⟩,h3⟩:=h1;have h1:t.width=sz:=ao h1;have h2:S.fz<=pr:=ar h2;split at h
     ·rename_i tr htr;split at h
      ·rename_i hh;obtain⟨h4,h⟩:=ej h;have h4':tr.t.width=sz:=ao h4;simp only[af,an] at h;obtain⟨rfl,rfl⟩:=h;have hg:=eT.look htr;obtain⟨tt,l,hole⟩:=tr;simp only at hh h4';subst hh;obtain⟨e1,e2,e3⟩:=vm hc (fun _=>hg);have hd:=rg.one hg;rw[HO (hd.ok hS) (by rw[hd.len]; exact hno)];refine⟨[pr],hd,by simp,?_⟩;unfold mG;rw[if_neg (wp t)];simp only[Cl.av]
       have hrows:S.st.rows ⟨pr,[]⟩ sz=some (l.map tt.row):=by rw[<-h4'];refine kV ?_;unfold St.look;show (match (fW S.gh pr).map eT.tree with |some t=>t.go [] |none=> .dd)=_;rw[hg];rfl
       rw[if_pos ⟨trivial,h1.symm,e2,h2⟩,hrows]
       simp_all [bD,C.tree]
      ·cases h
     ·cases h
 |pro cs=>cases et<;>simp[jG] at h
 |ptrB n j=>cases et<;>simp[jG] at h
 |ptrT p sz a b=>cases et<;>simp[jG] at h
 |dead=>cases et<;>simp[jG] at h
theorem Ju {X Y:St} (hfz:Y.fz=X.fz) (hg: ∀r t,Y.gh r=some t->X.gh r=some t) {s:Nat} {v:AV} {y:T×List Nat} (h:mG Y s v=some y):mG X s v=some y:=by
 unfold mG at h ⊢;split at h
 ·rename_i h0; rw[if_pos h0]; exact h
 ·rename_i h0;rw[if_neg h0];split at h
  ·exact h
  ·rename_i q s' lo len;split at h
   ·rename_i hc;rw[hfz] at hc;rw[if_pos hc]
    grind [St.rows,St.look]
   ·cases h
  ·cases h
theorem vq {X Y:St} (hfz:Y.fz=X.fz) (hg: ∀r t,Y.gh r=some t->X.gh r=some t): ∀ {ss:List Nat} {vs:List AV} {y:List T×List Nat},jw Y ss vs=some y->jw X ss vs=some y
 |s::ss,v::vs,y,h=>by unfold jw at h ⊢;simp only[ai,ak] at h ⊢;obtain⟨a,h1,b,h2,h3⟩:=h;exact⟨a,Ju hfz hg h1,b,vq hfz hg h2,h3⟩
 | [],[],_,h=>h
 | [],_::_,_,h=>h
 | _::_,[],_,h=>h
theorem Ar {X Y:St} (hfz:Y.fz=X.fz) (hg: ∀r t,Y.gh r=some t->X.gh r=some t) {ss:List Nat}: ∀ {vss:List (List AV)} {y:List (List T)×List Nat},iE Y ss vss=some y->iE X ss vss=some y
 | [],_,h=>h
 |vs::vss,y,h=>by unfold iE at h ⊢;simp only[ai,ak] at h ⊢;obtain⟨a,h1,b,h2,h3⟩:=h;exact⟨a,vq hfz hg h1,b,Ar hfz hg h2,h3⟩
theorem rg.less {S1:TS} {L:List Nat} (h:rg S S1 L): ∀r t,S1.st.gh r=some t->S.st.gh r=some t:=by
 intro r t ht;rw[h.st] at ht
 grind [dropL]
theorem PP (no:Nat): ∀ (ets:List (Option Ty)) (cs:List Cl) (j:Nat) (S S1:TS) (xs:List C),S.ok->S.gh.length<=no->(∀c∈cs,c.ok S.gh)->qt no j S ets cs=some (xs,S1)->
  ∃L,rg S S1 L/\L.Nodup/\jw S.st (ets.map HG) (cs.map Cl.av)=some (xs.map C.tree,L):=by
 intro ets
 induction ets with
 |nil=>
  intro cs j S S1 xs hS hno hcs h;cases cs with
  |nil=>simp only[qt,af,an] at h;obtain⟨rfl,rfl⟩:=h;exact⟨[],rg.refl _,dR,rfl⟩
  |cons c cs=>simp[qt] at h
 |cons et ets ih=>
  intro cs j S S1 xs hS hno hcs h;cases cs with
  |nil=>simp[qt] at h
  |cons c cs=>
   simp only[qt] at h;split at h
   ·rename_i x S2 hx;obtain⟨L1,d1,n1,e1⟩:=PO hS hno (hcs c aK) hx;split at h
    ·rename_i xs' S3 hxs;simp only[af,an] at h;obtain⟨rfl,rfl⟩:=h;obtain⟨L2,d2,n2,e2⟩:=ih cs (j+1) S2 S3 xs' (d1.ok hS) (by rw[d1.len]; exact hno) (fun y hy=>Cl.ok_mono d1.le (hcs y (aL _ hy))) hxs;refine⟨L1++L2,d1.trans d2,d1.apart d2 n1 n2,?_⟩;simp only[aW,jw];rw[e1];simp only[ae];rw[vq (X:=S.st) (Y:=S2.st) d1.fz d1.less e2];rfl
    ·cases h
   ·cases h
theorem NH (el:Ty): ∀ (vs:List V) (S S1:TS) (l:List el.D),S.ok->(∀v∈vs,v.ok S.gh)->sM el S vs=some (l,S1)->
  ∃L,rg S S1 L/\L.Nodup/\iE S.st el.shs (vs.map fun v=>v.av.cells)=some (l.map el.row,L)/\l.length=vs.length/\ ∀v∈vs,v.av.cells.length=el.width/\v.av.isDead=false:=by
 intro vs
 induction vs with
 |nil=>intro S S1 l hS hv h;simp only[sM,af,an] at h;obtain⟨rfl,rfl⟩:=h;exact⟨[],rg.refl _,dR,rfl,rfl,fun v hv=>by cases hv⟩
 |cons v vs ih=>
  intro S S1 l hS hv h;cases v with
  |tup x=>simp[sM] at h
  |v x=>
   have hx:=hv (.v x) aK;simp only[sM] at h;split at h
   ·rename_i ws S2 hw
    have hcells: ∀c∈x.cells,c.ok S.gh:=by
     intro c hc;cases x with
     |cl y=>rw[aD.1 hc]; exact hx
     |agg cs=>exact hx c hc
     |fn f cs=>rw[aD.1 hc]; trivial
    obtain⟨L1,d1,n1,e1⟩:=PP _ _ _ _ _ _ _ hS (aq _) hcells hw
    have hw':el.csh.length=x.cells.length/\ ∀c∈x.cells,c≠ .dead:=by obtain⟨_,m2,_,m4,_⟩:=Cg S.gh.length 0 0 0 el.csh x.cells 0 S S2 ws [x.cells.map fun c=>T.ofSc c.av] (x.cells.map fun c=>T.ofSc c.av) hS hcells hw rfl (by simp) (fun k c hk=>by grind);exact⟨m2,m4⟩
    split at h
    ·rename_i y ys S3 hy hys;simp only[af,an] at h;obtain⟨rfl,rfl⟩:=h;obtain⟨L2,d2,n2,e2,e3,e4⟩:=ih S2 S3 ys (d1.ok hS) (fun u hu=>V.ok_mono d1.le (hv u (aL _ hu))) hys
     have hsh:el.shs=el.csh.map HG:=by unfold Ty.shs;refine aI fun c _=> ?_;cases c<;>rfl
     have hav: (V.v x).av.cells=x.cells.map Cl.av:=by
      cases x with
      |cl c=>
       simp only[V.av,V1.av,V1.cells,aW,cL];cases c with
       |c y=>cases y<;>rfl
       | _=>rfl
      |agg cs=>rfl
      |fn f cs=>exact absurd rfl (hw'.2 .dead (aD.2 rfl))
     refine⟨L1++L2,d1.trans d2,d1.apart d2 n1 n2,?_,by simp[e3],fun u hu=> ?_⟩
     ·simp only[aW,iE];rw[hav,hsh,e1];simp only[ae];rw[<-hsh,Ar (X:=S.st) (Y:=S2.st) d1.fz d1.less e2];simp only[aH];rw[el.row_flat,el.unflat_some _ _ hy]
     ·rcases aX.1 hu with rfl|hu
      ·refine⟨?_,?_⟩
       ·grind [xC]
       ·cases x with
        |cl c=>
         have:=hw'.2 c (aD.2 rfl);cases c with
         |c y=>cases y<;>rfl
         |dead=>exact absurd rfl this
         | _=>rfl
        |agg cs=>rfl
        |fn f cs=>rfl
      ·exact e4 u hu
    ·cases h
   ·cases h
theorem Jv (hΘ:gz P Θ) {t:TypeId} (h:SG Θ t=true): ∃ti el elT',lQ Θ t=some ti/\ti.ty= .ls el/\tZ P t=some elT'/\P.cellsOf elT'=el.width/\P.bytesOf elT'=ti.el/\0<ti.el/\nU P 9 elT'=el.shs/\za P elT'=some el.zvs:=by
 unfold SG at h;split at h
 ·rename_i ti hti;split at h
  ·rename_i el he;obtain⟨elT',g⟩:=(hΘ _ _ hti).el el he;exact⟨ti,el,elT',hti,he,g⟩
  ·cases h
 ·cases h
theorem PQ {el:Ty} {v:Cl} (hv:v.ok S.gh) {κ:List el.D->TS->Option ρ} {r:ρ} (h:Nc S el v κ=some r):
  ∃more L S1,rg S S1 L/\jc S.st el.width el.flatB v.av=some (more.map el.row,L)/\κ more S1=some r:=by
 unfold Nc at h;split at h
 ·exact⟨[],[],S,rg.refl _,rfl,h⟩
 ·rename_i t l;obtain⟨h1,h⟩:=ej h;split at h
  ·rename_i l' hl;obtain⟨e,hl⟩:=ia hl;subst e;simp only at hl;subst hl;refine⟨l,[],S,rg.refl _,?_,h⟩;simp only[Cl.av,C.av,jc];rw[if_pos ⟨trivial,tf h1 l⟩]
  ·cases h
 ·rename_i p sz lo len w;obtain⟨h0,h⟩:=ej h;have h0:el.width=sz:=ao h0;cases hfl:el.flatB with
  |true=>
   rw[hfl] at h;simp only[cond_true] at h;obtain⟨t,l,h1,h2,h⟩:=ic h;split at h
   ·rename_i l' hl;obtain⟨e,hl⟩:=ia hl;subst e;simp only at hl;subst hl
    have src: ∀ (lo len:Nat),lo+len<=l.length->jc S.st t.width true (.own p sz lo len)=some (((l.drop lo).take len).map t.row,[]):=by intro lo len hle;simp only[jc];rw[if_pos h0.symm,kV h1];simp only[ae,aN];rw[if_neg (by simp),if_pos ⟨hle,by grind [tf]⟩];simp[cz,cQ]
    cases w with
    |true=>
     obtain⟨e1,e2,e3⟩:=vm hv h2;refine⟨l,[],S,rg.refl _,?_,h⟩
     grind [Cl.av]
    |false=>simp only[cond_false] at h;obtain⟨h3,h⟩:=fA h;exact⟨_,[],S,rg.refl _,src lo len h3,h⟩
   ·cases h
  |false=>
   rw[hfl] at h;simp only[cond_false] at h;split at h
   ·rename_i hpl;obtain⟨h1,h'⟩:=ej h;clear h;simp only[al] at h1;obtain⟨rfl,hfz⟩:=h1;have hfz:S.fz<=p.r:=ar hfz;obtain⟨t,l,g1,g2,h⟩:=ic h';split at h
    ·rename_i l' hl;obtain⟨e,hl⟩:=ia hl;subst e;simp only at hl;subst hl;obtain⟨e1,e2,e3⟩:=vm hv g2;refine⟨l,[p.r],_,rg.one (g2 e1),?_,h⟩;simp only[Cl.av,jc];rw[if_pos h0.symm,kV g1];simp only[ae,aN];rw[if_pos ⟨trivial,e1,e2,e3,hfz⟩]
    ·cases h
   ·cases h
 ·cases h
theorem NI {el:Ty} {v:Cl} (hv:v.ok S.gh) (hroot:Kw (.v (.cl v))=true) {more:List el.D} {κ:List el.D->TS->Option ρ} {r:ρ} (h:Hu S el v more κ=some r):
  ∃ (l0:List el.D) (cons:List Nat) (S':TS),o5 S.st el.width v.av=some (l0.map el.row,cons)/\rg S S' cons/\κ (l0++more) S'=some r:=by
 unfold Hu at h;split at h
 ·exact⟨[],[],S,rfl,rg.refl _,h⟩
 ·rename_i p sz lo len w;obtain⟨pr,pl⟩:=p;cases pl with
  |cons a l=>cases hroot
  |nil=>
   obtain⟨h0,h'⟩:=ej h;clear h;simp only[al] at h0;have hfz:S.fz<=pr:=ar h0.1;have hsz:el.width=sz:=ao h0.2;simp only at h';obtain⟨t,l,h1,h2,h⟩:=ic h';split at h
   ·rename_i l' hl;obtain⟨e,hl⟩:=ia hl;subst e;simp only at hl;subst hl
    have base: ∀ (len:Nat),¬l.length<len->o5 S.st t.width (.own ⟨pr,[]⟩ sz 0 len)=some ((l.take len).map t.row,[pr]):=by intro len hlen;simp only[o5];rw[if_pos ⟨hsz.symm,trivial,trivial,hfz⟩,kV h1];simp only[ae,aN];rw[if_neg hlen,cz]
    cases w with
    |true=>
     obtain⟨e1,e2,e3⟩:=vm hv h2;refine⟨l,[pr],_,?_,rg.one (h2 rfl),h⟩
     grind [Cl.av]
    |false=>
     simp only[cond_false] at h;obtain⟨h3,h⟩:=fA h;obtain⟨h4,h⟩:=zA h;refine⟨l.take len,[pr],_,?_,rg.one (h2 rfl),h⟩
     grind [Cl.av]
   ·cases h
 ·cases h
theorem KP [dY] (hΘ:gz P Θ) (hY:lN P Y) (hS:S.ok) {o:Oper} (hn:hZ o=true) (hf:Pt Θ o=true) (hb:Kx S o=true) {κ:V->TS->Option ρ} {r:ρ} (h:uL Θ Y S o κ=some r):
  ∃D v0 v adds cons S',lj P D/\gm D P S.st o=some (v0,adds,cons)/\shift S.st.ng v0=V.av v/\S.st.make ⟨S.st.ng,adds,cons⟩=TS.st S'/\xz S S'=⟨S.st.ng,adds,cons⟩/\S'.ok/\v.ok S'.gh/\κ v S'=some r:=by
 obtain⟨dst,op,ty,pos,aft,gd⟩:=o;cases op with
 |buildSlice t len parts=>
  obtain⟨ti,el,elT',hti,he,g1,g2,g3,g4,g5,g6⟩:=Jv hΘ hf;unfold uL at h;simp only[hti,he] at h;obtain⟨hb',h'⟩:=ej h;clear h
  have hnr: ((parts.toList.map fun x=>S.opd x.2).any B0)=false:=by have hb: (!(parts.toList.map fun x=>S.opd x.2).any B0)=true:=hb;simpa using hb
  rw[hnr] at h';simp only[cond_false] at h';split at h'
  ·rename_i l S1 hp
   have hvok: ∀v∈parts.toList.map (fun x=>S.opd x.2),v.ok S.gh:=fun v hv=>by obtain⟨y,_,rfl⟩:=aM.1 hv;exact nq hS _
   obtain⟨L,d,hnd,m1,m2,m3⟩:=NH el _ S S1 l hS hvok hp;simp only[al] at hb';have hb1:len*el.width<=1048576:=ar hb'.1;have hb2:=FB hb'.2
   have hlen:l.length=len:=by rw[m2];have:=congrArg List.length hb2;simpa using this
   refine⟨FA, .own ⟨0,[]⟩ el.width 0 len,_,[.sl el.width (l.map el.row)],mD L,{ S1 with gh:=S1.gh++ [some ⟨el,l,none⟩] },iT,?_,?_,d.make ⟨el,l,none⟩,?_,TS.ok_gh (d.ok hS) (jb.app _ _),?_,h'⟩
   ·simp only[gm,g1,ae]
    rw[if_pos ⟨by rw[g2]; exact hb1,hb2,by rw[g2]; exact el.width_pos,by rw[g6]; rfl,by rw[ay];intro y hy;obtain⟨q1,q2⟩:=m3 (S.opd y.2) (aM.2 ⟨y,hy,rfl⟩);simp only[ez,q1,q2,g2];rfl⟩]
    have e: (parts.toList.map fun x=>(opd S.st x.2).cells)=(parts.toList.map fun x=>S.opd x.2).map fun v=>v.av.cells:=by rw[bK];exact aI fun x _=>by simp only[ez,Function.comp]
    rw[e,g5,m1];simp only[ae];rw[if_pos (Bl.2 hnd),g2]
   ·simp only[shift,ka,kT,V.av,V1.av,Cl.av,aQ,hlen];rw[d.len];rfl
   ·unfold xz;simp only;rw[d.gone,cF (by rw[d.len]; exact aq _),cw (by rw[d.len]; exact aq _)];rfl
   ·refine⟨by simp,fun _=>⟨rfl,rfl,fun tr htr=> ?_⟩⟩;rw[lp,if_pos rfl] at htr;cases htr;rfl
  ·cases h'
 |call c=>
  obtain⟨cl,as,ts⟩:=c;cases cl with
  |invoke a b=>cases hn
  |value f=>
   unfold uL at h;simp only at h
   have fin: ∀ (g:FuncId) (caps:List AV) (vs:List V1),g<jy->callee S.st f=some (g,caps)->args P S.st ts as caps=vs.map V1.av->Y g vs ρ (fun res out=>κ (rc S.gh.length res) { S with gh:=S.gh++out.map some })=some r->
     ∃D v0 v adds cons S',lj P D/\gm D P S.st ⟨dst, .call { callee:= .value f,args:=as,argTypes:=ts },ty,pos,aft,gd⟩=some (v0,adds,cons)/\shift S.st.ng v0=V.av v/\S.st.make ⟨S.st.ng,adds,cons⟩=TS.st S'/\xz S S'=⟨S.st.ng,adds,cons⟩/\S'.ok/\v.ok S'.gh/\κ v S'=some r:=by
    intro g caps vs hg h1 h2 h3;obtain⟨res,out,h4,h5,h6⟩:=hY _ _ _ _ _ h3;have h4:=h4.fn hg;refine⟨LN dst g (vs.map V1.av) (res.av,out.map eT.tree),res.av,_,out.map eT.tree,[],_,Ca h4,?_,?_,KN S out,?_,TS.ok_gh hS (jb.apps _ _),wk h5,h6⟩
    ·simp_all [gm,KG]
    ·rw[wj]; rfl
    ·unfold xz;simp only[yt,cF (aq _),List.drop_length,be,Cn];rfl
   unfold Kt at h;split at h
   ·rename_i g x y hf';obtain⟨hg,h⟩:=ej h;have hg:g<jy:=ar hg;obtain⟨vs,h1,h⟩:=vn hΘ hS _ _ _ _ h;refine fin g [] vs hg ?_ ?_ h
    ·unfold callee;rw[ez,hf'];rfl
    grind [args]
   ·rename_i g caps hf';obtain⟨hg,h⟩:=ej h;have hg:g<jy:=ar hg;obtain⟨vs,h1,h⟩:=vn hΘ hS _ _ _ _ h
    have hcaps: ∀c∈caps,c.ok S.gh:=by have:=nq hS f;rw[hf'] at this;exact this
    obtain⟨cs,h2,h⟩:=Cd hS _ _ _ hcaps h;refine fin g (caps.map Cl.av) (vs++cs.map .cl) hg ?_ ?_ h
    ·unfold callee;rw[ez,hf'];rfl
    ·unfold args;rw[h1,h2,b0,bK];rfl
   ·cases h
  |builtin b=>
   cases b with
   |append=>
    unfold uL at h;simp only at h;split at h
    ·rename_i s x t t' e1 e2;have hbb: ((match ts.toList with | [t,t'] =>Nat.beq t t'| _=>true)&&(match as.toList with |s::_=>Kw (S.opd s)| [] =>true))=true:=hb;rw[e1,e2] at hbb;simp only[al] at hbb;rw[hbb.1] at h;simp only[cond_true] at h;have h':=h;have ht:t=t':=ao hbb.1;clear h;have e1:as= #[s,x] :=by apply Array.ext'; simpa using e1
     have e2:ts= #[t,t'] :=by apply Array.ext'; simpa using e2
     subst e1 e2;subst ht;obtain⟨ti,el,elT',hti,he,g1,g2,g3,g4,g5,g6⟩:=Jv hΘ hf;unfold Pq at h';simp only[hti] at h';split at h'
     ·rename_i el' sv xv he' hs hx;rw[he] at he';cases he';have hsv:=nq hS s;rw[hs] at hsv;have hxv:=nq hS x;rw[hx] at hxv;obtain⟨more,L,S1,d1,q1,h⟩:=PQ (show xv.ok S.gh from hxv) h';have hroot:Kw (.v (.cl sv))=true:=by rw[<-hs]; exact hbb.2
      obtain⟨l0,cons,S2,q2,d2,h⟩:=NI (show sv.ok S1.gh from Cl.ok_mono d1.le hsv) hroot h;obtain⟨hbd,h⟩:=fA h;have hlen: (l0++more).length<=2 ^ 40:=aO (Nat.le_mul_of_pos_right _ g4) hbd;have hll: (l0++more).length=l0.length+more.length:=by simp
      have d:=d1.trans d2;refine⟨FA, .own ⟨0,[]⟩ el.width 0 (l0.length+more.length),_,[.sl el.width ((l0++more).map el.row)],mD (L++cons),{ S2 with gh:=S2.gh++ [some ⟨el,l0++more,none⟩] },iT,?_,?_,d.make ⟨el,l0++more,none⟩,?_,TS.ok_gh (d.ok hS) (jb.app _ _),?_,h⟩
      ·simp only[gm];rw[if_pos trivial,g1];simp only[ae,g2,g5,wl,ez,hs,hx];show (jc S.st el.width el.flatB xv.av).bind _=_;rw[q1];simp only[ae];show (o5 (dropL S.st L) el.width sv.av).bind _=_;rw[<-d1.st,q2];simp only[ae,aN];rw[if_pos ⟨by rw[g3,<-hll]; exact hbd,by rw[<-hll]; exact hlen,el.width_pos,by rw[yp g2 g5 g6]; rfl⟩,b0]
      ·simp only[shift,ka,kT,V.av,V1.av,Cl.av,aQ,hll];rw[d.len];rfl
      ·unfold xz;simp only;rw[d.gone,cF (by rw[d.len]; exact aq _),cw (by rw[d.len]; exact aq _)];rfl
      ·refine⟨by simp,fun _=>⟨rfl,rfl,fun tr htr=> ?_⟩⟩;rw[lp,if_pos rfl] at htr;cases htr;rfl
     ·cases h'
    ·cases h
   | _=>cases hn
 |makeSlice t l c=>
  unfold uL at h;simp only at h;split at h
  ·rename_i ti hti;split at h
   ·rename_i el he;obtain⟨elT',g1,g2,g3,g4,g5,g6⟩:=(hΘ _ _ hti).el el he;obtain⟨n,h1,h⟩:=uj h;obtain⟨m,h2,h⟩:=uj h;split at h
    ·rename_i z hz;obtain⟨hb,h⟩:=fA h;have hz':=Ty.unflat_some _ _ _ hz
     have hzr:el.row z=List.zipWith zc el.shs el.zvs:=by rw[el.row_flat,hz',Ci]
     refine⟨FA, .own ⟨0,[]⟩ el.width 0 n.toNat,_,[(⟨el,List.replicate n.toNat z,none⟩:eT)].map eT.tree,[],{ S with gh:=S.gh++ [(⟨el,List.replicate n.toNat z,none⟩:eT)].map some },iT,?_,?_,KN S _,?_,TS.ok_gh hS (jb.apps _ _),?_,h⟩
     ·simp only[gm,g1,ae,ez,h1,h2];rw[yp g2 g5 g6];simp only[ae]
      have hn:n<=n*(ti.el:Int):=by
       have h1e: (1:Int)<=ti.el:=by omega
       have:=de h1e hb.1
       rwa [Int.mul_one] at this
      rw[if_pos ⟨hb.1,hb.2.1,by rw[g3,Int.mul_comm]; exact hb.2.2,Int.le_trans hn hb.2.2⟩,g2,<-hzr];simp[eT.tree]
     ·simp only[shift,ka,kT,V.av,V1.av,Cl.av,aQ];rfl
     ·unfold xz;simp only[yt,cF (aq _),List.drop_length,be,Cn];rfl
     ·refine⟨by simp,fun _=>⟨rfl,by simp,fun tr htr=> ?_⟩⟩;rw[show [(⟨el,List.replicate n.toNat z,none⟩:eT)].map some= [some ⟨el,List.replicate n.toNat z,none⟩] from rfl,lp,if_pos rfl] at htr;cases htr;simp
    ·cases h
   ·cases h
  ·cases h
 | _=>cases hn
end
end
section
open Go
section
variable {ρ:Type} {P:Program} {Θ:nD} {S:TS} {Y:ya}
open Classical in
noncomputable def yu (d:Option Tmp) (D1 D2:rZ):rZ:=fun d'=>if d'=d then D1 d' else D2 d'
theorem HP [dY] {d:Option Tmp} {D1 D2:rZ} (h1:lj P D1) (h2:lj P D2):lj P (yu d D1 D2):=by
 intro d' f args gs res out h;unfold yu at h;split at h
 ·exact h1 _ _ _ _ _ _ h
 ·exact h2 _ _ _ _ _ _ h
theorem NJ (d:Option Tmp) (D1 D2:rZ):yu d D1 D2 d=D1 d:=by unfold yu; rw[if_pos rfl]
theorem NK {d d':Option Tmp} (D1 D2:rZ) (h:d'≠d):yu d D1 D2 d'=D2 d':=by unfold yu; rw[if_neg h]
theorem PR [dY] (hΘ:gz P Θ) (hY:lN P Y) {ops:Array Oper}: ∀ (os:List Oper) (S:TS) (ms:List jl) (κ:TS->List jl->Option ρ) (r:ρ),S.ok->Hw Θ Y ops.toList os S ms κ=some r->
  ∃D SV ms',lj P D/\DC D P ops os S.st=some (TS.st SV,ms')/\SV.ok/\κ SV (ms++ms')=some r:=by
 intro os
 induction os with
 |nil=>intro S ms κ r hS h; exact⟨FA,S,[],iT,rfl,hS,by rw[bT]; exact h⟩
 |cons o os ih=>
  intro S ms κ r hS h;unfold Hw at h;cases hst:eg o with
  |true=>
   rw[hst] at h;simp only[cond_true] at h;obtain⟨D,SV,ms',h1,h2,h3,h4⟩:=ih _ _ _ _ hS h;refine⟨D,SV,⟨S.gh.length,[],[]⟩::ms',h1,?_,h3,?_⟩
   ·simp only[DC,hst,if_true,h2,aH];rfl
   grind
  |false=>
   rw[hst] at h;simp only[cond_false] at h;cases hbo:fZ o with
   |true=>
    rw[hbo] at h;simp only[cond_true] at h;cases hgn:o.guard.isNone with
    |false=>rw[hgn] at h; cases h
    |true=>
    rw[hgn] at h;simp only[cond_true] at h;obtain⟨S3,g5,g6,_,h⟩:=kp (v:=V.v (.cl (.ptrB (S.bx.length-1-gG os) 0))) hS trivial h;obtain⟨D,SV,ms',k1,k2,k3,k4⟩:=ih _ _ _ _ g6 h;refine⟨D,SV,⟨S.gh.length,[],[]⟩::ms',k1,?_,k3,?_⟩
    ·simp only[DC,hst,bc,if_false,hbo,if_true,hgn];rw[show S.st.put o.dst (.ptrB (S.st.nb-1-gG os) 0)=some S3.st from g5];simp only[ae,k2,aH];rfl
    grind
   |false=>
   rw[hbo] at h;simp only[cond_false] at h;obtain⟨b,S1,h1,h2,h3,h4,h⟩:=HJ hS h;have hng:S.st.ng=S1.st.ng:=by rw[h2]
   cases b with
   |false=>
    simp only[cond_false] at h;obtain⟨S3,g5,g6,_,h⟩:=kp (v:= .tup []) h3 (fun x hx=>by cases hx) h;obtain⟨D,SV,ms',k1,k2,k3,k4⟩:=ih _ _ _ _ g6 h;refine⟨D,SV,⟨S1.gh.length,[],[]⟩::ms',k1,?_,k3,?_⟩
    ·simp only[DC,hst,hbo,bc,if_false,h1,ae];rw[<-h2,show S1.st.put o.dst (.tup [])=some S3.st from g5];simp only[ae,k2,aH];rfl
    grind
   |true=>
    simp only[cond_true] at h;cases hnw:hZ o with
    |false=>
     rw[hnw] at h;simp only[cond_false] at h;obtain⟨v,S2,m1,m2,m3,m4,m5,h⟩:=zC (D:=FA) hΘ h3 h;obtain⟨S3,g5,g6,_,h⟩:=kp m3 (by rw[m4]; exact m5) h;obtain⟨D,SV,ms',k1,k2,k3,k4⟩:=ih _ _ _ _ g6 h;refine⟨D,SV,⟨S1.gh.length,[],[]⟩::ms',k1,?_,k3,?_⟩
     ·have hV:eu D P S1.st o=some v.av:=by
       rw[<-m1]
       have : ∀D':rZ,eu D P S1.st o=eu D' P S1.st o:=by
        intro D';obtain⟨dst,op,ty,pos,aft,gd⟩:=o;cases op with
        |call c=>
         obtain⟨cl,as,ts⟩:=c;cases cl with
         |value f=>cases hnw
         |invoke a b=>rfl
         |builtin b=>cases b<;>rfl
        |unOp op t x=>cases op<;>rfl
        |binOp op t x y t'=>cases op<;>rfl
        |makeFunc fn first caps=>cases fn<;>rfl
        |slice t x lo hi mx=>cases mx<;>rfl
        | _=>rfl
       exact this FA
      simp only[DC,hst,hbo,bc,if_false,h1,ae,if_true,hnw];rw[<-h2,hV];simp only[ae];rw[<-m2,g5];simp only[ae,k2,aH];rw[m2]; first |rfl|skip
     grind
    |true=>
     rw[hnw] at h;simp only[cond_true] at h;obtain⟨hc,h⟩:=ej h;simp only[al] at hc;obtain⟨D1,v0,v,adds,cons,S2,m1,m2,m3,m4,m5,m6,m7,h⟩:=KP hΘ hY h3 hnw hc.1.2 hc.2 h;obtain⟨S3,g5,g6,_,h⟩:=kp m6 m7 h;obtain⟨D,SV,ms',k1,k2,k3,k4⟩:=ih _ _ _ _ g6 h;refine⟨yu o.dst D1 D,SV,⟨S1.st.ng,adds,cons⟩::ms',HP m1 k1,?_,k3,?_⟩
     ·have hN:gm (yu o.dst D1 D) P S1.st o=some (v0,adds,cons):=by
       rw[<-m2];exact KM (NJ _ _ _)
      have hrest:DC (yu o.dst D1 D) P ops os S3.st=some (SV.st,ms'):=by
       rw[<-k2];refine SY os _ (fun o' ho'=>NK _ _ (fun e=> ?_));have hl:=hc.1.1;unfold ST at hl;split at hl
       ·grind [Q3,Nat.beq_refl]
       ·cases hl
      simp_all [DC]
     grind
theorem PS [dY] (hΘ:gz P Θ) (hY:lN P Y) {ops:Array Oper} {D:rZ}: ∀ (os:List Oper) (S:TS) (κ:TS->Option ρ) (r:ρ),S.ok->Ng Θ Y os S κ=some r->
  ∃S',DD D P ops os S.st=some (TS.st S')/\S'.ok/\κ S'=some r:=by
 intro os
 induction os with
 |nil=>intro S κ r hS h; exact⟨S,rfl,hS,h⟩
 |cons o os ih=>
  intro S κ r hS h;unfold Ng at h;cases hst:eg o with
  |false=>simp_all [DD]
  |true=>
   rw[hst] at h;simp only[cond_true] at h;obtain⟨hc,h⟩:=ej h;simp only[al] at hc;obtain⟨D',v,S1,g1,g2,g3,g4,h⟩:=vp hΘ hY hS h;obtain⟨S',h1,h2,h3⟩:=ih S1 κ r g3 h;refine⟨S',?_,h2,h3⟩;have hd:o.dst=none:=cS.1 hc.2
   have hs:step D P S.st o=some (v.av,S1.st):=by
    rw[<-g2];obtain⟨dst,op,ty,pos,aft,gd⟩:=o;cases op with
    |store t a x=>rfl
    | _=>cases hst
   simp_all [one,St.put,DD]
theorem PT (hΘ:gz P Θ): ∀ (os:List Oper) (S:TS) (κ:TS->Option ρ) (r:ρ),S.ok->Nf Θ os S κ=some r-> ∃S0,E9 P os S.st=some (TS.st S0)/\S0.ok/\κ S0=some r:=by
 intro os
 induction os with
 |nil=>intro S κ r hS h; exact⟨S,rfl,hS,h⟩
 |cons o os ih=>
  intro S κ r hS h;unfold Nf at h;unfold E9;split at h
  ·rename_i t hop;split at h
   ·rename_i ti hti
    obtain⟨S0,h1,h2,h3⟩:=ih { S with bx:=S.bx++ [ti.ty.zvs.map cC] } κ r ⟨hS.env,fun cs hcs c hc=>by
     rcases aY.1 hcs with h1|h1
     ·exact hS.bx cs h1 c hc
     grind [Np]⟩ h
    refine⟨S0,?_,h2,h3⟩;rw[hop];simp only[(hΘ _ _ hti).ze,ae];rw[<-h1]
    congr 1
    rw[Js,Nn];rfl
   ·cases h
  grind
theorem Jw {f g:TypeId->Bool} (h: ∀t,f t=true->g t=true) {t:TypeId} {a:AV} (hs:yd f t a=true):yd g t a=true:=by cases a<;>simp only[yd] at hs ⊢<;>first |exact h t hs|exact hs
theorem HQ {f g:TypeId->Bool} (h: ∀t,f t=true->g t=true) {ops:List Oper} {B:List (List Nat)} {S SV:St} {i j:Nat} {oi oj:Oper} (hs:t7 f ops B S SV i j oi oj=true):t7 g ops B S SV i j oi oj=true:=by
 unfold t7 at hs ⊢;split at hs
 ·simp only[al] at hs ⊢;exact⟨Jw h hs.1,hs.2⟩
 ·cases hs
theorem HS {ops:List Oper} {B:List (List Nat)} {f g:Nat->Nat->Oper->Oper->Bool} (h: ∀i j oi oj,f i j oi oj=true->g i j oi oj=true) (hs:xg ops B f=true):xg ops B g=true:=by
 unfold xg at hs ⊢
 grind
theorem LS {f g:TypeId->Bool} (h: ∀t,f t=true->g t=true) {ops:List Oper} {B:List (List Nat)} {S SV:St} {ms:List jl} (hs:IT f ops B S ms SV=true):IT g ops B S ms SV=true:=by
 unfold IT at hs ⊢;simp only[al,bU] at hs ⊢
 grind [HS,HQ]
theorem KQ (hΘ:gz P Θ) (t:TypeId) (h:Ky Θ t=true):sj P t=true:=by
 unfold Ky at h;split at h
 ·rename_i ti hti;unfold sj;rw[(hΘ t ti hti).sh];unfold Ty.flatB at h;unfold Ty.shs
  grind
 ·cases h
theorem NL (hΘ:gz P Θ) {S:TS} {o:Oper} (h:Nh Θ S o=true): ∀t x v,o.op= .store t x v->yd (sj P) t (opd S.st x)=true:=by
 intro t x v ho;unfold Nh at h;rw[ho] at h;simp only at h;rw[ez];split at h
 ·rename_i e; rw[e]; rfl
 ·rename_i e; rw[e]; exact KQ hΘ t h
 ·cases h
theorem LU (hΘ:gz P Θ) {o:Oper} (h:Fx Θ o=true):BQ P o=true:=by
 unfold BQ;split
 ·rename_i t a b he;unfold Fx at h;rw[he] at h;simp only at h;split at h
  ·rename_i ti hti;split at h
   ·rename_i el hel;have hl:SG Θ t=true:=by unfold SG; rw[hti]; simp only[hel]
    grind [Jv,sj,wl]
   ·cases h
  ·cases h
 ·rfl
theorem PU [dY] (hΘ:gz P Θ) (hY:lN P Y) {n0:Nat} {ops:List Oper} {B:List (List Nat)}: ∀ (os:List Oper) (k:Nat) (S:TS) (κ:TS->Option ρ) (r:ρ),(∀o∈os,nn P o=true)->(os≠ [] ->n0<=S.gh.length)->S.ok->Hx Θ Y n0 ops B k os S κ=some r->
  ∃ (T:Nat->St) (S':TS),T k=S.st/\T (k+os.length)=S'.st/\S'.ok/\κ S'=some r/\ ∀i o,os[i]? =some o->ED P n0 ops B T (k+i) o\/(i+1=os.length/\eg o=true/\M1 P (T (k+i)) o (T (k+i+1))/\ ∀j,j<k+i->j∈B.getD (k+i) []):=by
 intro os
 induction os with
 |nil=>intro k S κ r _ _ hS h; exact⟨fun _=>S.st,S,rfl,rfl,hS,h,fun i o h=>by simp at h⟩
 |cons o os ih=>
  intro k S κ r hop hn0 hS h;have hop': ∀o∈os,nn P o=true:=fun x hx=>hop x (aL _ hx);have hok:=hop o aK;have hn0:=hn0 (by simp)
  have glue: ∀ {S3:TS},(os≠ [] ->n0<=S3.gh.length)->S3.ok->Hx Θ Y n0 ops B (k+1) os S3 κ=some r->((uK o=true/\ll P n0 S.st o S3.st)\/M2 P n0 (MZ ops B k) S.st o S3.st\/(os= [] /\eg o=true/\M1 P S.st o S3.st/\ ∀j,j<k->j∈B.getD k []))->
    ∃ (T:Nat->St) (S':TS),T k=S.st/\T (k+(o::os).length)=S'.st/\S'.ok/\κ S'=some r/\ ∀i o',(o::os)[i]? =some o'->ED P n0 ops B T (k+i) o'\/(i+1=(o::os).length/\eg o'=true/\M1 P (T (k+i)) o' (T (k+i+1))/\ ∀j,j<k+i->j∈B.getD (k+i) []):=by
   intro S3 hn3 hS3 h3 hst;obtain⟨T,S',t1,t2,hS',hk,hT⟩:=ih (k+1) S3 κ r hop' hn3 hS3 h3
   let T':Nat->St:=fun i=>if i=k then S.st else T i
   have e0:T' k=S.st:=if_pos rfl;have e1: ∀i,k<i->T' i=T i:=fun i hi=>if_neg (by omega);refine⟨T',S',e0,?_,hS',hk,fun i o' ho'=> ?_⟩
   ·grind
   ·cases i with
    |zero=>
     simp only[aP,af] at ho';subst ho';have e2:T' (k+1)=S3.st:=by rw[e1 _ (by omega),t1]
     rcases hst with h|h| ⟨rfl,h1,h2,h3⟩
     ·left;left
      grind
     ·left;right
      grind
     grind
    |succ i=>grind [ED]
  unfold Hx at h;cases hh:B3 Y S o with
  |some z=>
   obtain⟨kd,g,caps,a,us,xs⟩:=z;rw[hh] at h;obtain⟨S3,g1,g2,g3⟩:=HN hΘ hY hS hh h
   have hv:uK o=true:=by obtain⟨f,as,ts,x,t0,hop,_⟩:=Ck hh;unfold uK hZ;rw[hop];rfl
   exact glue (fun _=>aO hn0 (g1 0).ng) g2 g3 (.inl ⟨hv,g1 n0⟩)
  |none=>
  rw[hh] at h;simp only at h;cases hs:eg o with
  |true=>
   rw[hs] at h;simp only[cond_true] at h;obtain⟨hc,h⟩:=ej h;obtain⟨D,v,S2,hD,g2,g3,g4,h⟩:=vp hΘ hY hS h;obtain⟨S3,g5,g6,g7,h⟩:=kp g3 g4 h;rcases Bool.or_eq_true_iff.1 hc with hc|hc
   ·have hst:=ll.store hD hok hs (NL hΘ hc) g2 g5 (n0:=n0);exact glue (fun _=>aO hn0 hst.ng) g6 h (.inl ⟨by simp[uK,hs],hst⟩)
   ·simp only[al,dE,ay,bM,bR] at hc;exact glue (fun hne=>absurd hc.1 hne) g6 h (.inr (.inr ⟨hc.1,hs,M1.one hD hok (by unfold one; rw[g2]; exact g5),hc.2⟩))
  |false=>
  rw[hs] at h;simp only[cond_false] at h;cases hn:hZ o with
  |true=>
   rw[hn] at h;simp only[cond_true] at h;have hv:uK o=true:=by simp[uK,hn]
   cases hfl: !qV o&&Fx Θ o with
   |true=>simp only[hfl,Bool.true_or,cond_true] at h;simp only[al,b8] at hfl;obtain⟨D,v,S2,hD,g2,g3,g4,h⟩:=vp hΘ hY hS h;obtain⟨S3,g5,g6,g7,h⟩:=kp g3 g4 h;have hst:=ll.flat hD hok hn hfl.1 (LU hΘ hfl.2) g2 g5 (n0:=n0) hn0;exact glue (fun _=>aO hn0 hst.ng) g6 h (.inl ⟨hv,hst⟩)
   |false=>
    simp only[hfl,co] at h;cases hfb:Pt Θ o&&Kx S o with
    |false=>
     obtain⟨D,v,S2,hD,g2,g3,g4,h⟩:=vp hΘ hY hS h
     grind
    |true=>
     have hfb':=hfb;simp only[al] at hfb';obtain⟨D,v0,v,adds,cons,S2,hD,g2,g3,g4,g8,g9,g10,h⟩:=KP hΘ hY hS hn hfb'.1 hfb'.2 h;simp only[hfb,dC] at h;obtain⟨hc,h⟩:=ej h;obtain⟨S3,g5,g6,g7,h⟩:=kp g9 g10 h
     have hst:ll P n0 S.st o S3.st:=ll.new hD hok hn g2 (by rw[g4,g3]; exact g5) hn0 fun ha r hr=>by
      rw[ha,co] at hc;have e:gone 0 S.gh S2.gh=cons:=congrArg jl.cons g8
      simp_all
     exact glue (fun _=>aO hn0 hst.ng) g6 h (.inl ⟨hv,hst⟩)
  |false=>rw[hn] at h;simp only[cond_false] at h;obtain⟨hp,h⟩:=ej h;obtain⟨v,S2,m1,m2,m3,m4,m5,h⟩:=zC (D:=Pj) hΘ hS h;obtain⟨S3,g5,g6,g7,h⟩:=kp m3 (by rw[m4]; exact m5) h;refine glue (fun _=>by rw[g7,m4]; exact hn0) g6 h (.inr (.inl ⟨by simp[uK,hs,hn],hok,v.av,m1,hp,by rw[<-m2]; exact g5⟩))
theorem PV [dY] (hΘ:gz P Θ) (hY:lN P Y) (hm:P.follows .mixedOrders=true) {id:Nat} {ops:Array Oper} (hok:lW P (.region id ops true)=true) (hS:S.ok) {κ:TS->Option ρ} {r:ρ} (h:RK Θ Y ops.toList S κ=some r):
  qc P (.region id ops true) S.st (fun x S'=>x= .nor/\ ∃S1:TS,S'=S1.st/\S1.ok/\κ S1=some r):=by
 unfold RK at h;simp only[lW] at hok;cases hc:Ha ops||(ops.toList.any (T3 Y)&&QZ ops) with
 |true=>
  rw[show (Ha ops.toList.toArray||(ops.toList.any (T3 Y)&&QZ ops.toList.toArray))=true from hc] at h;simp only[cond_true] at h
  have hph:QZ ops=true:=by
   unfold Ha at hc;simp only[bU,al] at hc;rcases hc with hc|hc
   ·exact hc.2
   ·exact hc.2
  obtain⟨T,S',t1,t2,h2,h3,hT⟩:=PU hΘ hY ops.toList 0 S κ r (fun o ho=>ay.1 hok o ho) (fun _=>aq _) hS h;have hsz:ops.toList.length=ops.size:=by simp
  rw[aQ,hsz] at t2;have tl: ∀ {i:Nat} {o:Oper},ops[i]? =some o->ops.toList[i]? =some o:=by intro i o h; simpa using h
  by_cases hl: ∃o,ops[ops.size-1]? =some o/\ ¬ED P S.st.ng ops.toList (gn ops.toList) T (ops.size-1) o
  ·obtain⟨o,ho,hnp⟩:=hl;have hlt:=(aG.1 ho).1;refine qc.phase hm (Hb hph) T t1 (m:=ops.size-1) (.inr ⟨by omega,o,ho,?_⟩) (fun i o hi ho=> ?_) ⟨rfl,S',t2,h2,h3⟩
   ·have:=hT _ o (tl ho);rw[aQ] at this;rcases this with h|h
    ·exact absurd h hnp
    ·exact⟨h.2.1,h.2.2.1,h.2.2.2⟩
   ·have:=hT _ o (tl ho);rw[aQ] at this;rcases this with h|h
    ·exact h
    ·omega
  ·refine qc.phase hm (Hb hph) T t1 (m:=ops.size) (.inl rfl) (fun i o hi ho=> ?_) ⟨rfl,S',t2,h2,h3⟩;have:=hT _ o (tl ho);rw[aQ] at this;rcases this with h|h
   ·exact h
   grind
 |false=>
 rw[show (Ha ops.toList.toArray||(ops.toList.any (T3 Y)&&QZ ops.toList.toArray))=false from hc] at h;simp only[cond_false] at h;obtain⟨hd,h⟩:=ej h;have hd:Kl ops=true:=hd;obtain⟨S0,h0,hS0,h⟩:=PT hΘ _ _ _ _ hS h;obtain⟨D,SV,ms,h1,h2,h3,h4⟩:=PR hΘ hY _ _ _ _ _ hS0 h;obtain⟨h5,h6⟩:=ej h4;rw[be] at h5;obtain⟨S',h7,h8,h9⟩:=PS (D:=D) (ops:=ops) hΘ hY _ _ _ _ h3 h6;exact qc.draw h1 hm (by unfold BG; rw[hd,hok]; rfl) h0 h2 (LS (KQ hΘ) h5) h7 ⟨rfl,S',rfl,h8,h9⟩
def gg:Code->List Code
 | .seq a b=>gg a++gg b
 | .cond _ a b=>gg a++gg b
 | .block _ c=>gg c
 | .loop c=> [c]
 | _=> []
def jd [dY] (P:Program) (Λ:oa) (cs:List Code):Prop:= ∀c∈cs,∀ (S:TS) (ρ:Type) (κ:X->TS->Option ρ) (r:ρ),S.ok->Λ (gO c) S ρ κ=some r->qc P (.loop c) S.st (fun x S'=> ∃S1:TS,S'=S1.st/\S1.ok/\κ x S1=some r)
theorem FF [dY] (hΘ:gz P Θ) (hY:lN P Y) (hm:P.follows .mixedOrders=true) {Λ:oa}: ∀ (c:Code) (S:TS) (κ:X->TS->Option ρ) (r:ρ),lW P c=true->jd P Λ (gg c)->S.ok->zz Θ Y Λ c S κ=some r->
  qc P c S.st (fun x S'=> ∃S1:TS,S'=S1.st/\S1.ok/\κ x S1=some r):=by
 intro c
 induction c with
 |skip=>intro S κ r _ _ hS h; exact qc.skip ⟨S,rfl,hS,h⟩
 |exit i=>intro S κ r _ _ hS h; exact qc.exit ⟨S,rfl,hS,h⟩
 |ret=>intro S κ r _ _ hS h; exact qc.ret ⟨S,rfl,hS,h⟩
 |region id ops dr=>
  intro S κ r hok _ hS h;cases dr with
  |false=>exact qc.region (PM hΘ hY _ _ _ _ (fun o ho=>ay.1 hok o ho) hS h)
  |true=>refine (PV hΘ hY hm hok hS h).mono (fun x S' hx=> ?_);obtain⟨rfl,hx⟩:=hx;exact⟨S',pK.refl,hx⟩
 |seq a b iha ihb=>
  intro S κ r hok hL hS h;simp only[lW,al] at hok;have hLa:jd P Λ (gg a):=fun c hc=>hL c (ct _ hc);have hLb:jd P Λ (gg b):=fun c hc=>hL c (List.mem_append_right _ hc);unfold zz at h;refine qc.seq ((iha S _ r hok.1 hLa hS h).mono (fun x S' hx=>⟨S',pK.refl,?_⟩))
  grind
 |cond t a b iha ihb=>
  intro S κ r hok hL hS h;simp only[lW,al] at hok
  grind [jd,gg,zz,B7,qc.cond]
 |block i c ih=>
  intro S κ r hok hL hS h;unfold zz at h;refine qc.block ((ih S _ r hok hL hS h).mono (fun x S' hx=>⟨S',pK.refl,?_⟩));obtain⟨S1,rfl,h1,h2⟩:=hx;cases x with
  |nor=>exact⟨S1,rfl,h1,h2⟩
  |ret=>exact⟨S1,rfl,h1,h2⟩
  |ext j=>
   simp only at h2 ⊢;cases hb:Nat.beq j i with
   |true=>rw[hb] at h2;rw[if_pos (ao hb)];exact⟨S1,rfl,h1,h2⟩
   |false=>rw[hb] at h2;rw[if_neg (by grind [Nat.beq_refl])];exact⟨S1,rfl,h1,h2⟩
 |loop c ih=>intro S κ r hok hL hS h;exact hL c (aD.2 rfl) S ρ κ r hS h
 | _=>intro S κ r hok; cases hok
end
end
section
open Go
section
variable {ρ:Type} {P:Program} {Θ:nD} {S:TS} {Y:ya}
theorem FG (hS:S.ok) {gs:List eT} {et:Option Ty} {c:Cl} (hc:c.ok S.gh) {κ:Cl->List eT->TS->Option ρ} {r:ρ} (h:Ni S gs et c κ=some r):
  ∃c' gs' S',xf S.st (gs.map eT.tree) (HG et) c.av=some (Cl.av c',gs'.map eT.tree,TS.st S')/\S'.ok/\jb S.gh S'.gh/\jb (gs.map some) (gs'.map some)/\c'.ok (gs'.map some)/\κ c' gs' S'=some r:=by
 have new: ∀ (t:Ty) (l:List t.D) (n:Nat),n=l.length->(Cl.own ⟨gs.length,[]⟩ t.width 0 n true).ok ((gs++ [(⟨t,l,none⟩:eT)]).map some):=by intro t l n hn;refine⟨by simp,fun _=>⟨rfl,rfl,fun tr htr=> ?_⟩⟩;rw[b0] at htr;have e:=lp (G:=gs.map some) (x:=some (⟨t,l,none⟩:eT)) gs.length;simp only[aN,if_true] at e;have htr':fW (gs.map some++ [some (⟨t,l,none⟩:eT)]) gs.length=some tr:=htr;rw[e] at htr';cases htr';exact hn
 have grow: ∀ (x:eT),jb (gs.map some) ((gs++ [x]).map some):=fun x=>by rw[b0]; exact jb.app _ _
 unfold Ni at h;split at h
 ·refine⟨_,_,_,rfl,hS,jb.refl _,jb.refl _,?_,h⟩;trivial
 ·rename_i t;refine⟨_,_,S,?_,hS,jb.refl _,grow _,new t [] 0 rfl,h⟩;simp only[Cl.av,xf,HG,aN,b0,aW,cL];rfl
 ·rename_i p sz lo len w t';obtain⟨pr,pl⟩:=p;cases pl with
  |cons a l=>cases h
  |nil=>
   simp only at h;obtain⟨h1,h'⟩:=ej h;clear h;simp only[al] at h1;have h2:S.fz<=pr:=ar h1.1;have h3:t'.width=sz:=ao h1.2;obtain⟨t,l,k1,k2,h⟩:=ic h';obtain⟨k3,h⟩:=ej h;have k3:t.width=sz:=ao k3
   have fin0: ∀ (lo len:Nat),lo+len<=l.length->(lo=0\/sz<=3/\t.flatB=true)->xf S.st (gs.map eT.tree) (HG (some t')) (.own ⟨pr,[]⟩ sz lo len)=some (.own ⟨gs.length,[]⟩ sz 0 len,(gs++ [(⟨t,(l.drop lo).take len,none⟩:eT)]).map eT.tree,({ S with gh:=fL S.gh pr none }:TS).st):=by
    intro lo len hlen hoff;simp only[xf];have hrows:S.st.rows ⟨pr,[]⟩ sz=some (l.map t.row):=by rw[<-k3]; exact kV k1
    rw[if_pos ⟨trivial,by show sz=t'.width; exact h3.symm,h2⟩,hrows];simp only[ae,aN];rw[if_pos ⟨hlen,hoff.imp id fun h=>⟨h.1,tf h.2 l⟩⟩,yn];simp only[HG,h3,b0,aW,cL,eT.tree,cz,cQ,k3]
   have fin: ∀ (len:Nat),len<=l.length->xf S.st (gs.map eT.tree) (HG (some t')) (.own ⟨pr,[]⟩ sz 0 len)=some (.own ⟨gs.length,[]⟩ sz 0 len,(gs++ [(⟨t,l.take len,none⟩:eT)]).map eT.tree,({ S with gh:=fL S.gh pr none }:TS).st):=fun len hlen=>by
    have:=fin0 0 len (by omega) (.inl rfl)
    rwa [bP] at this
   cases w with
   |true=>
    obtain⟨e1,e2,e3⟩:=vm hc k2;refine⟨_,_,_,?_,TS.ok_gh hS (jb.gone _ _),jb.gone _ _,grow _,by rw[<-k3]; exact new t l _ rfl,h⟩
    simp_all [Cl.av]
   |false=>
    simp only[cond_false] at h;rcases Pw h with ⟨h4,h⟩| ⟨_,h⟩
    case inr=>
     obtain⟨hz,h⟩:=ej h;simp only[al] at hz;obtain⟨h4,h⟩:=fA h;refine⟨_,_,_,?_,TS.ok_gh hS (jb.gone _ _),jb.gone _ _,grow _,by rw[<-k3]; exact new t ((l.drop lo).take len) _ rfl,h⟩;have:=fin0 lo len h4 (.inr ⟨ar hz.2,hz.1⟩);have hl: ((l.drop lo).take len).length=len:=by simp; omega
     simp only[Cl.av];rw[hl];exact this
    case inl=>
     refine⟨_,_,_,?_,TS.ok_gh hS (jb.gone _ _),jb.gone _ _,grow _,by rw[<-k3]; exact new t (l.take len) _ rfl,h⟩
     grind [Cl.av]
 ·rename_i p sz i j;obtain⟨pr,pl⟩:=p;cases pl with
  |cons a l=>cases h
  |nil=>
   simp only at h;obtain⟨h1,h'⟩:=ej h;clear h;obtain⟨t,l,k1,k2,h⟩:=ic h';obtain⟨k3,h⟩:=ej h;have k3:t.width=sz:=ao k3;have hrows:S.st.rows ⟨pr,[]⟩ sz=some (l.map t.row):=by rw[<-k3]; exact kV k1
   refine⟨_,_,_,?_,TS.ok_gh hS (jb.gone _ _),jb.gone _ _,grow _,?_,h⟩
   ·simp only[Cl.av,xf];rw[if_pos ⟨trivial,ar h1⟩,hrows];simp only[ae,yn,aN,b0,aW,cL,eT.tree,k3]
   ·show gs.length< ((gs++ [(⟨t,l,none⟩:eT)]).map some).length;simp
 ·cases h
theorem NM: ∀ (ets:List (Option Ty)) (cs:List Cl) (S:TS) (gs:List eT) (κ:List Cl->List eT->TS->Option ρ) (r:ρ),S.ok->(∀c∈cs,c.ok S.gh)->Kz S gs ets cs κ=some r->
  ∃cs' gs' S',t6 S.st (gs.map eT.tree) (ets.map HG) (cs.map Cl.av)=some (cs'.map Cl.av,gs'.map eT.tree,TS.st S')/\S'.ok/\jb S.gh S'.gh/\jb (gs.map some) (gs'.map some)/\(∀c∈cs',c.ok (gs'.map some))/\κ cs' gs' S'=some r:=by
 intro ets
 induction ets with
 |nil=>
  intro cs S gs κ r hS hcs h;cases cs with
  |nil=>exact⟨[],gs,S,rfl,hS,jb.refl _,jb.refl _,(fun c hc=>by cases hc),h⟩
  |cons c cs=>cases h
 |cons et ets ih=>
  intro cs S gs κ r hS hcs h;cases cs with
  |nil=>cases h
  |cons c cs=>
   unfold Kz at h;obtain⟨c',g1,S1,h1,h2,h3,h4,h5,h⟩:=FG hS (hcs c aK) h;obtain⟨cs',g2,S2,k1,k2,k3,k4,k5,h⟩:=ih cs S1 g1 _ r h2 (fun x hx=>Cl.ok_mono h3 (hcs x (aL _ hx))) h;refine⟨c'::cs',g2,S2,?_,k2,h3.trans k3,h4.trans k4,fun x hx=> ?_,h⟩
   ·simp only[aW,t6,h1,ae,k1,aH]
   ·rcases aX.1 hx with rfl|hx
    all_goals grind [Cl.ok_mono]
theorem PW (hΘ:gz P Θ) (hS:S.ok) {gs:List eT} {t:TypeId} {v:V} (hv:v.ok S.gh) {κ:V1->List eT->TS->Option ρ} {r:ρ} (h:RL Θ S gs t v κ=some r):
  ∃v' gs' S',Ll P S.st (gs.map eT.tree) t v.av=some (V1.av v',gs'.map eT.tree,TS.st S')/\S'.ok/\jb S.gh S'.gh/\jb (gs.map some) (gs'.map some)/\v'.ok (gs'.map some)/\κ v' gs' S'=some r:=by
 unfold RL at h;split at h
 ·rename_i p sz i j;obtain⟨c',g1,S1,h1,h2,h3,h4,h5,h⟩:=FG hS (show Cl.ok S.gh (.ptrT p sz i j) from hv) h;exact⟨.cl c',g1,S1,h1,h2,h3,h4,h5,h⟩
 split at h
 ·cases h
 ·rename_i ti hti;have hsh:=(hΘ _ _ hti).sh;split at h
  ·rename_i cs _;obtain⟨cs',g1,S1,h1,h2,h3,h4,h5,h⟩:=NM _ _ _ _ _ _ hS hv h;refine⟨.agg cs',g1,S1,?_,h2,h3,h4,h5,h⟩;simp only[V.av,V1.av,Ll,hsh];rw[show ti.ty.shs=ti.ty.csh.map HG from rfl,h1];rfl
  ·rename_i c _;obtain⟨c',g1,S1,h1,h2,h3,h4,h5,h⟩:=FG hS hv h;refine⟨.cl c',g1,S1,?_,h2,h3,h4,h5,h⟩
   have e:Ll P S.st (gs.map eT.tree) t (V.v (.cl c)).av=xf S.st (gs.map eT.tree) ((nU P 9 t).headD 0) c.av:=by
    cases c with
    |c x=>cases x<;>rfl
    | _=>rfl
   rw[e,hsh]
   have e2:ti.ty.shs.headD 0=HG (ti.ty.csh.headD none):=by
    unfold Ty.shs;cases ti.ty.csh with
    |nil=>rfl
    |cons a l=>cases a<;>rfl
   rw[e2];exact h1
  ·cases h
theorem NN (hΘ:gz P Θ): ∀ (rs:List (TypeId×V)) (S:TS) (gs:List eT) (κ:List V1->List eT->Option ρ) (r:ρ),S.ok->(∀x∈rs,x.2.ok S.gh)->Hy Θ S gs rs κ=some r->
  ∃vs gs',IR P S.st (gs.map eT.tree) (rs.map fun x=>(x.1,x.2.av))=some (vs.map V1.av,gs'.map eT.tree)/\jb (gs.map some) (gs'.map some)/\(∀v∈vs,v.ok (gs'.map some))/\vs.length=rs.length/\κ vs gs'=some r:=by
 intro rs
 induction rs with
 |nil=>intro S gs κ r hS hrs h; exact⟨[],gs,rfl,jb.refl _,(fun v hv=>by cases hv),rfl,h⟩
 |cons x rs ih=>
  intro S gs κ r hS hrs h;obtain⟨t,v⟩:=x;unfold Hy at h;obtain⟨v',g1,S1,h1,h2,h3,h4,h5,h⟩:=PW hΘ hS (hrs _ aK) h;obtain⟨vs,g2,k1,k2,k3,k4,h⟩:=ih S1 g1 _ r h2 (fun x hx=>V.ok_mono h3 (hrs x (aL _ hx))) h;refine⟨v'::vs,g2,?_,h4.trans k2,fun y hy=> ?_,by simp[k4],h⟩
  ·simp only[aW,IR,h1,ae,k1,aH]
  ·rcases aX.1 hy with rfl|hy
   all_goals grind [V1.ok_mono]
theorem PX (hΘ:gz P Θ) (hS:S.ok): ∀ (rs:List ResultVar) (ts:List TypeId) (κ:List (TypeId×V)->Option ρ) (r:ρ),Jq Θ S rs ts κ=some r->
  ∃l:List (TypeId×V),rs.mapM (An P S.st)=some (l.map fun x=>x.2.av)/\l.map (·.1)=ts/\(∀x∈l,x.2.ok S.gh)/\κ l=some r:=by
 intro rs
 induction rs with
 |nil=>
  intro ts κ r h;cases ts with
  |nil=>exact⟨[],rfl,rfl,(fun x hx=>by cases hx),h⟩
  |cons t ts=>cases h
 |cons a rs ih=>
  intro ts κ r h;cases ts with
  |nil=>cases a<;>cases h
  |cons t ts=>
   cases a with
   |tmp a=>
    unfold Jq at h;obtain⟨l,h1,h2,h3,h⟩:=ih ts _ r h;refine⟨(t,jx S.env a)::l,?_,by simp[h2],fun x hx=> ?_,h⟩
    ·simp only[cT,h1,An];rfl
    ·rcases aX.1 hx with rfl|hx
     all_goals grind [Bo]
   |cell a t'=>
    unfold Jq at h
    have hw:0<P.cellsOf t':=by
     have h':=h;unfold Hn at h';split at h'
     ·rename_i ti hti;rw[(hΘ _ _ hti).cells];exact Ty.width_pos _
     ·cases h'
    obtain⟨u,g1,g2,h⟩:=HC hΘ hS (Bo hS a) h;obtain⟨l,h1,h2,h3,h⟩:=ih ts _ r h;refine⟨(t,u)::l,?_,by simp[h2],fun x hx=> ?_,h⟩
    ·simp only[cT,h1,An];rw[if_pos hw];have :load P S.st t' (S.st.env a)=some u.av:=g1;rw[this];rfl
    grind
theorem PY {α β γ:Type} (f:α×β->γ): ∀l:List (α×β),(l.map (·.1)).zip (l.map f)=l.map fun x=>(x.1,f x)
 | [] =>rfl
 |a::l=>by grind
theorem PZ (vs:List V1): (Fy vs).av=SN (vs.map V1.av):=by
 match vs with
 | [] =>rfl
 | [v] =>rfl
 |v::u::vs=>rfl
theorem Cp: ∀ (args:List V1) (n t:Nat),(jx (rf n args) (n+t)).av=(args.map V1.av).getD t .dead
 | [],n,t=>by simp[rf,jx]; rfl
 |a::l,n,0=>by simp[rf,jx]; rfl
 |a::l,n,t+1=>by
  have :Nat.beq n (n+(t+1))=false:=by
   cases h:Nat.beq n (n+(t+1)) with
   |false=>rfl
   |true=>have:=ao h; omega
  simp only[rf,jx,this,cond_false];rw[show n+(t+1)=(n+1)+t by omega,Cp l (n+1) t];simp
theorem Cq: ∀ (args:List V1) (n:Nat) (x:Nat×V),x∈rf n args-> ∃a∈args,x.2= .v a
 | [],n,x,h=>by cases h
 |a::l,n,x,h=>by
  simp only[rf,aX] at h;rcases h with rfl|h
  ·exact⟨a,aK,rfl⟩
  ·obtain⟨b,hb,he⟩:=Cq l (n+1) x h;exact⟨b,aL _ hb,he⟩
theorem HT (a:List V1) (t:Nat): (jx (rf 0 a) t).av=(a.map V1.av).getD t .dead:=by
 have:=Cp a 0 t
 rwa [aQ] at this
theorem Jx (_P:Program) (S:TS): ∀ (n r:Nat) (gs:List eT),wg S r n=some gs->((List.range' r n).map fun r=>(S.st.gh r).getD .dd)=gs.map eT.tree:=by
 intro n
 induction n with
 |zero=>simp_all [wg]
 |succ n ih=>
  intro r gs h;simp only[wg] at h;split at h
  ·rename_i t l hg;split at h
   ·rename_i ts hts;simp only[af] at h;subst h;rw[cJ,aW,aW,ih _ _ hts]
    congr 1
    show ((fW S.gh r).map eT.tree).getD .dd=_;rw[hg];rfl
   ·cases h
  ·cases h
theorem Jy [dY] (hΘ:gz P Θ) (hY:lN P Y) (hm:P.follows .mixedOrders=true) {Λ:oa} {f:FuncId} {fn:Func} (hf:GD P f=some fn) (hL: ∀c,fn.body=some c->jd P Λ (gg c)) {args:List V1} {G:List eT} {m:Nat} (hmG:m<=G.length) (ha: ∀a∈args,a.ok (G.map some)) {res:V} {out:List eT}
  (h:SU Θ Y Λ fn args G m (fun v g=>some (v,g))=some (res,out)):jI P f (args.map V1.av) (G.map eT.tree) m res.av (out.map eT.tree):=by
 unfold SU at h;split at h
 ·cases h
 ·rename_i c hc
  have hcok:lW P c=true:=by
   unfold GD at hf;simp only[ai] at hf;obtain⟨fn',g1,g2⟩:=hf;split at g2
   ·cases g2
   ·grind
  have hS0: ({ env:=rf 0 args,bx:= [],gh:=G.map some,fz:=m,nt:=args.length+(fn.ntmps-args.length) }:TS).ok:=
   ⟨fun x hx=>by obtain⟨a,h1,h2⟩:=Cq _ _ _ hx; rw[h2]; exact ha a h1,fun cs hcs=>by cases hcs⟩
  have hbeg: ({ env:=rf 0 args,bx:= [],gh:=G.map some,fz:=m,nt:=args.length+(fn.ntmps-args.length) }:TS).st=LC fn.ntmps (args.map V1.av) (G.map eT.tree) m:=by
   unfold TS.st LC RA;simp only[aN,cd]
   congr 1
   ·funext t
    exact HT _ t
   ·funext r
    show (fW (G.map some) r).map eT.tree=(G.map eT.tree)[r]?;unfold fW;rw[gv,ap,ap];cases G[r]?<;>rfl
  have hW:=FF hΘ hY hm c _ _ _ hcok (hL c hc) hS0 h;rw[hbeg] at hW
  have main: ∀ (S1:TS),S1.ok->(Jq Θ S1 fn.results.toList fn.resultTypes.toList fun rs=>match wg S1 0 m with
    |some gs=>Hy Θ S1 gs rs fun vs gs'=>some (Fy vs,gs')
    |none=>none)=some (res,out)->M3 P fn.results.toList fn.resultTypes.toList m S1.st=some (res.av,out.map eT.tree):=by
   intro S1 hS1 h0;obtain⟨l,h1,h2,h3,h⟩:=PX (P:=P) hΘ hS1 _ _ _ _ h0;clear h0;split at h
   ·rename_i gs hgs;have hgs:=Jx P S1 m 0 gs hgs;obtain⟨vs,gs',k1,k2,k3,k4,h⟩:=NN (P:=P) hΘ _ _ _ _ _ hS1 h3 h;simp only[af,an] at h;obtain⟨rfl,rfl⟩:=h;unfold M3;rw[h1];simp only[ae,aN]
    have hz: (fn.resultTypes.toList.zip (l.map fun x=>x.2.av))=l.map fun x=>(x.1,x.2.av):=by rw[<-h2];exact PY _ l
    rw[if_pos (by rw[<-h2]; simp),hz,cq,hgs,k1];simp only[aH,PZ]
   ·cases h
  refine Hf hf hc (by simpa using hmG) (hW.mono (fun x S' hx=>⟨S',pK.refl,?_⟩))
  grind
theorem NP {G:List (Option eT)} {a:V1} (h:a.ok []):a.ok G:=V1.ok_mono (G:= []) ⟨aA _,fun r tr hr=>by cases hr⟩ h
theorem RQ [dY] (hΘ:gz P Θ) (hY:lN P Y) (hm:P.follows .mixedOrders=true) {Λ:oa} {f:FuncId} {fn:Func} (hf:GD P f=some fn) (hL: ∀c,fn.body=some c->jd P Λ (gg c)) {args:List V1} (ha: ∀a∈args,a.ok []) {res:V} {out:List eT}
  (h:T4 Θ Y Λ fn args (fun v g=>some (v,g))=some (res,out)):qZ P f (args.map V1.av) [] res.av (out.map eT.tree):=Jy hΘ hY hm hf hL (aA 0) ha h
theorem KR [dY] (hΘ:gz P Θ) (hY:lN P Y) (hm:P.follows .mixedOrders=true) {Λ:oa} {f:FuncId} {fn:Func} (hf:GD P f=some fn) (hL: ∀c,fn.body=some c->jd P Λ (gg c)) {m:Nat} (hm1:m<=1) {el:Ty} {l:List el.D} {args:List V1} (ha: ∀a∈args,a.ok []) {res:V} {out:List eT}
  (h:Nj Θ Y Λ fn m el l args (fun v g=>some (v,g))=some (res,out)):jI P f (.own ⟨0,[]⟩ el.width 0 l.length::args.map V1.av) [.sl el.width (l.map el.row)] m res.av (out.map eT.tree):=
 Jy hΘ hY hm hf hL (args:= .cl (.own ⟨0,[]⟩ el.width 0 l.length true)::args) (G:= [⟨el,l,none⟩]) hm1 (List.forall_mem_cons.2 ⟨⟨cN,fun _=>⟨rfl,rfl,fun tr htr=>by have htr:some (⟨el,l,none⟩:eT)=some tr:=htr;cases htr;rfl⟩⟩,fun a h=>NP (ha a h)⟩) h
theorem P0 [dY] (hΘ:gz P Θ) (hY:lN P Y) (hm:P.follows .mixedOrders=true) {Λ:oa} {f:FuncId} {fn:Func} (hf:GD P f=some fn) (hL: ∀c,fn.body=some c->jd P Λ (gg c)) {el:Ty} {l:List el.D} {args:List V1} (ha: ∀a∈args,a.ok []) {res:V} {out:List eT}
  (h:RN Θ Y Λ fn el l args (fun v g=>some (v,g))=some (res,out)):jI P f (.ptrT ⟨0,[]⟩ el.width 0 0::args.map V1.av) [.sl el.width (l.map el.row)] 1 res.av (out.map eT.tree):=
 Jy hΘ hY hm hf hL (args:= .cl (.ptrT ⟨0,[]⟩ el.width 0 0)::args) (G:= [⟨el,l,none⟩]) (aq 1) (List.forall_mem_cons.2 ⟨cN,fun a h=>NP (ha a h)⟩) h
end
end
section
open Go
def AX:List Nat->Nat->Nat->Option Nat
 | [],_,_=>none
 |a::l,x,n=>bif Nat.beq a x then some n else AX l x (n+1)
def xE (bs ls:List Nat):Cl->Cl
 | .own p sz lo len w=>match AX ls p.r 0 with |some k=> .own ⟨k,p.l⟩ sz lo len w|none=> .dead
 | .ptrT p sz i j=>match AX ls p.r 0 with |some k=> .ptrT ⟨k,p.l⟩ sz i j|none=> .dead
 | .ptrB n j=>match AX bs n 0 with |some k=> .ptrB k j|none=> .dead
 |c=>c
def NQ (bs ls:List Nat):V1->V1
 | .cl c=> .cl (xE bs ls c)
 | .agg cs=> .agg (cs.map (xE bs ls))
 | .fn f cs=> .fn f (cs.map (xE bs ls))
def NR (bs ls:List Nat):V->V
 | .v x=> .v (NQ bs ls x)
 | .tup _=>V.dead
def KS:List Nat->List Nat->List Nat
 | [],acc=>acc
 |a::l,acc=>match AX acc a 0 with |some _=>KS l acc|none=>KS l (acc++ [a])
def Cr:List Nat->Bool
 | [] =>true
 |a::l=>(match AX l a 0 with |some _=>false|none=>true)&&Cr l
def Ue:Cl->List Nat| .ptrB n _=> [n] | _=> []
def SZ:Cl->List Nat| .own p _ _ _ _=> [p.r] | .ptrT p _ _ _=> [p.r] | _=> []
def V1.all:V1->List Cl| .cl c=> [c] | .agg cs=>cs| .fn _ cs=>cs
def V.all:V->List Cl| .v x=>x.all| .tup _=> []
def KT (S:TS) (keep:List Nat):List Nat:=KS (keep.flatMap fun t=>(jx S.env t).all.flatMap Ue) []
def Q4 (S:TS) (keep bs:List Nat):List Nat:=KS (List.range S.fz++(keep.flatMap fun t=>(jx S.env t).all.flatMap SZ)++bs.flatMap fun b=>((o2 S.bx b).getD []).flatMap SZ) []
def jJ (S:TS) (keep bs ls:List Nat):TS where
 env:=keep.map fun t=>(t,NR bs ls (jx S.env t))
 bx:=bs.map fun b=>((o2 S.bx b).getD []).map (xE bs ls)
 gh:=ls.map fun r=>fW S.gh r
 fz:=S.fz
 nt:=S.nt
def FH (S:TS) (bs ls:List Nat):Bool:=Cr bs&&Cr ls&&bs.all (fun b=>Nat.blt b S.bx.length)&&SP (ls.take S.fz) (List.range S.fz)&&ls.all (fun r=>Nat.blt r S.gh.length)
def LV (G:List (Option eT)):Cl->Cl
 | .own p sz lo len true=> .own p sz lo (match o2 G p.r with |some (some tr)=>tr.l.length| _=>len) true
 |c=>c
def NS (G:List (Option eT)):V1->V1
 | .cl c=> .cl (LV G c)
 | .agg cs=> .agg (cs.map (LV G))
 | .fn f cs=> .fn f (cs.map (LV G))
def S4 (G:List (Option eT)):V->V
 | .v x=> .v (NS G x)
 | .tup l=> .tup (l.map (NS G))
def RR (S:TS):TS:= { S with env:=S.env.map (fun x=>(x.1,S4 S.gh x.2)),bx:=S.bx.map (fun cs=>cs.map (LV S.gh)) }
def zF {ρ:Type} (keep:List Nat) (S:TS) (κ:TS->Option ρ):Option ρ:=bif FH S (KT S keep) (Q4 S keep (KT S keep)) then κ (RR (jJ S keep (KT S keep) (Q4 S keep (KT S keep)))) else none
theorem zG: ∀ {l:List Nat} {x n k:Nat},AX l x n=some k->n<=k/\l[k-n]? =some x
 | [],x,n,k,h=>by cases h
 |a::l,x,n,k,h=>by
  simp only[AX] at h;cases hb:Nat.beq a x with
  |true=>simp_all
  |false=>
   rw[hb] at h;obtain⟨h1,h2⟩:=zG (l:=l) h
   grind
theorem EP: ∀ {l:List Nat} {x n:Nat},AX l x n=none->x∉l
 | [],x,n,_=>by simp
 |a::l,x,n,h=>by
  simp only[AX] at h;cases hb:Nat.beq a x with
  |true=>rw[hb] at h; cases h
  |false=>
   rw[hb] at h;have:=EP (l:=l) h;intro hm
   simp_all
theorem xF: ∀ {l:List Nat},Cr l=true-> ∀ (i j x:Nat),l[i]? =some x->l[j]? =some x->i=j
 | [],_,i,j,x,hi,_=>by simp at hi
 |a::l,h,i,j,x,hi,hj=>by
  simp only[Cr,al] at h
  have hna:a∉l:=by
   have h1:=h.1;split at h1
   ·cases h1
   ·rename_i hp; exact EP hp
  cases i with
  |zero=>
   simp only[aP,af] at hi;subst hi;cases j with
   |zero=>rfl
   |succ j=>simp only[cG] at hj; exact absurd (au hj) hna
  |succ i=>
   simp only[cG] at hi;cases j with
   |zero=>simp only[aP,af] at hj;subst hj;exact absurd (au hi) hna
   |succ j=>simp only[cG] at hj;rw[xF h.2 i j x hi hj]
def Bt.ren (bt:Bt) (bs ls:List Nat):Bt where
 β:=fun p=>bt.β ⟨ls.getD p.r 0,p.l⟩
 κ:=fun p=>bt.κ ⟨ls.getD p.r 0,p.l⟩
 bb:=fun n=>bt.bb (bs.getD n 0)
 nb:=bs.length
 ng:=ls.length
 A:=bt.A
theorem FI {w:World} {bt:Bt} {bs ls:List Nat} {c:Cl} {u:Value} (h:VR w bt c.av u):VR w (bt.ren bs ls) (xE bs ls c).av u:=by
 have lt: ∀ {l:List Nat} {x k:Nat},AX l x 0=some k->k<l.length/\l.getD k 0=x:=by intro l x k hk;obtain⟨_,h2⟩:=zG hk;rw[cY] at h2;exact⟨(aj.1 h2).1,by simp[aF,h2]⟩
 cases c with
 |c x=>
  cases x with
  |sc v=>cases h with |sc h=>exact .sc h
  |ls t l=>cases h with |ro h=>exact .ro h
 |em=>cases h with |em a=>exact .em a
 |own p sz lo len wh=>
  simp only[xE];split
  ·rename_i k hk;obtain⟨h1,h2⟩:=lt hk;have hp: (⟨ls.getD k 0,p.l⟩:fg)=p:=by rw[h2]
   have e1: (bt.ren bs ls).κ ⟨k,p.l⟩=bt.κ p:=by have e: (bt.ren bs ls).κ ⟨k,p.l⟩=bt.κ (fg.mk (ls.getD k 0) p.l):=rfl;rw[e,hp]
   have e2: (bt.ren bs ls).β ⟨k,p.l⟩=bt.β p:=by have e: (bt.ren bs ls).β ⟨k,p.l⟩=bt.β (fg.mk (ls.getD k 0) p.l):=rfl;rw[e,hp]
   cases h with
   |own hp' hc hkk ha=>exact .own h1 hc (by rw[e1]; exact hkk) (by rw[e2]; exact ha)
  ·exact .dead _
 |pro cs=>cases h with |pro cs hs hA hr ht=>exact .pro cs hs hA hr ht
 |ptrB n j=>
  simp only[xE];split
  ·rename_i k hk;obtain⟨h1,h2⟩:=lt hk;cases h with
   |ptrB j hn=>
    have :bt.bb n=(bt.ren bs ls).bb k:=by show bt.bb n=bt.bb (bs.getD k 0); rw[h2]
    rw[this];exact .ptrB j h1
  ·exact .dead _
 |ptrT p sz i j=>
  simp only[xE];split
  ·rename_i k hk;obtain⟨h1,h2⟩:=lt hk;have hp: (⟨ls.getD k 0,p.l⟩:fg)=p:=by rw[h2]
   cases h with
   |ptrT sz i j hp' hkk=>
    have e1:bt.β p=(bt.ren bs ls).β ⟨k,p.l⟩:=by show bt.β p=bt.β ⟨ls.getD k 0,p.l⟩; rw[hp]
    rw[e1];exact .ptrT sz i j h1 (by show _<bt.κ ⟨ls.getD k 0,p.l⟩; rw[hp]; exact hkk)
  ·exact .dead _
 |dead=>exact .dead _
theorem NT {w:World} {bt:Bt} {bs ls:List Nat} {v:V1} {u:Value} (h:VR w bt v.av u):VR w (bt.ren bs ls) (NQ bs ls v).av u:=by
 have cells: ∀ (cs:List Cl) (us:List Value),us.length=cs.length->(∀ (k:Nat) (c:AV) (u:Value),(cs.map Cl.av)[k]? =some c->us[k]? =some u->VR w bt c u)-> ∀ (k:Nat) (c:AV) (u:Value),((cs.map (xE bs ls)).map Cl.av)[k]? =some c->us[k]? =some u->VR w (bt.ren bs ls) c u:=by intro cs us _ hr k c u hk hu;rw[ap,ap] at hk;simp only[ak] at hk;obtain⟨c1,⟨c0,hc0,rfl⟩,rfl⟩:=hk;exact FI (hr k c0.av u (by rw[ap,hc0]; rfl) hu)
 cases v with
 |cl c=>exact FI h
 |agg cs=>
  simp only[V1.av] at h;cases h with
  |agg hl ho hr=>exact .agg (by simpa using hl) ho (cells cs _ (by simpa using hl) hr)
 |fn f cs=>
  simp only[V1.av] at h;cases h with
  |fn f hl hr=>exact .fn f (by simpa using hl) (cells cs _ (by simpa using hl) hr)
theorem P1 {w:World} {bt:Bt} {bs ls:List Nat} {v:V} {u:Value} (h:VR w bt v.av u):VR w (bt.ren bs ls) (NR bs ls v).av u:=by
 cases v with
 |v x=>exact NT h
 |tup l=>exact .dead _
theorem ES (S:TS) (f:V->V): ∀ (keep:List Nat) (t:Nat),jx (keep.map fun t=>(t,f (jx S.env t))) t=V.dead\/jx (keep.map fun t=>(t,f (jx S.env t))) t=f (jx S.env t)
 | [],t=> .inl rfl
 |u::l,t=>by
  simp only[aW,jx];cases hb:Nat.beq u t with
  |true=>simp_all
  |false=>exact ES S f l t
theorem wn (S:TS) (keep bs ls:List Nat) (r:Nat):fW (jJ S keep bs ls).gh r=(ls[r]?).bind fun q=>fW S.gh q:=by show (o2 (ls.map fun r=>fW S.gh r) r).getD none=_;rw[gv,ap];cases ls[r]?<;>rfl
theorem HU [dY] {S:TS} {keep bs ls:List Nat} (h:FH S bs ls=true):pK S.st (jJ S keep bs ls).st:=by
 unfold FH at h;simp only[al] at h;obtain⟨⟨⟨⟨hnb,hnl⟩,hbs⟩,hfz⟩,hlt⟩:=h;have hfz:=FB hfz;intro w0 W btI SI bt a w hl;have inv:=hl.inv
 have hls: ∀ (k:Nat),k<S.fz->ls[k]? =some k:=by
  intro k hk;have : (ls.take S.fz)[k]? =(List.range S.fz)[k]? :=by rw[hfz]
  rw[bu,if_pos hk,List.getElem?_range hk] at this;exact this
 have look: ∀p s rs,(jJ S keep bs ls).st.look p= .sl s rs-> ∃q,ls[p.r]? =some q/\S.st.look ⟨q,p.l⟩= .sl s rs/\ls.getD p.r 0=q:=by
  intro p s rs hp;unfold St.look at hp
  have e: (jJ S keep bs ls).st.gh p.r=((ls[p.r]?).bind fun q=>fW S.gh q).map eT.tree:=by show (fW _ _).map eT.tree=_;rw[wn]
  rw[e] at hp;cases hq:ls[p.r]? with
  |none=>rw[hq] at hp; cases hp
  |some q=>refine⟨q,rfl,?_,by simp[aF,hq]⟩;rw[hq] at hp;exact hp
 have box: ∀n cells,(jJ S keep bs ls).st.bx n=some cells-> ∃b cs,bs[n]? =some b/\S.bx[b]? =some cs/\cells=(cs.map (xE bs ls)).map Cl.av/\bs.getD n 0=b:=by intro n cells hn;have hn': (o2 (bs.map fun b=>((o2 S.bx b).getD []).map (xE bs ls)) n).map (fun cs=>cs.map Cl.av)=some cells:=hn;rw[gv,ap] at hn';simp only[ak] at hn';obtain⟨x,⟨b,hb,rfl⟩,rfl⟩:=hn';have hlt':b<S.bx.length:=ar (ay.1 hbs b (au hb));refine⟨b,S.bx[b],hb,ah hlt',?_,by simp[aF,hb]⟩;rw[gv,ah hlt'];rfl
 have bxS: ∀ {b:Nat} {cs:List Cl},S.bx[b]? =some cs->S.st.bx b=some (cs.map Cl.av):=by intro b cs hb;show (o2 S.bx b).map _=_;rw[gv,hb];rfl
 refine⟨bt.ren bs ls,?_⟩
 refine⟨{ good:=inv.good,os:=inv.os,tape:=inv.tape,output:=inv.output,size:=inv.size,keep:=inv.keep
          nb:=by show bs.length=_; simp[TS.st,jJ]
          ng:=by show ls.length=_; simp[TS.st,jJ]
          bx:=fun n cells hn=> ?_
          gh:=fun r t hr=> ?_
          tr:=fun p sz rows hp=> ?_
          inj:=fun p q s rs s' rs' hp hq hk hk' he=> ?_
          bbinj:=fun n m cs cs' hn hm he=> ?_
          bbtr:=fun n cs p s rs hn hp hk=> ?_
          alt:=inv.alt
          atr:=fun p s rs hp hk=> ?_
          abb:=fun n cs hn=> ?_ },⟨hl.er.1,fun t=> ?_⟩,hl.defers,hl.fz,?_,fun p hp=> ?_,fun r hr hn=> ?_⟩
 ·obtain⟨b,cs,h1,h2,rfl,h4⟩:=box n cells hn;obtain⟨g1,g2,arr,e,g3,g4,g5⟩:=inv.bx b _ (bxS h2);refine⟨by grind [TS.st,jJ],by show _<=bt.bb (bs.getD n 0); rw[h4]; exact g2,arr,e,by show w.heap[bt.bb (bs.getD n 0)]? =_; rw[h4]; exact g3,by simpa using g4,fun j v hj=> ?_⟩;rw[ap,ap] at hj;simp only[ak] at hj;obtain⟨c1,⟨c0,hc0,rfl⟩,rfl⟩:=hj;obtain⟨c,k1,k2,k3⟩:=g5 j c0.av (by rw[ap,hc0]; rfl);exact⟨c,k1,FI k2,k3⟩
 ·grind [jJ,wn,TS.st]
 ·obtain⟨q,h1,h2,h3⟩:=look p sz rows hp;obtain⟨g1,g2⟩:=inv.tr _ _ _ h2;have eκ: (bt.ren bs ls).κ p=bt.κ ⟨q,p.l⟩:=by show bt.κ ⟨ls.getD p.r 0,p.l⟩=_; rw[h3]
  have eβ: (bt.ren bs ls).β p=bt.β ⟨q,p.l⟩:=by show bt.β ⟨ls.getD p.r 0,p.l⟩=_; rw[h3]
  rw[eκ,eβ];refine⟨g1,fun hk=>⟨(g2 hk).1,?_⟩⟩;obtain⟨_,cs,e,k1,k2,k3,k4⟩:=g2 hk;refine⟨cs,e,by rw[eβ]; exact k1,by rw[eβ,eκ]; exact k2,k3,fun i r hi=> ?_⟩;obtain⟨m1,m2⟩:=k4 i r hi;refine⟨m1,fun j x hj=> ?_⟩;obtain⟨c,n1,n2⟩:=m2 j x hj;refine⟨c,by rw[eβ]; exact n1,?_⟩;have f1: (bt.ren bs ls).κ (p.sub i j)=bt.κ (fg.sub ⟨q,p.l⟩ i j):=by show bt.κ ⟨ls.getD p.r 0,p.l++ [(i,j)]⟩=bt.κ ⟨q,p.l++ [(i,j)]⟩; rw[h3]
  have f2: (bt.ren bs ls).β (p.sub i j)=bt.β (fg.sub ⟨q,p.l⟩ i j):=by show bt.β ⟨ls.getD p.r 0,p.l++ [(i,j)]⟩=bt.β ⟨q,p.l++ [(i,j)]⟩; rw[h3]
  cases n2 with
  |sc h=>exact .sc h
  |dd u=>exact .dd _
  |sl q1 q2 q3=>exact .sl q1 (by rw[f1]; exact q2) (by rw[f2]; exact q3)
 ·obtain⟨p',h1,h2,h3⟩:=look p s rs hp;obtain⟨q',g1,g2,g3⟩:=look q s' rs' hq;have:=inv.inj ⟨p',p.l⟩ ⟨q',q.l⟩ _ _ _ _ h2 g2 (by rw[<-h3]; exact hk) (by rw[<-g3]; exact hk') (by rw[<-h3,<-g3]; exact he);simp only[fg.mk.injEq] at this;obtain⟨e1,e2⟩:=this;subst e1;have e3:=xF hnl _ _ _ h1 g1;cases p<;>simp_all
 ·obtain⟨b,c,h1,h2,_,h4⟩:=box n cs hn;obtain⟨b',c',g1,g2,_,g4⟩:=box m cs' hm
  have:=inv.bbinj b b' _ _ (bxS h2) (bxS g2) (by have he':bt.bb (bs.getD n 0)=bt.bb (bs.getD m 0):=he;rw[h4,g4] at he';exact he')
  grind [xF]
 ·obtain⟨b,c,h1,h2,_,h4⟩:=box n cs hn;obtain⟨q,g1,g2,g3⟩:=look p s rs hp;have hk':0<bt.κ ⟨ls.getD p.r 0,p.l⟩:=hk;rw[g3] at hk';show bt.bb (bs.getD n 0)≠(bt.β ⟨ls.getD p.r 0,p.l⟩).1;rw[h4,g3];exact inv.bbtr _ _ _ _ _ (bxS h2) g2 hk'
 ·obtain⟨q,g1,g2,g3⟩:=look p s rs hp;have hk':0<bt.κ ⟨ls.getD p.r 0,p.l⟩:=hk;rw[g3] at hk';show ¬bt.A (bt.β ⟨ls.getD p.r 0,p.l⟩).1;rw[g3];exact inv.atr _ _ _ g2 hk'
 ·obtain⟨b,c,h1,h2,_,h4⟩:=box n cs hn;show ¬bt.A (bt.bb (bs.getD n 0));rw[h4];exact inv.abb _ _ (bxS h2)
 ·show VR w _ (jx (jJ S keep bs ls).env t).av _;rcases ES S (NR bs ls) keep t with h1|h1
  ·have :jx (jJ S keep bs ls).env t=V.dead:=h1;rw[this];exact .dead _
  ·have :jx (jJ S keep bs ls).env t=NR bs ls (jx S.env t):=h1;rw[this];exact P1 (hl.er.2 t)
 ·show S.fz<=(jJ S keep bs ls).gh.length
  grind [jJ]
 ·have hp':p.r<S.fz:=by have:=hl.fz; have e:S.st.fz=S.fz:=rfl; omega
  have h3:ls.getD p.r 0=p.r:=by simp[aF,hls p.r hp']
  have:=hl.keep p hp;show bt.β ⟨ls.getD p.r 0,p.l⟩=_/\bt.κ ⟨ls.getD p.r 0,p.l⟩=_;rw[h3];exact this
 ·have hr':r<S.fz:=by have:=hl.fz; have e:S.st.fz=S.fz:=rfl; omega
  refine hl.gone r hr ?_;have hn': (fW (jJ S keep bs ls).gh r).map eT.tree=none:=hn;rw[wn,hls r hr'] at hn';exact hn'
theorem Bp {S:TS} {bs ls:List Nat} {keep:List Nat} {c:Cl} (h:c.ok S.gh): (xE bs ls c).ok (jJ S keep bs ls).gh:=by
 have lt: ∀ {x k:Nat},AX ls x 0=some k->k< (jJ S keep bs ls).gh.length/\ls[k]? =some x:=by intro x k hk;obtain⟨_,h2⟩:=zG hk;rw[cY] at h2;exact⟨by grind [jJ],h2⟩
 cases c with
 |own p sz lo len w=>
  simp only[xE];split
  ·rename_i k hk;obtain⟨h1,h2⟩:=lt hk;refine⟨h1,fun hw=> ?_⟩;obtain⟨a,b,c⟩:=h.2 hw
   grind [wn]
  ·trivial
 |ptrT p sz i j=>
  simp only[xE];split
  ·rename_i k hk; exact (lt hk).1
  ·trivial
 |ptrB n j=>simp only[xE]; split<;>trivial
 | _=>trivial
theorem P2 {S:TS} {bs ls:List Nat} {keep:List Nat} {v:V} (h:v.ok S.gh): (NR bs ls v).ok (jJ S keep bs ls).gh:=by
 have one: ∀ {v:V1},v.ok S.gh->(NQ bs ls v).ok (jJ S keep bs ls).gh:=by
  intro v h;cases v with
  |cl c=>exact Bp h
  |agg cs=>intro c hc; obtain⟨x,hx,rfl⟩:=aM.1 hc; exact Bp (h x hx)
  |fn f cs=>intro c hc; obtain⟨x,hx,rfl⟩:=aM.1 hc; exact Bp (h x hx)
 cases v with
 |v x=>exact one h
 |tup l=>trivial
theorem LW {S:TS} (hS:S.ok) (keep bs ls:List Nat): (jJ S keep bs ls).ok:=by
 refine⟨fun x hx=> ?_,fun cs hcs c hc=> ?_⟩
 ·obtain⟨t,_,rfl⟩:=aM.1 hx;exact P2 (Bo hS t)
 ·obtain⟨b,_,rfl⟩:=aM.1 hcs;obtain⟨x,hx,rfl⟩:=aM.1 hc;cases hb:o2 S.bx b with
  |none=>rw[hb] at hx; cases hx
  |some cs=>rw[hb] at hx;rw[gv] at hb;exact Bp (hS.bx cs (au hb) x hx)
theorem Bq {G:List (Option eT)} {c:Cl} (h:c.ok G):LV G c=c:=by
 unfold LV;split
 ·rename_i p sz lo len;split
  ·rename_i tr htr;rw[(h.2 rfl).2.2 tr (by unfold fW; rw[htr]; rfl)]
  ·rfl
 ·rfl
theorem HV {G:List (Option eT)} {v:V1} (h:v.ok G):NS G v=v:=by
 cases v with
 |cl c=>exact congrArg V1.cl (Bq h)
 |agg cs=>exact congrArg V1.agg ((aI fun c hc=>Bq (h c hc)).trans (List.map_id' cs))
 |fn f cs=>exact congrArg (V1.fn f) ((aI fun c hc=>Bq (h c hc)).trans (List.map_id' cs))
theorem P3 {G:List (Option eT)} {v:V} (h:v.ok G):S4 G v=v:=by
 cases v with
 |v x=>exact congrArg V.v (HV h)
 |tup l=>exact congrArg V.tup ((aI fun c hc=>HV (h c hc)).trans (List.map_id' l))
theorem P4 {S:TS} (h:S.ok):RR S=S:=by unfold RR;rw[aI (g:=id) (fun x hx=>by rw[P3 (h.env x hx)]; rfl),aI (g:=id) (l:=S.bx) (fun cs hcs=>(aI fun c hc=>Bq (h.bx cs hcs c hc)).trans (List.map_id' cs)),List.map_id,List.map_id]
theorem tg [dY] {ρ:Type} {S:TS} (hS:S.ok) {keep:List Nat} {κ:TS->Option ρ} {r:ρ} (h:zF keep S κ=some r): ∃S1:TS,pK S.st S1.st/\S1.ok/\κ S1=some r:=by
 unfold zF at h;obtain⟨h1,h⟩:=ej h
 grind [P4,LW,HU]
end
end Go.Proofs.YtadabkgmdllbfabGreat.En
