import Derived.Test.YtadabkgmdllbfabGreatZX7
namespace Go.Proofs.YtadabkgmdllbfabGreat.En
section
open Go
section
variable {ρ:Type} {P:Program} {Θ:nC} {S:TS} {Y:xZ}
theorem HG (hS:S.ok) {ops:Array Oper} {o:Oper} {κ:Bool->TS->Option ρ} {r:ρ} (h:Kr S ops.toList o κ=some r): ∃b S1,nW S.st ops o=some b/\S1.st=S.st/\S1.ok/\S1.gh=S.gh/\κ b S1=some r:=by
 unfold Kr at h;split at h
 ·rename_i hg;exact⟨true,S,by unfold nW; rw[hg],rfl,hS,rfl,h⟩
 ·rename_i j want hg;split at h
  ·rename_i oj hj;split at h
   ·rename_i d hd;rw[gv,cM] at hj;split at h
    ·rename_i he;refine⟨_,S,?_,rfl,hS,rfl,h⟩;unfold nW;rw[hg];simp only[hj,ae,hd];have :S.st.env d= .tup [] :=by show (jx S.env d).av=_; rw[he]; rfl
     rw[this]
    ·obtain⟨b,S1,h1,h2,h3,h4,h5⟩:=B4 hS h;refine⟨_,S1,?_,h2,h3,h4,h5⟩;unfold nW;rw[hg];simp only[hj,ae,hd];have :S.st.env d= .sc (.bool b):=h1;rw[this]
   ·cases h
  ·cases h
theorem kp (hS:S.ok) {d:Option Tmp} {v:V} (hv:v.ok S.gh) {κ:TS->Option ρ} {r:ρ} (h:rc S d v κ=some r): ∃S1,S.st.put d v.av=some (TS.st S1)/\S1.ok/\S1.gh=S.gh/\κ S1=some r:=by
 unfold rc at h;split at h
 ·rename_i t;obtain⟨h1,h⟩:=ej h;have h1:t<S.nt:=ar h1;refine⟨{ S with env:=(t,v)::S.env },?_,⟨fun x hx=> ?_,hS.bx⟩,rfl,h⟩
  ·simp only[St.put];rw[if_pos (show t<S.st.nt from h1)]
   congr 1
   unfold TS.st
   congr 1
   funext u
   unfold fo;simp only[jx];cases hb:Nat.beq t u with
   |true=>simp_all
   |false=>
    have : ¬u=t:=by intro e; subst e; rw[cX] at hb; cases hb
    rw[if_neg this];rfl
  ·rcases aX.1 hx with rfl|hx
   ·exact hv
   ·exact hS.env x hx
 ·exact⟨S,rfl,hS,rfl,h⟩
theorem NB {α:Type} {x y:Option α} {r:α} (h:Po x y none=some r):x=some r/\y=some r:=by grind [Po]
theorem NC {α:Type} (x z:α):Po x x z=x:=by unfold Po; rw[if_pos rfl]
theorem FA {o:Oper} {t:TypeId} {x:Operand} (h:Bk o=some (t,x)): (∃t',o.op= .binOp .eql t x (.const (.slice none 0 0)) t')/\o.guard=none:=by
 unfold Bk at h
 grind
theorem Ch {o:Oper} {k:Nat} {g:FuncId} {caps:List Cl} {a:Fs} {us:List TypeId} {xs:List Operand} (h:BX Y S o=some (k,g,caps,a,us,xs)):
  ∃f as ts x t,o.op= .call { callee:= .value f,args:=as,argTypes:=ts } /\as.toList=x::xs/\ts.toList=t::us/\zu (S.opd x)=some a/\g<jy/\
   ((∃a b,S.opd f= .v (.cl (.c (.sc (.func (.func g) a b))))/\caps= [])\/S.opd f= .v (.fn g caps)):=by
 unfold BX at h;split at h
 ·rename_i f as ts hop;split at h
  ·rename_i x xs' t us' e1 e2;split at h
   ·rename_i a' hx;split at h
    ·rename_i g' a b hf;obtain⟨h2,h⟩:=ej h;simp only[al] at h2;simp only[af,an] at h;obtain⟨rfl,rfl,rfl,rfl,rfl,rfl⟩:=h;exact⟨f,as,ts,x,t,hop,e1,e2,hx,ar h2.1, .inl ⟨a,b,hf,rfl⟩⟩
    ·rename_i g' caps' hf;obtain⟨h2,h⟩:=ej h;simp only[al] at h2;simp only[af,an] at h;obtain⟨rfl,rfl,rfl,rfl,rfl,rfl⟩:=h;exact⟨f,as,ts,x,t,hop,e1,e2,hx,ar h2.1, .inr hf⟩
    ·cases h
   ·cases h
  ·cases h
 ·cases h
theorem KH (c:Cl): (AQ c).av=zp 1 c.av:=by
 cases c with
 |c x=>cases x<;>rfl
 |own p sz lo len w=>
  cases h:Nat.ble 1 p.r with
  |true=>simp only[AQ,h,cond_true,Cl.av,zp]; rw[if_pos (ar h)]
  |false=>simp only[AQ,h,cond_false,Cl.av,zp]; rw[if_neg fun e=>by rw[dh e] at h; cases h]
 |ptrT p sz i j=>
  cases h:Nat.ble 1 p.r with
  |true=>simp only[AQ,h,cond_true,Cl.av,zp]; rw[if_pos (ar h)]
  |false=>simp only[AQ,h,cond_false,Cl.av,zp]; rw[if_neg fun e=>by rw[dh e] at h; cases h]
 | _=>rfl
theorem PG (c:Cl):Hf 1 c.av=zp 1 c.av:=by
 cases c with
 |c x=>cases x<;>rfl
 | _=>rfl
theorem HH (v:V1): (Ho v).av=Hf 1 v.av:=by
 cases v with
 |cl c=>exact (KH c).trans (PG c).symm
 |agg cs=>simp_all [Ho,V1.av,Hf,KH]
 |fn f cs=>rfl
theorem PH (v:V): (M8 v).av=M1 1 v.av:=by
 cases v with
 |v x=>
  refine (HH x).trans ?_;cases x with
  |cl c=>cases c with
   |c x=>cases x<;>rfl
   | _=>rfl
  | _=>rfl
 |tup l=>simp_all [M8,V.av,M1,HH]
theorem KI {x:eS} {G:List eS} {c:Cl} (h:c.ok ((x::G).map some)): (AQ c).ok (G.map some):=by
 cases c with
 |own p sz lo len w=>
  cases hb:Nat.ble 1 p.r with
  |true=>
   have h1:=ar hb;simp only[AQ,hb,cond_true];obtain⟨h2,h3⟩:=h;refine⟨by simp at h2 ⊢; omega,fun hw=> ?_⟩
   grind [fW,gv]
  |false=>simp only[AQ,hb,cond_false]; trivial
 |ptrT p sz i j=>
  cases hb:Nat.ble 1 p.r with
  |true=>have h1:=ar hb;simp only[AQ,hb,cond_true];have h:p.r< ((x::G).map some).length:=h;show p.r-1< (G.map some).length;simp at h ⊢;omega
  |false=>simp only[AQ,hb,cond_false]; trivial
 |c x=>cases x<;>trivial
 | _=>trivial
theorem HI {x:eS} {G:List eS} {v:V1} (h:v.ok ((x::G).map some)): (Ho v).ok (G.map some):=by
 cases v with
 |cl c=>exact KI h
 |agg cs=>intro c hc;obtain⟨y,hy,rfl⟩:=aM.1 hc;exact KI (h y hy)
 |fn f cs=>trivial
theorem PI {x:eS} {G:List eS} {v:V} (h:v.ok ((x::G).map some)): (M8 v).ok (G.map some):=by
 cases v with
 |v x=>exact HI h
 |tup l=>intro c hc;obtain⟨y,hy,rfl⟩:=aM.1 hc;exact HI (h y hy)
theorem EK (hΘ:gz P Θ) (hS:S.ok): ∀ (ts:List TypeId) (as:List Operand) (κ:List V1->Option ρ) (r:ρ),wJ Θ S ts as κ=some r->ts.length=as.length
 | [],[],_,_,_=>rfl
 | [],_::_,_,_,h=>by simp[wJ] at h
 | _::_,[],_,_,h=>by simp[wJ] at h
 |t::ts,a::as,κ,r,h=>by unfold wJ at h;obtain⟨v,_,h⟩:=Np hΘ hS (np hS a) h;rw[bB,bB,EK hΘ hS ts as _ r h]
structure rf (S S1:TS) (L:List Nat):Prop where
 env:S1.env=S.env
 bx:S1.bx=S.bx
 fz:S1.fz=S.fz
 nt:S1.nt=S.nt
 len:S1.gh.length=S.gh.length
 gh: ∀r,fW S1.gh r=if L.contains r then none else fW S.gh r
 was: ∀q∈L,∃tr,fW S.gh q=some tr
theorem rf.refl (S:TS):rf S S [] :=⟨rfl,rfl,rfl,rfl,rfl,fun _=>by simp,fun _ h=>by cases h⟩
theorem rf.one {q:Nat} {tr:eS} (h:fW S.gh q=some tr):rf S { S with gh:=fK S.gh q none } [q] :=
 ⟨rfl,rfl,rfl,rfl,by simp[ik],fun r=>by
  show fW (fK S.gh q none) r=_
  simp_all [pJ],fun r hr=>by grind⟩
theorem rf.trans {S1 S2:TS} {L L':List Nat} (h:rf S S1 L) (k:rf S1 S2 L'):rf S S2 (L++L'):=
 ⟨k.env.trans h.env,k.bx.trans h.bx,k.fz.trans h.fz,k.nt.trans h.nt,k.len.trans h.len,fun r=>by
  rw[k.gh,h.gh]
  grind,fun q hq=>by
  rcases aY.1 hq with hq|hq
  ·exact h.was q hq
  ·obtain⟨tr,ht⟩:=k.was q hq;rw[h.gh] at ht
   grind⟩
theorem rf.apart {S1 S2:TS} {L L':List Nat} (h:rf S S1 L) (k:rf S1 S2 L') (h1:L.Nodup) (h2:L'.Nodup): (L++L').Nodup:=by rw[List.nodup_append];refine⟨h1,h2,fun a ha b hb e=> ?_⟩;subst e;obtain⟨tr,ht⟩:=k.was a hb;rw[h.gh,if_pos (by simpa using ha)] at ht;cases ht
theorem rf.le {S1:TS} {L:List Nat} (h:rf S S1 L):jb S.gh S1.gh:=⟨by rw[h.len]; exact aq _,fun r tr _ ht=>by
 rw[h.gh] at ht
 grind⟩
theorem rf.ok {S1:TS} {L:List Nat} (h:rf S S1 L) (hS:S.ok):S1.ok:=
 ⟨fun x hx=>V.ok_mono h.le (hS.env x (by rw[<-h.env]; exact hx)),fun cs hcs c hc=>Cl.ok_mono h.le (hS.bx cs (by rw[<-h.bx]; exact hcs) c hc)⟩
theorem rf.st {S1:TS} {L:List Nat} (h:rf S S1 L):S1.st=dropL S.st L:=by
 unfold TS.st dropL;rw[h.env,h.bx,h.fz,h.nt,h.len];simp only
 congr 1
 funext r
 rw[h.gh];cases L.contains r<;>rfl
theorem EL: ∀ (L:List Nat) (S:TS),L.Nodup->(∀r∈L,∃tr,fW S.gh r=some tr)->rf S { S with gh:=QY S.gh L } L
 | [],S,_,_=>rf.refl S
 |r::L,S,hnd,h=>by
  obtain⟨tr,htr⟩:=h r aK;rw[List.nodup_cons] at hnd;have h1:=rf.one htr
  have h2:=EL L { S with gh:=fK S.gh r none } hnd.2 (fun r' hr'=>by
   obtain⟨tr',htr'⟩:=h r' (aL _ hr');refine⟨tr',?_⟩;rw[h1.gh,if_neg]
   ·exact htr'
   ·intro hc;rw[bR,aD] at hc;subst hc;exact hnd.1 hr')
  exact h1.trans h2
theorem xC: ∀ (cs:List Cl) (ys:List C) (L:List Nat),wd S cs=some (ys,L)->(∀c∈cs,c.ok S.gh)->ys.length=cs.length/\(qy ys).length=L.length/\
  (∀ (k r:Nat),L[k]? =some r-> ∃el l,(qy ys)[k]? =some ⟨el,l,none⟩/\fW S.gh r=some ⟨el,l,none⟩)/\
  ∀ (w:World) (bt bt':Bt) (m:Nat),(∀ (k r:Nat),L[k]? =some r->bt'.β ⟨m+k,[]⟩=bt.β ⟨r,[]⟩/\bt'.κ ⟨m+k,[]⟩=bt.κ ⟨r,[]⟩/\m+k<bt'.ng)->
    ∀ (j:Nat) (c c':Cl) (u:Value),cs[j]? =some c->(xz ys m)[j]? =some c'->VR w bt c.av u->VR w bt' c'.av u
 | [],ys,L,h,_=>by simp only[wd,af,an] at h;obtain⟨rfl,rfl⟩:=h;exact⟨rfl,rfl,fun k r hk=>by simp at hk,fun w bt bt' m _ j c c' u hj=>by simp at hj⟩
 |c0::cs,ys,L,h,hok=>by
  unfold wd at h;split at h
  ·cases ‹_= []›
  ·rename_i v cs' e;simp only[bN] at e;obtain⟨rfl,rfl⟩:=e;split at h
   ·rename_i ys' L' hr;simp only[af,an] at h;obtain⟨rfl,rfl⟩:=h;obtain⟨h1,h2,h3,h4⟩:=xC cs ys' L' hr (fun c hc=>hok c (aL _ hc));refine⟨by simp[h1],h2,h3,fun w bt bt' m hm j c c' u hj hj' hv=> ?_⟩;cases j with
    |zero=>
     simp only[xz,aP,af] at hj hj';subst hj hj';cases hv with
     |sc h=>exact .sc h
    |succ j=>exact h4 w bt bt' m hm j c c' u (by simpa using hj) (by simpa [xz] using hj') hv
   ·cases h
  ·rename_i r sz lo len cs' e;simp only[bN] at e;obtain⟨rfl,rfl⟩:=e;split at h
   ·rename_i el l hg;obtain⟨hsz,h0⟩:=ej h;have hsz:sz=el.width:=ao hsz;clear h;split at h0
    ·rename_i ys' L' hr;simp only[af,an] at h0;obtain⟨rfl,rfl⟩:=h0;obtain⟨h1,h2,h3,h4⟩:=xC cs ys' L' hr (fun c hc=>hok c (aL _ hc));obtain⟨_,hlo⟩:=hok (.own ⟨r,[]⟩ sz lo len true) aK;obtain⟨_,hlo,hln⟩:=hlo rfl;have hln:=hln _ hg;simp only at hln;refine⟨by simp[h1],by simp[qy,h2],fun k r' hk=> ?_,fun w bt bt' m hm j c c' u hj hj' hv=> ?_⟩
     ·cases k with
      |zero=>simp only[aP,af] at hk;subst hk;exact⟨el,l,rfl,hg⟩
      |succ k=>exact h3 k r' (by simpa using hk)
     ·cases j with
      |zero=>
       simp only[xz,aP,af] at hj hj';subst hj hj' hsz hlo hln;obtain⟨e1,e2,e3⟩:=hm 0 r rfl;rw[bX] at e1 e2 e3;cases hv with
       |own hp hc hk ha=>exact .own e3 hc (by rw[e2]; exact hk) (by rw[e1]; exact ha)
      |succ j=>exact h4 w bt bt' (m+1) (fun k r' hk=>by
        have:=hm (k+1) r' (by simpa using hk)
        rwa [show m+(k+1)=m+1+k by omega] at this) j c c' u (by simpa using hj) (by simpa [xz] using hj') hv
    ·cases h0
   ·cases h
  ·cases h
theorem sn: ∀ (ys:List C) (m:Nat),(xz ys m).length=ys.length
 | [],_=>rfl
 | .sc v::r,m=>by simp[xz,sn r m]
 | .ls t l::r,m=>by simp[xz,sn r (m+1)]
theorem HJ: ∀ (L:List Nat) (S:TS) (out:List eS) (κ:TS->Option ρ) (r:ρ),L.Nodup->BZ S L out κ=some r->
  ∃Sp:TS,Sp.env=S.env/\Sp.bx=S.bx/\Sp.fz=S.fz/\Sp.nt=S.nt/\Sp.gh.length=S.gh.length/\out.length=L.length/\(∀ (k q:Nat),L[k]? =some q->fW Sp.gh q=out[k]?)/\(∀q,q∉L->fW Sp.gh q=fW S.gh q)/\jb S.gh Sp.gh/\κ Sp=some r
 | [],S,out,κ,r,_,h=>by
   cases out with
   |nil=>exact⟨S,rfl,rfl,rfl,rfl,rfl,rfl,fun k q hk=>by simp at hk,fun _ _=>rfl,jb.refl _,h⟩
   |cons x out=>simp[BZ] at h
 |q::L,S,out,κ,r,hnd,h=>by
  rw[List.nodup_cons] at hnd;cases out with
  |nil=>simp[BZ] at h
  |cons x out=>
   obtain⟨t,l',hole⟩:=x;cases hole with
   |some y=>simp[BZ] at h
   |none=>
    simp only[BZ] at h;split at h
    ·rename_i el l hg;obtain⟨ht,h⟩:=ej h;have ht:t=el:=by simpa using ht
     subst ht;obtain⟨hl,h⟩:=fw h;obtain⟨Sp,a1,a2,a3,a4,a5,a6,a7,a8,a9,h⟩:=HJ L { S with gh:=fK S.gh q (some ⟨t,l',none⟩) } out κ r hnd.2 h;have hql:=uj hg;have hG:jb S.gh (fK S.gh q (some ⟨t,l',none⟩)):=jb.put hg hl;refine⟨Sp,a1,a2,a3,a4,by rw[a5]; simp[ik],by simp[a6],fun k q' hk=> ?_,fun q' hq'=> ?_,hG.trans a9,h⟩
     ·cases k with
      |zero=>
       simp only[aP,af] at hk;subst hk;rw[a8 q hnd.1];show fW (fK S.gh q _) q=_
       simp_all [pJ]
      |succ k=>grind
     ·rw[a8 q' (fun hm=>hq' (aL _ hm))];show fW (fK S.gh q _) q'=_
      simp_all [pJ]
    ·cases h
theorem Ci {res:V} (h:Pp res=true):res.av.plain=true/\ ∀G,res.ok G:=by
 unfold Pp at h;split at h
 ·exact⟨rfl,fun _=>trivial⟩
 ·exact⟨rfl,fun _ x hx=>by cases hx⟩
 ·cases h
theorem HK [dY] (hΘ:gz P Θ) (hY:lM P Y) (hS:S.ok) {o:Oper} {k:Nat} {g:FuncId} {caps:List Cl} {a:Fs} {us:List TypeId} {xs:List Operand} (ht:BX Y S o=some (k,g,caps,a,us,xs)) {κ:TS->Option ρ} {r:ρ}
  (h:B0 Θ Y S k g caps a us xs o.dst κ=some r): ∃S3:TS,(∀n0,ll P n0 S.st o S3.st)/\S3.ok/\κ S3=some r:=by
 obtain⟨f,as,ts,x,t0,hop,has,hts,hx,hgk,hf⟩:=Ch ht
 have hcal:callee S.st f=some (g,caps.map Cl.av):=by unfold callee;rw[ez];rcases hf with ⟨_,_,hf,rfl⟩|hf<;>(rw[hf]; rfl)
 have others: ∀ {S0:TS} (hS0:S0.ok) (hG:jb S.gh S0.gh) {K:List V1->Option ρ},yk Θ S0 us xs caps K=some r->
   ∃vs,us.length=xs.length/\uI P S0.st us xs (caps.map Cl.av)=vs.map V1.av/\K vs=some r:=by
  intro S0 hS0 hG K h;have hlen:=EK hΘ hS0 _ _ _ _ h;obtain⟨vs,h1,h⟩:=vm hΘ hS0 _ _ _ _ h
  have hcaps: ∀c∈caps,c.ok S0.gh:=by
   intro c hc;rcases hf with ⟨_,_,_,rfl⟩|hf
   ·cases hc
   ·have:=np hS f;rw[hf] at this;exact Cl.ok_mono hG (this c hc)
  obtain⟨ks,h2,h⟩:=Ca hS0 _ _ _ hcaps h;refine⟨_,hlen,?_,h⟩;unfold uI;rw[h1,h2,b0,bK];rfl
 have stays: ∀ {q:Nat} {el:Ty} {l:List el.D} {vs:List V1} {av0:AV} {res:V} {out:List eS},fW S.gh q=some ⟨el,l,none⟩->us.length=xs.length->uI P ({ S with gh:=fK S.gh q none }:TS).st us xs (caps.map Cl.av)=vs.map V1.av->
   (∀ (w:World) (bt:Bt) (u:Value),VR w bt (opd S.st x) u->VR w (handG bt S.st w [⟨q,[]⟩]) av0 u)->jI P g (av0::vs.map V1.av) [.sl el.width (l.map el.row)] 1 res.av (out.map eS.tree)->res.ok (out.map some)->Ks S q el l res out o.dst κ=some r-> ∃S3:TS,(∀n0,ll P n0 S.st o S3.st)/\S3.ok/\κ S3=some r:=by
  intro q el l vs av0 res out hq hlen hargs hx hSK hro h;unfold Ks at h;split at h
  ·rename_i t' l' more;obtain⟨hc,h⟩:=ej h;have hc:=of_decide_eq_true hc;subst hc;obtain⟨hll,h⟩:=fw h;have hd:=rf.one hq;have hG:jb S.gh (fK S.gh q (some ⟨t',l',none⟩)):=jb.put hq hll;have hl0: (fK S.gh q (some ⟨t',l',none⟩)).length=S.gh.length:=by rw[ik]; simp
   have hrk: (q9 S.gh.length (M8 res)).ok (fK S.gh q (some ⟨t',l',none⟩)++more.map some):=by
    have:=wj (G:=fK S.gh q (some ⟨t',l',none⟩)) (PI hro)
    rwa [hl0] at this
   obtain⟨S3,k1,k2,_,h⟩:=kp (S:= { S with gh:=fK S.gh q (some ⟨t',l',none⟩)++more.map some }) (TS.ok_gh hS (hG.trans (jb.apps _ _))) hrk h;rw[show ({ S with gh:=fK S.gh q (some ⟨t',l',none⟩)++more.map some }:TS).st=_ from uk { S with gh:=fK S.gh q (some ⟨t',l',none⟩) } res.av more,wi,PH] at k1
   have htr:S.st.gh q=some (.sl t'.width (l.map t'.row)):=by show (fW S.gh q).map eS.tree=_;rw[hq];rfl
   have hql:=uj hq
   have hGave:AO S.st ([q].map fun r=>⟨r,[]⟩) [.sl t'.width (l.map t'.row)] :=xt rfl (by simp) (fun k r hk=>by grind)
   refine⟨S3,fun n0=>ll.handG hop has hlen hcal (uf [q]) (fun w0 W bt w hI=>hI.dropL [q]) hGave hx (m:=1) (res:=res.av) (out:=eS.tree ⟨t',l',none⟩::more.map eS.tree) (by rw[<-hd.st,hargs]; exact hSK)
    (BS (Sp:=({ S with gh:=fK S.gh q (some ⟨t',l',none⟩) }:TS).st) hGave (by simp) rfl rfl rfl hl0 rfl rfl (fun k r hk=> ?_) (fun r hr=> ?_)) k1,k2,h⟩
   ·cases k with
    |zero=>simp_all [xA,fo]
    |succ k=>simp at hk
   simp_all [xA,fo]
  ·cases h
 have hxo:=np hS x;cases a with
 |own q sz=>
  obtain⟨lo,len,hxv⟩: ∃lo len,S.opd x= .v (.cl (.own ⟨q,[]⟩ sz lo len true)):=by
   unfold zu at hx
   grind
  rw[hxv] at hxo;unfold B0 at h;simp only at h;split at h
  ·rename_i el l hq;obtain⟨hsz,h0⟩:=ej h;have hsz:sz=el.width:=ao hsz;clear h;subst hsz;have hd:=rf.one hq;obtain⟨vs,hlen,hargs,h⟩:=others (hd.ok hS) hd.le h0;obtain⟨_,hlo,hln⟩:=hxo.2 rfl;have hln:=hln _ hq;subst hlo hln
   have hav: ∀ (w:World) (bt:Bt) (u:Value),VR w bt (opd S.st x) u->VR w (handG bt S.st w [⟨q,[]⟩]) (.own ⟨0,[]⟩ el.width 0 l.length) u:=fun w bt u hv=>by
    rw[ez,hxv] at hv;have hv:VR w bt (.own ⟨q,[]⟩ el.width 0 l.length) u:=hv;cases hv with
    |own hp hc hk ha=>exact .own cN hc hk ha
   cases hk:Nat.beq k 1 with
   |true=>rw[hk] at h;simp only[cond_true] at h;obtain⟨res,out,g1,g2,h⟩:=hY _ _ _ _ _ h;exact stays hq hlen hargs hav (g1.io g rfl hgk).get g2 h
   |false=>
    rw[hk] at h;simp only[cond_false] at h;obtain⟨hfz0,h⟩:=ej h;have hfz:S.st.fz<=q:=ar hfz0;obtain⟨res,out,g1,g2,h⟩:=hY _ _ _ _ _ h;have g1:=(g1.mv g rfl hgk).get;have hl0: (fK S.gh q none).length=S.gh.length:=by rw[ik]; simp
    have hro: (q9 S.gh.length res).ok (fK S.gh q none++out.map some):=by
     have:=wj (G:=fK S.gh q none) g2
     rwa [hl0] at this
    obtain⟨S3,k1,k2,_,h⟩:=kp (S:= { S with gh:=fK S.gh q none++out.map some }) (TS.ok_gh (hd.ok hS) (jb.apps _ _)) hro h;rw[show ({ S with gh:=fK S.gh q none++out.map some }:TS).st=_ from uk { S with gh:=fK S.gh q none } res.av out,hd.st,wi,<-Jd] at k1
    have htr:S.st.gh q=some (.sl el.width (l.map el.row)):=by show (fW S.gh q).map eS.tree=_;rw[hq];rfl
    exact⟨S3,fun n0=>ll.handG hop has hlen hcal (uf [q]) (fun w0 W bt w hI=>hI.dropL [q]) (xt (ts:= [.sl el.width (l.map el.row)]) rfl (by simp) (fun k r hk=>by grind)) hav (m:=0) (by rw[<-hd.st,hargs]; exact g1) (LC fun r hr=>by rw[aD.1 hr]; exact hfz) k1,k2,h⟩
  ·cases h
 |pt q sz=>
  have hxv:S.opd x= .v (.cl (.ptrT ⟨q,[]⟩ sz 0 0)):=by
   unfold zu at hx;split at hx<;>simp only[af,Fs.pt.injEq,reduceCtorEq] at hx;obtain⟨rfl,rfl⟩:=hx
   assumption
  unfold B0 at h;simp only at h;split at h
  ·rename_i el l hq;obtain⟨hsz,h0⟩:=ej h;have hsz:sz=el.width:=ao hsz;clear h;subst hsz;have hd:=rf.one hq;obtain⟨vs,hlen,hargs,h⟩:=others (hd.ok hS) hd.le h0;obtain⟨res,out,g1,g2,h⟩:=hY _ _ _ _ _ h;refine stays hq hlen hargs (fun w bt u hv=> ?_) (g1.pt g rfl hgk).get g2 h;rw[ez,hxv] at hv;have hv:VR w bt (.ptrT ⟨q,[]⟩ el.width 0 0) u:=hv;cases hv with
   |ptrT _ _ _ hp hk=>exact .ptrT (p:=⟨0,[]⟩) _ 0 0 cN hk
  ·cases h
 |agg cs=>
  have hxv:S.opd x= .v (.agg cs):=by
   unfold zu at hx;split at hx<;>simp only[af,Fs.agg.injEq,reduceCtorEq] at hx;subst hx
   assumption
  rw[hxv] at hxo;unfold B0 at h;simp only at h;split at h
  ·rename_i ys L hga;obtain⟨hnd,h0⟩:=ej h;clear h;have hnd:L.Nodup:=Bh.1 hnd;obtain⟨g1,g2,g3,g4⟩:=xC cs ys L hga hxo
   have hd:=EL L S hnd (fun q hq=>by obtain⟨k,hk,hkq⟩:=aJ hq;obtain⟨el,l,_,e⟩:=g3 k q (by grind);exact⟨_,e⟩)
   obtain⟨vs,hlen,hargs,h⟩:=others (hd.ok hS) hd.le h0;obtain⟨res,out,k1,k2,h⟩:=hY _ _ _ _ _ h;have k1:=(k1.io g rfl hgk).getA;obtain⟨hns,h⟩:=ej h;obtain⟨hpl,hrok⟩:=Ci hns;obtain⟨Sp,a1,a2,a3,a4,a5,a6,a7,a8,a9,h⟩:=HJ L S out _ r hnd h;have hSp:Sp.ok:=⟨fun x hx=>V.ok_mono a9 (hS.env x (by rw[<-a1]; exact hx)),fun cs hcs c hc=>Cl.ok_mono a9 (hS.bx cs (by rw[<-a2]; exact hcs) c hc)⟩
   obtain⟨S3,m1,m2,_,h⟩:=kp hSp (hrok _) h
   have hGave:AO S.st (L.map fun r=>⟨r,[]⟩) ((qy ys).map eS.tree):=xt (by simp[g2]) hnd (fun k q hk=>by obtain⟨el,l,e1,e2⟩:=g3 k q hk;refine⟨el.width,l.map el.row,by rw[ap,e1]; rfl,?_⟩;show (fW S.gh q).map eS.tree=_;rw[e2];rfl)
   have hps: (L.map fun r=>(⟨r,[]⟩:ff)).length=(qy ys).length:=by rw[aN,g2]
   have hout: (out.map eS.tree).length=L.length:=by rw[aN,a6]
   refine⟨S3,fun n0=>ll.handG hop has hlen hcal (uf L) (fun w0 W bt w hI=>hI.dropL L) hGave (av0:= .agg ((xz ys 0).map Cl.av)) (fun w bt u hv=> ?_) (res:=res.av) (out:=out.map eS.tree) (m:=L.length) (by rw[<-hd.st,hargs,<-g2]; exact k1)
    (BS (Sp:=Sp.st) hGave (dI hout.symm) (by unfold TS.st; simp only[a1]) (by unfold TS.st; simp only[a2]) (by unfold TS.st; simp only[a2]) (by unfold TS.st; simp only[a5]) a3 a4 (fun k q hk=>by
      show (fW Sp.gh q).map eS.tree=_;rw[a7 k q hk,ap]) (fun q hq=>by
      show (fW Sp.gh q).map eS.tree=(fW S.gh q).map eS.tree;rw[a8 q hq])) (by grind [EC,Km]),m2,h⟩
   rw[ez,hxv] at hv;have hv:VR w bt (.agg (cs.map Cl.av)) u:=hv;cases hv with
   |agg hl ho hr=>
    rename_i us0;refine .agg (by grind [sn]) ho (fun k c u hk hu=> ?_);rw[ap] at hk;simp only[ak] at hk;obtain⟨c',hc',rfl⟩:=hk
    have hkl:k<cs.length:=by have:=(aj.1 hc').1;rw[sn,g1] at this;exact this
    refine g4 w bt _ 0 (fun i q hi=> ?_) k cs[k] c' u (ah hkl) hc' (hr k _ u (by grind) hu)
    have hpi: (L.map fun r=>(⟨r,[]⟩:ff))[(⟨0+i,[]⟩:ff).r]? =some ⟨q,[]⟩:=by rw[ap];show (L[0+i]?).map _=_;rw[aQ,hi];rfl
    have hpl2:=xq hpi;refine⟨?_,?_,?_⟩
    ·show bt.β (EB _ _)=_;rw[hpl2];rfl
    ·show bt.κ (EB _ _)=_;rw[hpl2];rfl
    ·show 0+i< (L.map fun r=>(⟨r,[]⟩:ff)).length
     grind
  ·cases h
 |nest q i j sz lo len=>
  obtain⟨w0,hxv⟩: ∃w,S.opd x= .v (.cl (.own ⟨q,[(i,j)]⟩ sz lo len w)):=by
   unfold zu at hx
   grind
  rw[hxv] at hxo;unfold B0 at h;simp only at h;split at h
  ·rename_i t l hq;obtain⟨y,hy,h⟩:=ai.1 h;split at h
   ·rename_i el v hv;obtain⟨hsz,h0⟩:=ej h;have hsz:sz=el.width:=ao hsz;clear h;subst hsz;obtain⟨hll,h1⟩:=fw h0;clear h0;obtain⟨rfl,rfl⟩:=hll;have hql:=uj hq;have hhole:jb S.gh (fK S.gh q (some ⟨t,l,some (i,j)⟩)):=jb.put hq rfl;obtain⟨vs,hlen,hargs,h⟩:=others (S0:= { S with gh:=fK S.gh q (some ⟨t,l,some (i,j)⟩) }) (TS.ok_gh hS hhole) hhole h1;clear h1;obtain⟨res,out,k1,k2,h⟩:=hY _ _ _ _ _ h;have k1:=(k1.io g rfl hgk).get;split at h
    ·rename_i t' v' _;obtain⟨hc,h⟩:=ej h;simp only[al,decide_eq_true_eq] at hc;obtain⟨rfl,hns⟩:=hc;obtain⟨hpl,hrok⟩:=Ci hns;obtain⟨hvl,h⟩:=fw h;split at h
     ·rename_i z hz;have hG:jb S.gh (fK S.gh q (some ⟨t,l.set i z,none⟩)):=jb.put hq (by simp);obtain⟨S3,m1,m2,_,h⟩:=kp (S:= { S with gh:=fK S.gh q (some ⟨t,l.set i z,none⟩) }) (TS.ok_gh hS hG) (hrok _) h
      have hrowy: (l.map t.row)[i]? =some ((t.flat y).map C.tree):=by rw[ap,hy];simp only[aH,t.row_flat]
      have hcell: ((t.flat y).map C.tree)[j]? =some (.sl t'.width (v.map t'.row)):=by rw[gv] at hv;rw[ap,hv];rfl
      have hgq:S.st.gh q=some (.sl t.width (l.map t.row)):=by show (fW S.gh q).map eS.tree=_;rw[hq];rfl
      have hlook:S.st.look ⟨q,[(i,j)]⟩= .sl t'.width (v.map t'.row):=by unfold St.look;simp only[hgq,T.go,T.cell,aF,hrowy,bn,hcell]
      have hforget: ∀ (w0:World) (W:Nat->Prop) (bt:Bt) (w:World),gx w0 W bt S.st w->_:=fun w0 W bt w hI=>hI.forget hlook
      have hSm: ({ S with gh:=fK S.gh q (some ⟨t,l,some (i,j)⟩) }:TS).st=S.st.setAt ⟨q,[(i,j)]⟩ .dd:=by rw[xA S _ hql];unfold St.setAt;simp only[hgq,aH];rfl
      have hSp: ({ S with gh:=fK S.gh q (some ⟨t,l.set i z,none⟩) }:TS).st=S.st.setAt ⟨q,[(i,j)]⟩ (.sl t'.width (v'.map t'.row)):=by
       rw[xA S _ hql];unfold St.setAt;simp only[hgq,aH,T.put]
       congr 3
       show T.sl t.width ((l.set i z).map t.row)=_;rw[List.map_set,t.row_flat z,t.unflat_some _ _ hz,ik,List.map_set];simp only[aF,hrowy,bn];rfl
      rw[hSp] at m1;refine⟨S3,fun n0=>ll.handG hop has hlen hcal (Sm:=S.st.setAt ⟨q,[(i,j)]⟩ .dd) (ps:= [⟨q,[(i,j)]⟩]) ?_ (fun w0 W bt w hI=>(hforget w0 W bt w hI).1) (M2 hlook) (av0:= .own ⟨0,[]⟩ t'.width 0 v.length) (fun w bt u hv=> ?_) (res:=res.av) (out:= [.sl t'.width (v'.map t'.row)]) (m:=1) (by rw[<-hSm,hargs]; exact k1) (M3 hlook (by simpa using hvl)) (by rw[EC hpl,List.drop_succ_cons,List.drop_nil,Km]; exact m1),m2,h⟩
      ·refine⟨rfl,rfl,rfl,fun p s rs hp=> ?_⟩;rw[qW] at hp;by_cases hpr:p.r=q
       ·rw[if_pos hpr,hgq] at hp;simp only at hp
        rcases T.put_spec .dd [(i,j)] (.sl t.width (l.map t.row)) (.inl (by grind [St.look])) p.l s rs hp with ⟨m',hm,hgo⟩| ⟨rs0,e1,e2,e3,e4⟩
        ·rw[T.dd_go] at hgo; cases hgo
        ·refine⟨fun p' hp' hu=> ?_,rs0,by unfold St.look; rw[hpr,hgq]; exact e1⟩;rw[aD.1 hp'] at hu;obtain⟨_,m,b⟩:=hu;exact e3 m b.symm
       ·rw[if_neg hpr] at hp;refine⟨fun p' hp' hu=> ?_,rs,hp⟩;rw[aD.1 hp'] at hu;exact hpr hu.1
      ·rw[ez,hxv] at hv;have hv:VR w bt (.own ⟨q,[(i,j)]⟩ t'.width 0 v.length) u:=hv;cases hv with
       |own hp hc hk ha=>exact .own cN hc hk ha
     ·cases h
    ·cases h
   ·cases h
  ·cases h
theorem ND {el:Ty} (hw:el.width=1) (hf:el.flatB=true) {z:el.D} (hz:el.unflat el.zcs=some z): ∃zv,el.zvs= [zv] /\o5 zv=true/\el.row z= [.sc zv] :=by
 have hr:el.row z=el.zcs.map C.tree:=by rw[el.row_flat,el.unflat_some _ _ hz]
 rw[hr];clear hr hz z;cases el with
 |i k=>exact⟨_,rfl,rfl,rfl⟩
 |b=>exact⟨_,rfl,rfl,rfl⟩
 |s=>exact⟨_,rfl,rfl,rfl⟩
 |h=>exact⟨_,rfl,rfl,rfl⟩
 |st n=>cases n<;>first |exact⟨_,rfl,rfl,rfl⟩| (exfalso; revert hw; decide)| (exfalso; revert hf; decide)
 |ls t=>cases hf
theorem LO [dY] (hΘ:gz P Θ) (hS:S.ok) {ops:Array Oper} {o:Oper} {os:List Oper} {Post:St->Prop} {t:TypeId} {q sz lo len:Nat} (ht:Ft S o=some (t,q,sz,lo,len)) {κ:TS->Option ρ} {r:ρ}
  (ih: ∀S3:TS,S3.ok->κ S3=some r->Al P ops os S3.st Post) (h:Jm Θ S t q sz lo len o.dst κ=some r):Al P ops (o::os) S.st Post:=by
 unfold Ft at ht;split at ht
 ·rename_i as ts hop;split at ht
  ·cases ht
  ·rename_i hgd;split at ht
   ·rename_i x t' e1 e2;split at ht
    ·rename_i r' sz' lo' len' w hx;simp only[af,an] at ht;obtain⟨rfl,rfl,rfl,rfl,rfl⟩:=ht;have e1:as= #[x] :=by apply Array.ext'; simpa using e1
     have e2:ts= #[t'] :=by apply Array.ext'; simpa using e2
     subst e1 e2;unfold Jm at h;split at h
     ·rename_i ti hti;split at h
      ·rename_i el l hq;obtain⟨hc,h0⟩:=ej h;simp only[al,decide_eq_true_eq] at hc;obtain⟨⟨⟨hty,hw⟩,hsz⟩,hfl⟩:=hc;have hw:el.width=1:=ao hw;have hsz:sz'=1:=ao hsz;split at h0
       ·rename_i z hz;unfold iteP at h0;split at h0
        ·rename_i hle;obtain⟨elT',g1,g2,g3,g4,g5,g6⟩:=(hΘ _ _ hti).el el hty
         have hql:r'<S.gh.length:=by
          rcases cW r' S.gh.length with h'|h'
          ·exact h'
          ·rw[zB h'] at hq; cases hq
         have hG:jb S.gh (fK S.gh r' (some ⟨el,l.take lo'++List.replicate len' z++l.drop (lo'+len'),none⟩)):=jb.put hq (by simp; omega);obtain⟨S3,k1,k2,_,h⟩:=kp (v:= .tup []) (TS.ok_gh hS hG) (fun x hx=>by cases hx) h0;rw[xA S _ hql] at k1;obtain⟨zv,hzv,hsc,hrow⟩:=ND hw hfl hz
         have htr:S.st.gh r'=some (.sl 1 (l.map el.row)):=by show (fW S.gh r').map eS.tree=_;rw[hq];show some (T.sl el.width (l.map el.row))=_;rw[hw]
         have hxv:opd S.st x= .own ⟨r',[]⟩ 1 lo' len':=by rw[ez,hx,<-hsz]; rfl
         refine Al.clear hop hgd g1 (by rw[g6,hzv]) hsc hxv htr (by simpa using hle) ⟨S3.st,?_,ih S3 k2 h⟩;rw[<-k1]
         congr 1
         show _=({ S.st with gh:=fo S.st.gh r' (some (T.sl el.width ((l.take lo'++List.replicate len' z++l.drop (lo'+len')).map el.row))) }:St)
         simp_all
        ·cases h0
       ·cases h0
      ·cases h
     ·cases h
    ·cases ht
   ·cases ht
 ·cases ht
theorem PJ [dY] (hΘ:gz P Θ) (hY:lM P Y) {ops:Array Oper}: ∀ (os:List Oper) (S:TS) (κ:TS->Option ρ) (r:ρ),(∀o∈os,nk P o=true)->S.ok->B3 Θ Y ops.toList os S κ=some r->
  Al P ops os S.st (fun S'=> ∃S1:TS,S'=S1.st/\S1.ok/\κ S1=some r):=by
 intro os
 induction os with
 |nil=>intro S κ r _ hS h; exact Al.nil ⟨S,rfl,hS,h⟩
 |cons o os ih=>
  intro S κ r hok hS h;unfold B3 at h;cases hn:Bk o with
  |some tx=>
   obtain⟨t,x⟩:=tx;rw[hn] at h;simp only at h;obtain⟨hs,h⟩:=ej h;obtain⟨⟨t',ho⟩,hg⟩:=FA hn;unfold SO at hs;split at hs
   ·rename_i ti hti;split at hs
    ·rename_i e he;obtain⟨el,hel,_⟩:=(hΘ t ti hti).el e he;split at h
     ·rename_i t1 l hx
      have way: ∀ (b:Bool),(rc S o.dst (Hs b) fun S3=>B3 Θ Y ops.toList os S3 κ)=some r-> ∃S1,S.st.put o.dst (.sc (.bool b))=some S1/\Al P ops os S1 (fun S'=> ∃S1:TS,S'=S1.st/\S1.ok/\κ S1=some r):=by intro b hb;obtain⟨S3,g5,g6,_,h⟩:=kp (v:=Hs b) hS trivial hb;exact⟨S3.st,g5,ih S3 κ r (fun x hx=>hok x (aL _ hx)) g6 h⟩
      have hxv:opd S.st x= .ro t1.width (l.map t1.row):=by rw[ez,hx]; rfl
      cases l with
      |nil=>
       obtain⟨a1,a2⟩:=NB (show Po _ _ none=some r from h)
       grind [Al.eqnil]
      |cons y l=>exact Al.eqnil hel ho hg hxv (fun h=>by cases h) (way false h)
     ·cases h
    ·cases hs
   ·cases hs
  |none=>
  rw[hn] at h;simp only at h;cases hcl:Ft S o with
  |some z=>grind [LO]
  |none=>
  rw[hcl] at h;simp only at h;obtain⟨b,S1,h1,h2,h3,h4,h⟩:=HG hS h;refine Al.cons (b:=b) h1 ?_;cases b with
  |true=>
   simp only[cond_true] at h;rw[if_pos rfl,<-h2];cases hh:BX Y S1 o with
   |some z=>obtain⟨k,g,caps,a,us,xs⟩:=z;rw[hh] at h;obtain⟨S3,g1,g2,g3⟩:=HK hΘ hY h3 hh h;exact⟨S3.st,(g1 0).op,ih S3 κ r (fun x hx=>hok x (aL _ hx)) g2 g3⟩
   |none=>
   grind [vo,kp,MY.one,one]
  |false=>simp only[cond_false] at h;obtain⟨S3,g5,g6,_,h⟩:=kp (v:= .tup []) h3 (fun x hx=>by cases hx) h;rw[if_neg (by simp)];exact⟨S3.st,by rw[<-h2]; exact g5,ih S3 κ r (fun x hx=>hok x (aL _ hx)) g6 h⟩
theorem PK {D D':rY} {X:St} {o:Oper} (h:D o.dst=D' o.dst):eu D P X o=eu D' P X o:=by simp_all [eu]
theorem KJ {D D':rY} {X:St} {o:Oper} (h:D o.dst=D' o.dst):gm D P X o=gm D' P X o:=by simp_all [gm]
theorem SU {D D':rY} {ops:Array Oper}: ∀ (os:List Oper) (X:St),(∀o∈os,D o.dst=D' o.dst)->Dz D P ops os X=Dz D' P ops os X:=by
 intro os
 induction os with
 |nil=>intro X _; rfl
 |cons o os ih=>grind [Dz,PK,KJ]
theorem yq: ∀ (l m:List (Option eS)) (n:Nat),gone n l (l++m)= []
 | [],m,n=>by cases m<;>rfl
 |x::l,m,n=>by
  cases x with
  |none=>exact yq l m (n+1)
  |some y=>exact yq l m (n+1)
theorem Cj (l:List eS):Na (l.map some)=l.map eS.tree:=by unfold Na;rw[bK];rfl
theorem KK (S:TS) (out:List eS):S.st.make ⟨S.st.ng,out.map eS.tree,[]⟩=({ S with gh:=S.gh++out.map some }:TS).st:=by
 rw[uk S .dead out];unfold St.make sf;simp only[aN]
 congr 1
theorem rf.make {S1:TS} {L:List Nat} (h:rf S S1 L) (x:eS):S.st.make ⟨S.st.ng,[x.tree],mC L⟩=({ S1 with gh:=S1.gh++ [some x] }:TS).st:=by
 rw[B5,h.st,h.len];unfold St.make dropL;simp only[aB,m0]
 congr 1
 funext r
 unfold fo;by_cases hr:r=S.gh.length
 ·simp_all [TS.st]
 ·rw[if_neg hr,if_neg (by show ¬ (S.gh.length<=r/\r<S.gh.length+1); omega)]
theorem KL: ∀ (l m x:List (Option eS)) (n:Nat) (L:List Nat),m.length=l.length->(∀k,k<l.length->(((∃y,l[k]? =some (some y))/\m[k]? =some none)↔(n+k)∈L))->gone n l (m++x)=(List.range' n l.length).filter fun r=>L.contains r
 | [],m,x,n,L,hl,_=>by have :m= [] :=bz hl;subst this;cases x<;>rfl
 |a::l,[],x,n,L,hl,_=>by cases hl
 |a::l,b::m,x,n,L,hl,h=>by
  have h0:=h 0 (Nat.zero_lt_succ _)
  have ih:=KL l m x (n+1) L (by simpa using hl) (fun k hk=>by
   have:=h (k+1) (by simpa using hk)
   grind)
  simp only[aP,af,bX] at h0;rw[bB,cJ,List.filter_cons];cases a with
  |none=>
   have : ¬n∈L:=fun hn=>by grind
   rw[if_neg (by simpa using this),<-ih];cases b<;>rfl
  |some y=>
   cases b with
   |none=>have :n∈L:=h0.1 ⟨⟨y,rfl⟩,rfl⟩;rw[if_pos (by simpa using this),<-ih];rfl
   |some z=>
    have : ¬n∈L:=fun hn=>by have:=(h0.2 hn).2;cases this
    rw[if_neg (by simpa using this),<-ih];rfl
theorem FB {L:List Nat} {N:Nat} (h: ∀r∈L,r<N):mC L=(List.range N).filter fun r=>L.contains r:=by
 have top:E5 L<=N:=by
  induction L with
  |nil=>exact aA _
  |cons a l ih=>grind [E5,List.mem_cons_self]
 unfold mC;obtain⟨k,rfl⟩: ∃k,N=E5 L+k:=⟨N-E5 L,by omega⟩
 rw[cq,cq,<-List.range'_append_1,cf]
 have : (List.range' (0+E5 L) k).filter (fun r=>L.contains r)= [] :=by rw[List.filter_eq_nil_iff];intro r hr hc;have h1:=Ff (l:=L) (r:=r) (by simpa using hc);have h2:=(List.mem_range'_1.1 hr).1;omega
 rw[this,bT]
theorem rf.gone {S1:TS} {L:List Nat} (h:rf S S1 L) (x:List (Option eS)):gone 0 S.gh (S1.gh++x)=mC L:=by
 rw[FB (N:=S.gh.length) (fun r hr=>by obtain⟨tr,ht⟩:=h.was r hr;exact uj ht),cq]
 refine KL _ _ _ _ _ h.len (fun k hk=> ?_);rw[aQ];have g:=h.gh k;unfold fW at g;rw[gv,gv] at g;have hk1:k<S1.gh.length:=by rw[h.len]; exact hk
 rw[ah hk,ah hk1] at g ⊢;simp only[bn,af] at g ⊢;constructor
 ·grind
 ·intro hL;obtain⟨tr,ht⟩:=h.was k hL
  simp_all [fW,gv]
theorem wl {G:List (Option eS)} {r j:Nat} {c:Cl} (h:c.ok G) (hr:G.length<=r):qp r j c=c:=by
 have hb: ∀p:ff,p.r<G.length->Nat.beq p.r r=false:=fun p hp=>by
  cases hx:Nat.beq p.r r with
  |false=>rfl
  |true=>have:=ao hx;omega
 cases c with
 |own p sz lo len w=>simp only[qp];rw[hb p h.1];split<;>rfl
 |ptrT p sz a b=>simp only[qp];rw[hb p h];split<;>rfl
 | _=>rfl
theorem rg {α:Type} {f:α->α}: ∀ {l:List α},(∀x∈l,f x=x)->l.map f=l
 | [],_=>rfl
 |a::l,h=>by rw[aW,h a aK,rg fun x hx=>h x (aL _ hx)]
theorem HL (hS:S.ok) {r j:Nat} (hr:S.gh.length<=r):S.kill r j=S:=by
 have v1: ∀v:V1,v.ok S.gh->sK r j v=v:=by
  intro v hv;cases v with
  |cl c=>simp only[sK]; rw[wl hv hr]
  |agg cs=>simp only[sK]; rw[rg fun c hc=>wl (hv c hc) hr]
  |fn f cs=>simp only[sK]; rw[rg fun c hc=>wl (hv c hc) hr]
 have e1:S.env.map (fun x=>(x.1,EE r j x.2))=S.env:=by
  refine rg (fun x hx=> ?_);have hx:=hS.env x hx;obtain⟨t,v⟩:=x;cases v with
  |v x=>simp only[EE]; rw[v1 x hx]
  |tup l=>simp only[EE]; rw[rg fun c hc=>v1 c (hx c hc)]
 have e2:S.bx.map (fun cs=>cs.map (qp r j))=S.bx:=by exact rg (fun cs hcs=>rg (fun c hc=>wl (hS.bx cs hcs c hc) hr))
 unfold TS.kill;rw[e1,e2]
theorem PL (hS:S.ok) {S1:TS} {no j:Nat} (hno:S.gh.length<=no) {et:Option Ty} {c:Cl} {x:C} (hc:c.ok S.gh) (h:jG S no j et c=some (x,S1)):
  ∃L,rf S S1 L/\L.Nodup/\mF S.st (HD et) c.av=some (x.tree,L):=by
 have wp: ∀t:Ty,¬HD (some t)=0:=fun t e=>by have:=t.width_pos;have e':t.width=0:=e;omega
 cases c with
 |c y=>
  cases y with
  |sc v=>
   cases et with
   |none=>simp only[jG,af,an] at h;obtain⟨rfl,rfl⟩:=h;exact⟨[],rf.refl _,dR,rfl⟩
   |some t=>simp[jG] at h
  |ls t l=>cases et<;>simp[jG] at h
 |em=>
  cases et with
  |none=>simp[jG] at h
  |some t=>simp only[jG,af,an] at h;obtain⟨rfl,rfl⟩:=h;rw[HL hS hno];refine⟨[],rf.refl _,dR,?_⟩;unfold mF;rw[if_neg (wp t)];rfl
 |own p sz lo len wh=>
  obtain⟨pr,pl⟩:=p;cases wh with
  |false=>cases et<;>simp[jG] at h
  |true=>
   cases et with
   |none=>simp[jG] at h
   |some t=>
    cases pl with
    |cons a l=>simp[jG] at h
    |nil=>
     simp only[jG] at h;obtain⟨h1,h⟩:=ej h;simp only[al,b8] at h1;obtain⟨⟨h1,h2⟩,h3⟩:=h1;have h1:t.width=sz:=ao h1;have h2:S.fz<=pr:=ar h2;split at h
     ·rename_i tr htr;split at h
      ·rename_i hh;obtain⟨h4,h⟩:=ej h;have h4':tr.t.width=sz:=ao h4;simp only[af,an] at h;obtain⟨rfl,rfl⟩:=h;have hg:=eS.look htr;obtain⟨tt,l,hole⟩:=tr;simp only at hh h4';subst hh;obtain⟨e1,e2,e3⟩:=vl hc (fun _=>hg);have hd:=rf.one hg;rw[HL (hd.ok hS) (by rw[hd.len]; exact hno)];refine⟨[pr],hd,by simp,?_⟩;unfold mF;rw[if_neg (wp t)];simp only[Cl.av]
       have hrows:S.st.rows ⟨pr,[]⟩ sz=some (l.map tt.row):=by rw[<-h4'];refine kV ?_;unfold St.look;show (match (fW S.gh pr).map eS.tree with |some t=>t.go [] |none=> .dd)=_;rw[hg];rfl
       rw[if_pos ⟨trivial,h1.symm,e2,h2⟩,hrows]
       simp_all [bD,C.tree]
      ·cases h
     ·cases h
 |pro cs=>cases et<;>simp[jG] at h
 |ptrB n j=>cases et<;>simp[jG] at h
 |ptrT p sz a b=>cases et<;>simp[jG] at h
 |dead=>cases et<;>simp[jG] at h
theorem Jr {X Y:St} (hfz:Y.fz=X.fz) (hg: ∀r t,Y.gh r=some t->X.gh r=some t) {s:Nat} {v:AV} {y:T×List Nat} (h:mF Y s v=some y):mF X s v=some y:=by
 unfold mF at h ⊢;split at h
 ·rename_i h0; rw[if_pos h0]; exact h
 ·rename_i h0;rw[if_neg h0];split at h
  ·exact h
  ·rename_i q s' lo len;split at h
   ·rename_i hc;rw[hfz] at hc;rw[if_pos hc]
    grind [St.rows,St.look]
   ·cases h
  ·cases h
theorem vp {X Y:St} (hfz:Y.fz=X.fz) (hg: ∀r t,Y.gh r=some t->X.gh r=some t): ∀ {ss:List Nat} {vs:List AV} {y:List T×List Nat},jw Y ss vs=some y->jw X ss vs=some y
 |s::ss,v::vs,y,h=>by unfold jw at h ⊢;simp only[ai,ak] at h ⊢;obtain⟨a,h1,b,h2,h3⟩:=h;exact⟨a,Jr hfz hg h1,b,vp hfz hg h2,h3⟩
 | [],[],_,h=>h
 | [],_::_,_,h=>h
 | _::_,[],_,h=>h
theorem Ao {X Y:St} (hfz:Y.fz=X.fz) (hg: ∀r t,Y.gh r=some t->X.gh r=some t) {ss:List Nat}: ∀ {vss:List (List AV)} {y:List (List T)×List Nat},iE Y ss vss=some y->iE X ss vss=some y
 | [],_,h=>h
 |vs::vss,y,h=>by unfold iE at h ⊢;simp only[ai,ak] at h ⊢;obtain⟨a,h1,b,h2,h3⟩:=h;exact⟨a,vp hfz hg h1,b,Ao hfz hg h2,h3⟩
theorem rf.less {S1:TS} {L:List Nat} (h:rf S S1 L): ∀r t,S1.st.gh r=some t->S.st.gh r=some t:=by
 intro r t ht;rw[h.st] at ht
 grind [dropL]
theorem PM (no:Nat): ∀ (ets:List (Option Ty)) (cs:List Cl) (j:Nat) (S S1:TS) (xs:List C),S.ok->S.gh.length<=no->(∀c∈cs,c.ok S.gh)->qq no j S ets cs=some (xs,S1)->
  ∃L,rf S S1 L/\L.Nodup/\jw S.st (ets.map HD) (cs.map Cl.av)=some (xs.map C.tree,L):=by
 intro ets
 induction ets with
 |nil=>
  intro cs j S S1 xs hS hno hcs h;cases cs with
  |nil=>simp only[qq,af,an] at h;obtain⟨rfl,rfl⟩:=h;exact⟨[],rf.refl _,dR,rfl⟩
  |cons c cs=>simp[qq] at h
 |cons et ets ih=>
  intro cs j S S1 xs hS hno hcs h;cases cs with
  |nil=>simp[qq] at h
  |cons c cs=>
   simp only[qq] at h;split at h
   ·rename_i x S2 hx;obtain⟨L1,d1,n1,e1⟩:=PL hS hno (hcs c aK) hx;split at h
    ·rename_i xs' S3 hxs;simp only[af,an] at h;obtain⟨rfl,rfl⟩:=h;obtain⟨L2,d2,n2,e2⟩:=ih cs (j+1) S2 S3 xs' (d1.ok hS) (by rw[d1.len]; exact hno) (fun y hy=>Cl.ok_mono d1.le (hcs y (aL _ hy))) hxs;refine⟨L1++L2,d1.trans d2,d1.apart d2 n1 n2,?_⟩;simp only[aW,jw];rw[e1];simp only[ae];rw[vp (X:=S.st) (Y:=S2.st) d1.fz d1.less e2];rfl
    ·cases h
   ·cases h
theorem NE (el:Ty): ∀ (vs:List V) (S S1:TS) (l:List el.D),S.ok->(∀v∈vs,v.ok S.gh)->sL el S vs=some (l,S1)->
  ∃L,rf S S1 L/\L.Nodup/\iE S.st el.shs (vs.map fun v=>v.av.cells)=some (l.map el.row,L)/\l.length=vs.length/\ ∀v∈vs,v.av.cells.length=el.width/\v.av.isDead=false:=by
 intro vs
 induction vs with
 |nil=>intro S S1 l hS hv h;simp only[sL,af,an] at h;obtain⟨rfl,rfl⟩:=h;exact⟨[],rf.refl _,dR,rfl,rfl,fun v hv=>by cases hv⟩
 |cons v vs ih=>
  intro S S1 l hS hv h;cases v with
  |tup x=>simp[sL] at h
  |v x=>
   have hx:=hv (.v x) aK;simp only[sL] at h;split at h
   ·rename_i ws S2 hw
    have hcells: ∀c∈x.cells,c.ok S.gh:=by
     intro c hc;cases x with
     |cl y=>rw[aD.1 hc]; exact hx
     |agg cs=>exact hx c hc
     |fn f cs=>rw[aD.1 hc]; trivial
    obtain⟨L1,d1,n1,e1⟩:=PM _ _ _ _ _ _ _ hS (aq _) hcells hw
    have hw':el.csh.length=x.cells.length/\ ∀c∈x.cells,c≠ .dead:=by obtain⟨_,m2,_,m4,_⟩:=Cd S.gh.length 0 0 0 el.csh x.cells 0 S S2 ws [x.cells.map fun c=>T.ofSc c.av] (x.cells.map fun c=>T.ofSc c.av) hS hcells hw rfl (by simp) (fun k c hk=>by grind);exact⟨m2,m4⟩
    split at h
    ·rename_i y ys S3 hy hys;simp only[af,an] at h;obtain⟨rfl,rfl⟩:=h;obtain⟨L2,d2,n2,e2,e3,e4⟩:=ih S2 S3 ys (d1.ok hS) (fun u hu=>V.ok_mono d1.le (hv u (aL _ hu))) hys
     have hsh:el.shs=el.csh.map HD:=by unfold Ty.shs;refine aI fun c _=> ?_;cases c<;>rfl
     have hav: (V.v x).av.cells=x.cells.map Cl.av:=by
      cases x with
      |cl c=>
       simp only[V.av,V1.av,V1.cells,aW,cL];cases c with
       |c y=>cases y<;>rfl
       | _=>rfl
      |agg cs=>rfl
      |fn f cs=>exact absurd rfl (hw'.2 .dead (aD.2 rfl))
     refine⟨L1++L2,d1.trans d2,d1.apart d2 n1 n2,?_,by simp[e3],fun u hu=> ?_⟩
     ·simp only[aW,iE];rw[hav,hsh,e1];simp only[ae];rw[<-hsh,Ao (X:=S.st) (Y:=S2.st) d1.fz d1.less e2];simp only[aH];rw[el.row_flat,el.unflat_some _ _ hy]
     ·rcases aX.1 hu with rfl|hu
      ·refine⟨?_,?_⟩
       ·grind [xB]
       ·cases x with
        |cl c=>
         have:=hw'.2 c (aD.2 rfl);cases c with
         |c y=>cases y<;>rfl
         |dead=>exact absurd rfl this
         | _=>rfl
        |agg cs=>rfl
        |fn f cs=>rfl
      ·exact e4 u hu
    ·cases h
   ·cases h
theorem Js (hΘ:gz P Θ) {t:TypeId} (h:SD Θ t=true): ∃ti el elT',lP Θ t=some ti/\ti.ty= .ls el/\tY P t=some elT'/\P.cellsOf elT'=el.width/\P.bytesOf elT'=ti.el/\0<ti.el/\nT P 9 elT'=el.shs/\yX P elT'=some el.zvs:=by
 unfold SD at h;split at h
 ·rename_i ti hti;split at h
  ·rename_i el he;obtain⟨elT',g⟩:=(hΘ _ _ hti).el el he;exact⟨ti,el,elT',hti,he,g⟩
  ·cases h
 ·cases h
theorem PN {el:Ty} {v:Cl} (hv:v.ok S.gh) {κ:List el.D->TS->Option ρ} {r:ρ} (h:M9 S el v κ=some r):
  ∃more L S1,rf S S1 L/\jc S.st el.width el.flatB v.av=some (more.map el.row,L)/\κ more S1=some r:=by
 unfold M9 at h;split at h
 ·exact⟨[],[],S,rf.refl _,rfl,h⟩
 ·rename_i t l;obtain⟨h1,h⟩:=ej h;split at h
  ·rename_i l' hl;obtain⟨e,hl⟩:=ia hl;subst e;simp only at hl;subst hl;refine⟨l,[],S,rf.refl _,?_,h⟩;simp only[Cl.av,C.av,jc];rw[if_pos ⟨trivial,te h1 l⟩]
  ·cases h
 ·rename_i p sz lo len w;obtain⟨h0,h⟩:=ej h;have h0:el.width=sz:=ao h0;cases hfl:el.flatB with
  |true=>
   rw[hfl] at h;simp only[cond_true] at h;obtain⟨t,l,h1,h2,h⟩:=ic h;split at h
   ·rename_i l' hl;obtain⟨e,hl⟩:=ia hl;subst e;simp only at hl;subst hl
    have src: ∀ (lo len:Nat),lo+len<=l.length->jc S.st t.width true (.own p sz lo len)=some (((l.drop lo).take len).map t.row,[]):=by intro lo len hle;simp only[jc];rw[if_pos h0.symm,kV h1];simp only[ae,aN];rw[if_neg (by simp),if_pos ⟨hle,by grind [te]⟩];simp[cz,cQ]
    cases w with
    |true=>
     obtain⟨e1,e2,e3⟩:=vl hv h2;refine⟨l,[],S,rf.refl _,?_,h⟩
     grind [Cl.av]
    |false=>simp only[cond_false] at h;obtain⟨h3,h⟩:=fw h;exact⟨_,[],S,rf.refl _,src lo len h3,h⟩
   ·cases h
  |false=>
   rw[hfl] at h;simp only[cond_false] at h;split at h
   ·rename_i hpl;obtain⟨h1,h'⟩:=ej h;clear h;simp only[al] at h1;obtain⟨rfl,hfz⟩:=h1;have hfz:S.fz<=p.r:=ar hfz;obtain⟨t,l,g1,g2,h⟩:=ic h';split at h
    ·rename_i l' hl;obtain⟨e,hl⟩:=ia hl;subst e;simp only at hl;subst hl;obtain⟨e1,e2,e3⟩:=vl hv g2;refine⟨l,[p.r],_,rf.one (g2 e1),?_,h⟩;simp only[Cl.av,jc];rw[if_pos h0.symm,kV g1];simp only[ae,aN];rw[if_pos ⟨trivial,e1,e2,e3,hfz⟩]
    ·cases h
   ·cases h
 ·cases h
theorem NF {el:Ty} {v:Cl} (hv:v.ok S.gh) (hroot:Kt (.v (.cl v))=true) {more:List el.D} {κ:List el.D->TS->Option ρ} {r:ρ} (h:Hq S el v more κ=some r):
  ∃ (l0:List el.D) (cons:List Nat) (S':TS),o4 S.st el.width v.av=some (l0.map el.row,cons)/\rf S S' cons/\κ (l0++more) S'=some r:=by
 unfold Hq at h;split at h
 ·exact⟨[],[],S,rfl,rf.refl _,h⟩
 ·rename_i p sz lo len w;obtain⟨pr,pl⟩:=p;cases pl with
  |cons a l=>cases hroot
  |nil=>
   obtain⟨h0,h'⟩:=ej h;clear h;simp only[al] at h0;have hfz:S.fz<=pr:=ar h0.1;have hsz:el.width=sz:=ao h0.2;simp only at h';obtain⟨t,l,h1,h2,h⟩:=ic h';split at h
   ·rename_i l' hl;obtain⟨e,hl⟩:=ia hl;subst e;simp only at hl;subst hl
    have base: ∀ (len:Nat),¬l.length<len->o4 S.st t.width (.own ⟨pr,[]⟩ sz 0 len)=some ((l.take len).map t.row,[pr]):=by intro len hlen;simp only[o4];rw[if_pos ⟨hsz.symm,trivial,trivial,hfz⟩,kV h1];simp only[ae,aN];rw[if_neg hlen,cz]
    cases w with
    |true=>
     obtain⟨e1,e2,e3⟩:=vl hv h2;refine⟨l,[pr],_,?_,rf.one (h2 rfl),h⟩
     grind [Cl.av]
    |false=>
     simp only[cond_false] at h;obtain⟨h3,h⟩:=fw h;obtain⟨h4,h⟩:=zx h;refine⟨l.take len,[pr],_,?_,rf.one (h2 rfl),h⟩
     grind [Cl.av]
   ·cases h
 ·cases h
theorem KM [dY] (hΘ:gz P Θ) (hY:lM P Y) (hS:S.ok) {o:Oper} (hn:hZ o=true) (hf:Pq Θ o=true) (hb:Ku S o=true) {κ:V->TS->Option ρ} {r:ρ} (h:uK Θ Y S o κ=some r):
  ∃D v0 v adds cons S',lj P D/\gm D P S.st o=some (v0,adds,cons)/\shift S.st.ng v0=V.av v/\S.st.make ⟨S.st.ng,adds,cons⟩=TS.st S'/\xy S S'=⟨S.st.ng,adds,cons⟩/\S'.ok/\v.ok S'.gh/\κ v S'=some r:=by
 obtain⟨dst,op,ty,pos,aft,gd⟩:=o;cases op with
 |buildSlice t len parts=>
  obtain⟨ti,el,elT',hti,he,g1,g2,g3,g4,g5,g6⟩:=Js hΘ hf;unfold uK at h;simp only[hti,he] at h;obtain⟨hb',h'⟩:=ej h;clear h
  have hnr: ((parts.toList.map fun x=>S.opd x.2).any BW)=false:=by have hb: (!(parts.toList.map fun x=>S.opd x.2).any BW)=true:=hb;simpa using hb
  rw[hnr] at h';simp only[cond_false] at h';split at h'
  ·rename_i l S1 hp
   have hvok: ∀v∈parts.toList.map (fun x=>S.opd x.2),v.ok S.gh:=fun v hv=>by obtain⟨y,_,rfl⟩:=aM.1 hv;exact np hS _
   obtain⟨L,d,hnd,m1,m2,m3⟩:=NE el _ S S1 l hS hvok hp;simp only[al] at hb';have hb1:len*el.width<=1048576:=ar hb'.1;have hb2:=Fy hb'.2
   have hlen:l.length=len:=by rw[m2];have:=congrArg List.length hb2;simpa using this
   refine⟨Fx, .own ⟨0,[]⟩ el.width 0 len,_,[.sl el.width (l.map el.row)],mC L,{ S1 with gh:=S1.gh++ [some ⟨el,l,none⟩] },iT,?_,?_,d.make ⟨el,l,none⟩,?_,TS.ok_gh (d.ok hS) (jb.app _ _),?_,h'⟩
   ·simp only[gm,g1,ae]
    rw[if_pos ⟨by rw[g2]; exact hb1,hb2,by rw[g2]; exact el.width_pos,by rw[g6]; rfl,by rw[ay];intro y hy;obtain⟨q1,q2⟩:=m3 (S.opd y.2) (aM.2 ⟨y,hy,rfl⟩);simp only[ez,q1,q2,g2];rfl⟩]
    have e: (parts.toList.map fun x=>(opd S.st x.2).cells)=(parts.toList.map fun x=>S.opd x.2).map fun v=>v.av.cells:=by rw[bK];exact aI fun x _=>by simp only[ez,Function.comp]
    rw[e,g5,m1];simp only[ae];rw[if_pos (Bh.2 hnd),g2]
   ·simp only[shift,ka,kT,V.av,V1.av,Cl.av,aQ,hlen];rw[d.len];rfl
   ·unfold xy;simp only;rw[d.gone,cF (by rw[d.len]; exact aq _),cw (by rw[d.len]; exact aq _)];rfl
   ·refine⟨by simp,fun _=>⟨rfl,rfl,fun tr htr=> ?_⟩⟩;rw[lp,if_pos rfl] at htr;cases htr;rfl
  ·cases h'
 |call c=>
  obtain⟨cl,as,ts⟩:=c;cases cl with
  |invoke a b=>cases hn
  |value f=>
   unfold uK at h;simp only at h
   have fin: ∀ (g:FuncId) (caps:List AV) (vs:List V1),g<jy->callee S.st f=some (g,caps)->args P S.st ts as caps=vs.map V1.av->Y g vs ρ (fun res out=>κ (q9 S.gh.length res) { S with gh:=S.gh++out.map some })=some r->
     ∃D v0 v adds cons S',lj P D/\gm D P S.st ⟨dst, .call { callee:= .value f,args:=as,argTypes:=ts },ty,pos,aft,gd⟩=some (v0,adds,cons)/\shift S.st.ng v0=V.av v/\S.st.make ⟨S.st.ng,adds,cons⟩=TS.st S'/\xy S S'=⟨S.st.ng,adds,cons⟩/\S'.ok/\v.ok S'.gh/\κ v S'=some r:=by
    intro g caps vs hg h1 h2 h3;obtain⟨res,out,h4,h5,h6⟩:=hY _ _ _ _ _ h3;have h4:=h4.fn hg;refine⟨LK dst g (vs.map V1.av) (res.av,out.map eS.tree),res.av,_,out.map eS.tree,[],_,B7 h4,?_,?_,KK S out,?_,TS.ok_gh hS (jb.apps _ _),wj h5,h6⟩
    ·simp_all [gm,KD]
    ·rw[wi]; rfl
    ·unfold xy;simp only[yq,cF (aq _),List.drop_length,be,Cj];rfl
   unfold Kq at h;split at h
   ·rename_i g x y hf';obtain⟨hg,h⟩:=ej h;have hg:g<jy:=ar hg;obtain⟨vs,h1,h⟩:=vm hΘ hS _ _ _ _ h;refine fin g [] vs hg ?_ ?_ h
    ·unfold callee;rw[ez,hf'];rfl
    grind [args]
   ·rename_i g caps hf';obtain⟨hg,h⟩:=ej h;have hg:g<jy:=ar hg;obtain⟨vs,h1,h⟩:=vm hΘ hS _ _ _ _ h
    have hcaps: ∀c∈caps,c.ok S.gh:=by have:=np hS f;rw[hf'] at this;exact this
    obtain⟨cs,h2,h⟩:=Ca hS _ _ _ hcaps h;refine fin g (caps.map Cl.av) (vs++cs.map .cl) hg ?_ ?_ h
    ·unfold callee;rw[ez,hf'];rfl
    ·unfold args;rw[h1,h2,b0,bK];rfl
   ·cases h
  |builtin b=>
   cases b with
   |append=>
    unfold uK at h;simp only at h;split at h
    ·rename_i s x t t' e1 e2;have hbb: ((match ts.toList with | [t,t'] =>Nat.beq t t'| _=>true)&&(match as.toList with |s::_=>Kt (S.opd s)| [] =>true))=true:=hb;rw[e1,e2] at hbb;simp only[al] at hbb;rw[hbb.1] at h;simp only[cond_true] at h;have h':=h;have ht:t=t':=ao hbb.1;clear h;have e1:as= #[s,x] :=by apply Array.ext'; simpa using e1
     have e2:ts= #[t,t'] :=by apply Array.ext'; simpa using e2
     subst e1 e2;subst ht;obtain⟨ti,el,elT',hti,he,g1,g2,g3,g4,g5,g6⟩:=Js hΘ hf;unfold Pn at h';simp only[hti] at h';split at h'
     ·rename_i el' sv xv he' hs hx;rw[he] at he';cases he';have hsv:=np hS s;rw[hs] at hsv;have hxv:=np hS x;rw[hx] at hxv;obtain⟨more,L,S1,d1,q1,h⟩:=PN (show xv.ok S.gh from hxv) h';have hroot:Kt (.v (.cl sv))=true:=by rw[<-hs]; exact hbb.2
      obtain⟨l0,cons,S2,q2,d2,h⟩:=NF (show sv.ok S1.gh from Cl.ok_mono d1.le hsv) hroot h;obtain⟨hbd,h⟩:=fw h;have hlen: (l0++more).length<=2 ^ 40:=aO (Nat.le_mul_of_pos_right _ g4) hbd;have hll: (l0++more).length=l0.length+more.length:=by simp
      have d:=d1.trans d2;refine⟨Fx, .own ⟨0,[]⟩ el.width 0 (l0.length+more.length),_,[.sl el.width ((l0++more).map el.row)],mC (L++cons),{ S2 with gh:=S2.gh++ [some ⟨el,l0++more,none⟩] },iT,?_,?_,d.make ⟨el,l0++more,none⟩,?_,TS.ok_gh (d.ok hS) (jb.app _ _),?_,h⟩
      ·simp only[gm];rw[if_pos trivial,g1];simp only[ae,g2,g5,wk,ez,hs,hx];show (jc S.st el.width el.flatB xv.av).bind _=_;rw[q1];simp only[ae];show (o4 (dropL S.st L) el.width sv.av).bind _=_;rw[<-d1.st,q2];simp only[ae,aN];rw[if_pos ⟨by rw[g3,<-hll]; exact hbd,by rw[<-hll]; exact hlen,el.width_pos,by rw[ym g2 g5 g6]; rfl⟩,b0]
      ·simp only[shift,ka,kT,V.av,V1.av,Cl.av,aQ,hll];rw[d.len];rfl
      ·unfold xy;simp only;rw[d.gone,cF (by rw[d.len]; exact aq _),cw (by rw[d.len]; exact aq _)];rfl
      ·refine⟨by simp,fun _=>⟨rfl,rfl,fun tr htr=> ?_⟩⟩;rw[lp,if_pos rfl] at htr;cases htr;rfl
     ·cases h'
    ·cases h
   | _=>cases hn
 |makeSlice t l c=>
  unfold uK at h;simp only at h;split at h
  ·rename_i ti hti;split at h
   ·rename_i el he;obtain⟨elT',g1,g2,g3,g4,g5,g6⟩:=(hΘ _ _ hti).el el he;obtain⟨n,h1,h⟩:=uh h;obtain⟨m,h2,h⟩:=uh h;split at h
    ·rename_i z hz;obtain⟨hb,h⟩:=fw h;have hz':=Ty.unflat_some _ _ _ hz
     have hzr:el.row z=List.zipWith zc el.shs el.zvs:=by rw[el.row_flat,hz',Cf]
     refine⟨Fx, .own ⟨0,[]⟩ el.width 0 n.toNat,_,[(⟨el,List.replicate n.toNat z,none⟩:eS)].map eS.tree,[],{ S with gh:=S.gh++ [(⟨el,List.replicate n.toNat z,none⟩:eS)].map some },iT,?_,?_,KK S _,?_,TS.ok_gh hS (jb.apps _ _),?_,h⟩
     ·simp only[gm,g1,ae,ez,h1,h2];rw[ym g2 g5 g6];simp only[ae]
      have hn:n<=n*(ti.el:Int):=by
       have h1e: (1:Int)<=ti.el:=by omega
       have:=de h1e hb.1
       rwa [Int.mul_one] at this
      rw[if_pos ⟨hb.1,hb.2.1,by rw[g3,Int.mul_comm]; exact hb.2.2,Int.le_trans hn hb.2.2⟩,g2,<-hzr];simp[eS.tree]
     ·simp only[shift,ka,kT,V.av,V1.av,Cl.av,aQ];rfl
     ·unfold xy;simp only[yq,cF (aq _),List.drop_length,be,Cj];rfl
     ·refine⟨by simp,fun _=>⟨rfl,by simp,fun tr htr=> ?_⟩⟩;rw[show [(⟨el,List.replicate n.toNat z,none⟩:eS)].map some= [some ⟨el,List.replicate n.toNat z,none⟩] from rfl,lp,if_pos rfl] at htr;cases htr;simp
    ·cases h
   ·cases h
  ·cases h
 | _=>cases hn
end
end
section
open Go
section
variable {ρ:Type} {P:Program} {Θ:nC} {S:TS} {Y:xZ}
open Classical in
noncomputable def yr (d:Option Tmp) (D1 D2:rY):rY:=fun d'=>if d'=d then D1 d' else D2 d'
theorem HM [dY] {d:Option Tmp} {D1 D2:rY} (h1:lj P D1) (h2:lj P D2):lj P (yr d D1 D2):=by
 intro d' f args gs res out h;unfold yr at h;split at h
 ·exact h1 _ _ _ _ _ _ h
 ·exact h2 _ _ _ _ _ _ h
theorem NG (d:Option Tmp) (D1 D2:rY):yr d D1 D2 d=D1 d:=by unfold yr; rw[if_pos rfl]
theorem NH {d d':Option Tmp} (D1 D2:rY) (h:d'≠d):yr d D1 D2 d'=D2 d':=by unfold yr; rw[if_neg h]
theorem PO [dY] (hΘ:gz P Θ) (hY:lM P Y) {ops:Array Oper}: ∀ (os:List Oper) (S:TS) (ms:List jl) (κ:TS->List jl->Option ρ) (r:ρ),S.ok->Ht Θ Y ops.toList os S ms κ=some r->
  ∃D SV ms',lj P D/\Dz D P ops os S.st=some (TS.st SV,ms')/\SV.ok/\κ SV (ms++ms')=some r:=by
 intro os
 induction os with
 |nil=>intro S ms κ r hS h; exact⟨Fx,S,[],iT,rfl,hS,by rw[bT]; exact h⟩
 |cons o os ih=>
  intro S ms κ r hS h;unfold Ht at h;cases hst:eg o with
  |true=>
   rw[hst] at h;simp only[cond_true] at h;obtain⟨D,SV,ms',h1,h2,h3,h4⟩:=ih _ _ _ _ hS h;refine⟨D,SV,⟨S.gh.length,[],[]⟩::ms',h1,?_,h3,?_⟩
   ·simp only[Dz,hst,if_true,h2,aH];rfl
   grind
  |false=>
   rw[hst] at h;simp only[cond_false] at h;cases hbo:fZ o with
   |true=>
    rw[hbo] at h;simp only[cond_true] at h;cases hgn:o.guard.isNone with
    |false=>rw[hgn] at h; cases h
    |true=>
    rw[hgn] at h;simp only[cond_true] at h;obtain⟨S3,g5,g6,_,h⟩:=kp (v:=V.v (.cl (.ptrB (S.bx.length-1-gG os) 0))) hS trivial h;obtain⟨D,SV,ms',k1,k2,k3,k4⟩:=ih _ _ _ _ g6 h;refine⟨D,SV,⟨S.gh.length,[],[]⟩::ms',k1,?_,k3,?_⟩
    ·simp only[Dz,hst,bc,if_false,hbo,if_true,hgn];rw[show S.st.put o.dst (.ptrB (S.st.nb-1-gG os) 0)=some S3.st from g5];simp only[ae,k2,aH];rfl
    grind
   |false=>
   rw[hbo] at h;simp only[cond_false] at h;obtain⟨b,S1,h1,h2,h3,h4,h⟩:=HG hS h;have hng:S.st.ng=S1.st.ng:=by rw[h2]
   cases b with
   |false=>
    simp only[cond_false] at h;obtain⟨S3,g5,g6,_,h⟩:=kp (v:= .tup []) h3 (fun x hx=>by cases hx) h;obtain⟨D,SV,ms',k1,k2,k3,k4⟩:=ih _ _ _ _ g6 h;refine⟨D,SV,⟨S1.gh.length,[],[]⟩::ms',k1,?_,k3,?_⟩
    ·simp only[Dz,hst,hbo,bc,if_false,h1,ae];rw[<-h2,show S1.st.put o.dst (.tup [])=some S3.st from g5];simp only[ae,k2,aH];rfl
    grind
   |true=>
    simp only[cond_true] at h;cases hnw:hZ o with
    |false=>
     rw[hnw] at h;simp only[cond_false] at h;obtain⟨v,S2,m1,m2,m3,m4,m5,h⟩:=zz (D:=Fx) hΘ h3 h;obtain⟨S3,g5,g6,_,h⟩:=kp m3 (by rw[m4]; exact m5) h;obtain⟨D,SV,ms',k1,k2,k3,k4⟩:=ih _ _ _ _ g6 h;refine⟨D,SV,⟨S1.gh.length,[],[]⟩::ms',k1,?_,k3,?_⟩
     ·have hV:eu D P S1.st o=some v.av:=by
       rw[<-m1]
       have : ∀D':rY,eu D P S1.st o=eu D' P S1.st o:=by
        intro D';obtain⟨dst,op,ty,pos,aft,gd⟩:=o;cases op with
        |call c=>
         obtain⟨cl,as,ts⟩:=c;cases cl with
         |value f=>cases hnw
         |invoke a b=>rfl
         |builtin b=>cases b<;>rfl
        |unOp op t x=>cases op<;>rfl
        |binOp op t x y t'=>cases op<;>rfl
        |makeFunc fn first caps=>cases fn<;>rfl
        |slice t x lo hi mx=>cases mx<;>rfl
        | _=>rfl
       exact this Fx
      simp only[Dz,hst,hbo,bc,if_false,h1,ae,if_true,hnw];rw[<-h2,hV];simp only[ae];rw[<-m2,g5];simp only[ae,k2,aH];rw[m2]; first |rfl|skip
     grind
    |true=>
     rw[hnw] at h;simp only[cond_true] at h;obtain⟨hc,h⟩:=ej h;simp only[al] at hc;obtain⟨D1,v0,v,adds,cons,S2,m1,m2,m3,m4,m5,m6,m7,h⟩:=KM hΘ hY h3 hnw hc.1.2 hc.2 h;obtain⟨S3,g5,g6,_,h⟩:=kp m6 m7 h;obtain⟨D,SV,ms',k1,k2,k3,k4⟩:=ih _ _ _ _ g6 h;refine⟨yr o.dst D1 D,SV,⟨S1.st.ng,adds,cons⟩::ms',HM m1 k1,?_,k3,?_⟩
     ·have hN:gm (yr o.dst D1 D) P S1.st o=some (v0,adds,cons):=by
       rw[<-m2];exact KJ (NG _ _ _)
      have hrest:Dz (yr o.dst D1 D) P ops os S3.st=some (SV.st,ms'):=by
       rw[<-k2];refine SU os _ (fun o' ho'=>NH _ _ (fun e=> ?_));have hl:=hc.1.1;unfold SP at hl;split at hl
       ·grind [QZ,Nat.beq_refl]
       ·cases hl
      simp_all [Dz]
     grind
theorem PP [dY] (hΘ:gz P Θ) (hY:lM P Y) {ops:Array Oper} {D:rY}: ∀ (os:List Oper) (S:TS) (κ:TS->Option ρ) (r:ρ),S.ok->Nc Θ Y os S κ=some r->
  ∃S',DA D P ops os S.st=some (TS.st S')/\S'.ok/\κ S'=some r:=by
 intro os
 induction os with
 |nil=>intro S κ r hS h; exact⟨S,rfl,hS,h⟩
 |cons o os ih=>
  intro S κ r hS h;unfold Nc at h;cases hst:eg o with
  |false=>simp_all [DA]
  |true=>
   rw[hst] at h;simp only[cond_true] at h;obtain⟨hc,h⟩:=ej h;simp only[al] at hc;obtain⟨D',v,S1,g1,g2,g3,g4,h⟩:=vo hΘ hY hS h;obtain⟨S',h1,h2,h3⟩:=ih S1 κ r g3 h;refine⟨S',?_,h2,h3⟩;have hd:o.dst=none:=cS.1 hc.2
   have hs:step D P S.st o=some (v.av,S1.st):=by
    rw[<-g2];obtain⟨dst,op,ty,pos,aft,gd⟩:=o;cases op with
    |store t a x=>rfl
    | _=>cases hst
   simp_all [one,St.put,DA]
theorem PQ (hΘ:gz P Θ): ∀ (os:List Oper) (S:TS) (κ:TS->Option ρ) (r:ρ),S.ok->Nb Θ os S κ=some r-> ∃S0,E6 P os S.st=some (TS.st S0)/\S0.ok/\κ S0=some r:=by
 intro os
 induction os with
 |nil=>intro S κ r hS h; exact⟨S,rfl,hS,h⟩
 |cons o os ih=>
  intro S κ r hS h;unfold Nb at h;unfold E6;split at h
  ·rename_i t hop;split at h
   ·rename_i ti hti
    obtain⟨S0,h1,h2,h3⟩:=ih { S with bx:=S.bx++ [ti.ty.zvs.map cC] } κ r ⟨hS.env,fun cs hcs c hc=>by
     rcases aY.1 hcs with h1|h1
     ·exact hS.bx cs h1 c hc
     grind [Nl]⟩ h
    refine⟨S0,?_,h2,h3⟩;rw[hop];simp only[(hΘ _ _ hti).ze,ae];rw[<-h1]
    congr 1
    rw[Jp,Nk];rfl
   ·cases h
  grind
theorem Jt {f g:TypeId->Bool} (h: ∀t,f t=true->g t=true) {t:TypeId} {a:AV} (hs:yb f t a=true):yb g t a=true:=by cases a<;>simp only[yb] at hs ⊢<;>first |exact h t hs|exact hs
theorem HN {f g:TypeId->Bool} (h: ∀t,f t=true->g t=true) {ops:List Oper} {B:List (List Nat)} {S SV:St} {i j:Nat} {oi oj:Oper} (hs:t6 f ops B S SV i j oi oj=true):t6 g ops B S SV i j oi oj=true:=by
 unfold t6 at hs ⊢;split at hs
 ·simp only[al] at hs ⊢;exact⟨Jt h hs.1,hs.2⟩
 ·cases hs
theorem HO {ops:List Oper} {B:List (List Nat)} {f g:Nat->Nat->Oper->Oper->Bool} (h: ∀i j oi oj,f i j oi oj=true->g i j oi oj=true) (hs:xf ops B f=true):xf ops B g=true:=by
 unfold xf at hs ⊢
 grind
theorem LP {f g:TypeId->Bool} (h: ∀t,f t=true->g t=true) {ops:List Oper} {B:List (List Nat)} {S SV:St} {ms:List jl} (hs:IP f ops B S ms SV=true):IP g ops B S ms SV=true:=by
 unfold IP at hs ⊢;simp only[al,bU] at hs ⊢
 grind [HO,HN]
theorem KN (hΘ:gz P Θ) (t:TypeId) (h:Kv Θ t=true):sg P t=true:=by
 unfold Kv at h;split at h
 ·rename_i ti hti;unfold sg;rw[(hΘ t ti hti).sh];unfold Ty.flatB at h;unfold Ty.shs
  grind
 ·cases h
theorem NI (hΘ:gz P Θ) {S:TS} {o:Oper} (h:Nd Θ S o=true): ∀t x v,o.op= .store t x v->yb (sg P) t (opd S.st x)=true:=by
 intro t x v ho;unfold Nd at h;rw[ho] at h;simp only at h;rw[ez];split at h
 ·rename_i e; rw[e]; rfl
 ·rename_i e; rw[e]; exact KN hΘ t h
 ·cases h
theorem LQ (hΘ:gz P Θ) {o:Oper} (h:Fu Θ o=true):BN P o=true:=by
 unfold BN;split
 ·rename_i t a b he;unfold Fu at h;rw[he] at h;simp only at h;split at h
  ·rename_i ti hti;split at h
   ·rename_i el hel;have hl:SD Θ t=true:=by unfold SD; rw[hti]; simp only[hel]
    grind [Js,sg,wk]
   ·cases h
  ·cases h
 ·rfl
theorem PR [dY] (hΘ:gz P Θ) (hY:lM P Y) {n0:Nat} {ops:List Oper} {B:List (List Nat)}: ∀ (os:List Oper) (k:Nat) (S:TS) (κ:TS->Option ρ) (r:ρ),(∀o∈os,nk P o=true)->(os≠ [] ->n0<=S.gh.length)->S.ok->Hu Θ Y n0 ops B k os S κ=some r->
  ∃ (T:Nat->St) (S':TS),T k=S.st/\T (k+os.length)=S'.st/\S'.ok/\κ S'=some r/\ ∀i o,os[i]? =some o->EA P n0 ops B T (k+i) o\/(i+1=os.length/\eg o=true/\MY P (T (k+i)) o (T (k+i+1))/\ ∀j,j<k+i->j∈B.getD (k+i) []):=by
 intro os
 induction os with
 |nil=>intro k S κ r _ _ hS h; exact⟨fun _=>S.st,S,rfl,rfl,hS,h,fun i o h=>by simp at h⟩
 |cons o os ih=>
  intro k S κ r hop hn0 hS h;have hop': ∀o∈os,nk P o=true:=fun x hx=>hop x (aL _ hx);have hok:=hop o aK;have hn0:=hn0 (by simp)
  have glue: ∀ {S3:TS},(os≠ [] ->n0<=S3.gh.length)->S3.ok->Hu Θ Y n0 ops B (k+1) os S3 κ=some r->((uJ o=true/\ll P n0 S.st o S3.st)\/MZ P n0 (MW ops B k) S.st o S3.st\/(os= [] /\eg o=true/\MY P S.st o S3.st/\ ∀j,j<k->j∈B.getD k []))->
    ∃ (T:Nat->St) (S':TS),T k=S.st/\T (k+(o::os).length)=S'.st/\S'.ok/\κ S'=some r/\ ∀i o',(o::os)[i]? =some o'->EA P n0 ops B T (k+i) o'\/(i+1=(o::os).length/\eg o'=true/\MY P (T (k+i)) o' (T (k+i+1))/\ ∀j,j<k+i->j∈B.getD (k+i) []):=by
   intro S3 hn3 hS3 h3 hst;obtain⟨T,S',t1,t2,hS',hk,hT⟩:=ih (k+1) S3 κ r hop' hn3 hS3 h3
   let T':Nat->St:=fun i=>if i=k then S.st else T i
   have e0:T' k=S.st:=if_pos rfl;have e1: ∀i,k<i->T' i=T i:=fun i hi=>if_neg (by omega);refine⟨T',S',e0,?_,hS',hk,fun i o' ho'=> ?_⟩
   ·grind
   ·cases i with
    |zero=>
     simp only[aP,af] at ho';subst ho';have e2:T' (k+1)=S3.st:=by rw[e1 _ (by omega),t1]
     rcases hst with h|h| ⟨rfl,h1,h2,h3⟩
     ·left;left
      grind
     ·left;right
      grind
     grind
    |succ i=>grind [EA]
  unfold Hu at h;cases hh:BX Y S o with
  |some z=>
   obtain⟨kd,g,caps,a,us,xs⟩:=z;rw[hh] at h;obtain⟨S3,g1,g2,g3⟩:=HK hΘ hY hS hh h
   have hv:uJ o=true:=by obtain⟨f,as,ts,x,t0,hop,_⟩:=Ch hh;unfold uJ hZ;rw[hop];rfl
   exact glue (fun _=>aO hn0 (g1 0).ng) g2 g3 (.inl ⟨hv,g1 n0⟩)
  |none=>
  rw[hh] at h;simp only at h;cases hs:eg o with
  |true=>
   rw[hs] at h;simp only[cond_true] at h;obtain⟨hc,h⟩:=ej h;obtain⟨D,v,S2,hD,g2,g3,g4,h⟩:=vo hΘ hY hS h;obtain⟨S3,g5,g6,g7,h⟩:=kp g3 g4 h;rcases Bool.or_eq_true_iff.1 hc with hc|hc
   ·have hst:=ll.store hD hok hs (NI hΘ hc) g2 g5 (n0:=n0);exact glue (fun _=>aO hn0 hst.ng) g6 h (.inl ⟨by simp[uJ,hs],hst⟩)
   ·simp only[al,dE,ay,bM,bR] at hc;exact glue (fun hne=>absurd hc.1 hne) g6 h (.inr (.inr ⟨hc.1,hs,MY.one hD hok (by unfold one; rw[g2]; exact g5),hc.2⟩))
  |false=>
  rw[hs] at h;simp only[cond_false] at h;cases hn:hZ o with
  |true=>
   rw[hn] at h;simp only[cond_true] at h;have hv:uJ o=true:=by simp[uJ,hn]
   cases hfl: !qU o&&Fu Θ o with
   |true=>simp only[hfl,Bool.true_or,cond_true] at h;simp only[al,b8] at hfl;obtain⟨D,v,S2,hD,g2,g3,g4,h⟩:=vo hΘ hY hS h;obtain⟨S3,g5,g6,g7,h⟩:=kp g3 g4 h;have hst:=ll.flat hD hok hn hfl.1 (LQ hΘ hfl.2) g2 g5 (n0:=n0) hn0;exact glue (fun _=>aO hn0 hst.ng) g6 h (.inl ⟨hv,hst⟩)
   |false=>
    simp only[hfl,co] at h;cases hfb:Pq Θ o&&Ku S o with
    |false=>
     obtain⟨D,v,S2,hD,g2,g3,g4,h⟩:=vo hΘ hY hS h
     grind
    |true=>
     have hfb':=hfb;simp only[al] at hfb';obtain⟨D,v0,v,adds,cons,S2,hD,g2,g3,g4,g8,g9,g10,h⟩:=KM hΘ hY hS hn hfb'.1 hfb'.2 h;simp only[hfb,dC] at h;obtain⟨hc,h⟩:=ej h;obtain⟨S3,g5,g6,g7,h⟩:=kp g9 g10 h
     have hst:ll P n0 S.st o S3.st:=ll.new hD hok hn g2 (by rw[g4,g3]; exact g5) hn0 fun ha r hr=>by
      rw[ha,co] at hc;have e:gone 0 S.gh S2.gh=cons:=congrArg jl.cons g8
      simp_all
     exact glue (fun _=>aO hn0 hst.ng) g6 h (.inl ⟨hv,hst⟩)
  |false=>rw[hn] at h;simp only[cond_false] at h;obtain⟨hp,h⟩:=ej h;obtain⟨v,S2,m1,m2,m3,m4,m5,h⟩:=zz (D:=Pg) hΘ hS h;obtain⟨S3,g5,g6,g7,h⟩:=kp m3 (by rw[m4]; exact m5) h;refine glue (fun _=>by rw[g7,m4]; exact hn0) g6 h (.inr (.inl ⟨by simp[uJ,hs,hn],hok,v.av,m1,hp,by rw[<-m2]; exact g5⟩))
theorem PS [dY] (hΘ:gz P Θ) (hY:lM P Y) (hm:P.follows .mixedOrders=true) {id:Nat} {ops:Array Oper} (hok:lV P (.region id ops true)=true) (hS:S.ok) {κ:TS->Option ρ} {r:ρ} (h:RH Θ Y ops.toList S κ=some r):
  qa P (.region id ops true) S.st (fun x S'=>x= .nor/\ ∃S1:TS,S'=S1.st/\S1.ok/\κ S1=some r):=by
 unfold RH at h;simp only[lV] at hok;cases hc:G7 ops||(ops.toList.any (TZ Y)&&QW ops) with
 |true=>
  rw[show (G7 ops.toList.toArray||(ops.toList.any (TZ Y)&&QW ops.toList.toArray))=true from hc] at h;simp only[cond_true] at h
  have hph:QW ops=true:=by
   unfold G7 at hc;simp only[bU,al] at hc;rcases hc with hc|hc
   ·exact hc.2
   ·exact hc.2
  obtain⟨T,S',t1,t2,h2,h3,hT⟩:=PR hΘ hY ops.toList 0 S κ r (fun o ho=>ay.1 hok o ho) (fun _=>aq _) hS h;have hsz:ops.toList.length=ops.size:=by simp
  rw[aQ,hsz] at t2;have tl: ∀ {i:Nat} {o:Oper},ops[i]? =some o->ops.toList[i]? =some o:=by intro i o h; simpa using h
  by_cases hl: ∃o,ops[ops.size-1]? =some o/\ ¬EA P S.st.ng ops.toList (gn ops.toList) T (ops.size-1) o
  ·obtain⟨o,ho,hnp⟩:=hl;have hlt:=(aG.1 ho).1;refine qa.phase hm (G8 hph) T t1 (m:=ops.size-1) (.inr ⟨by omega,o,ho,?_⟩) (fun i o hi ho=> ?_) ⟨rfl,S',t2,h2,h3⟩
   ·have:=hT _ o (tl ho);rw[aQ] at this;rcases this with h|h
    ·exact absurd h hnp
    ·exact⟨h.2.1,h.2.2.1,h.2.2.2⟩
   ·have:=hT _ o (tl ho);rw[aQ] at this;rcases this with h|h
    ·exact h
    ·omega
  ·refine qa.phase hm (G8 hph) T t1 (m:=ops.size) (.inl rfl) (fun i o hi ho=> ?_) ⟨rfl,S',t2,h2,h3⟩;have:=hT _ o (tl ho);rw[aQ] at this;rcases this with h|h
   ·exact h
   grind
 |false=>
 rw[show (G7 ops.toList.toArray||(ops.toList.any (TZ Y)&&QW ops.toList.toArray))=false from hc] at h;simp only[cond_false] at h;obtain⟨hd,h⟩:=ej h;have hd:Ki ops=true:=hd;obtain⟨S0,h0,hS0,h⟩:=PQ hΘ _ _ _ _ hS h;obtain⟨D,SV,ms,h1,h2,h3,h4⟩:=PO hΘ hY _ _ _ _ _ hS0 h;obtain⟨h5,h6⟩:=ej h4;rw[be] at h5;obtain⟨S',h7,h8,h9⟩:=PP (D:=D) (ops:=ops) hΘ hY _ _ _ _ h3 h6;exact qa.draw h1 hm (by unfold BD; rw[hd,hok]; rfl) h0 h2 (LP (KN hΘ) h5) h7 ⟨rfl,S',rfl,h8,h9⟩
def gg:Code->List Code
 | .seq a b=>gg a++gg b
 | .cond _ a b=>gg a++gg b
 | .block _ c=>gg c
 | .loop c=> [c]
 | _=> []
def jd [dY] (P:Program) (Λ:n9) (cs:List Code):Prop:= ∀c∈cs,∀ (S:TS) (ρ:Type) (κ:X->TS->Option ρ) (r:ρ),S.ok->Λ (gO c) S ρ κ=some r->qa P (.loop c) S.st (fun x S'=> ∃S1:TS,S'=S1.st/\S1.ok/\κ x S1=some r)
theorem FC [dY] (hΘ:gz P Θ) (hY:lM P Y) (hm:P.follows .mixedOrders=true) {Λ:n9}: ∀ (c:Code) (S:TS) (κ:X->TS->Option ρ) (r:ρ),lV P c=true->jd P Λ (gg c)->S.ok->zw Θ Y Λ c S κ=some r->
  qa P c S.st (fun x S'=> ∃S1:TS,S'=S1.st/\S1.ok/\κ x S1=some r):=by
 intro c
 induction c with
 |skip=>intro S κ r _ _ hS h; exact qa.skip ⟨S,rfl,hS,h⟩
 |exit i=>intro S κ r _ _ hS h; exact qa.exit ⟨S,rfl,hS,h⟩
 |ret=>intro S κ r _ _ hS h; exact qa.ret ⟨S,rfl,hS,h⟩
 |region id ops dr=>
  intro S κ r hok _ hS h;cases dr with
  |false=>exact qa.region (PJ hΘ hY _ _ _ _ (fun o ho=>ay.1 hok o ho) hS h)
  |true=>refine (PS hΘ hY hm hok hS h).mono (fun x S' hx=> ?_);obtain⟨rfl,hx⟩:=hx;exact⟨S',pI.refl,hx⟩
 |seq a b iha ihb=>
  intro S κ r hok hL hS h;simp only[lV,al] at hok;have hLa:jd P Λ (gg a):=fun c hc=>hL c (ct _ hc);have hLb:jd P Λ (gg b):=fun c hc=>hL c (List.mem_append_right _ hc);unfold zw at h;refine qa.seq ((iha S _ r hok.1 hLa hS h).mono (fun x S' hx=>⟨S',pI.refl,?_⟩))
  grind
 |cond t a b iha ihb=>
  intro S κ r hok hL hS h;simp only[lV,al] at hok
  grind [jd,gg,zw,B4,qa.cond]
 |block i c ih=>
  intro S κ r hok hL hS h;unfold zw at h;refine qa.block ((ih S _ r hok hL hS h).mono (fun x S' hx=>⟨S',pI.refl,?_⟩));obtain⟨S1,rfl,h1,h2⟩:=hx;cases x with
  |nor=>exact⟨S1,rfl,h1,h2⟩
  |ret=>exact⟨S1,rfl,h1,h2⟩
  |ext j=>
   simp only at h2 ⊢;cases hb:Nat.beq j i with
   |true=>rw[hb] at h2;rw[if_pos (ao hb)];exact⟨S1,rfl,h1,h2⟩
   |false=>rw[hb] at h2;rw[if_neg (by grind [Nat.beq_refl])];exact⟨S1,rfl,h1,h2⟩
 |loop c ih=>intro S κ r hok hL hS h;exact hL c (aD.2 rfl) S ρ κ r hS h
 | _=>intro S κ r hok; cases hok
end
end
section
open Go
section
variable {ρ:Type} {P:Program} {Θ:nC} {S:TS} {Y:xZ}
theorem FD (hS:S.ok) {gs:List eS} {et:Option Ty} {c:Cl} (hc:c.ok S.gh) {κ:Cl->List eS->TS->Option ρ} {r:ρ} (h:Nf S gs et c κ=some r):
  ∃c' gs' S',xe S.st (gs.map eS.tree) (HD et) c.av=some (Cl.av c',gs'.map eS.tree,TS.st S')/\S'.ok/\jb S.gh S'.gh/\jb (gs.map some) (gs'.map some)/\c'.ok (gs'.map some)/\κ c' gs' S'=some r:=by
 have new: ∀ (t:Ty) (l:List t.D) (n:Nat),n=l.length->(Cl.own ⟨gs.length,[]⟩ t.width 0 n true).ok ((gs++ [(⟨t,l,none⟩:eS)]).map some):=by intro t l n hn;refine⟨by simp,fun _=>⟨rfl,rfl,fun tr htr=> ?_⟩⟩;rw[b0] at htr;have e:=lp (G:=gs.map some) (x:=some (⟨t,l,none⟩:eS)) gs.length;simp only[aN,if_true] at e;have htr':fW (gs.map some++ [some (⟨t,l,none⟩:eS)]) gs.length=some tr:=htr;rw[e] at htr';cases htr';exact hn
 have grow: ∀ (x:eS),jb (gs.map some) ((gs++ [x]).map some):=fun x=>by rw[b0]; exact jb.app _ _
 unfold Nf at h;split at h
 ·refine⟨_,_,_,rfl,hS,jb.refl _,jb.refl _,?_,h⟩;trivial
 ·rename_i t;refine⟨_,_,S,?_,hS,jb.refl _,grow _,new t [] 0 rfl,h⟩;simp only[Cl.av,xe,HD,aN,b0,aW,cL];rfl
 ·rename_i p sz lo len w t';obtain⟨pr,pl⟩:=p;cases pl with
  |cons a l=>cases h
  |nil=>
   simp only at h;obtain⟨h1,h'⟩:=ej h;clear h;simp only[al] at h1;have h2:S.fz<=pr:=ar h1.1;have h3:t'.width=sz:=ao h1.2;obtain⟨t,l,k1,k2,h⟩:=ic h';obtain⟨k3,h⟩:=ej h;have k3:t.width=sz:=ao k3
   have fin0: ∀ (lo len:Nat),lo+len<=l.length->(lo=0\/sz<=3/\t.flatB=true)->xe S.st (gs.map eS.tree) (HD (some t')) (.own ⟨pr,[]⟩ sz lo len)=some (.own ⟨gs.length,[]⟩ sz 0 len,(gs++ [(⟨t,(l.drop lo).take len,none⟩:eS)]).map eS.tree,({ S with gh:=fK S.gh pr none }:TS).st):=by
    intro lo len hlen hoff;simp only[xe];have hrows:S.st.rows ⟨pr,[]⟩ sz=some (l.map t.row):=by rw[<-k3]; exact kV k1
    rw[if_pos ⟨trivial,by show sz=t'.width; exact h3.symm,h2⟩,hrows];simp only[ae,aN];rw[if_pos ⟨hlen,hoff.imp id fun h=>⟨h.1,te h.2 l⟩⟩,yl];simp only[HD,h3,b0,aW,cL,eS.tree,cz,cQ,k3]
   have fin: ∀ (len:Nat),len<=l.length->xe S.st (gs.map eS.tree) (HD (some t')) (.own ⟨pr,[]⟩ sz 0 len)=some (.own ⟨gs.length,[]⟩ sz 0 len,(gs++ [(⟨t,l.take len,none⟩:eS)]).map eS.tree,({ S with gh:=fK S.gh pr none }:TS).st):=fun len hlen=>by
    have:=fin0 0 len (by omega) (.inl rfl)
    rwa [bP] at this
   cases w with
   |true=>
    obtain⟨e1,e2,e3⟩:=vl hc k2;refine⟨_,_,_,?_,TS.ok_gh hS (jb.gone _ _),jb.gone _ _,grow _,by rw[<-k3]; exact new t l _ rfl,h⟩
    simp_all [Cl.av]
   |false=>
    simp only[cond_false] at h;rcases Pt h with ⟨h4,h⟩| ⟨_,h⟩
    case inr=>
     obtain⟨hz,h⟩:=ej h;simp only[al] at hz;obtain⟨h4,h⟩:=fw h;refine⟨_,_,_,?_,TS.ok_gh hS (jb.gone _ _),jb.gone _ _,grow _,by rw[<-k3]; exact new t ((l.drop lo).take len) _ rfl,h⟩;have:=fin0 lo len h4 (.inr ⟨ar hz.2,hz.1⟩);have hl: ((l.drop lo).take len).length=len:=by simp; omega
     simp only[Cl.av];rw[hl];exact this
    case inl=>
     refine⟨_,_,_,?_,TS.ok_gh hS (jb.gone _ _),jb.gone _ _,grow _,by rw[<-k3]; exact new t (l.take len) _ rfl,h⟩
     grind [Cl.av]
 ·rename_i p sz i j;obtain⟨pr,pl⟩:=p;cases pl with
  |cons a l=>cases h
  |nil=>
   simp only at h;obtain⟨h1,h'⟩:=ej h;clear h;obtain⟨t,l,k1,k2,h⟩:=ic h';obtain⟨k3,h⟩:=ej h;have k3:t.width=sz:=ao k3;have hrows:S.st.rows ⟨pr,[]⟩ sz=some (l.map t.row):=by rw[<-k3]; exact kV k1
   refine⟨_,_,_,?_,TS.ok_gh hS (jb.gone _ _),jb.gone _ _,grow _,?_,h⟩
   ·simp only[Cl.av,xe];rw[if_pos ⟨trivial,ar h1⟩,hrows];simp only[ae,yl,aN,b0,aW,cL,eS.tree,k3]
   ·show gs.length< ((gs++ [(⟨t,l,none⟩:eS)]).map some).length;simp
 ·cases h
theorem NJ: ∀ (ets:List (Option Ty)) (cs:List Cl) (S:TS) (gs:List eS) (κ:List Cl->List eS->TS->Option ρ) (r:ρ),S.ok->(∀c∈cs,c.ok S.gh)->Kw S gs ets cs κ=some r->
  ∃cs' gs' S',tZ S.st (gs.map eS.tree) (ets.map HD) (cs.map Cl.av)=some (cs'.map Cl.av,gs'.map eS.tree,TS.st S')/\S'.ok/\jb S.gh S'.gh/\jb (gs.map some) (gs'.map some)/\(∀c∈cs',c.ok (gs'.map some))/\κ cs' gs' S'=some r:=by
 intro ets
 induction ets with
 |nil=>
  intro cs S gs κ r hS hcs h;cases cs with
  |nil=>exact⟨[],gs,S,rfl,hS,jb.refl _,jb.refl _,(fun c hc=>by cases hc),h⟩
  |cons c cs=>cases h
 |cons et ets ih=>
  intro cs S gs κ r hS hcs h;cases cs with
  |nil=>cases h
  |cons c cs=>
   unfold Kw at h;obtain⟨c',g1,S1,h1,h2,h3,h4,h5,h⟩:=FD hS (hcs c aK) h;obtain⟨cs',g2,S2,k1,k2,k3,k4,k5,h⟩:=ih cs S1 g1 _ r h2 (fun x hx=>Cl.ok_mono h3 (hcs x (aL _ hx))) h;refine⟨c'::cs',g2,S2,?_,k2,h3.trans k3,h4.trans k4,fun x hx=> ?_,h⟩
   ·simp only[aW,tZ,h1,ae,k1,aH]
   ·rcases aX.1 hx with rfl|hx
    all_goals grind [Cl.ok_mono]
theorem PT (hΘ:gz P Θ) (hS:S.ok) {gs:List eS} {t:TypeId} {v:V} (hv:v.ok S.gh) {κ:V1->List eS->TS->Option ρ} {r:ρ} (h:RI Θ S gs t v κ=some r):
  ∃v' gs' S',Li P S.st (gs.map eS.tree) t v.av=some (V1.av v',gs'.map eS.tree,TS.st S')/\S'.ok/\jb S.gh S'.gh/\jb (gs.map some) (gs'.map some)/\v'.ok (gs'.map some)/\κ v' gs' S'=some r:=by
 unfold RI at h;split at h
 ·rename_i p sz i j;obtain⟨c',g1,S1,h1,h2,h3,h4,h5,h⟩:=FD hS (show Cl.ok S.gh (.ptrT p sz i j) from hv) h;exact⟨.cl c',g1,S1,h1,h2,h3,h4,h5,h⟩
 split at h
 ·cases h
 ·rename_i ti hti;have hsh:=(hΘ _ _ hti).sh;split at h
  ·rename_i cs _;obtain⟨cs',g1,S1,h1,h2,h3,h4,h5,h⟩:=NJ _ _ _ _ _ _ hS hv h;refine⟨.agg cs',g1,S1,?_,h2,h3,h4,h5,h⟩;simp only[V.av,V1.av,Li,hsh];rw[show ti.ty.shs=ti.ty.csh.map HD from rfl,h1];rfl
  ·rename_i c _;obtain⟨c',g1,S1,h1,h2,h3,h4,h5,h⟩:=FD hS hv h;refine⟨.cl c',g1,S1,?_,h2,h3,h4,h5,h⟩
   have e:Li P S.st (gs.map eS.tree) t (V.v (.cl c)).av=xe S.st (gs.map eS.tree) ((nT P 9 t).headD 0) c.av:=by
    cases c with
    |c x=>cases x<;>rfl
    | _=>rfl
   rw[e,hsh]
   have e2:ti.ty.shs.headD 0=HD (ti.ty.csh.headD none):=by
    unfold Ty.shs;cases ti.ty.csh with
    |nil=>rfl
    |cons a l=>cases a<;>rfl
   rw[e2];exact h1
  ·cases h
theorem NK (hΘ:gz P Θ): ∀ (rs:List (TypeId×V)) (S:TS) (gs:List eS) (κ:List V1->List eS->Option ρ) (r:ρ),S.ok->(∀x∈rs,x.2.ok S.gh)->Hv Θ S gs rs κ=some r->
  ∃vs gs',IM P S.st (gs.map eS.tree) (rs.map fun x=>(x.1,x.2.av))=some (vs.map V1.av,gs'.map eS.tree)/\jb (gs.map some) (gs'.map some)/\(∀v∈vs,v.ok (gs'.map some))/\vs.length=rs.length/\κ vs gs'=some r:=by
 intro rs
 induction rs with
 |nil=>intro S gs κ r hS hrs h; exact⟨[],gs,rfl,jb.refl _,(fun v hv=>by cases hv),rfl,h⟩
 |cons x rs ih=>
  intro S gs κ r hS hrs h;obtain⟨t,v⟩:=x;unfold Hv at h;obtain⟨v',g1,S1,h1,h2,h3,h4,h5,h⟩:=PT hΘ hS (hrs _ aK) h;obtain⟨vs,g2,k1,k2,k3,k4,h⟩:=ih S1 g1 _ r h2 (fun x hx=>V.ok_mono h3 (hrs x (aL _ hx))) h;refine⟨v'::vs,g2,?_,h4.trans k2,fun y hy=> ?_,by simp[k4],h⟩
  ·simp only[aW,IM,h1,ae,k1,aH]
  ·rcases aX.1 hy with rfl|hy
   all_goals grind [V1.ok_mono]
theorem PU (hΘ:gz P Θ) (hS:S.ok): ∀ (rs:List ResultVar) (ts:List TypeId) (κ:List (TypeId×V)->Option ρ) (r:ρ),Jn Θ S rs ts κ=some r->
  ∃l:List (TypeId×V),rs.mapM (Ak P S.st)=some (l.map fun x=>x.2.av)/\l.map (·.1)=ts/\(∀x∈l,x.2.ok S.gh)/\κ l=some r:=by
 intro rs
 induction rs with
 |nil=>
  intro ts κ r h;cases ts with
  |nil=>exact⟨[],rfl,rfl,(fun x hx=>by cases hx),h⟩
  |cons t ts=>cases h
 |cons a rs ih=>
  intro ts κ r h;cases ts with
  |nil=>cases a<;>cases h
  |cons t ts=>
   cases a with
   |tmp a=>
    unfold Jn at h;obtain⟨l,h1,h2,h3,h⟩:=ih ts _ r h;refine⟨(t,jx S.env a)::l,?_,by simp[h2],fun x hx=> ?_,h⟩
    ·simp only[cT,h1,Ak];rfl
    ·rcases aX.1 hx with rfl|hx
     all_goals grind [Bl]
   |cell a t'=>
    unfold Jn at h
    have hw:0<P.cellsOf t':=by
     have h':=h;unfold Hk at h';split at h'
     ·rename_i ti hti;rw[(hΘ _ _ hti).cells];exact Ty.width_pos _
     ·cases h'
    obtain⟨u,g1,g2,h⟩:=Hz hΘ hS (Bl hS a) h;obtain⟨l,h1,h2,h3,h⟩:=ih ts _ r h;refine⟨(t,u)::l,?_,by simp[h2],fun x hx=> ?_,h⟩
    ·simp only[cT,h1,Ak];rw[if_pos hw];have :load P S.st t' (S.st.env a)=some u.av:=g1;rw[this];rfl
    grind
theorem PV {α β γ:Type} (f:α×β->γ): ∀l:List (α×β),(l.map (·.1)).zip (l.map f)=l.map fun x=>(x.1,f x)
 | [] =>rfl
 |a::l=>by grind
theorem PW (vs:List V1): (Fv vs).av=SJ (vs.map V1.av):=by
 match vs with
 | [] =>rfl
 | [v] =>rfl
 |v::u::vs=>rfl
theorem Ck: ∀ (args:List V1) (n t:Nat),(jx (rd n args) (n+t)).av=(args.map V1.av).getD t .dead
 | [],n,t=>by simp[rd,jx]; rfl
 |a::l,n,0=>by simp[rd,jx]; rfl
 |a::l,n,t+1=>by
  have :Nat.beq n (n+(t+1))=false:=by
   cases h:Nat.beq n (n+(t+1)) with
   |false=>rfl
   |true=>have:=ao h; omega
  simp only[rd,jx,this,cond_false];rw[show n+(t+1)=(n+1)+t by omega,Ck l (n+1) t];simp
theorem Cm: ∀ (args:List V1) (n:Nat) (x:Nat×V),x∈rd n args-> ∃a∈args,x.2= .v a
 | [],n,x,h=>by cases h
 |a::l,n,x,h=>by
  simp only[rd,aX] at h;rcases h with rfl|h
  ·exact⟨a,aK,rfl⟩
  ·obtain⟨b,hb,he⟩:=Cm l (n+1) x h;exact⟨b,aL _ hb,he⟩
theorem HP (a:List V1) (t:Nat): (jx (rd 0 a) t).av=(a.map V1.av).getD t .dead:=by
 have:=Ck a 0 t
 rwa [aQ] at this
theorem Ju (_P:Program) (S:TS): ∀ (n r:Nat) (gs:List eS),we S r n=some gs->((List.range' r n).map fun r=>(S.st.gh r).getD .dd)=gs.map eS.tree:=by
 intro n
 induction n with
 |zero=>simp_all [we]
 |succ n ih=>
  intro r gs h;simp only[we] at h;split at h
  ·rename_i t l hg;split at h
   ·rename_i ts hts;simp only[af] at h;subst h;rw[cJ,aW,aW,ih _ _ hts]
    congr 1
    show ((fW S.gh r).map eS.tree).getD .dd=_;rw[hg];rfl
   ·cases h
  ·cases h
theorem Jv [dY] (hΘ:gz P Θ) (hY:lM P Y) (hm:P.follows .mixedOrders=true) {Λ:n9} {f:FuncId} {fn:Func} (hf:GA P f=some fn) (hL: ∀c,fn.body=some c->jd P Λ (gg c)) {args:List V1} {G:List eS} {m:Nat} (hmG:m<=G.length) (ha: ∀a∈args,a.ok (G.map some)) {res:V} {out:List eS}
  (h:SQ Θ Y Λ fn args G m (fun v g=>some (v,g))=some (res,out)):jI P f (args.map V1.av) (G.map eS.tree) m res.av (out.map eS.tree):=by
 unfold SQ at h;split at h
 ·cases h
 ·rename_i c hc
  have hcok:lV P c=true:=by
   unfold GA at hf;simp only[ai] at hf;obtain⟨fn',g1,g2⟩:=hf;split at g2
   ·cases g2
   ·grind
  have hS0: ({ env:=rd 0 args,bx:= [],gh:=G.map some,fz:=m,nt:=args.length+(fn.ntmps-args.length) }:TS).ok:=
   ⟨fun x hx=>by obtain⟨a,h1,h2⟩:=Cm _ _ _ hx; rw[h2]; exact ha a h1,fun cs hcs=>by cases hcs⟩
  have hbeg: ({ env:=rd 0 args,bx:= [],gh:=G.map some,fz:=m,nt:=args.length+(fn.ntmps-args.length) }:TS).st=Lz fn.ntmps (args.map V1.av) (G.map eS.tree) m:=by
   unfold TS.st Lz Rx;simp only[aN,cd]
   congr 1
   ·funext t
    exact HP _ t
   ·funext r
    show (fW (G.map some) r).map eS.tree=(G.map eS.tree)[r]?;unfold fW;rw[gv,ap,ap];cases G[r]?<;>rfl
  have hW:=FC hΘ hY hm c _ _ _ hcok (hL c hc) hS0 h;rw[hbeg] at hW
  have main: ∀ (S1:TS),S1.ok->(Jn Θ S1 fn.results.toList fn.resultTypes.toList fun rs=>match we S1 0 m with
    |some gs=>Hv Θ S1 gs rs fun vs gs'=>some (Fv vs,gs')
    |none=>none)=some (res,out)->M0 P fn.results.toList fn.resultTypes.toList m S1.st=some (res.av,out.map eS.tree):=by
   intro S1 hS1 h0;obtain⟨l,h1,h2,h3,h⟩:=PU (P:=P) hΘ hS1 _ _ _ _ h0;clear h0;split at h
   ·rename_i gs hgs;have hgs:=Ju P S1 m 0 gs hgs;obtain⟨vs,gs',k1,k2,k3,k4,h⟩:=NK (P:=P) hΘ _ _ _ _ _ hS1 h3 h;simp only[af,an] at h;obtain⟨rfl,rfl⟩:=h;unfold M0;rw[h1];simp only[ae,aN]
    have hz: (fn.resultTypes.toList.zip (l.map fun x=>x.2.av))=l.map fun x=>(x.1,x.2.av):=by rw[<-h2];exact PV _ l
    rw[if_pos (by rw[<-h2]; simp),hz,cq,hgs,k1];simp only[aH,PW]
   ·cases h
  refine Hb hf hc (by simpa using hmG) (hW.mono (fun x S' hx=>⟨S',pI.refl,?_⟩))
  grind
theorem NL {G:List (Option eS)} {a:V1} (h:a.ok []):a.ok G:=V1.ok_mono (G:= []) ⟨aA _,fun r tr hr=>by cases hr⟩ h
theorem RM [dY] (hΘ:gz P Θ) (hY:lM P Y) (hm:P.follows .mixedOrders=true) {Λ:n9} {f:FuncId} {fn:Func} (hf:GA P f=some fn) (hL: ∀c,fn.body=some c->jd P Λ (gg c)) {args:List V1} (ha: ∀a∈args,a.ok []) {res:V} {out:List eS}
  (h:T0 Θ Y Λ fn args (fun v g=>some (v,g))=some (res,out)):qY P f (args.map V1.av) [] res.av (out.map eS.tree):=Jv hΘ hY hm hf hL (aA 0) ha h
theorem KO [dY] (hΘ:gz P Θ) (hY:lM P Y) (hm:P.follows .mixedOrders=true) {Λ:n9} {f:FuncId} {fn:Func} (hf:GA P f=some fn) (hL: ∀c,fn.body=some c->jd P Λ (gg c)) {m:Nat} (hm1:m<=1) {el:Ty} {l:List el.D} {args:List V1} (ha: ∀a∈args,a.ok []) {res:V} {out:List eS}
  (h:Ng Θ Y Λ fn m el l args (fun v g=>some (v,g))=some (res,out)):jI P f (.own ⟨0,[]⟩ el.width 0 l.length::args.map V1.av) [.sl el.width (l.map el.row)] m res.av (out.map eS.tree):=
 Jv hΘ hY hm hf hL (args:= .cl (.own ⟨0,[]⟩ el.width 0 l.length true)::args) (G:= [⟨el,l,none⟩]) hm1 (List.forall_mem_cons.2 ⟨⟨cN,fun _=>⟨rfl,rfl,fun tr htr=>by have htr:some (⟨el,l,none⟩:eS)=some tr:=htr;cases htr;rfl⟩⟩,fun a h=>NL (ha a h)⟩) h
theorem PX [dY] (hΘ:gz P Θ) (hY:lM P Y) (hm:P.follows .mixedOrders=true) {Λ:n9} {f:FuncId} {fn:Func} (hf:GA P f=some fn) (hL: ∀c,fn.body=some c->jd P Λ (gg c)) {el:Ty} {l:List el.D} {args:List V1} (ha: ∀a∈args,a.ok []) {res:V} {out:List eS}
  (h:RK Θ Y Λ fn el l args (fun v g=>some (v,g))=some (res,out)):jI P f (.ptrT ⟨0,[]⟩ el.width 0 0::args.map V1.av) [.sl el.width (l.map el.row)] 1 res.av (out.map eS.tree):=
 Jv hΘ hY hm hf hL (args:= .cl (.ptrT ⟨0,[]⟩ el.width 0 0)::args) (G:= [⟨el,l,none⟩]) (aq 1) (List.forall_mem_cons.2 ⟨cN,fun a h=>NL (ha a h)⟩) h
end
end
section
open Go
def AR:List Nat->Nat->Nat->Option Nat
 | [],_,_=>none
 |a::l,x,n=>bif Nat.beq a x then some n else AR l x (n+1)
def xD (bs ls:List Nat):Cl->Cl
 | .own p sz lo len w=>match AR ls p.r 0 with |some k=> .own ⟨k,p.l⟩ sz lo len w|none=> .dead
 | .ptrT p sz i j=>match AR ls p.r 0 with |some k=> .ptrT ⟨k,p.l⟩ sz i j|none=> .dead
 | .ptrB n j=>match AR bs n 0 with |some k=> .ptrB k j|none=> .dead
 |c=>c
def NM (bs ls:List Nat):V1->V1
 | .cl c=> .cl (xD bs ls c)
 | .agg cs=> .agg (cs.map (xD bs ls))
 | .fn f cs=> .fn f (cs.map (xD bs ls))
def NN (bs ls:List Nat):V->V
 | .v x=> .v (NM bs ls x)
 | .tup _=>V.dead
def KP:List Nat->List Nat->List Nat
 | [],acc=>acc
 |a::l,acc=>match AR acc a 0 with |some _=>KP l acc|none=>KP l (acc++ [a])
def Cn:List Nat->Bool
 | [] =>true
 |a::l=>(match AR l a 0 with |some _=>false|none=>true)&&Cn l
def Ub:Cl->List Nat| .ptrB n _=> [n] | _=> []
def SW:Cl->List Nat| .own p _ _ _ _=> [p.r] | .ptrT p _ _ _=> [p.r] | _=> []
def V1.all:V1->List Cl| .cl c=> [c] | .agg cs=>cs| .fn _ cs=>cs
def V.all:V->List Cl| .v x=>x.all| .tup _=> []
def KQ (S:TS) (keep:List Nat):List Nat:=KP (keep.flatMap fun t=>(jx S.env t).all.flatMap Ub) []
def Q0 (S:TS) (keep bs:List Nat):List Nat:=KP (List.range S.fz++(keep.flatMap fun t=>(jx S.env t).all.flatMap SW)++bs.flatMap fun b=>((o0 S.bx b).getD []).flatMap SW) []
def jJ (S:TS) (keep bs ls:List Nat):TS where
 env:=keep.map fun t=>(t,NN bs ls (jx S.env t))
 bx:=bs.map fun b=>((o0 S.bx b).getD []).map (xD bs ls)
 gh:=ls.map fun r=>fW S.gh r
 fz:=S.fz
 nt:=S.nt
def FE (S:TS) (bs ls:List Nat):Bool:=Cn bs&&Cn ls&&bs.all (fun b=>Nat.blt b S.bx.length)&&SM (ls.take S.fz) (List.range S.fz)&&ls.all (fun r=>Nat.blt r S.gh.length)
def LR (G:List (Option eS)):Cl->Cl
 | .own p sz lo len true=> .own p sz lo (match o0 G p.r with |some (some tr)=>tr.l.length| _=>len) true
 |c=>c
def NP (G:List (Option eS)):V1->V1
 | .cl c=> .cl (LR G c)
 | .agg cs=> .agg (cs.map (LR G))
 | .fn f cs=> .fn f (cs.map (LR G))
def SX (G:List (Option eS)):V->V
 | .v x=> .v (NP G x)
 | .tup l=> .tup (l.map (NP G))
def RN (S:TS):TS:= { S with env:=S.env.map (fun x=>(x.1,SX S.gh x.2)),bx:=S.bx.map (fun cs=>cs.map (LR S.gh)) }
def zC {ρ:Type} (keep:List Nat) (S:TS) (κ:TS->Option ρ):Option ρ:=bif FE S (KQ S keep) (Q0 S keep (KQ S keep)) then κ (RN (jJ S keep (KQ S keep) (Q0 S keep (KQ S keep)))) else none
theorem zD: ∀ {l:List Nat} {x n k:Nat},AR l x n=some k->n<=k/\l[k-n]? =some x
 | [],x,n,k,h=>by cases h
 |a::l,x,n,k,h=>by
  simp only[AR] at h;cases hb:Nat.beq a x with
  |true=>simp_all
  |false=>
   rw[hb] at h;obtain⟨h1,h2⟩:=zD (l:=l) h
   grind
theorem EM: ∀ {l:List Nat} {x n:Nat},AR l x n=none->x∉l
 | [],x,n,_=>by simp
 |a::l,x,n,h=>by
  simp only[AR] at h;cases hb:Nat.beq a x with
  |true=>rw[hb] at h; cases h
  |false=>
   rw[hb] at h;have:=EM (l:=l) h;intro hm
   simp_all
theorem xE: ∀ {l:List Nat},Cn l=true-> ∀ (i j x:Nat),l[i]? =some x->l[j]? =some x->i=j
 | [],_,i,j,x,hi,_=>by simp at hi
 |a::l,h,i,j,x,hi,hj=>by
  simp only[Cn,al] at h
  have hna:a∉l:=by
   have h1:=h.1;split at h1
   ·cases h1
   ·rename_i hp; exact EM hp
  cases i with
  |zero=>
   simp only[aP,af] at hi;subst hi;cases j with
   |zero=>rfl
   |succ j=>simp only[cG] at hj; exact absurd (au hj) hna
  |succ i=>
   simp only[cG] at hi;cases j with
   |zero=>simp only[aP,af] at hj;subst hj;exact absurd (au hi) hna
   |succ j=>simp only[cG] at hj;rw[xE h.2 i j x hi hj]
def Bt.ren (bt:Bt) (bs ls:List Nat):Bt where
 β:=fun p=>bt.β ⟨ls.getD p.r 0,p.l⟩
 κ:=fun p=>bt.κ ⟨ls.getD p.r 0,p.l⟩
 bb:=fun n=>bt.bb (bs.getD n 0)
 nb:=bs.length
 ng:=ls.length
 A:=bt.A
theorem FF {w:World} {bt:Bt} {bs ls:List Nat} {c:Cl} {u:Value} (h:VR w bt c.av u):VR w (bt.ren bs ls) (xD bs ls c).av u:=by
 have lt: ∀ {l:List Nat} {x k:Nat},AR l x 0=some k->k<l.length/\l.getD k 0=x:=by intro l x k hk;obtain⟨_,h2⟩:=zD hk;rw[cY] at h2;exact⟨(aj.1 h2).1,by simp[aF,h2]⟩
 cases c with
 |c x=>
  cases x with
  |sc v=>cases h with |sc h=>exact .sc h
  |ls t l=>cases h with |ro h=>exact .ro h
 |em=>cases h with |em a=>exact .em a
 |own p sz lo len wh=>
  simp only[xD];split
  ·rename_i k hk;obtain⟨h1,h2⟩:=lt hk;have hp: (⟨ls.getD k 0,p.l⟩:ff)=p:=by rw[h2]
   have e1: (bt.ren bs ls).κ ⟨k,p.l⟩=bt.κ p:=by have e: (bt.ren bs ls).κ ⟨k,p.l⟩=bt.κ (ff.mk (ls.getD k 0) p.l):=rfl;rw[e,hp]
   have e2: (bt.ren bs ls).β ⟨k,p.l⟩=bt.β p:=by have e: (bt.ren bs ls).β ⟨k,p.l⟩=bt.β (ff.mk (ls.getD k 0) p.l):=rfl;rw[e,hp]
   cases h with
   |own hp' hc hkk ha=>exact .own h1 hc (by rw[e1]; exact hkk) (by rw[e2]; exact ha)
  ·exact .dead _
 |pro cs=>cases h with |pro cs hs hA hr ht=>exact .pro cs hs hA hr ht
 |ptrB n j=>
  simp only[xD];split
  ·rename_i k hk;obtain⟨h1,h2⟩:=lt hk;cases h with
   |ptrB j hn=>
    have :bt.bb n=(bt.ren bs ls).bb k:=by show bt.bb n=bt.bb (bs.getD k 0); rw[h2]
    rw[this];exact .ptrB j h1
  ·exact .dead _
 |ptrT p sz i j=>
  simp only[xD];split
  ·rename_i k hk;obtain⟨h1,h2⟩:=lt hk;have hp: (⟨ls.getD k 0,p.l⟩:ff)=p:=by rw[h2]
   cases h with
   |ptrT sz i j hp' hkk=>
    have e1:bt.β p=(bt.ren bs ls).β ⟨k,p.l⟩:=by show bt.β p=bt.β ⟨ls.getD k 0,p.l⟩; rw[hp]
    rw[e1];exact .ptrT sz i j h1 (by show _<bt.κ ⟨ls.getD k 0,p.l⟩; rw[hp]; exact hkk)
  ·exact .dead _
 |dead=>exact .dead _
theorem NQ {w:World} {bt:Bt} {bs ls:List Nat} {v:V1} {u:Value} (h:VR w bt v.av u):VR w (bt.ren bs ls) (NM bs ls v).av u:=by
 have cells: ∀ (cs:List Cl) (us:List Value),us.length=cs.length->(∀ (k:Nat) (c:AV) (u:Value),(cs.map Cl.av)[k]? =some c->us[k]? =some u->VR w bt c u)-> ∀ (k:Nat) (c:AV) (u:Value),((cs.map (xD bs ls)).map Cl.av)[k]? =some c->us[k]? =some u->VR w (bt.ren bs ls) c u:=by intro cs us _ hr k c u hk hu;rw[ap,ap] at hk;simp only[ak] at hk;obtain⟨c1,⟨c0,hc0,rfl⟩,rfl⟩:=hk;exact FF (hr k c0.av u (by rw[ap,hc0]; rfl) hu)
 cases v with
 |cl c=>exact FF h
 |agg cs=>
  simp only[V1.av] at h;cases h with
  |agg hl ho hr=>exact .agg (by simpa using hl) ho (cells cs _ (by simpa using hl) hr)
 |fn f cs=>
  simp only[V1.av] at h;cases h with
  |fn f hl hr=>exact .fn f (by simpa using hl) (cells cs _ (by simpa using hl) hr)
theorem PY {w:World} {bt:Bt} {bs ls:List Nat} {v:V} {u:Value} (h:VR w bt v.av u):VR w (bt.ren bs ls) (NN bs ls v).av u:=by
 cases v with
 |v x=>exact NQ h
 |tup l=>exact .dead _
theorem EN (S:TS) (f:V->V): ∀ (keep:List Nat) (t:Nat),jx (keep.map fun t=>(t,f (jx S.env t))) t=V.dead\/jx (keep.map fun t=>(t,f (jx S.env t))) t=f (jx S.env t)
 | [],t=> .inl rfl
 |u::l,t=>by
  simp only[aW,jx];cases hb:Nat.beq u t with
  |true=>simp_all
  |false=>exact EN S f l t
theorem wm (S:TS) (keep bs ls:List Nat) (r:Nat):fW (jJ S keep bs ls).gh r=(ls[r]?).bind fun q=>fW S.gh q:=by show (o0 (ls.map fun r=>fW S.gh r) r).getD none=_;rw[gv,ap];cases ls[r]?<;>rfl
theorem HQ [dY] {S:TS} {keep bs ls:List Nat} (h:FE S bs ls=true):pI S.st (jJ S keep bs ls).st:=by
 unfold FE at h;simp only[al] at h;obtain⟨⟨⟨⟨hnb,hnl⟩,hbs⟩,hfz⟩,hlt⟩:=h;have hfz:=Fy hfz;intro w0 W btI SI bt a w hl;have inv:=hl.inv
 have hls: ∀ (k:Nat),k<S.fz->ls[k]? =some k:=by
  intro k hk;have : (ls.take S.fz)[k]? =(List.range S.fz)[k]? :=by rw[hfz]
  rw[bu,if_pos hk,List.getElem?_range hk] at this;exact this
 have look: ∀p s rs,(jJ S keep bs ls).st.look p= .sl s rs-> ∃q,ls[p.r]? =some q/\S.st.look ⟨q,p.l⟩= .sl s rs/\ls.getD p.r 0=q:=by
  intro p s rs hp;unfold St.look at hp
  have e: (jJ S keep bs ls).st.gh p.r=((ls[p.r]?).bind fun q=>fW S.gh q).map eS.tree:=by show (fW _ _).map eS.tree=_;rw[wm]
  rw[e] at hp;cases hq:ls[p.r]? with
  |none=>rw[hq] at hp; cases hp
  |some q=>refine⟨q,rfl,?_,by simp[aF,hq]⟩;rw[hq] at hp;exact hp
 have box: ∀n cells,(jJ S keep bs ls).st.bx n=some cells-> ∃b cs,bs[n]? =some b/\S.bx[b]? =some cs/\cells=(cs.map (xD bs ls)).map Cl.av/\bs.getD n 0=b:=by intro n cells hn;have hn': (o0 (bs.map fun b=>((o0 S.bx b).getD []).map (xD bs ls)) n).map (fun cs=>cs.map Cl.av)=some cells:=hn;rw[gv,ap] at hn';simp only[ak] at hn';obtain⟨x,⟨b,hb,rfl⟩,rfl⟩:=hn';have hlt':b<S.bx.length:=ar (ay.1 hbs b (au hb));refine⟨b,S.bx[b],hb,ah hlt',?_,by simp[aF,hb]⟩;rw[gv,ah hlt'];rfl
 have bxS: ∀ {b:Nat} {cs:List Cl},S.bx[b]? =some cs->S.st.bx b=some (cs.map Cl.av):=by intro b cs hb;show (o0 S.bx b).map _=_;rw[gv,hb];rfl
 refine⟨bt.ren bs ls,?_⟩
 refine⟨{ good:=inv.good,os:=inv.os,tape:=inv.tape,output:=inv.output,size:=inv.size,keep:=inv.keep
          nb:=by show bs.length=_; simp[TS.st,jJ]
          ng:=by show ls.length=_; simp[TS.st,jJ]
          bx:=fun n cells hn=> ?_
          gh:=fun r t hr=> ?_
          tr:=fun p sz rows hp=> ?_
          inj:=fun p q s rs s' rs' hp hq hk hk' he=> ?_
          bbinj:=fun n m cs cs' hn hm he=> ?_
          bbtr:=fun n cs p s rs hn hp hk=> ?_
          alt:=inv.alt
          atr:=fun p s rs hp hk=> ?_
          abb:=fun n cs hn=> ?_ },⟨hl.er.1,fun t=> ?_⟩,hl.defers,hl.fz,?_,fun p hp=> ?_,fun r hr hn=> ?_⟩
 ·obtain⟨b,cs,h1,h2,rfl,h4⟩:=box n cells hn;obtain⟨g1,g2,arr,e,g3,g4,g5⟩:=inv.bx b _ (bxS h2);refine⟨by grind [TS.st,jJ],by show _<=bt.bb (bs.getD n 0); rw[h4]; exact g2,arr,e,by show w.heap[bt.bb (bs.getD n 0)]? =_; rw[h4]; exact g3,by simpa using g4,fun j v hj=> ?_⟩;rw[ap,ap] at hj;simp only[ak] at hj;obtain⟨c1,⟨c0,hc0,rfl⟩,rfl⟩:=hj;obtain⟨c,k1,k2,k3⟩:=g5 j c0.av (by rw[ap,hc0]; rfl);exact⟨c,k1,FF k2,k3⟩
 ·grind [jJ,wm,TS.st]
 ·obtain⟨q,h1,h2,h3⟩:=look p sz rows hp;obtain⟨g1,g2⟩:=inv.tr _ _ _ h2;have eκ: (bt.ren bs ls).κ p=bt.κ ⟨q,p.l⟩:=by show bt.κ ⟨ls.getD p.r 0,p.l⟩=_; rw[h3]
  have eβ: (bt.ren bs ls).β p=bt.β ⟨q,p.l⟩:=by show bt.β ⟨ls.getD p.r 0,p.l⟩=_; rw[h3]
  rw[eκ,eβ];refine⟨g1,fun hk=>⟨(g2 hk).1,?_⟩⟩;obtain⟨_,cs,e,k1,k2,k3,k4⟩:=g2 hk;refine⟨cs,e,by rw[eβ]; exact k1,by rw[eβ,eκ]; exact k2,k3,fun i r hi=> ?_⟩;obtain⟨m1,m2⟩:=k4 i r hi;refine⟨m1,fun j x hj=> ?_⟩;obtain⟨c,n1,n2⟩:=m2 j x hj;refine⟨c,by rw[eβ]; exact n1,?_⟩;have f1: (bt.ren bs ls).κ (p.sub i j)=bt.κ (ff.sub ⟨q,p.l⟩ i j):=by show bt.κ ⟨ls.getD p.r 0,p.l++ [(i,j)]⟩=bt.κ ⟨q,p.l++ [(i,j)]⟩; rw[h3]
  have f2: (bt.ren bs ls).β (p.sub i j)=bt.β (ff.sub ⟨q,p.l⟩ i j):=by show bt.β ⟨ls.getD p.r 0,p.l++ [(i,j)]⟩=bt.β ⟨q,p.l++ [(i,j)]⟩; rw[h3]
  cases n2 with
  |sc h=>exact .sc h
  |dd u=>exact .dd _
  |sl q1 q2 q3=>exact .sl q1 (by rw[f1]; exact q2) (by rw[f2]; exact q3)
 ·obtain⟨p',h1,h2,h3⟩:=look p s rs hp;obtain⟨q',g1,g2,g3⟩:=look q s' rs' hq;have:=inv.inj ⟨p',p.l⟩ ⟨q',q.l⟩ _ _ _ _ h2 g2 (by rw[<-h3]; exact hk) (by rw[<-g3]; exact hk') (by rw[<-h3,<-g3]; exact he);simp only[ff.mk.injEq] at this;obtain⟨e1,e2⟩:=this;subst e1;have e3:=xE hnl _ _ _ h1 g1;cases p<;>simp_all
 ·obtain⟨b,c,h1,h2,_,h4⟩:=box n cs hn;obtain⟨b',c',g1,g2,_,g4⟩:=box m cs' hm
  have:=inv.bbinj b b' _ _ (bxS h2) (bxS g2) (by have he':bt.bb (bs.getD n 0)=bt.bb (bs.getD m 0):=he;rw[h4,g4] at he';exact he')
  grind [xE]
 ·obtain⟨b,c,h1,h2,_,h4⟩:=box n cs hn;obtain⟨q,g1,g2,g3⟩:=look p s rs hp;have hk':0<bt.κ ⟨ls.getD p.r 0,p.l⟩:=hk;rw[g3] at hk';show bt.bb (bs.getD n 0)≠(bt.β ⟨ls.getD p.r 0,p.l⟩).1;rw[h4,g3];exact inv.bbtr _ _ _ _ _ (bxS h2) g2 hk'
 ·obtain⟨q,g1,g2,g3⟩:=look p s rs hp;have hk':0<bt.κ ⟨ls.getD p.r 0,p.l⟩:=hk;rw[g3] at hk';show ¬bt.A (bt.β ⟨ls.getD p.r 0,p.l⟩).1;rw[g3];exact inv.atr _ _ _ g2 hk'
 ·obtain⟨b,c,h1,h2,_,h4⟩:=box n cs hn;show ¬bt.A (bt.bb (bs.getD n 0));rw[h4];exact inv.abb _ _ (bxS h2)
 ·show VR w _ (jx (jJ S keep bs ls).env t).av _;rcases EN S (NN bs ls) keep t with h1|h1
  ·have :jx (jJ S keep bs ls).env t=V.dead:=h1;rw[this];exact .dead _
  ·have :jx (jJ S keep bs ls).env t=NN bs ls (jx S.env t):=h1;rw[this];exact PY (hl.er.2 t)
 ·show S.fz<=(jJ S keep bs ls).gh.length
  grind [jJ]
 ·have hp':p.r<S.fz:=by have:=hl.fz; have e:S.st.fz=S.fz:=rfl; omega
  have h3:ls.getD p.r 0=p.r:=by simp[aF,hls p.r hp']
  have:=hl.keep p hp;show bt.β ⟨ls.getD p.r 0,p.l⟩=_/\bt.κ ⟨ls.getD p.r 0,p.l⟩=_;rw[h3];exact this
 ·have hr':r<S.fz:=by have:=hl.fz; have e:S.st.fz=S.fz:=rfl; omega
  refine hl.gone r hr ?_;have hn': (fW (jJ S keep bs ls).gh r).map eS.tree=none:=hn;rw[wm,hls r hr'] at hn';exact hn'
theorem Bm {S:TS} {bs ls:List Nat} {keep:List Nat} {c:Cl} (h:c.ok S.gh): (xD bs ls c).ok (jJ S keep bs ls).gh:=by
 have lt: ∀ {x k:Nat},AR ls x 0=some k->k< (jJ S keep bs ls).gh.length/\ls[k]? =some x:=by intro x k hk;obtain⟨_,h2⟩:=zD hk;rw[cY] at h2;exact⟨by grind [jJ],h2⟩
 cases c with
 |own p sz lo len w=>
  simp only[xD];split
  ·rename_i k hk;obtain⟨h1,h2⟩:=lt hk;refine⟨h1,fun hw=> ?_⟩;obtain⟨a,b,c⟩:=h.2 hw
   grind [wm]
  ·trivial
 |ptrT p sz i j=>
  simp only[xD];split
  ·rename_i k hk; exact (lt hk).1
  ·trivial
 |ptrB n j=>simp only[xD]; split<;>trivial
 | _=>trivial
theorem PZ {S:TS} {bs ls:List Nat} {keep:List Nat} {v:V} (h:v.ok S.gh): (NN bs ls v).ok (jJ S keep bs ls).gh:=by
 have one: ∀ {v:V1},v.ok S.gh->(NM bs ls v).ok (jJ S keep bs ls).gh:=by
  intro v h;cases v with
  |cl c=>exact Bm h
  |agg cs=>intro c hc; obtain⟨x,hx,rfl⟩:=aM.1 hc; exact Bm (h x hx)
  |fn f cs=>intro c hc; obtain⟨x,hx,rfl⟩:=aM.1 hc; exact Bm (h x hx)
 cases v with
 |v x=>exact one h
 |tup l=>trivial
theorem LS {S:TS} (hS:S.ok) (keep bs ls:List Nat): (jJ S keep bs ls).ok:=by
 refine⟨fun x hx=> ?_,fun cs hcs c hc=> ?_⟩
 ·obtain⟨t,_,rfl⟩:=aM.1 hx;exact PZ (Bl hS t)
 ·obtain⟨b,_,rfl⟩:=aM.1 hcs;obtain⟨x,hx,rfl⟩:=aM.1 hc;cases hb:o0 S.bx b with
  |none=>rw[hb] at hx; cases hx
  |some cs=>rw[hb] at hx;rw[gv] at hb;exact Bm (hS.bx cs (au hb) x hx)
theorem Bn {G:List (Option eS)} {c:Cl} (h:c.ok G):LR G c=c:=by
 unfold LR;split
 ·rename_i p sz lo len;split
  ·rename_i tr htr;rw[(h.2 rfl).2.2 tr (by unfold fW; rw[htr]; rfl)]
  ·rfl
 ·rfl
theorem HS {G:List (Option eS)} {v:V1} (h:v.ok G):NP G v=v:=by
 cases v with
 |cl c=>exact congrArg V1.cl (Bn h)
 |agg cs=>exact congrArg V1.agg ((aI fun c hc=>Bn (h c hc)).trans (List.map_id' cs))
 |fn f cs=>exact congrArg (V1.fn f) ((aI fun c hc=>Bn (h c hc)).trans (List.map_id' cs))
theorem P0 {G:List (Option eS)} {v:V} (h:v.ok G):SX G v=v:=by
 cases v with
 |v x=>exact congrArg V.v (HS h)
 |tup l=>exact congrArg V.tup ((aI fun c hc=>HS (h c hc)).trans (List.map_id' l))
theorem P1 {S:TS} (h:S.ok):RN S=S:=by unfold RN;rw[aI (g:=id) (fun x hx=>by rw[P0 (h.env x hx)]; rfl),aI (g:=id) (l:=S.bx) (fun cs hcs=>(aI fun c hc=>Bn (h.bx cs hcs c hc)).trans (List.map_id' cs)),List.map_id,List.map_id]
theorem tf [dY] {ρ:Type} {S:TS} (hS:S.ok) {keep:List Nat} {κ:TS->Option ρ} {r:ρ} (h:zC keep S κ=some r): ∃S1:TS,pI S.st S1.st/\S1.ok/\κ S1=some r:=by
 unfold zC at h;obtain⟨h1,h⟩:=ej h
 grind [P1,LS,HQ]
end
end Go.Proofs.YtadabkgmdllbfabGreat.En
