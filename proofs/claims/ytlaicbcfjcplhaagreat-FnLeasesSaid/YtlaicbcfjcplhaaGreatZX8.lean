import Derived.Test.YtlaicbcfjcplhaaGreatZX7
namespace Go.Proofs.YtlaicbcfjcplhaaGreat.En
section
open Go
section
variable {ρ:Type} {P:Program} {Θ:mS} {S:TS} {Y:ww}
theorem GI (hS:S.ok) {ops:Array Oper} {o:Oper} {κ:Bool->TS->Option ρ} {r:ρ} (h:JB S ops.toList o κ=some r): ∃b S1,nx S.st ops o=some b/\S1.st=S.st/\S1.ok/\S1.gh=S.gh/\κ b S1=some r:=by
 unfold JB at h;split at h
 ·rename_i hg;exact⟨true,S,by unfold nx; rw[hg],rfl,hS,rfl,h⟩
 ·rename_i j want hg;split at h
  ·rename_i oj hj;split at h
   ·rename_i d hd;rw[fT,cD] at hj;split at h
    ·rename_i he;refine⟨_,S,?_,rfl,hS,rfl,h⟩;unfold nx;rw[hg];simp only[hj,ae,hd];have :S.st.env d= .tup [] :=by show (i6 S.env d).av=_; rw[he]; rfl
     rw[this]
    ·obtain⟨b,S1,h1,h2,h3,h4,h5⟩:=Bk hS h;refine⟨_,S1,?_,h2,h3,h4,h5⟩;unfold nx;rw[hg];simp only[hj,ae,hd];have :S.st.env d= .sc (.bool b):=h1;rw[this]
   ·cases h
  ·cases h
theorem jQ (hS:S.ok) {d:Option Tmp} {v:V} (hv:v.ok S.gh) {κ:TS->Option ρ} {r:ρ} (h:qA S d v κ=some r): ∃S1,S.st.put d v.av=some (TS.st S1)/\S1.ok/\S1.gh=S.gh/\κ S1=some r:=by
 unfold qA at h;split at h
 ·rename_i t;obtain⟨h1,h⟩:=dZ h;have h1:t<S.nt:=ar h1;refine⟨{ S with env:=(t,v)::S.env },?_,⟨fun x hx=> ?_,hS.bx⟩,rfl,h⟩
  ·simp only[St.put];rw[if_pos (show t<S.st.nt from h1)]
   congr 1
   unfold TS.st
   congr 1
   funext u
   unfold eY;simp only[i6];cases hb:Nat.beq t u with
   |true=>simp_all
   |false=>
    have : ¬u=t:=by intro e; subst e; rw[cO] at hb; cases hb
    rw[if_neg this];rfl
  ·rcases bc.1 hx with rfl|hx
   ·exact hv
   ·exact hS.env x hx
 ·exact⟨S,rfl,hS,rfl,h⟩
theorem MG {α:Type} {x y:Option α} {r:α} (h:Ot x y none=some r):x=some r/\y=some r:=by grind [Ot]
theorem MH {α:Type} (x z:α):Ot x x z=x:=by unfold Ot; rw[if_pos rfl]
theorem EG {o:Oper} {t:TypeId} {x:Operand} (h:Ay o=some (t,x)): (∃t',o.op= .binOp .eql t x (.const (.slice none 0 0)) t')/\o.guard=none:=by
 unfold Ay at h
 grind
theorem Bz {o:Oper} {k:Nat} {g:FuncId} {caps:List Cl} {a:Ey} {us:List TypeId} {xs:List Operand} (h:Be Y S o=some (k,g,caps,a,us,xs)):
  ∃f as ts x t,o.op= .call { callee:= .value f,args:=as,argTypes:=ts } /\as.toList=x::xs/\ts.toList=t::us/\yA (S.opd x)=some a/\g<i7/\
   ((∃a b,S.opd f= .v (.cl (.c (.sc (.func (.func g) a b))))/\caps= [])\/S.opd f= .v (.fn g caps)):=by
 unfold Be at h;split at h
 ·rename_i f as ts hop;split at h
  ·rename_i x xs' t us' e1 e2;split at h
   ·rename_i a' hx;split at h
    ·rename_i g' a b hf;obtain⟨h2,h⟩:=dZ h;simp only[al] at h2;simp only[af,an] at h;obtain⟨rfl,rfl,rfl,rfl,rfl,rfl⟩:=h;exact⟨f,as,ts,x,t,hop,e1,e2,hx,ar h2.1, .inl ⟨a,b,hf,rfl⟩⟩
    ·rename_i g' caps' hf;obtain⟨h2,h⟩:=dZ h;simp only[al] at h2;simp only[af,an] at h;obtain⟨rfl,rfl,rfl,rfl,rfl,rfl⟩:=h;exact⟨f,as,ts,x,t,hop,e1,e2,hx,ar h2.1, .inr hf⟩
    ·cases h
   ·cases h
  ·cases h
 ·cases h
theorem JR (c:Cl): (z5 c).av=yx 1 c.av:=by
 cases c with
 |c x=>cases x<;>rfl
 |own p sz lo len w=>
  cases h:Nat.ble 1 p.r with
  |true=>simp only[z5,h,cond_true,Cl.av,yx]; rw[if_pos (ar h)]
  |false=>simp only[z5,h,cond_false,Cl.av,yx]; rw[if_neg fun e=>by rw[cT e] at h; cases h]
 |ptrT p sz i j=>
  cases h:Nat.ble 1 p.r with
  |true=>simp only[z5,h,cond_true,Cl.av,yx]; rw[if_pos (ar h)]
  |false=>simp only[z5,h,cond_false,Cl.av,yx]; rw[if_neg fun e=>by rw[cT e] at h; cases h]
 | _=>rfl
theorem OL (c:Cl):Gf 1 c.av=yx 1 c.av:=by
 cases c with
 |c x=>cases x<;>rfl
 | _=>rfl
theorem GJ (v:V1): (Gp v).av=Gf 1 v.av:=by
 cases v with
 |cl c=>exact (JR c).trans (OL c).symm
 |agg cs=>simp_all [Gp,V1.av,Gf,JR]
 |fn f cs=>rfl
theorem OM (v:V): (Me v).av=L7 1 v.av:=by
 cases v with
 |v x=>
  refine (GJ x).trans ?_;cases x with
  |cl c=>cases c with
   |c x=>cases x<;>rfl
   | _=>rfl
  | _=>rfl
 |tup l=>simp_all [Me,V.av,L7,GJ]
theorem JS {x:eE} {G:List eE} {c:Cl} (h:c.ok ((x::G).map some)): (z5 c).ok (G.map some):=by
 cases c with
 |own p sz lo len w=>
  cases hb:Nat.ble 1 p.r with
  |true=>
   have h1:=ar hb;simp only[z5,hb,cond_true];obtain⟨h2,h3⟩:=h;refine⟨by simp at h2 ⊢; omega,fun hw=> ?_⟩
   grind [fB,fT]
  |false=>simp only[z5,hb,cond_false]; trivial
 |ptrT p sz i j=>
  cases hb:Nat.ble 1 p.r with
  |true=>have h1:=ar hb;simp only[z5,hb,cond_true];have h:p.r< ((x::G).map some).length:=h;show p.r-1< (G.map some).length;simp at h ⊢;omega
  |false=>simp only[z5,hb,cond_false]; trivial
 |c x=>cases x<;>trivial
 | _=>trivial
theorem GK {x:eE} {G:List eE} {v:V1} (h:v.ok ((x::G).map some)): (Gp v).ok (G.map some):=by
 cases v with
 |cl c=>exact JS h
 |agg cs=>intro c hc;obtain⟨y,hy,rfl⟩:=aJ.1 hc;exact JS (h y hy)
 |fn f cs=>trivial
theorem OO {x:eE} {G:List eE} {v:V} (h:v.ok ((x::G).map some)): (Me v).ok (G.map some):=by
 cases v with
 |v x=>exact GK h
 |tup l=>intro c hc;obtain⟨y,hy,rfl⟩:=aJ.1 hc;exact GK (h y hy)
theorem DN (hΘ:fW P Θ) (hS:S.ok): ∀ (ts:List TypeId) (as:List Operand) (κ:List V1->Option ρ) (r:ρ),vM Θ S ts as κ=some r->ts.length=as.length
 | [],[],_,_,_=>rfl
 | [],_::_,_,_,h=>by simp[vM] at h
 | _::_,[],_,_,h=>by simp[vM] at h
 |t::ts,a::as,κ,r,h=>by unfold vM at h;obtain⟨v,_,h⟩:=Mu hΘ hS (mT hS a) h;rw[bw,bw,DN hΘ hS ts as _ r h]
structure qC (S S1:TS) (L:List Nat):Prop where
 env:S1.env=S.env
 bx:S1.bx=S.bx
 fz:S1.fz=S.fz
 nt:S1.nt=S.nt
 len:S1.gh.length=S.gh.length
 gh: ∀r,fB S1.gh r=if L.contains r then none else fB S.gh r
 was: ∀q∈L,∃tr,fB S.gh q=some tr
theorem qC.refl (S:TS):qC S S [] :=⟨rfl,rfl,rfl,rfl,rfl,fun _=>by simp,fun _ h=>by cases h⟩
theorem qC.one {q:Nat} {tr:eE} (h:fB S.gh q=some tr):qC S { S with gh:=fo S.gh q none } [q] :=
 ⟨rfl,rfl,rfl,rfl,by simp[gF],fun r=>by
  show fB (fo S.gh q none) r=_
  simp_all [pd],fun r hr=>by grind⟩
theorem qC.trans {S1 S2:TS} {L L':List Nat} (h:qC S S1 L) (k:qC S1 S2 L'):qC S S2 (L++L'):=
 ⟨k.env.trans h.env,k.bx.trans h.bx,k.fz.trans h.fz,k.nt.trans h.nt,k.len.trans h.len,fun r=>by
  rw[k.gh,h.gh]
  grind,fun q hq=>by
  rcases bf.1 hq with hq|hq
  ·exact h.was q hq
  ·obtain⟨tr,ht⟩:=k.was q hq;rw[h.gh] at ht
   grind⟩
theorem qC.apart {S1 S2:TS} {L L':List Nat} (h:qC S S1 L) (k:qC S1 S2 L') (h1:L.Nodup) (h2:L'.Nodup): (L++L').Nodup:=by rw[List.nodup_append];refine⟨h1,h2,fun a ha b hb e=> ?_⟩;subst e;obtain⟨tr,ht⟩:=k.was a hb;rw[h.gh,if_pos (by simpa using ha)] at ht;cases ht
theorem qC.le {S1:TS} {L:List Nat} (h:qC S S1 L):iH S.gh S1.gh:=⟨by rw[h.len]; exact aq _,fun r tr _ ht=>by
 rw[h.gh] at ht
 grind⟩
theorem qC.ok {S1:TS} {L:List Nat} (h:qC S S1 L) (hS:S.ok):S1.ok:=
 ⟨fun x hx=>V.ok_mono h.le (hS.env x (by rw[<-h.env]; exact hx)),fun cs hcs c hc=>Cl.ok_mono h.le (hS.bx cs (by rw[<-h.bx]; exact hcs) c hc)⟩
theorem qC.st {S1:TS} {L:List Nat} (h:qC S S1 L):S1.st=dropL S.st L:=by
 unfold TS.st dropL;rw[h.env,h.bx,h.fz,h.nt,h.len];simp only
 congr 1
 funext r
 rw[h.gh];cases L.contains r<;>rfl
theorem DP: ∀ (L:List Nat) (S:TS),L.Nodup->(∀r∈L,∃tr,fB S.gh r=some tr)->qC S { S with gh:=PW S.gh L } L
 | [],S,_,_=>qC.refl S
 |r::L,S,hnd,h=>by
  obtain⟨tr,htr⟩:=h r aM;rw[List.nodup_cons] at hnd;have h1:=qC.one htr
  have h2:=DP L { S with gh:=fo S.gh r none } hnd.2 (fun r' hr'=>by
   obtain⟨tr',htr'⟩:=h r' (aN _ hr');refine⟨tr',?_⟩;rw[h1.gh,if_neg]
   ·exact htr'
   ·intro hc;rw[bL,aE] at hc;subst hc;exact hnd.1 hr')
  exact h1.trans h2
theorem wB: ∀ (cs:List Cl) (ys:List C) (L:List Nat),vi S cs=some (ys,L)->(∀c∈cs,c.ok S.gh)->ys.length=cs.length/\(pU ys).length=L.length/\
  (∀ (k r:Nat),L[k]? =some r-> ∃el l,(pU ys)[k]? =some ⟨el,l,none⟩/\fB S.gh r=some ⟨el,l,none⟩)/\
  ∀ (w:World) (bt bt':Bt) (m:Nat),(∀ (k r:Nat),L[k]? =some r->bt'.β ⟨m+k,[]⟩=bt.β ⟨r,[]⟩/\bt'.κ ⟨m+k,[]⟩=bt.κ ⟨r,[]⟩/\m+k<bt'.ng)->
    ∀ (j:Nat) (c c':Cl) (u:Value),cs[j]? =some c->(wy ys m)[j]? =some c'->VR w bt c.av u->VR w bt' c'.av u
 | [],ys,L,h,_=>by simp only[vi,af,an] at h;obtain⟨rfl,rfl⟩:=h;exact⟨rfl,rfl,fun k r hk=>by simp at hk,fun w bt bt' m _ j c c' u hj=>by simp at hj⟩
 |c0::cs,ys,L,h,hok=>by
  unfold vi at h;split at h
  ·cases ‹_= []›
  ·rename_i v cs' e;simp only[bI] at e;obtain⟨rfl,rfl⟩:=e;split at h
   ·rename_i ys' L' hr;simp only[af,an] at h;obtain⟨rfl,rfl⟩:=h;obtain⟨h1,h2,h3,h4⟩:=wB cs ys' L' hr (fun c hc=>hok c (aN _ hc));refine⟨by simp[h1],h2,h3,fun w bt bt' m hm j c c' u hj hj' hv=> ?_⟩;cases j with
    |zero=>
     simp only[wy,aO,af] at hj hj';subst hj hj';cases hv with
     |sc h=>exact .sc h
    |succ j=>exact h4 w bt bt' m hm j c c' u (by simpa using hj) (by simpa [wy] using hj') hv
   ·cases h
  ·rename_i r sz lo len cs' e;simp only[bI] at e;obtain⟨rfl,rfl⟩:=e;split at h
   ·rename_i el l hg;obtain⟨hsz,h0⟩:=dZ h;have hsz:sz=el.width:=ao hsz;clear h;split at h0
    ·rename_i ys' L' hr;simp only[af,an] at h0;obtain⟨rfl,rfl⟩:=h0;obtain⟨h1,h2,h3,h4⟩:=wB cs ys' L' hr (fun c hc=>hok c (aN _ hc));obtain⟨_,hlo⟩:=hok (.own ⟨r,[]⟩ sz lo len true) aM;obtain⟨_,hlo,hln⟩:=hlo rfl;have hln:=hln _ hg;simp only at hln;refine⟨by simp[h1],by simp[pU,h2],fun k r' hk=> ?_,fun w bt bt' m hm j c c' u hj hj' hv=> ?_⟩
     ·cases k with
      |zero=>simp only[aO,af] at hk;subst hk;exact⟨el,l,rfl,hg⟩
      |succ k=>exact h3 k r' (by simpa using hk)
     ·cases j with
      |zero=>
       simp only[wy,aO,af] at hj hj';subst hj hj' hsz hlo hln;obtain⟨e1,e2,e3⟩:=hm 0 r rfl;rw[b0] at e1 e2 e3;cases hv with
       |own hp hc hk ha=>exact .own e3 hc (by rw[e2]; exact hk) (by rw[e1]; exact ha)
      |succ j=>exact h4 w bt bt' (m+1) (fun k r' hk=>by
        have:=hm (k+1) r' (by simpa using hk)
        rwa [show m+(k+1)=m+1+k by omega] at this) j c c' u (by simpa using hj) (by simpa [wy] using hj') hv
    ·cases h0
   ·cases h
  ·cases h
theorem rt: ∀ (ys:List C) (m:Nat),(wy ys m).length=ys.length
 | [],_=>rfl
 | .sc v::r,m=>by simp[wy,rt r m]
 | .ls t l::r,m=>by simp[wy,rt r (m+1)]
theorem GL: ∀ (L:List Nat) (S:TS) (out:List eE) (κ:TS->Option ρ) (r:ρ),L.Nodup->Bf S L out κ=some r->
  ∃Sp:TS,Sp.env=S.env/\Sp.bx=S.bx/\Sp.fz=S.fz/\Sp.nt=S.nt/\Sp.gh.length=S.gh.length/\out.length=L.length/\(∀ (k q:Nat),L[k]? =some q->fB Sp.gh q=out[k]?)/\(∀q,q∉L->fB Sp.gh q=fB S.gh q)/\iH S.gh Sp.gh/\κ Sp=some r
 | [],S,out,κ,r,_,h=>by
   cases out with
   |nil=>exact⟨S,rfl,rfl,rfl,rfl,rfl,rfl,fun k q hk=>by simp at hk,fun _ _=>rfl,iH.refl _,h⟩
   |cons x out=>simp[Bf] at h
 |q::L,S,out,κ,r,hnd,h=>by
  rw[List.nodup_cons] at hnd;cases out with
  |nil=>simp[Bf] at h
  |cons x out=>
   obtain⟨t,l',hole⟩:=x;cases hole with
   |some y=>simp[Bf] at h
   |none=>
    simp only[Bf] at h;split at h
    ·rename_i el l hg;obtain⟨ht,h⟩:=dZ h;have ht:t=el:=by simpa using ht
     subst ht;obtain⟨hl,h⟩:=ff h;obtain⟨Sp,a1,a2,a3,a4,a5,a6,a7,a8,a9,h⟩:=GL L { S with gh:=fo S.gh q (some ⟨t,l',none⟩) } out κ r hnd.2 h;have hql:=tj hg;have hG:iH S.gh (fo S.gh q (some ⟨t,l',none⟩)):=iH.put hg hl;refine⟨Sp,a1,a2,a3,a4,by rw[a5]; simp[gF],by simp[a6],fun k q' hk=> ?_,fun q' hq'=> ?_,hG.trans a9,h⟩
     ·cases k with
      |zero=>
       simp only[aO,af] at hk;subst hk;rw[a8 q hnd.1];show fB (fo S.gh q _) q=_
       simp_all [pd]
      |succ k=>grind
     ·rw[a8 q' (fun hm=>hq' (aN _ hm))];show fB (fo S.gh q _) q'=_
      simp_all [pd]
    ·cases h
theorem BA {res:V} (h:Ou res=true):res.av.plain=true/\ ∀G,res.ok G:=by
 unfold Ou at h;split at h
 ·exact⟨rfl,fun _=>trivial⟩
 ·exact⟨rfl,fun _ x hx=>by cases hx⟩
 ·cases h
theorem GM [dQ] (hΘ:fW P Θ) (hY:kG P Y) (hS:S.ok) {o:Oper} {k:Nat} {g:FuncId} {caps:List Cl} {a:Ey} {us:List TypeId} {xs:List Operand} (ht:Be Y S o=some (k,g,caps,a,us,xs)) {κ:TS->Option ρ} {r:ρ}
  (h:Bg Θ Y S k g caps a us xs o.dst κ=some r): ∃S3:TS,(∀n0,kE P n0 S.st o S3.st)/\S3.ok/\κ S3=some r:=by
 obtain⟨f,as,ts,x,t0,hop,has,hts,hx,hgk,hf⟩:=Bz ht
 have hcal:callee S.st f=some (g,caps.map Cl.av):=by unfold callee;rw[ei];rcases hf with ⟨_,_,hf,rfl⟩|hf<;>(rw[hf]; rfl)
 have others: ∀ {S0:TS} (hS0:S0.ok) (hG:iH S.gh S0.gh) {K:List V1->Option ρ},xk Θ S0 us xs caps K=some r->
   ∃vs,us.length=xs.length/\tP P S0.st us xs (caps.map Cl.av)=vs.map V1.av/\K vs=some r:=by
  intro S0 hS0 hG K h;have hlen:=DN hΘ hS0 _ _ _ _ h;obtain⟨vs,h1,h⟩:=uu hΘ hS0 _ _ _ _ h
  have hcaps: ∀c∈caps,c.ok S0.gh:=by
   intro c hc;rcases hf with ⟨_,_,_,rfl⟩|hf
   ·cases hc
   ·have:=mT hS f;rw[hf] at this;exact Cl.ok_mono hG (this c hc)
  obtain⟨ks,h2,h⟩:=Bq hS0 _ _ _ hcaps h;refine⟨_,hlen,?_,h⟩;unfold tP;rw[h1,h2,bT,bF];rfl
 have stays: ∀ {q:Nat} {el:Ty} {l:List el.D} {vs:List V1} {av0:AV} {res:V} {out:List eE},fB S.gh q=some ⟨el,l,none⟩->us.length=xs.length->tP P ({ S with gh:=fo S.gh q none }:TS).st us xs (caps.map Cl.av)=vs.map V1.av->
   (∀ (w:World) (bt:Bt) (u:Value),VR w bt (opd S.st x) u->VR w (handG bt S.st w [⟨q,[]⟩]) av0 u)->jg P g (av0::vs.map V1.av) [.sl el.width (l.map el.row)] 1 res.av (out.map eE.tree)->res.ok (out.map some)->JC S q el l res out o.dst κ=some r-> ∃S3:TS,(∀n0,kE P n0 S.st o S3.st)/\S3.ok/\κ S3=some r:=by
  intro q el l vs av0 res out hq hlen hargs hx hSK hro h;unfold JC at h;split at h
  ·rename_i t' l' more;obtain⟨hc,h⟩:=dZ h;have hc:=of_decide_eq_true hc;subst hc;obtain⟨hll,h⟩:=ff h;have hd:=qC.one hq;have hG:iH S.gh (fo S.gh q (some ⟨t',l',none⟩)):=iH.put hq hll;have hl0: (fo S.gh q (some ⟨t',l',none⟩)).length=S.gh.length:=by rw[gF]; simp
   have hrk: (qz S.gh.length (Me res)).ok (fo S.gh q (some ⟨t',l',none⟩)++more.map some):=by
    have:=vm (G:=fo S.gh q (some ⟨t',l',none⟩)) (OO hro)
    rwa [hl0] at this
   obtain⟨S3,k1,k2,_,h⟩:=jQ (S:= { S with gh:=fo S.gh q (some ⟨t',l',none⟩)++more.map some }) (TS.ok_gh hS (hG.trans (iH.apps _ _))) hrk h;rw[show ({ S with gh:=fo S.gh q (some ⟨t',l',none⟩)++more.map some }:TS).st=_ from tp { S with gh:=fo S.gh q (some ⟨t',l',none⟩) } res.av more,vl,OM] at k1
   have htr:S.st.gh q=some (.sl t'.width (l.map t'.row)):=by show (fB S.gh q).map eE.tree=_;rw[hq];rfl
   have hql:=tj hq
   have hGave:zZ S.st ([q].map fun r=>⟨r,[]⟩) [.sl t'.width (l.map t'.row)] :=wt rfl (by simp) (fun k r hk=>by grind)
   refine⟨S3,fun n0=>kE.handG hop has hlen hcal (tf [q]) (fun w0 W bt w hI=>hI.dropL [q]) hGave hx (m:=1) (res:=res.av) (out:=eE.tree ⟨t',l',none⟩::more.map eE.tree) (by rw[<-hd.st,hargs]; exact hSK)
    (A9 (Sp:=({ S with gh:=fo S.gh q (some ⟨t',l',none⟩) }:TS).st) hGave (by simp) rfl rfl rfl hl0 rfl rfl (fun k r hk=> ?_) (fun r hr=> ?_)) k1,k2,h⟩
   ·cases k with
    |zero=>simp_all [wz,eY]
    |succ k=>simp at hk
   simp_all [wz,eY]
  ·cases h
 have hxo:=mT hS x;cases a with
 |own q sz=>
  obtain⟨lo,len,hxv⟩: ∃lo len,S.opd x= .v (.cl (.own ⟨q,[]⟩ sz lo len true)):=by
   unfold yA at hx
   grind
  rw[hxv] at hxo;unfold Bg at h;simp only at h;split at h
  ·rename_i el l hq;obtain⟨hsz,h0⟩:=dZ h;have hsz:sz=el.width:=ao hsz;clear h;subst hsz;have hd:=qC.one hq;obtain⟨vs,hlen,hargs,h⟩:=others (hd.ok hS) hd.le h0;obtain⟨_,hlo,hln⟩:=hxo.2 rfl;have hln:=hln _ hq;subst hlo hln
   have hav: ∀ (w:World) (bt:Bt) (u:Value),VR w bt (opd S.st x) u->VR w (handG bt S.st w [⟨q,[]⟩]) (.own ⟨0,[]⟩ el.width 0 l.length) u:=fun w bt u hv=>by
    rw[ei,hxv] at hv;have hv:VR w bt (.own ⟨q,[]⟩ el.width 0 l.length) u:=hv;cases hv with
    |own hp hc hk ha=>exact .own cE hc hk ha
   cases hk:Nat.beq k 1 with
   |true=>rw[hk] at h;simp only[cond_true] at h;obtain⟨res,out,g1,g2,h⟩:=hY _ _ _ _ _ h;exact stays hq hlen hargs hav (g1.io g rfl hgk).get g2 h
   |false=>
    rw[hk] at h;simp only[cond_false] at h;obtain⟨hfz0,h⟩:=dZ h;have hfz:S.st.fz<=q:=ar hfz0;obtain⟨res,out,g1,g2,h⟩:=hY _ _ _ _ _ h;have g1:=(g1.mv g rfl hgk).get;have hl0: (fo S.gh q none).length=S.gh.length:=by rw[gF]; simp
    have hro: (qz S.gh.length res).ok (fo S.gh q none++out.map some):=by
     have:=vm (G:=fo S.gh q none) g2
     rwa [hl0] at this
    obtain⟨S3,k1,k2,_,h⟩:=jQ (S:= { S with gh:=fo S.gh q none++out.map some }) (TS.ok_gh (hd.ok hS) (iH.apps _ _)) hro h;rw[show ({ S with gh:=fo S.gh q none++out.map some }:TS).st=_ from tp { S with gh:=fo S.gh q none } res.av out,hd.st,vl,<-Ic] at k1
    have htr:S.st.gh q=some (.sl el.width (l.map el.row)):=by show (fB S.gh q).map eE.tree=_;rw[hq];rfl
    exact⟨S3,fun n0=>kE.handG hop has hlen hcal (tf [q]) (fun w0 W bt w hI=>hI.dropL [q]) (wt (ts:= [.sl el.width (l.map el.row)]) rfl (by simp) (fun k r hk=>by grind)) hav (m:=0) (by rw[<-hd.st,hargs]; exact g1) (KO fun r hr=>by rw[aE.1 hr]; exact hfz) k1,k2,h⟩
  ·cases h
 |pt q sz=>
  have hxv:S.opd x= .v (.cl (.ptrT ⟨q,[]⟩ sz 0 0)):=by
   unfold yA at hx;split at hx<;>simp only[af,Ey.pt.injEq,reduceCtorEq] at hx;obtain⟨rfl,rfl⟩:=hx
   assumption
  unfold Bg at h;simp only at h;split at h
  ·rename_i el l hq;obtain⟨hsz,h0⟩:=dZ h;have hsz:sz=el.width:=ao hsz;clear h;subst hsz;have hd:=qC.one hq;obtain⟨vs,hlen,hargs,h⟩:=others (hd.ok hS) hd.le h0;obtain⟨res,out,g1,g2,h⟩:=hY _ _ _ _ _ h;refine stays hq hlen hargs (fun w bt u hv=> ?_) (g1.pt g rfl hgk).get g2 h;rw[ei,hxv] at hv;have hv:VR w bt (.ptrT ⟨q,[]⟩ el.width 0 0) u:=hv;cases hv with
   |ptrT _ _ _ hp hk=>exact .ptrT (p:=⟨0,[]⟩) _ 0 0 cE hk
  ·cases h
 |agg cs=>
  have hxv:S.opd x= .v (.agg cs):=by
   unfold yA at hx;split at hx<;>simp only[af,Ey.agg.injEq,reduceCtorEq] at hx;subst hx
   assumption
  rw[hxv] at hxo;unfold Bg at h;simp only at h;split at h
  ·rename_i ys L hga;obtain⟨hnd,h0⟩:=dZ h;clear h;have hnd:L.Nodup:=Aw.1 hnd;obtain⟨g1,g2,g3,g4⟩:=wB cs ys L hga hxo
   have hd:=DP L S hnd (fun q hq=>by obtain⟨k,hk,hkq⟩:=aP hq;obtain⟨el,l,_,e⟩:=g3 k q (by grind);exact⟨_,e⟩)
   obtain⟨vs,hlen,hargs,h⟩:=others (hd.ok hS) hd.le h0;obtain⟨res,out,k1,k2,h⟩:=hY _ _ _ _ _ h;have k1:=(k1.io g rfl hgk).getA;obtain⟨hns,h⟩:=dZ h;obtain⟨hpl,hrok⟩:=BA hns;obtain⟨Sp,a1,a2,a3,a4,a5,a6,a7,a8,a9,h⟩:=GL L S out _ r hnd h;have hSp:Sp.ok:=⟨fun x hx=>V.ok_mono a9 (hS.env x (by rw[<-a1]; exact hx)),fun cs hcs c hc=>Cl.ok_mono a9 (hS.bx cs (by rw[<-a2]; exact hcs) c hc)⟩
   obtain⟨S3,m1,m2,_,h⟩:=jQ hSp (hrok _) h
   have hGave:zZ S.st (L.map fun r=>⟨r,[]⟩) ((pU ys).map eE.tree):=wt (by simp[g2]) hnd (fun k q hk=>by obtain⟨el,l,e1,e2⟩:=g3 k q hk;refine⟨el.width,l.map el.row,by rw[ap,e1]; rfl,?_⟩;show (fB S.gh q).map eE.tree=_;rw[e2];rfl)
   have hps: (L.map fun r=>(⟨r,[]⟩:eO)).length=(pU ys).length:=by rw[aK,g2]
   have hout: (out.map eE.tree).length=L.length:=by rw[aK,a6]
   refine⟨S3,fun n0=>kE.handG hop has hlen hcal (tf L) (fun w0 W bt w hI=>hI.dropL L) hGave (av0:= .agg ((wy ys 0).map Cl.av)) (fun w bt u hv=> ?_) (res:=res.av) (out:=out.map eE.tree) (m:=L.length) (by rw[<-hd.st,hargs,<-g2]; exact k1)
    (A9 (Sp:=Sp.st) hGave (dB hout.symm) (by unfold TS.st; simp only[a1]) (by unfold TS.st; simp only[a2]) (by unfold TS.st; simp only[a2]) (by unfold TS.st; simp only[a5]) a3 a4 (fun k q hk=>by
      show (fB Sp.gh q).map eE.tree=_;rw[a7 k q hk,ap]) (fun q hq=>by
      show (fB Sp.gh q).map eE.tree=(fB S.gh q).map eE.tree;rw[a8 q hq])) (by grind [DF,Jx]),m2,h⟩
   rw[ei,hxv] at hv;have hv:VR w bt (.agg (cs.map Cl.av)) u:=hv;cases hv with
   |agg hl ho hr=>
    rename_i us0;refine .agg (by grind [rt]) ho (fun k c u hk hu=> ?_);rw[ap] at hk;simp only[ak] at hk;obtain⟨c',hc',rfl⟩:=hk
    have hkl:k<cs.length:=by have:=(aj.1 hc').1;rw[rt,g1] at this;exact this
    refine g4 w bt _ 0 (fun i q hi=> ?_) k cs[k] c' u (ah hkl) hc' (hr k _ u (by grind) hu)
    have hpi: (L.map fun r=>(⟨r,[]⟩:eO))[(⟨0+i,[]⟩:eO).r]? =some ⟨q,[]⟩:=by rw[ap];show (L[0+i]?).map _=_;rw[aR,hi];rfl
    have hpl2:=wq hpi;refine⟨?_,?_,?_⟩
    ·show bt.β (DE _ _)=_;rw[hpl2];rfl
    ·show bt.κ (DE _ _)=_;rw[hpl2];rfl
    ·show 0+i< (L.map fun r=>(⟨r,[]⟩:eO)).length
     grind
  ·cases h
 |nest q i j sz lo len=>
  obtain⟨w0,hxv⟩: ∃w,S.opd x= .v (.cl (.own ⟨q,[(i,j)]⟩ sz lo len w)):=by
   unfold yA at hx
   grind
  rw[hxv] at hxo;unfold Bg at h;simp only at h;split at h
  ·rename_i t l hq;obtain⟨y,hy,h⟩:=ai.1 h;split at h
   ·rename_i el v hv;obtain⟨hsz,h0⟩:=dZ h;have hsz:sz=el.width:=ao hsz;clear h;subst hsz;obtain⟨hll,h1⟩:=ff h0;clear h0;obtain⟨rfl,rfl⟩:=hll;have hql:=tj hq;have hhole:iH S.gh (fo S.gh q (some ⟨t,l,some (i,j)⟩)):=iH.put hq rfl;obtain⟨vs,hlen,hargs,h⟩:=others (S0:= { S with gh:=fo S.gh q (some ⟨t,l,some (i,j)⟩) }) (TS.ok_gh hS hhole) hhole h1;clear h1;obtain⟨res,out,k1,k2,h⟩:=hY _ _ _ _ _ h;have k1:=(k1.io g rfl hgk).get;split at h
    ·rename_i t' v' _;obtain⟨hc,h⟩:=dZ h;simp only[al,decide_eq_true_eq] at hc;obtain⟨rfl,hns⟩:=hc;obtain⟨hpl,hrok⟩:=BA hns;obtain⟨hvl,h⟩:=ff h;split at h
     ·rename_i z hz;have hG:iH S.gh (fo S.gh q (some ⟨t,l.set i z,none⟩)):=iH.put hq (by simp);obtain⟨S3,m1,m2,_,h⟩:=jQ (S:= { S with gh:=fo S.gh q (some ⟨t,l.set i z,none⟩) }) (TS.ok_gh hS hG) (hrok _) h
      have hrowy: (l.map t.row)[i]? =some ((t.flat y).map C.tree):=by rw[ap,hy];simp only[aH,t.row_flat]
      have hcell: ((t.flat y).map C.tree)[j]? =some (.sl t'.width (v.map t'.row)):=by rw[fT] at hv;rw[ap,hv];rfl
      have hgq:S.st.gh q=some (.sl t.width (l.map t.row)):=by show (fB S.gh q).map eE.tree=_;rw[hq];rfl
      have hlook:S.st.look ⟨q,[(i,j)]⟩= .sl t'.width (v.map t'.row):=by unfold St.look;simp only[hgq,T.go,T.cell,aD,hrowy,bh,hcell]
      have hforget: ∀ (w0:World) (W:Nat->Prop) (bt:Bt) (w:World),fU w0 W bt S.st w->_:=fun w0 W bt w hI=>hI.forget hlook
      have hSm: ({ S with gh:=fo S.gh q (some ⟨t,l,some (i,j)⟩) }:TS).st=S.st.setAt ⟨q,[(i,j)]⟩ .dd:=by rw[wz S _ hql];unfold St.setAt;simp only[hgq,aH];rfl
      have hSp: ({ S with gh:=fo S.gh q (some ⟨t,l.set i z,none⟩) }:TS).st=S.st.setAt ⟨q,[(i,j)]⟩ (.sl t'.width (v'.map t'.row)):=by
       rw[wz S _ hql];unfold St.setAt;simp only[hgq,aH,T.put]
       congr 3
       show T.sl t.width ((l.set i z).map t.row)=_;rw[List.map_set,t.row_flat z,t.unflat_some _ _ hz,gF,List.map_set];simp only[aD,hrowy,bh];rfl
      rw[hSp] at m1;refine⟨S3,fun n0=>kE.handG hop has hlen hcal (Sm:=S.st.setAt ⟨q,[(i,j)]⟩ .dd) (ps:= [⟨q,[(i,j)]⟩]) ?_ (fun w0 W bt w hI=>(hforget w0 W bt w hI).1) (L8 hlook) (av0:= .own ⟨0,[]⟩ t'.width 0 v.length) (fun w bt u hv=> ?_) (res:=res.av) (out:= [.sl t'.width (v'.map t'.row)]) (m:=1) (by rw[<-hSm,hargs]; exact k1) (L9 hlook (by simpa using hvl)) (by rw[DF hpl,List.drop_succ_cons,List.drop_nil,Jx]; exact m1),m2,h⟩
      ·refine⟨rfl,rfl,rfl,fun p s rs hp=> ?_⟩;rw[qu] at hp;by_cases hpr:p.r=q
       ·rw[if_pos hpr,hgq] at hp;simp only at hp
        rcases T.put_spec .dd [(i,j)] (.sl t.width (l.map t.row)) (.inl (by grind [St.look])) p.l s rs hp with ⟨m',hm,hgo⟩| ⟨rs0,e1,e2,e3,e4⟩
        ·rw[T.dd_go] at hgo; cases hgo
        ·refine⟨fun p' hp' hu=> ?_,rs0,by unfold St.look; rw[hpr,hgq]; exact e1⟩;rw[aE.1 hp'] at hu;obtain⟨_,m,b⟩:=hu;exact e3 m b.symm
       ·rw[if_neg hpr] at hp;refine⟨fun p' hp' hu=> ?_,rs,hp⟩;rw[aE.1 hp'] at hu;exact hpr hu.1
      ·rw[ei,hxv] at hv;have hv:VR w bt (.own ⟨q,[(i,j)]⟩ t'.width 0 v.length) u:=hv;cases hv with
       |own hp hc hk ha=>exact .own cE hc hk ha
     ·cases h
    ·cases h
   ·cases h
  ·cases h
theorem MI {el:Ty} (hw:el.width=1) (hf:el.flatB=true) {z:el.D} (hz:el.unflat el.zcs=some z): ∃zv,el.zvs= [zv] /\ox zv=true/\el.row z= [.sc zv] :=by
 have hr:el.row z=el.zcs.map C.tree:=by rw[el.row_flat,el.unflat_some _ _ hz]
 rw[hr];clear hr hz z;cases el with
 |i k=>exact⟨_,rfl,rfl,rfl⟩
 |b=>exact⟨_,rfl,rfl,rfl⟩
 |s=>exact⟨_,rfl,rfl,rfl⟩
 |h=>exact⟨_,rfl,rfl,rfl⟩
 |st n=>cases n<;>first |exact⟨_,rfl,rfl,rfl⟩| (exfalso; revert hw; decide)| (exfalso; revert hf; decide)
 |ls t=>cases hf
theorem KZ [dQ] (hΘ:fW P Θ) (hS:S.ok) {ops:Array Oper} {o:Oper} {os:List Oper} {Post:St->Prop} {t:TypeId} {q sz lo len:Nat} (ht:Ez S o=some (t,q,sz,lo,len)) {κ:TS->Option ρ} {r:ρ}
  (ih: ∀S3:TS,S3.ok->κ S3=some r->zD P ops os S3.st Post) (h:Io Θ S t q sz lo len o.dst κ=some r):zD P ops (o::os) S.st Post:=by
 unfold Ez at ht;split at ht
 ·rename_i as ts hop;split at ht
  ·cases ht
  ·rename_i hgd;split at ht
   ·rename_i x t' e1 e2;split at ht
    ·rename_i r' sz' lo' len' w hx;simp only[af,an] at ht;obtain⟨rfl,rfl,rfl,rfl,rfl⟩:=ht;have e1:as= #[x] :=by apply Array.ext'; simpa using e1
     have e2:ts= #[t'] :=by apply Array.ext'; simpa using e2
     subst e1 e2;unfold Io at h;split at h
     ·rename_i ti hti;split at h
      ·rename_i el l hq;obtain⟨hc,h0⟩:=dZ h;simp only[al,decide_eq_true_eq] at hc;obtain⟨⟨⟨hty,hw⟩,hsz⟩,hfl⟩:=hc;have hw:el.width=1:=ao hw;have hsz:sz'=1:=ao hsz;split at h0
       ·rename_i z hz;unfold iteP at h0;split at h0
        ·rename_i hle;obtain⟨elT',g1,g2,g3,g4,g5,g6⟩:=(hΘ _ _ hti).el el hty
         have hql:r'<S.gh.length:=by
          rcases cN r' S.gh.length with h'|h'
          ·exact h'
          ·rw[yG h'] at hq; cases hq
         have hG:iH S.gh (fo S.gh r' (some ⟨el,l.take lo'++List.replicate len' z++l.drop (lo'+len'),none⟩)):=iH.put hq (by simp; omega);obtain⟨S3,k1,k2,_,h⟩:=jQ (v:= .tup []) (TS.ok_gh hS hG) (fun x hx=>by cases hx) h0;rw[wz S _ hql] at k1;obtain⟨zv,hzv,hsc,hrow⟩:=MI hw hfl hz
         have htr:S.st.gh r'=some (.sl 1 (l.map el.row)):=by show (fB S.gh r').map eE.tree=_;rw[hq];show some (T.sl el.width (l.map el.row))=_;rw[hw]
         have hxv:opd S.st x= .own ⟨r',[]⟩ 1 lo' len':=by rw[ei,hx,<-hsz]; rfl
         refine zD.clear hop hgd g1 (by rw[g6,hzv]) hsc hxv htr (by simpa using hle) ⟨S3.st,?_,ih S3 k2 h⟩;rw[<-k1]
         congr 1
         show _=({ S.st with gh:=eY S.st.gh r' (some (T.sl el.width ((l.take lo'++List.replicate len' z++l.drop (lo'+len')).map el.row))) }:St)
         simp_all
        ·cases h0
       ·cases h0
      ·cases h
     ·cases h
    ·cases ht
   ·cases ht
 ·cases ht
theorem OP [dQ] (hΘ:fW P Θ) (hY:kG P Y) {ops:Array Oper}: ∀ (os:List Oper) (S:TS) (κ:TS->Option ρ) (r:ρ),(∀o∈os,mQ P o=true)->S.ok->Bh Θ Y ops.toList os S κ=some r->
  zD P ops os S.st (fun S'=> ∃S1:TS,S'=S1.st/\S1.ok/\κ S1=some r):=by
 intro os
 induction os with
 |nil=>intro S κ r _ hS h; exact zD.nil ⟨S,rfl,hS,h⟩
 |cons o os ih=>
  intro S κ r hok hS h;unfold Bh at h;cases hn:Ay o with
  |some tx=>
   obtain⟨t,x⟩:=tx;rw[hn] at h;simp only at h;obtain⟨hs,h⟩:=dZ h;obtain⟨⟨t',ho⟩,hg⟩:=EG hn;unfold RE at hs;split at hs
   ·rename_i ti hti;split at hs
    ·rename_i e he;obtain⟨el,hel,_⟩:=(hΘ t ti hti).el e he;split at h
     ·rename_i t1 l hx
      have way: ∀ (b:Bool),(qA S o.dst (Gt b) fun S3=>Bh Θ Y ops.toList os S3 κ)=some r-> ∃S1,S.st.put o.dst (.sc (.bool b))=some S1/\zD P ops os S1 (fun S'=> ∃S1:TS,S'=S1.st/\S1.ok/\κ S1=some r):=by intro b hb;obtain⟨S3,g5,g6,_,h⟩:=jQ (v:=Gt b) hS trivial hb;exact⟨S3.st,g5,ih S3 κ r (fun x hx=>hok x (aN _ hx)) g6 h⟩
      have hxv:opd S.st x= .ro t1.width (l.map t1.row):=by rw[ei,hx]; rfl
      cases l with
      |nil=>
       obtain⟨a1,a2⟩:=MG (show Ot _ _ none=some r from h)
       grind [zD.eqnil]
      |cons y l=>exact zD.eqnil hel ho hg hxv (fun h=>by cases h) (way false h)
     ·cases h
    ·cases hs
   ·cases hs
  |none=>
  rw[hn] at h;simp only at h;cases hcl:Ez S o with
  |some z=>grind [KZ]
  |none=>
  rw[hcl] at h;simp only at h;obtain⟨b,S1,h1,h2,h3,h4,h⟩:=GI hS h;refine zD.cons (b:=b) h1 ?_;cases b with
  |true=>
   simp only[cond_true] at h;rw[if_pos rfl,<-h2];cases hh:Be Y S1 o with
   |some z=>obtain⟨k,g,caps,a,us,xs⟩:=z;rw[hh] at h;obtain⟨S3,g1,g2,g3⟩:=GM hΘ hY h3 hh h;exact⟨S3.st,(g1 0).op,ih S3 κ r (fun x hx=>hok x (aN _ hx)) g2 g3⟩
   |none=>
   grind [uw,jQ,L4.one,one]
  |false=>simp only[cond_false] at h;obtain⟨S3,g5,g6,_,h⟩:=jQ (v:= .tup []) h3 (fun x hx=>by cases hx) h;rw[if_neg (by simp)];exact⟨S3.st,by rw[<-h2]; exact g5,ih S3 κ r (fun x hx=>hok x (aN _ hx)) g6 h⟩
theorem OQ {D D':rh} {X:St} {o:Oper} (h:D o.dst=D' o.dst):ec D P X o=ec D' P X o:=by simp_all [ec]
theorem JT {D D':rh} {X:St} {o:Oper} (h:D o.dst=D' o.dst):fM D P X o=fM D' P X o:=by simp_all [fM]
theorem RJ {D D':rh} {ops:Array Oper}: ∀ (os:List Oper) (X:St),(∀o∈os,D o.dst=D' o.dst)->CH D P ops os X=CH D' P ops os X:=by
 intro os
 induction os with
 |nil=>intro X _; rfl
 |cons o os ih=>grind [CH,OQ,JT]
theorem xt: ∀ (l m:List (Option eE)) (n:Nat),gone n l (l++m)= []
 | [],m,n=>by cases m<;>rfl
 |x::l,m,n=>by
  cases x with
  |none=>exact xt l m (n+1)
  |some y=>exact xt l m (n+1)
theorem BB (l:List eE):Mg (l.map some)=l.map eE.tree:=by unfold Mg;rw[bF];rfl
theorem JU (S:TS) (out:List eE):S.st.make ⟨S.st.ng,out.map eE.tree,[]⟩=({ S with gh:=S.gh++out.map some }:TS).st:=by
 rw[tp S .dead out];unfold St.make rk;simp only[aK]
 congr 1
theorem qC.make {S1:TS} {L:List Nat} (h:qC S S1 L) (x:eE):S.st.make ⟨S.st.ng,[x.tree],ma L⟩=({ S1 with gh:=S1.gh++ [some x] }:TS).st:=by
 rw[Bl,h.st,h.len];unfold St.make dropL;simp only[ax,mE]
 congr 1
 funext r
 unfold eY;by_cases hr:r=S.gh.length
 ·simp_all [TS.st]
 ·rw[if_neg hr,if_neg (by show ¬ (S.gh.length<=r/\r<S.gh.length+1); omega)]
theorem JV: ∀ (l m x:List (Option eE)) (n:Nat) (L:List Nat),m.length=l.length->(∀k,k<l.length->(((∃y,l[k]? =some (some y))/\m[k]? =some none)↔(n+k)∈L))->gone n l (m++x)=(List.range' n l.length).filter fun r=>L.contains r
 | [],m,x,n,L,hl,_=>by have :m= [] :=bo hl;subst this;cases x<;>rfl
 |a::l,[],x,n,L,hl,_=>by cases hl
 |a::l,b::m,x,n,L,hl,h=>by
  have h0:=h 0 (Nat.zero_lt_succ _)
  have ih:=JV l m x (n+1) L (by simpa using hl) (fun k hk=>by
   have:=h (k+1) (by simpa using hk)
   grind)
  simp only[aO,af,b0] at h0;rw[bw,cz,List.filter_cons];cases a with
  |none=>
   have : ¬n∈L:=fun hn=>by grind
   rw[if_neg (by simpa using this),<-ih];cases b<;>rfl
  |some y=>
   cases b with
   |none=>have :n∈L:=h0.1 ⟨⟨y,rfl⟩,rfl⟩;rw[if_pos (by simpa using this),<-ih];rfl
   |some z=>
    have : ¬n∈L:=fun hn=>by have:=(h0.2 hn).2;cases this
    rw[if_neg (by simpa using this),<-ih];rfl
theorem EH {L:List Nat} {N:Nat} (h: ∀r∈L,r<N):ma L=(List.range N).filter fun r=>L.contains r:=by
 have top:D8 L<=N:=by
  induction L with
  |nil=>exact aA _
  |cons a l ih=>grind [D8,List.mem_cons_self]
 unfold ma;obtain⟨k,rfl⟩: ∃k,N=D8 L+k:=⟨N-D8 L,by omega⟩
 rw[ci,ci,<-List.range'_append_1,ca]
 have : (List.range' (0+D8 L) k).filter (fun r=>L.contains r)= [] :=by rw[List.filter_eq_nil_iff];intro r hr hc;have h1:=Ei (l:=L) (r:=r) (by simpa using hc);have h2:=(List.mem_range'_1.1 hr).1;omega
 rw[this,b7]
theorem qC.gone {S1:TS} {L:List Nat} (h:qC S S1 L) (x:List (Option eE)):gone 0 S.gh (S1.gh++x)=ma L:=by
 rw[EH (N:=S.gh.length) (fun r hr=>by obtain⟨tr,ht⟩:=h.was r hr;exact tj ht),ci]
 refine JV _ _ _ _ _ h.len (fun k hk=> ?_);rw[aR];have g:=h.gh k;unfold fB at g;rw[fT,fT] at g;have hk1:k<S1.gh.length:=by rw[h.len]; exact hk
 rw[ah hk,ah hk1] at g ⊢;simp only[bh,af] at g ⊢;constructor
 ·grind
 ·intro hL;obtain⟨tr,ht⟩:=h.was k hL
  simp_all [fB,fT]
theorem vo {G:List (Option eE)} {r j:Nat} {c:Cl} (h:c.ok G) (hr:G.length<=r):pM r j c=c:=by
 have hb: ∀p:eO,p.r<G.length->Nat.beq p.r r=false:=fun p hp=>by
  cases hx:Nat.beq p.r r with
  |false=>rfl
  |true=>have:=ao hx;omega
 cases c with
 |own p sz lo len w=>simp only[pM];rw[hb p h.1];split<;>rfl
 |ptrT p sz a b=>simp only[pM];rw[hb p h];split<;>rfl
 | _=>rfl
theorem qD {α:Type} {f:α->α}: ∀ {l:List α},(∀x∈l,f x=x)->l.map f=l
 | [],_=>rfl
 |a::l,h=>by rw[aW,h a aM,qD fun x hx=>h x (aN _ hx)]
theorem GN (hS:S.ok) {r j:Nat} (hr:S.gh.length<=r):S.kill r j=S:=by
 have v1: ∀v:V1,v.ok S.gh->rI r j v=v:=by
  intro v hv;cases v with
  |cl c=>simp only[rI]; rw[vo hv hr]
  |agg cs=>simp only[rI]; rw[qD fun c hc=>vo (hv c hc) hr]
  |fn f cs=>simp only[rI]; rw[qD fun c hc=>vo (hv c hc) hr]
 have e1:S.env.map (fun x=>(x.1,DH r j x.2))=S.env:=by
  refine qD (fun x hx=> ?_);have hx:=hS.env x hx;obtain⟨t,v⟩:=x;cases v with
  |v x=>simp only[DH]; rw[v1 x hx]
  |tup l=>simp only[DH]; rw[qD fun c hc=>v1 c (hx c hc)]
 have e2:S.bx.map (fun cs=>cs.map (pM r j))=S.bx:=by exact qD (fun cs hcs=>qD (fun c hc=>vo (hS.bx cs hcs c hc) hr))
 unfold TS.kill;rw[e1,e2]
theorem OS (hS:S.ok) {S1:TS} {no j:Nat} (hno:S.gh.length<=no) {et:Option Ty} {c:Cl} {x:C} (hc:c.ok S.gh) (h:je S no j et c=some (x,S1)):
  ∃L,qC S S1 L/\L.Nodup/\md S.st (GF et) c.av=some (x.tree,L):=by
 have wp: ∀t:Ty,¬GF (some t)=0:=fun t e=>by have:=t.width_pos;have e':t.width=0:=e;omega
 cases c with
 |c y=>
  cases y with
  |sc v=>
   cases et with
   |none=>simp only[je,af,an] at h;obtain⟨rfl,rfl⟩:=h;exact⟨[],qC.refl _,dJ,rfl⟩
   |some t=>simp[je] at h
  |ls t l=>cases et<;>simp[je] at h
 |em=>
  cases et with
  |none=>simp[je] at h
  |some t=>simp only[je,af,an] at h;obtain⟨rfl,rfl⟩:=h;rw[GN hS hno];refine⟨[],qC.refl _,dJ,?_⟩;unfold md;rw[if_neg (wp t)];rfl
 |own p sz lo len wh=>
  obtain⟨pr,pl⟩:=p;cases wh with
  |false=>cases et<;>simp[je] at h
  |true=>
   cases et with
   |none=>simp[je] at h
   |some t=>
    cases pl with
    |cons a l=>simp[je] at h
    |nil=>
     simp only[je] at h;obtain⟨h1,h⟩:=dZ h;simp only[al,bZ] at h1;obtain⟨⟨h1,h2⟩,h3⟩:=h1;have h1:t.width=sz:=ao h1;have h2:S.fz<=pr:=ar h2;split at h
     ·rename_i tr htr;split at h
      ·rename_i hh;obtain⟨h4,h⟩:=dZ h;have h4':tr.t.width=sz:=ao h4;simp only[af,an] at h;obtain⟨rfl,rfl⟩:=h;have hg:=eE.look htr;obtain⟨tt,l,hole⟩:=tr;simp only at hh h4';subst hh;obtain⟨e1,e2,e3⟩:=ut hc (fun _=>hg);have hd:=qC.one hg;rw[GN (hd.ok hS) (by rw[hd.len]; exact hno)];refine⟨[pr],hd,by simp,?_⟩;unfold md;rw[if_neg (wp t)];simp only[Cl.av]
       have hrows:S.st.rows ⟨pr,[]⟩ sz=some (l.map tt.row):=by rw[<-h4'];refine ku ?_;unfold St.look;show (match (fB S.gh pr).map eE.tree with |some t=>t.go [] |none=> .dd)=_;rw[hg];rfl
       rw[if_pos ⟨trivial,h1.symm,e2,h2⟩,hrows]
       simp_all [bJ,C.tree]
      ·cases h
     ·cases h
 |pro cs=>cases et<;>simp[je] at h
 |ptrB n j=>cases et<;>simp[je] at h
 |ptrT p sz a b=>cases et<;>simp[je] at h
 |dead=>cases et<;>simp[je] at h
theorem Iu {X Y:St} (hfz:Y.fz=X.fz) (hg: ∀r t,Y.gh r=some t->X.gh r=some t) {s:Nat} {v:AV} {y:T×List Nat} (h:md Y s v=some y):md X s v=some y:=by
 unfold md at h ⊢;split at h
 ·rename_i h0; rw[if_pos h0]; exact h
 ·rename_i h0;rw[if_neg h0];split at h
  ·exact h
  ·rename_i q s' lo len;split at h
   ·rename_i hc;rw[hfz] at hc;rw[if_pos hc]
    grind [St.rows,St.look]
   ·cases h
  ·cases h
theorem ux {X Y:St} (hfz:Y.fz=X.fz) (hg: ∀r t,Y.gh r=some t->X.gh r=some t): ∀ {ss:List Nat} {vs:List AV} {y:List T×List Nat},i5 Y ss vs=some y->i5 X ss vs=some y
 |s::ss,v::vs,y,h=>by unfold i5 at h ⊢;simp only[ai,ak] at h ⊢;obtain⟨a,h1,b,h2,h3⟩:=h;exact⟨a,Iu hfz hg h1,b,ux hfz hg h2,h3⟩
 | [],[],_,h=>h
 | [],_::_,_,h=>h
 | _::_,[],_,h=>h
theorem zG {X Y:St} (hfz:Y.fz=X.fz) (hg: ∀r t,Y.gh r=some t->X.gh r=some t) {ss:List Nat}: ∀ {vss:List (List AV)} {y:List (List T)×List Nat},hO Y ss vss=some y->hO X ss vss=some y
 | [],_,h=>h
 |vs::vss,y,h=>by unfold hO at h ⊢;simp only[ai,ak] at h ⊢;obtain⟨a,h1,b,h2,h3⟩:=h;exact⟨a,ux hfz hg h1,b,zG hfz hg h2,h3⟩
theorem qC.less {S1:TS} {L:List Nat} (h:qC S S1 L): ∀r t,S1.st.gh r=some t->S.st.gh r=some t:=by
 intro r t ht;rw[h.st] at ht
 grind [dropL]
theorem OT (no:Nat): ∀ (ets:List (Option Ty)) (cs:List Cl) (j:Nat) (S S1:TS) (xs:List C),S.ok->S.gh.length<=no->(∀c∈cs,c.ok S.gh)->pN no j S ets cs=some (xs,S1)->
  ∃L,qC S S1 L/\L.Nodup/\i5 S.st (ets.map GF) (cs.map Cl.av)=some (xs.map C.tree,L):=by
 intro ets
 induction ets with
 |nil=>
  intro cs j S S1 xs hS hno hcs h;cases cs with
  |nil=>simp only[pN,af,an] at h;obtain⟨rfl,rfl⟩:=h;exact⟨[],qC.refl _,dJ,rfl⟩
  |cons c cs=>simp[pN] at h
 |cons et ets ih=>
  intro cs j S S1 xs hS hno hcs h;cases cs with
  |nil=>simp[pN] at h
  |cons c cs=>
   simp only[pN] at h;split at h
   ·rename_i x S2 hx;obtain⟨L1,d1,n1,e1⟩:=OS hS hno (hcs c aM) hx;split at h
    ·rename_i xs' S3 hxs;simp only[af,an] at h;obtain⟨rfl,rfl⟩:=h;obtain⟨L2,d2,n2,e2⟩:=ih cs (j+1) S2 S3 xs' (d1.ok hS) (by rw[d1.len]; exact hno) (fun y hy=>Cl.ok_mono d1.le (hcs y (aN _ hy))) hxs;refine⟨L1++L2,d1.trans d2,d1.apart d2 n1 n2,?_⟩;simp only[aW,i5];rw[e1];simp only[ae];rw[ux (X:=S.st) (Y:=S2.st) d1.fz d1.less e2];rfl
    ·cases h
   ·cases h
theorem MJ (el:Ty): ∀ (vs:List V) (S S1:TS) (l:List el.D),S.ok->(∀v∈vs,v.ok S.gh)->rJ el S vs=some (l,S1)->
  ∃L,qC S S1 L/\L.Nodup/\hO S.st el.shs (vs.map fun v=>v.av.cells)=some (l.map el.row,L)/\l.length=vs.length/\ ∀v∈vs,v.av.cells.length=el.width/\v.av.isDead=false:=by
 intro vs
 induction vs with
 |nil=>intro S S1 l hS hv h;simp only[rJ,af,an] at h;obtain⟨rfl,rfl⟩:=h;exact⟨[],qC.refl _,dJ,rfl,rfl,fun v hv=>by cases hv⟩
 |cons v vs ih=>
  intro S S1 l hS hv h;cases v with
  |tup x=>simp[rJ] at h
  |v x=>
   have hx:=hv (.v x) aM;simp only[rJ] at h;split at h
   ·rename_i ws S2 hw
    have hcells: ∀c∈x.cells,c.ok S.gh:=by
     intro c hc;cases x with
     |cl y=>rw[aE.1 hc]; exact hx
     |agg cs=>exact hx c hc
     |fn f cs=>rw[aE.1 hc]; trivial
    obtain⟨L1,d1,n1,e1⟩:=OT _ _ _ _ _ _ _ hS (aq _) hcells hw
    have hw':el.csh.length=x.cells.length/\ ∀c∈x.cells,c≠ .dead:=by obtain⟨_,m2,_,m4,_⟩:=Bu S.gh.length 0 0 0 el.csh x.cells 0 S S2 ws [x.cells.map fun c=>T.ofSc c.av] (x.cells.map fun c=>T.ofSc c.av) hS hcells hw rfl (by simp) (fun k c hk=>by grind);exact⟨m2,m4⟩
    split at h
    ·rename_i y ys S3 hy hys;simp only[af,an] at h;obtain⟨rfl,rfl⟩:=h;obtain⟨L2,d2,n2,e2,e3,e4⟩:=ih S2 S3 ys (d1.ok hS) (fun u hu=>V.ok_mono d1.le (hv u (aN _ hu))) hys
     have hsh:el.shs=el.csh.map GF:=by unfold Ty.shs;refine aI fun c _=> ?_;cases c<;>rfl
     have hav: (V.v x).av.cells=x.cells.map Cl.av:=by
      cases x with
      |cl c=>
       simp only[V.av,V1.av,V1.cells,aW,cB];cases c with
       |c y=>cases y<;>rfl
       | _=>rfl
      |agg cs=>rfl
      |fn f cs=>exact absurd rfl (hw'.2 .dead (aE.2 rfl))
     refine⟨L1++L2,d1.trans d2,d1.apart d2 n1 n2,?_,by simp[e3],fun u hu=> ?_⟩
     ·simp only[aW,hO];rw[hav,hsh,e1];simp only[ae];rw[<-hsh,zG (X:=S.st) (Y:=S2.st) d1.fz d1.less e2];simp only[aH];rw[el.row_flat,el.unflat_some _ _ hy]
     ·rcases bc.1 hu with rfl|hu
      ·refine⟨?_,?_⟩
       ·grind [wA]
       ·cases x with
        |cl c=>
         have:=hw'.2 c (aE.2 rfl);cases c with
         |c y=>cases y<;>rfl
         |dead=>exact absurd rfl this
         | _=>rfl
        |agg cs=>rfl
        |fn f cs=>rfl
      ·exact e4 u hu
    ·cases h
   ·cases h
theorem Iv (hΘ:fW P Θ) {t:TypeId} (h:Rt Θ t=true): ∃ti el elT',lh Θ t=some ti/\ti.ty= .ls el/\sW P t=some elT'/\P.cellsOf elT'=el.width/\P.bytesOf elT'=ti.el/\0<ti.el/\nv P 9 elT'=el.shs/\ye P elT'=some el.zvs:=by
 unfold Rt at h;split at h
 ·rename_i ti hti;split at h
  ·rename_i el he;obtain⟨elT',g⟩:=(hΘ _ _ hti).el el he;exact⟨ti,el,elT',hti,he,g⟩
  ·cases h
 ·cases h
theorem OU {el:Ty} {v:Cl} (hv:v.ok S.gh) {κ:List el.D->TS->Option ρ} {r:ρ} (h:Mf S el v κ=some r):
  ∃more L S1,qC S S1 L/\iI S.st el.width el.flatB v.av=some (more.map el.row,L)/\κ more S1=some r:=by
 unfold Mf at h;split at h
 ·exact⟨[],[],S,qC.refl _,rfl,h⟩
 ·rename_i t l;obtain⟨h1,h⟩:=dZ h;split at h
  ·rename_i l' hl;obtain⟨e,hl⟩:=gx hl;subst e;simp only at hl;subst hl;refine⟨l,[],S,qC.refl _,?_,h⟩;simp only[Cl.av,C.av,iI];rw[if_pos ⟨trivial,sb h1 l⟩]
  ·cases h
 ·rename_i p sz lo len w;obtain⟨h0,h⟩:=dZ h;have h0:el.width=sz:=ao h0;cases hfl:el.flatB with
  |true=>
   rw[hfl] at h;simp only[cond_true] at h;obtain⟨t,l,h1,h2,h⟩:=gz h;split at h
   ·rename_i l' hl;obtain⟨e,hl⟩:=gx hl;subst e;simp only at hl;subst hl
    have src: ∀ (lo len:Nat),lo+len<=l.length->iI S.st t.width true (.own p sz lo len)=some (((l.drop lo).take len).map t.row,[]):=by intro lo len hle;simp only[iI];rw[if_pos h0.symm,ku h1];simp only[ae,aK];rw[if_neg (by simp),if_pos ⟨hle,by grind [sb]⟩];simp[co,cH]
    cases w with
    |true=>
     obtain⟨e1,e2,e3⟩:=ut hv h2;refine⟨l,[],S,qC.refl _,?_,h⟩
     grind [Cl.av]
    |false=>simp only[cond_false] at h;obtain⟨h3,h⟩:=ff h;exact⟨_,[],S,qC.refl _,src lo len h3,h⟩
   ·cases h
  |false=>
   rw[hfl] at h;simp only[cond_false] at h;split at h
   ·rename_i hpl;obtain⟨h1,h'⟩:=dZ h;clear h;simp only[al] at h1;obtain⟨rfl,hfz⟩:=h1;have hfz:S.fz<=p.r:=ar hfz;obtain⟨t,l,g1,g2,h⟩:=gz h';split at h
    ·rename_i l' hl;obtain⟨e,hl⟩:=gx hl;subst e;simp only at hl;subst hl;obtain⟨e1,e2,e3⟩:=ut hv g2;refine⟨l,[p.r],_,qC.one (g2 e1),?_,h⟩;simp only[Cl.av,iI];rw[if_pos h0.symm,ku g1];simp only[ae,aK];rw[if_pos ⟨trivial,e1,e2,e3,hfz⟩]
    ·cases h
   ·cases h
 ·cases h
theorem ML {el:Ty} {v:Cl} (hv:v.ok S.gh) (hroot:JD (.v (.cl v))=true) {more:List el.D} {κ:List el.D->TS->Option ρ} {r:ρ} (h:Gs S el v more κ=some r):
  ∃ (l0:List el.D) (cons:List Nat) (S':TS),ow S.st el.width v.av=some (l0.map el.row,cons)/\qC S S' cons/\κ (l0++more) S'=some r:=by
 unfold Gs at h;split at h
 ·exact⟨[],[],S,rfl,qC.refl _,h⟩
 ·rename_i p sz lo len w;obtain⟨pr,pl⟩:=p;cases pl with
  |cons a l=>cases hroot
  |nil=>
   obtain⟨h0,h'⟩:=dZ h;clear h;simp only[al] at h0;have hfz:S.fz<=pr:=ar h0.1;have hsz:el.width=sz:=ao h0.2;simp only at h';obtain⟨t,l,h1,h2,h⟩:=gz h';split at h
   ·rename_i l' hl;obtain⟨e,hl⟩:=gx hl;subst e;simp only at hl;subst hl
    have base: ∀ (len:Nat),¬l.length<len->ow S.st t.width (.own ⟨pr,[]⟩ sz 0 len)=some ((l.take len).map t.row,[pr]):=by intro len hlen;simp only[ow];rw[if_pos ⟨hsz.symm,trivial,trivial,hfz⟩,ku h1];simp only[ae,aK];rw[if_neg hlen,co]
    cases w with
    |true=>
     obtain⟨e1,e2,e3⟩:=ut hv h2;refine⟨l,[pr],_,?_,qC.one (h2 rfl),h⟩
     grind [Cl.av]
    |false=>
     simp only[cond_false] at h;obtain⟨h3,h⟩:=ff h;obtain⟨h4,h⟩:=yC h;refine⟨l.take len,[pr],_,?_,qC.one (h2 rfl),h⟩
     grind [Cl.av]
   ·cases h
 ·cases h
theorem JW [dQ] (hΘ:fW P Θ) (hY:kG P Y) (hS:S.ok) {o:Oper} (hn:gv o=true) (hf:Ov Θ o=true) (hb:JE S o=true) {κ:V->TS->Option ρ} {r:ρ} (h:tQ Θ Y S o κ=some r):
  ∃D v0 v adds cons S',kD P D/\fM D P S.st o=some (v0,adds,cons)/\shift S.st.ng v0=V.av v/\S.st.make ⟨S.st.ng,adds,cons⟩=TS.st S'/\wx S S'=⟨S.st.ng,adds,cons⟩/\S'.ok/\v.ok S'.gh/\κ v S'=some r:=by
 obtain⟨dst,op,ty,pos,aft,gd⟩:=o;cases op with
 |buildSlice t len parts=>
  obtain⟨ti,el,elT',hti,he,g1,g2,g3,g4,g5,g6⟩:=Iv hΘ hf;unfold tQ at h;simp only[hti,he] at h;obtain⟨hb',h'⟩:=dZ h;clear h
  have hnr: ((parts.toList.map fun x=>S.opd x.2).any Bd)=false:=by have hb: (!(parts.toList.map fun x=>S.opd x.2).any Bd)=true:=hb;simpa using hb
  rw[hnr] at h';simp only[cond_false] at h';split at h'
  ·rename_i l S1 hp
   have hvok: ∀v∈parts.toList.map (fun x=>S.opd x.2),v.ok S.gh:=fun v hv=>by obtain⟨y,_,rfl⟩:=aJ.1 hv;exact mT hS _
   obtain⟨L,d,hnd,m1,m2,m3⟩:=MJ el _ S S1 l hS hvok hp;simp only[al] at hb';have hb1:len*el.width<=1048576:=ar hb'.1;have hb2:=EE hb'.2
   have hlen:l.length=len:=by rw[m2];have:=congrArg List.length hb2;simpa using this
   refine⟨ED, .own ⟨0,[]⟩ el.width 0 len,_,[.sl el.width (l.map el.row)],ma L,{ S1 with gh:=S1.gh++ [some ⟨el,l,none⟩] },it,?_,?_,d.make ⟨el,l,none⟩,?_,TS.ok_gh (d.ok hS) (iH.app _ _),?_,h'⟩
   ·simp only[fM,g1,ae]
    rw[if_pos ⟨by rw[g2]; exact hb1,hb2,by rw[g2]; exact el.width_pos,by rw[g6]; rfl,by rw[ay];intro y hy;obtain⟨q1,q2⟩:=m3 (S.opd y.2) (aJ.2 ⟨y,hy,rfl⟩);simp only[ei,q1,q2,g2];rfl⟩]
    have e: (parts.toList.map fun x=>(opd S.st x.2).cells)=(parts.toList.map fun x=>S.opd x.2).map fun v=>v.av.cells:=by rw[bF];exact aI fun x _=>by simp only[ei,Function.comp]
    rw[e,g5,m1];simp only[ae];rw[if_pos (Aw.2 hnd),g2]
   ·simp only[shift,jK,kr,V.av,V1.av,Cl.av,aR,hlen];rw[d.len];rfl
   ·unfold wx;simp only;rw[d.gone,cx (by rw[d.len]; exact aq _),ck (by rw[d.len]; exact aq _)];rfl
   ·refine⟨by simp,fun _=>⟨rfl,rfl,fun tr htr=> ?_⟩⟩;rw[kF,if_pos rfl] at htr;cases htr;rfl
  ·cases h'
 |call c=>
  obtain⟨cl,as,ts⟩:=c;cases cl with
  |invoke a b=>cases hn
  |value f=>
   unfold tQ at h;simp only at h
   have fin: ∀ (g:FuncId) (caps:List AV) (vs:List V1),g<i7->callee S.st f=some (g,caps)->args P S.st ts as caps=vs.map V1.av->Y g vs ρ (fun res out=>κ (qz S.gh.length res) { S with gh:=S.gh++out.map some })=some r->
     ∃D v0 v adds cons S',kD P D/\fM D P S.st ⟨dst, .call { callee:= .value f,args:=as,argTypes:=ts },ty,pos,aft,gd⟩=some (v0,adds,cons)/\shift S.st.ng v0=V.av v/\S.st.make ⟨S.st.ng,adds,cons⟩=TS.st S'/\wx S S'=⟨S.st.ng,adds,cons⟩/\S'.ok/\v.ok S'.gh/\κ v S'=some r:=by
    intro g caps vs hg h1 h2 h3;obtain⟨res,out,h4,h5,h6⟩:=hY _ _ _ _ _ h3;have h4:=h4.fn hg;refine⟨KV dst g (vs.map V1.av) (res.av,out.map eE.tree),res.av,_,out.map eE.tree,[],_,Bn h4,?_,?_,JU S out,?_,TS.ok_gh hS (iH.apps _ _),vm h5,h6⟩
    ·simp_all [fM,JN]
    ·rw[vl]; rfl
    ·unfold wx;simp only[xt,cx (aq _),List.drop_length,aZ,BB];rfl
   unfold JA at h;split at h
   ·rename_i g x y hf';obtain⟨hg,h⟩:=dZ h;have hg:g<i7:=ar hg;obtain⟨vs,h1,h⟩:=uu hΘ hS _ _ _ _ h;refine fin g [] vs hg ?_ ?_ h
    ·unfold callee;rw[ei,hf'];rfl
    grind [args]
   ·rename_i g caps hf';obtain⟨hg,h⟩:=dZ h;have hg:g<i7:=ar hg;obtain⟨vs,h1,h⟩:=uu hΘ hS _ _ _ _ h
    have hcaps: ∀c∈caps,c.ok S.gh:=by have:=mT hS f;rw[hf'] at this;exact this
    obtain⟨cs,h2,h⟩:=Bq hS _ _ _ hcaps h;refine fin g (caps.map Cl.av) (vs++cs.map .cl) hg ?_ ?_ h
    ·unfold callee;rw[ei,hf'];rfl
    ·unfold args;rw[h1,h2,bT,bF];rfl
   ·cases h
  |builtin b=>
   cases b with
   |append=>
    unfold tQ at h;simp only at h;split at h
    ·rename_i s x t t' e1 e2;have hbb: ((match ts.toList with | [t,t'] =>Nat.beq t t'| _=>true)&&(match as.toList with |s::_=>JD (S.opd s)| [] =>true))=true:=hb;rw[e1,e2] at hbb;simp only[al] at hbb;rw[hbb.1] at h;simp only[cond_true] at h;have h':=h;have ht:t=t':=ao hbb.1;clear h;have e1:as= #[s,x] :=by apply Array.ext'; simpa using e1
     have e2:ts= #[t,t'] :=by apply Array.ext'; simpa using e2
     subst e1 e2;subst ht;obtain⟨ti,el,elT',hti,he,g1,g2,g3,g4,g5,g6⟩:=Iv hΘ hf;unfold Oq at h';simp only[hti] at h';split at h'
     ·rename_i el' sv xv he' hs hx;rw[he] at he';cases he';have hsv:=mT hS s;rw[hs] at hsv;have hxv:=mT hS x;rw[hx] at hxv;obtain⟨more,L,S1,d1,q1,h⟩:=OU (show xv.ok S.gh from hxv) h';have hroot:JD (.v (.cl sv))=true:=by rw[<-hs]; exact hbb.2
      obtain⟨l0,cons,S2,q2,d2,h⟩:=ML (show sv.ok S1.gh from Cl.ok_mono d1.le hsv) hroot h;obtain⟨hbd,h⟩:=ff h;have hlen: (l0++more).length<=2 ^ 40:=aL (Nat.le_mul_of_pos_right _ g4) hbd;have hll: (l0++more).length=l0.length+more.length:=by simp
      have d:=d1.trans d2;refine⟨ED, .own ⟨0,[]⟩ el.width 0 (l0.length+more.length),_,[.sl el.width ((l0++more).map el.row)],ma (L++cons),{ S2 with gh:=S2.gh++ [some ⟨el,l0++more,none⟩] },it,?_,?_,d.make ⟨el,l0++more,none⟩,?_,TS.ok_gh (d.ok hS) (iH.app _ _),?_,h⟩
      ·simp only[fM];rw[if_pos trivial,g1];simp only[ae,g2,g5,vn,ei,hs,hx];show (iI S.st el.width el.flatB xv.av).bind _=_;rw[q1];simp only[ae];show (ow (dropL S.st L) el.width sv.av).bind _=_;rw[<-d1.st,q2];simp only[ae,aK];rw[if_pos ⟨by rw[g3,<-hll]; exact hbd,by rw[<-hll]; exact hlen,el.width_pos,by rw[xn g2 g5 g6]; rfl⟩,bT]
      ·simp only[shift,jK,kr,V.av,V1.av,Cl.av,aR,hll];rw[d.len];rfl
      ·unfold wx;simp only;rw[d.gone,cx (by rw[d.len]; exact aq _),ck (by rw[d.len]; exact aq _)];rfl
      ·refine⟨by simp,fun _=>⟨rfl,rfl,fun tr htr=> ?_⟩⟩;rw[kF,if_pos rfl] at htr;cases htr;rfl
     ·cases h'
    ·cases h
   | _=>cases hn
 |makeSlice t l c=>
  unfold tQ at h;simp only at h;split at h
  ·rename_i ti hti;split at h
   ·rename_i el he;obtain⟨elT',g1,g2,g3,g4,g5,g6⟩:=(hΘ _ _ hti).el el he;obtain⟨n,h1,h⟩:=th h;obtain⟨m,h2,h⟩:=th h;split at h
    ·rename_i z hz;obtain⟨hb,h⟩:=ff h;have hz':=Ty.unflat_some _ _ _ hz
     have hzr:el.row z=List.zipWith zc el.shs el.zvs:=by rw[el.row_flat,hz',Bw]
     refine⟨ED, .own ⟨0,[]⟩ el.width 0 n.toNat,_,[(⟨el,List.replicate n.toNat z,none⟩:eE)].map eE.tree,[],{ S with gh:=S.gh++ [(⟨el,List.replicate n.toNat z,none⟩:eE)].map some },it,?_,?_,JU S _,?_,TS.ok_gh hS (iH.apps _ _),?_,h⟩
     ·simp only[fM,g1,ae,ei,h1,h2];rw[xn g2 g5 g6];simp only[ae]
      have hn:n<=n*(ti.el:Int):=by
       have h1e: (1:Int)<=ti.el:=by omega
       have:=cQ h1e hb.1
       rwa [Int.mul_one] at this
      rw[if_pos ⟨hb.1,hb.2.1,by rw[g3,dE]; exact hb.2.2,Int.le_trans hn hb.2.2⟩,g2,<-hzr];simp[eE.tree]
     ·simp only[shift,jK,kr,V.av,V1.av,Cl.av,aR];rfl
     ·unfold wx;simp only[xt,cx (aq _),List.drop_length,aZ,BB];rfl
     ·refine⟨by simp,fun _=>⟨rfl,by simp,fun tr htr=> ?_⟩⟩;rw[show [(⟨el,List.replicate n.toNat z,none⟩:eE)].map some= [some ⟨el,List.replicate n.toNat z,none⟩] from rfl,kF,if_pos rfl] at htr;cases htr;simp
    ·cases h
   ·cases h
  ·cases h
 | _=>cases hn
end
end
section
open Go
section
variable {ρ:Type} {P:Program} {Θ:mS} {S:TS} {Y:ww}
open Classical in
noncomputable def xw (d:Option Tmp) (D1 D2:rh):rh:=fun d'=>if d'=d then D1 d' else D2 d'
theorem GO [dQ] {d:Option Tmp} {D1 D2:rh} (h1:kD P D1) (h2:kD P D2):kD P (xw d D1 D2):=by
 intro d' f args gs res out h;unfold xw at h;split at h
 ·exact h1 _ _ _ _ _ _ h
 ·exact h2 _ _ _ _ _ _ h
theorem MM (d:Option Tmp) (D1 D2:rh):xw d D1 D2 d=D1 d:=by unfold xw; rw[if_pos rfl]
theorem MN {d d':Option Tmp} (D1 D2:rh) (h:d'≠d):xw d D1 D2 d'=D2 d':=by unfold xw; rw[if_neg h]
theorem OV [dQ] (hΘ:fW P Θ) (hY:kG P Y) {ops:Array Oper}: ∀ (os:List Oper) (S:TS) (ms:List iT) (κ:TS->List iT->Option ρ) (r:ρ),S.ok->Gu Θ Y ops.toList os S ms κ=some r->
  ∃D SV ms',kD P D/\CH D P ops os S.st=some (TS.st SV,ms')/\SV.ok/\κ SV (ms++ms')=some r:=by
 intro os
 induction os with
 |nil=>intro S ms κ r hS h; exact⟨ED,S,[],it,rfl,hS,by rw[b7]; exact h⟩
 |cons o os ih=>
  intro S ms κ r hS h;unfold Gu at h;cases hst:dW o with
  |true=>
   rw[hst] at h;simp only[cond_true] at h;obtain⟨D,SV,ms',h1,h2,h3,h4⟩:=ih _ _ _ _ hS h;refine⟨D,SV,⟨S.gh.length,[],[]⟩::ms',h1,?_,h3,?_⟩
   ·simp only[CH,hst,if_true,h2,aH];rfl
   grind
  |false=>
   rw[hst] at h;simp only[cond_false] at h;cases hbo:fF o with
   |true=>
    rw[hbo] at h;simp only[cond_true] at h;cases hgn:o.guard.isNone with
    |false=>rw[hgn] at h; cases h
    |true=>
    rw[hgn] at h;simp only[cond_true] at h;obtain⟨S3,g5,g6,_,h⟩:=jQ (v:=V.v (.cl (.ptrB (S.bx.length-1-fY os) 0))) hS trivial h;obtain⟨D,SV,ms',k1,k2,k3,k4⟩:=ih _ _ _ _ g6 h;refine⟨D,SV,⟨S.gh.length,[],[]⟩::ms',k1,?_,k3,?_⟩
    ·simp only[CH,hst,aX,if_false,hbo,if_true,hgn];rw[show S.st.put o.dst (.ptrB (S.st.nb-1-fY os) 0)=some S3.st from g5];simp only[ae,k2,aH];rfl
    grind
   |false=>
   rw[hbo] at h;simp only[cond_false] at h;obtain⟨b,S1,h1,h2,h3,h4,h⟩:=GI hS h;have hng:S.st.ng=S1.st.ng:=by rw[h2]
   cases b with
   |false=>
    simp only[cond_false] at h;obtain⟨S3,g5,g6,_,h⟩:=jQ (v:= .tup []) h3 (fun x hx=>by cases hx) h;obtain⟨D,SV,ms',k1,k2,k3,k4⟩:=ih _ _ _ _ g6 h;refine⟨D,SV,⟨S1.gh.length,[],[]⟩::ms',k1,?_,k3,?_⟩
    ·simp only[CH,hst,hbo,aX,if_false,h1,ae];rw[<-h2,show S1.st.put o.dst (.tup [])=some S3.st from g5];simp only[ae,k2,aH];rfl
    grind
   |true=>
    simp only[cond_true] at h;cases hnw:gv o with
    |false=>
     rw[hnw] at h;simp only[cond_false] at h;obtain⟨v,S2,m1,m2,m3,m4,m5,h⟩:=yE (D:=ED) hΘ h3 h;obtain⟨S3,g5,g6,_,h⟩:=jQ m3 (by rw[m4]; exact m5) h;obtain⟨D,SV,ms',k1,k2,k3,k4⟩:=ih _ _ _ _ g6 h;refine⟨D,SV,⟨S1.gh.length,[],[]⟩::ms',k1,?_,k3,?_⟩
     ·have hV:ec D P S1.st o=some v.av:=by
       rw[<-m1]
       have : ∀D':rh,ec D P S1.st o=ec D' P S1.st o:=by
        intro D';obtain⟨dst,op,ty,pos,aft,gd⟩:=o;cases op with
        |call c=>
         obtain⟨cl,as,ts⟩:=c;cases cl with
         |value f=>cases hnw
         |invoke a b=>rfl
         |builtin b=>cases b<;>rfl
        |unOp op t x=>cases op<;>rfl
        |binOp op t x y t'=>cases op<;>rfl
        |makeFunc fn first caps=>cases fn<;>rfl
        |slice t x lo hi mx=>cases mx<;>rfl
        | _=>rfl
       exact this ED
      simp only[CH,hst,hbo,aX,if_false,h1,ae,if_true,hnw];rw[<-h2,hV];simp only[ae];rw[<-m2,g5];simp only[ae,k2,aH];rw[m2]; first |rfl|skip
     grind
    |true=>
     rw[hnw] at h;simp only[cond_true] at h;obtain⟨hc,h⟩:=dZ h;simp only[al] at hc;obtain⟨D1,v0,v,adds,cons,S2,m1,m2,m3,m4,m5,m6,m7,h⟩:=JW hΘ hY h3 hnw hc.1.2 hc.2 h;obtain⟨S3,g5,g6,_,h⟩:=jQ m6 m7 h;obtain⟨D,SV,ms',k1,k2,k3,k4⟩:=ih _ _ _ _ g6 h;refine⟨xw o.dst D1 D,SV,⟨S1.st.ng,adds,cons⟩::ms',GO m1 k1,?_,k3,?_⟩
     ·have hN:fM (xw o.dst D1 D) P S1.st o=some (v0,adds,cons):=by
       rw[<-m2];exact JT (MM _ _ _)
      have hrest:CH (xw o.dst D1 D) P ops os S3.st=some (SV.st,ms'):=by
       rw[<-k2];refine RJ os _ (fun o' ho'=>MN _ _ (fun e=> ?_));have hl:=hc.1.1;unfold RF at hl;split at hl
       ·grind [PX,Nat.beq_refl]
       ·cases hl
      simp_all [CH]
     grind
theorem OW [dQ] (hΘ:fW P Θ) (hY:kG P Y) {ops:Array Oper} {D:rh}: ∀ (os:List Oper) (S:TS) (κ:TS->Option ρ) (r:ρ),S.ok->Mi Θ Y os S κ=some r->
  ∃S',CI D P ops os S.st=some (TS.st S')/\S'.ok/\κ S'=some r:=by
 intro os
 induction os with
 |nil=>intro S κ r hS h; exact⟨S,rfl,hS,h⟩
 |cons o os ih=>
  intro S κ r hS h;unfold Mi at h;cases hst:dW o with
  |false=>simp_all [CI]
  |true=>
   rw[hst] at h;simp only[cond_true] at h;obtain⟨hc,h⟩:=dZ h;simp only[al] at hc;obtain⟨D',v,S1,g1,g2,g3,g4,h⟩:=uw hΘ hY hS h;obtain⟨S',h1,h2,h3⟩:=ih S1 κ r g3 h;refine⟨S',?_,h2,h3⟩;have hd:o.dst=none:=cI.1 hc.2
   have hs:step D P S.st o=some (v.av,S1.st):=by
    rw[<-g2];obtain⟨dst,op,ty,pos,aft,gd⟩:=o;cases op with
    |store t a x=>rfl
    | _=>cases hst
   simp_all [one,St.put,CI]
theorem OX (hΘ:fW P Θ): ∀ (os:List Oper) (S:TS) (κ:TS->Option ρ) (r:ρ),S.ok->Mh Θ os S κ=some r-> ∃S0,D9 P os S.st=some (TS.st S0)/\S0.ok/\κ S0=some r:=by
 intro os
 induction os with
 |nil=>intro S κ r hS h; exact⟨S,rfl,hS,h⟩
 |cons o os ih=>
  intro S κ r hS h;unfold Mh at h;unfold D9;split at h
  ·rename_i t hop;split at h
   ·rename_i ti hti
    obtain⟨S0,h1,h2,h3⟩:=ih { S with bx:=S.bx++ [ti.ty.zvs.map cC] } κ r ⟨hS.env,fun cs hcs c hc=>by
     rcases bf.1 hcs with h1|h1
     ·exact hS.bx cs h1 c hc
     grind [Mr]⟩ h
    refine⟨S0,?_,h2,h3⟩;rw[hop];simp only[(hΘ _ _ hti).ze,ae];rw[<-h1]
    congr 1
    rw[Ir,Mq];rfl
   ·cases h
  grind
theorem Iw {f g:TypeId->Bool} (h: ∀t,f t=true->g t=true) {t:TypeId} {a:AV} (hs:w9 f t a=true):w9 g t a=true:=by cases a<;>simp only[w9] at hs ⊢<;>first |exact h t hs|exact hs
theorem GP {f g:TypeId->Bool} (h: ∀t,f t=true->g t=true) {ops:List Oper} {B:List (List Nat)} {S SV:St} {i j:Nat} {oi oj:Oper} (hs:sY f ops B S SV i j oi oj=true):sY g ops B S SV i j oi oj=true:=by
 unfold sY at hs ⊢;split at hs
 ·simp only[al] at hs ⊢;exact⟨Iw h hs.1,hs.2⟩
 ·cases hs
theorem GQ {ops:List Oper} {B:List (List Nat)} {f g:Nat->Nat->Oper->Oper->Bool} (h: ∀i j oi oj,f i j oi oj=true->g i j oi oj=true) (hs:we ops B f=true):we ops B g=true:=by
 unfold we at hs ⊢
 grind
theorem K0 {f g:TypeId->Bool} (h: ∀t,f t=true->g t=true) {ops:List Oper} {B:List (List Nat)} {S SV:St} {ms:List iT} (hs:HO f ops B S ms SV=true):HO g ops B S ms SV=true:=by
 unfold HO at hs ⊢;simp only[al,bP] at hs ⊢
 grind [GQ,GP]
theorem JX (hΘ:fW P Θ) (t:TypeId) (h:JF Θ t=true):rn P t=true:=by
 unfold JF at h;split at h
 ·rename_i ti hti;unfold rn;rw[(hΘ t ti hti).sh];unfold Ty.flatB at h;unfold Ty.shs
  grind
 ·cases h
theorem MO (hΘ:fW P Θ) {S:TS} {o:Oper} (h:Mj Θ S o=true): ∀t x v,o.op= .store t x v->w9 (rn P) t (opd S.st x)=true:=by
 intro t x v ho;unfold Mj at h;rw[ho] at h;simp only at h;rw[ei];split at h
 ·rename_i e; rw[e]; rfl
 ·rename_i e; rw[e]; exact JX hΘ t h
 ·cases h
theorem K1 (hΘ:fW P Θ) {o:Oper} (h:EA Θ o=true):A4 P o=true:=by
 unfold A4;split
 ·rename_i t a b he;unfold EA at h;rw[he] at h;simp only at h;split at h
  ·rename_i ti hti;split at h
   ·rename_i el hel;have hl:Rt Θ t=true:=by unfold Rt; rw[hti]; simp only[hel]
    grind [Iv,rn,vn]
   ·cases h
  ·cases h
 ·rfl
theorem OY [dQ] (hΘ:fW P Θ) (hY:kG P Y) {n0:Nat} {ops:List Oper} {B:List (List Nat)}: ∀ (os:List Oper) (k:Nat) (S:TS) (κ:TS->Option ρ) (r:ρ),(∀o∈os,mQ P o=true)->(os≠ [] ->n0<=S.gh.length)->S.ok->Gv Θ Y n0 ops B k os S κ=some r->
  ∃ (T:Nat->St) (S':TS),T k=S.st/\T (k+os.length)=S'.st/\S'.ok/\κ S'=some r/\ ∀i o,os[i]? =some o->DC P n0 ops B T (k+i) o\/(i+1=os.length/\dW o=true/\L4 P (T (k+i)) o (T (k+i+1))/\ ∀j,j<k+i->j∈B.getD (k+i) []):=by
 intro os
 induction os with
 |nil=>intro k S κ r _ _ hS h; exact⟨fun _=>S.st,S,rfl,rfl,hS,h,fun i o h=>by simp at h⟩
 |cons o os ih=>
  intro k S κ r hop hn0 hS h;have hop': ∀o∈os,mQ P o=true:=fun x hx=>hop x (aN _ hx);have hok:=hop o aM;have hn0:=hn0 (by simp)
  have glue: ∀ {S3:TS},(os≠ [] ->n0<=S3.gh.length)->S3.ok->Gv Θ Y n0 ops B (k+1) os S3 κ=some r->((uo o=true/\kE P n0 S.st o S3.st)\/L5 P n0 (L0 ops B k) S.st o S3.st\/(os= [] /\dW o=true/\L4 P S.st o S3.st/\ ∀j,j<k->j∈B.getD k []))->
    ∃ (T:Nat->St) (S':TS),T k=S.st/\T (k+(o::os).length)=S'.st/\S'.ok/\κ S'=some r/\ ∀i o',(o::os)[i]? =some o'->DC P n0 ops B T (k+i) o'\/(i+1=(o::os).length/\dW o'=true/\L4 P (T (k+i)) o' (T (k+i+1))/\ ∀j,j<k+i->j∈B.getD (k+i) []):=by
   intro S3 hn3 hS3 h3 hst;obtain⟨T,S',t1,t2,hS',hk,hT⟩:=ih (k+1) S3 κ r hop' hn3 hS3 h3
   let T':Nat->St:=fun i=>if i=k then S.st else T i
   have e0:T' k=S.st:=if_pos rfl;have e1: ∀i,k<i->T' i=T i:=fun i hi=>if_neg (by omega);refine⟨T',S',e0,?_,hS',hk,fun i o' ho'=> ?_⟩
   ·grind
   ·cases i with
    |zero=>
     simp only[aO,af] at ho';subst ho';have e2:T' (k+1)=S3.st:=by rw[e1 _ (by omega),t1]
     rcases hst with h|h| ⟨rfl,h1,h2,h3⟩
     ·left;left
      grind
     ·left;right
      grind
     grind
    |succ i=>grind [DC]
  unfold Gv at h;cases hh:Be Y S o with
  |some z=>
   obtain⟨kd,g,caps,a,us,xs⟩:=z;rw[hh] at h;obtain⟨S3,g1,g2,g3⟩:=GM hΘ hY hS hh h
   have hv:uo o=true:=by obtain⟨f,as,ts,x,t0,hop,_⟩:=Bz hh;unfold uo gv;rw[hop];rfl
   exact glue (fun _=>aL hn0 (g1 0).ng) g2 g3 (.inl ⟨hv,g1 n0⟩)
  |none=>
  rw[hh] at h;simp only at h;cases hs:dW o with
  |true=>
   rw[hs] at h;simp only[cond_true] at h;obtain⟨hc,h⟩:=dZ h;obtain⟨D,v,S2,hD,g2,g3,g4,h⟩:=uw hΘ hY hS h;obtain⟨S3,g5,g6,g7,h⟩:=jQ g3 g4 h;rcases Bool.or_eq_true_iff.1 hc with hc|hc
   ·have hst:=kE.store hD hok hs (MO hΘ hc) g2 g5 (n0:=n0);exact glue (fun _=>aL hn0 hst.ng) g6 h (.inl ⟨by simp[uo,hs],hst⟩)
   ·simp only[al,dx,ay,bH,bL] at hc;exact glue (fun hne=>absurd hc.1 hne) g6 h (.inr (.inr ⟨hc.1,hs,L4.one hD hok (by unfold one; rw[g2]; exact g5),hc.2⟩))
  |false=>
  rw[hs] at h;simp only[cond_false] at h;cases hn:gv o with
  |true=>
   rw[hn] at h;simp only[cond_true] at h;have hv:uo o=true:=by simp[uo,hn]
   cases hfl: !qs o&&EA Θ o with
   |true=>simp only[hfl,Bool.true_or,cond_true] at h;simp only[al,bZ] at hfl;obtain⟨D,v,S2,hD,g2,g3,g4,h⟩:=uw hΘ hY hS h;obtain⟨S3,g5,g6,g7,h⟩:=jQ g3 g4 h;have hst:=kE.flat hD hok hn hfl.1 (K1 hΘ hfl.2) g2 g5 (n0:=n0) hn0;exact glue (fun _=>aL hn0 hst.ng) g6 h (.inl ⟨hv,hst⟩)
   |false=>
    simp only[hfl,ch] at h;cases hfb:Ov Θ o&&JE S o with
    |false=>
     obtain⟨D,v,S2,hD,g2,g3,g4,h⟩:=uw hΘ hY hS h
     grind
    |true=>
     have hfb':=hfb;simp only[al] at hfb';obtain⟨D,v0,v,adds,cons,S2,hD,g2,g3,g4,g8,g9,g10,h⟩:=JW hΘ hY hS hn hfb'.1 hfb'.2 h;simp only[hfb,du] at h;obtain⟨hc,h⟩:=dZ h;obtain⟨S3,g5,g6,g7,h⟩:=jQ g9 g10 h
     have hst:kE P n0 S.st o S3.st:=kE.new hD hok hn g2 (by rw[g4,g3]; exact g5) hn0 fun ha r hr=>by
      rw[ha,ch] at hc;have e:gone 0 S.gh S2.gh=cons:=congrArg iT.cons g8
      simp_all
     exact glue (fun _=>aL hn0 hst.ng) g6 h (.inl ⟨hv,hst⟩)
  |false=>rw[hn] at h;simp only[cond_false] at h;obtain⟨hp,h⟩:=dZ h;obtain⟨v,S2,m1,m2,m3,m4,m5,h⟩:=yE (D:=Oi) hΘ hS h;obtain⟨S3,g5,g6,g7,h⟩:=jQ m3 (by rw[m4]; exact m5) h;refine glue (fun _=>by rw[g7,m4]; exact hn0) g6 h (.inr (.inl ⟨by simp[uo,hs,hn],hok,v.av,m1,hp,by rw[<-m2]; exact g5⟩))
theorem OZ [dQ] (hΘ:fW P Θ) (hY:kG P Y) (hm:P.follows .mixedOrders=true) {id:Nat} {ops:Array Oper} (hok:lr P (.region id ops true)=true) (hS:S.ok) {κ:TS->Option ρ} {r:ρ} (h:QD Θ Y ops.toList S κ=some r):
  pE P (.region id ops true) S.st (fun x S'=>x= .nor/\ ∃S1:TS,S'=S1.st/\S1.ok/\κ S1=some r):=by
 unfold QD at h;simp only[lr] at hok;cases hc:F8 ops||(ops.toList.any (SF Y)&&PU ops) with
 |true=>
  rw[show (F8 ops.toList.toArray||(ops.toList.any (SF Y)&&PU ops.toList.toArray))=true from hc] at h;simp only[cond_true] at h
  have hph:PU ops=true:=by
   unfold F8 at hc;simp only[bP,al] at hc;rcases hc with hc|hc
   ·exact hc.2
   ·exact hc.2
  obtain⟨T,S',t1,t2,h2,h3,hT⟩:=OY hΘ hY ops.toList 0 S κ r (fun o ho=>ay.1 hok o ho) (fun _=>aq _) hS h;have hsz:ops.toList.length=ops.size:=by simp
  rw[aR,hsz] at t2;have tl: ∀ {i:Nat} {o:Oper},ops[i]? =some o->ops.toList[i]? =some o:=by intro i o h; simpa using h
  by_cases hl: ∃o,ops[ops.size-1]? =some o/\ ¬DC P S.st.ng ops.toList (fP ops.toList) T (ops.size-1) o
  ·obtain⟨o,ho,hnp⟩:=hl;have hlt:=(aF.1 ho).1;refine pE.phase hm (F9 hph) T t1 (m:=ops.size-1) (.inr ⟨by omega,o,ho,?_⟩) (fun i o hi ho=> ?_) ⟨rfl,S',t2,h2,h3⟩
   ·have:=hT _ o (tl ho);rw[aR] at this;rcases this with h|h
    ·exact absurd h hnp
    ·exact⟨h.2.1,h.2.2.1,h.2.2.2⟩
   ·have:=hT _ o (tl ho);rw[aR] at this;rcases this with h|h
    ·exact h
    ·omega
  ·refine pE.phase hm (F9 hph) T t1 (m:=ops.size) (.inl rfl) (fun i o hi ho=> ?_) ⟨rfl,S',t2,h2,h3⟩;have:=hT _ o (tl ho);rw[aR] at this;rcases this with h|h
   ·exact h
   grind
 |false=>
 rw[show (F8 ops.toList.toArray||(ops.toList.any (SF Y)&&PU ops.toList.toArray))=false from hc] at h;simp only[cond_false] at h;obtain⟨hd,h⟩:=dZ h;have hd:Jt ops=true:=hd;obtain⟨S0,h0,hS0,h⟩:=OX hΘ _ _ _ _ hS h;obtain⟨D,SV,ms,h1,h2,h3,h4⟩:=OV hΘ hY _ _ _ _ _ hS0 h;obtain⟨h5,h6⟩:=dZ h4;rw[aZ] at h5;obtain⟨S',h7,h8,h9⟩:=OW (D:=D) (ops:=ops) hΘ hY _ _ _ _ h3 h6;exact pE.draw h1 hm (by unfold AR; rw[hd,hok]; rfl) h0 h2 (K0 (JX hΘ) h5) h7 ⟨rfl,S',rfl,h8,h9⟩
def fu:Code->List Code
 | .seq a b=>fu a++fu b
 | .cond _ a b=>fu a++fu b
 | .block _ c=>fu c
 | .loop c=> [c]
 | _=> []
def iu [dQ] (P:Program) (Λ:nf) (cs:List Code):Prop:= ∀c∈cs,∀ (S:TS) (ρ:Type) (κ:X->TS->Option ρ) (r:ρ),S.ok->Λ (gm c) S ρ κ=some r->pE P (.loop c) S.st (fun x S'=> ∃S1:TS,S'=S1.st/\S1.ok/\κ x S1=some r)
theorem EI [dQ] (hΘ:fW P Θ) (hY:kG P Y) (hm:P.follows .mixedOrders=true) {Λ:nf}: ∀ (c:Code) (S:TS) (κ:X->TS->Option ρ) (r:ρ),lr P c=true->iu P Λ (fu c)->S.ok->yB Θ Y Λ c S κ=some r->
  pE P c S.st (fun x S'=> ∃S1:TS,S'=S1.st/\S1.ok/\κ x S1=some r):=by
 intro c
 induction c with
 |skip=>intro S κ r _ _ hS h; exact pE.skip ⟨S,rfl,hS,h⟩
 |exit i=>intro S κ r _ _ hS h; exact pE.exit ⟨S,rfl,hS,h⟩
 |ret=>intro S κ r _ _ hS h; exact pE.ret ⟨S,rfl,hS,h⟩
 |region id ops dr=>
  intro S κ r hok _ hS h;cases dr with
  |false=>exact pE.region (OP hΘ hY _ _ _ _ (fun o ho=>ay.1 hok o ho) hS h)
  |true=>refine (OZ hΘ hY hm hok hS h).mono (fun x S' hx=> ?_);obtain⟨rfl,hx⟩:=hx;exact⟨S',pc.refl,hx⟩
 |seq a b iha ihb=>
  intro S κ r hok hL hS h;simp only[lr,al] at hok;have hLa:iu P Λ (fu a):=fun c hc=>hL c (cj _ hc);have hLb:iu P Λ (fu b):=fun c hc=>hL c (List.mem_append_right _ hc);unfold yB at h;refine pE.seq ((iha S _ r hok.1 hLa hS h).mono (fun x S' hx=>⟨S',pc.refl,?_⟩))
  grind
 |cond t a b iha ihb=>
  intro S κ r hok hL hS h;simp only[lr,al] at hok
  grind [iu,fu,yB,Bk,pE.cond]
 |block i c ih=>
  intro S κ r hok hL hS h;unfold yB at h;refine pE.block ((ih S _ r hok hL hS h).mono (fun x S' hx=>⟨S',pc.refl,?_⟩));obtain⟨S1,rfl,h1,h2⟩:=hx;cases x with
  |nor=>exact⟨S1,rfl,h1,h2⟩
  |ret=>exact⟨S1,rfl,h1,h2⟩
  |ext j=>
   simp only at h2 ⊢;cases hb:Nat.beq j i with
   |true=>rw[hb] at h2;rw[if_pos (ao hb)];exact⟨S1,rfl,h1,h2⟩
   |false=>rw[hb] at h2;rw[if_neg (by grind [Nat.beq_refl])];exact⟨S1,rfl,h1,h2⟩
 |loop c ih=>intro S κ r hok hL hS h;exact hL c (aE.2 rfl) S ρ κ r hS h
 | _=>intro S κ r hok; cases hok
end
end
section
open Go
section
variable {ρ:Type} {P:Program} {Θ:mS} {S:TS} {Y:ww}
theorem EJ (hS:S.ok) {gs:List eE} {et:Option Ty} {c:Cl} (hc:c.ok S.gh) {κ:Cl->List eE->TS->Option ρ} {r:ρ} (h:Ml S gs et c κ=some r):
  ∃c' gs' S',wd S.st (gs.map eE.tree) (GF et) c.av=some (Cl.av c',gs'.map eE.tree,TS.st S')/\S'.ok/\iH S.gh S'.gh/\iH (gs.map some) (gs'.map some)/\c'.ok (gs'.map some)/\κ c' gs' S'=some r:=by
 have new: ∀ (t:Ty) (l:List t.D) (n:Nat),n=l.length->(Cl.own ⟨gs.length,[]⟩ t.width 0 n true).ok ((gs++ [(⟨t,l,none⟩:eE)]).map some):=by intro t l n hn;refine⟨by simp,fun _=>⟨rfl,rfl,fun tr htr=> ?_⟩⟩;rw[bT] at htr;have e:=kF (G:=gs.map some) (x:=some (⟨t,l,none⟩:eE)) gs.length;simp only[aK,if_true] at e;have htr':fB (gs.map some++ [some (⟨t,l,none⟩:eE)]) gs.length=some tr:=htr;rw[e] at htr';cases htr';exact hn
 have grow: ∀ (x:eE),iH (gs.map some) ((gs++ [x]).map some):=fun x=>by rw[bT]; exact iH.app _ _
 unfold Ml at h;split at h
 ·refine⟨_,_,_,rfl,hS,iH.refl _,iH.refl _,?_,h⟩;trivial
 ·rename_i t;refine⟨_,_,S,?_,hS,iH.refl _,grow _,new t [] 0 rfl,h⟩;simp only[Cl.av,wd,GF,aK,bT,aW,cB];rfl
 ·rename_i p sz lo len w t';obtain⟨pr,pl⟩:=p;cases pl with
  |cons a l=>cases h
  |nil=>
   simp only at h;obtain⟨h1,h'⟩:=dZ h;clear h;simp only[al] at h1;have h2:S.fz<=pr:=ar h1.1;have h3:t'.width=sz:=ao h1.2;obtain⟨t,l,k1,k2,h⟩:=gz h';obtain⟨k3,h⟩:=dZ h;have k3:t.width=sz:=ao k3
   have fin0: ∀ (lo len:Nat),lo+len<=l.length->(lo=0\/sz<=3/\t.flatB=true)->wd S.st (gs.map eE.tree) (GF (some t')) (.own ⟨pr,[]⟩ sz lo len)=some (.own ⟨gs.length,[]⟩ sz 0 len,(gs++ [(⟨t,(l.drop lo).take len,none⟩:eE)]).map eE.tree,({ S with gh:=fo S.gh pr none }:TS).st):=by
    intro lo len hlen hoff;simp only[wd];have hrows:S.st.rows ⟨pr,[]⟩ sz=some (l.map t.row):=by rw[<-k3]; exact ku k1
    rw[if_pos ⟨trivial,by show sz=t'.width; exact h3.symm,h2⟩,hrows];simp only[ae,aK];rw[if_pos ⟨hlen,hoff.imp id fun h=>⟨h.1,sb h.2 l⟩⟩,xm];simp only[GF,h3,bT,aW,cB,eE.tree,co,cH,k3]
   have fin: ∀ (len:Nat),len<=l.length->wd S.st (gs.map eE.tree) (GF (some t')) (.own ⟨pr,[]⟩ sz 0 len)=some (.own ⟨gs.length,[]⟩ sz 0 len,(gs++ [(⟨t,l.take len,none⟩:eE)]).map eE.tree,({ S with gh:=fo S.gh pr none }:TS).st):=fun len hlen=>by
    have:=fin0 0 len (by omega) (.inl rfl)
    rwa [bK] at this
   cases w with
   |true=>
    obtain⟨e1,e2,e3⟩:=ut hc k2;refine⟨_,_,_,?_,TS.ok_gh hS (iH.gone _ _),iH.gone _ _,grow _,by rw[<-k3]; exact new t l _ rfl,h⟩
    simp_all [Cl.av]
   |false=>
    simp only[cond_false] at h;rcases Oy h with ⟨h4,h⟩| ⟨_,h⟩
    case inr=>
     obtain⟨hz,h⟩:=dZ h;simp only[al] at hz;obtain⟨h4,h⟩:=ff h;refine⟨_,_,_,?_,TS.ok_gh hS (iH.gone _ _),iH.gone _ _,grow _,by rw[<-k3]; exact new t ((l.drop lo).take len) _ rfl,h⟩;have:=fin0 lo len h4 (.inr ⟨ar hz.2,hz.1⟩);have hl: ((l.drop lo).take len).length=len:=by simp; omega
     simp only[Cl.av];rw[hl];exact this
    case inl=>
     refine⟨_,_,_,?_,TS.ok_gh hS (iH.gone _ _),iH.gone _ _,grow _,by rw[<-k3]; exact new t (l.take len) _ rfl,h⟩
     grind [Cl.av]
 ·rename_i p sz i j;obtain⟨pr,pl⟩:=p;cases pl with
  |cons a l=>cases h
  |nil=>
   simp only at h;obtain⟨h1,h'⟩:=dZ h;clear h;obtain⟨t,l,k1,k2,h⟩:=gz h';obtain⟨k3,h⟩:=dZ h;have k3:t.width=sz:=ao k3;have hrows:S.st.rows ⟨pr,[]⟩ sz=some (l.map t.row):=by rw[<-k3]; exact ku k1
   refine⟨_,_,_,?_,TS.ok_gh hS (iH.gone _ _),iH.gone _ _,grow _,?_,h⟩
   ·simp only[Cl.av,wd];rw[if_pos ⟨trivial,ar h1⟩,hrows];simp only[ae,xm,aK,bT,aW,cB,eE.tree,k3]
   ·show gs.length< ((gs++ [(⟨t,l,none⟩:eE)]).map some).length;simp
 ·cases h
theorem MP: ∀ (ets:List (Option Ty)) (cs:List Cl) (S:TS) (gs:List eE) (κ:List Cl->List eE->TS->Option ρ) (r:ρ),S.ok->(∀c∈cs,c.ok S.gh)->JG S gs ets cs κ=some r->
  ∃cs' gs' S',sX S.st (gs.map eE.tree) (ets.map GF) (cs.map Cl.av)=some (cs'.map Cl.av,gs'.map eE.tree,TS.st S')/\S'.ok/\iH S.gh S'.gh/\iH (gs.map some) (gs'.map some)/\(∀c∈cs',c.ok (gs'.map some))/\κ cs' gs' S'=some r:=by
 intro ets
 induction ets with
 |nil=>
  intro cs S gs κ r hS hcs h;cases cs with
  |nil=>exact⟨[],gs,S,rfl,hS,iH.refl _,iH.refl _,(fun c hc=>by cases hc),h⟩
  |cons c cs=>cases h
 |cons et ets ih=>
  intro cs S gs κ r hS hcs h;cases cs with
  |nil=>cases h
  |cons c cs=>
   unfold JG at h;obtain⟨c',g1,S1,h1,h2,h3,h4,h5,h⟩:=EJ hS (hcs c aM) h;obtain⟨cs',g2,S2,k1,k2,k3,k4,k5,h⟩:=ih cs S1 g1 _ r h2 (fun x hx=>Cl.ok_mono h3 (hcs x (aN _ hx))) h;refine⟨c'::cs',g2,S2,?_,k2,h3.trans k3,h4.trans k4,fun x hx=> ?_,h⟩
   ·simp only[aW,sX,h1,ae,k1,aH]
   ·rcases bc.1 hx with rfl|hx
    all_goals grind [Cl.ok_mono]
theorem O0 (hΘ:fW P Θ) (hS:S.ok) {gs:List eE} {t:TypeId} {v:V} (hv:v.ok S.gh) {κ:V1->List eE->TS->Option ρ} {r:ρ} (h:QE Θ S gs t v κ=some r):
  ∃v' gs' S',Kv P S.st (gs.map eE.tree) t v.av=some (V1.av v',gs'.map eE.tree,TS.st S')/\S'.ok/\iH S.gh S'.gh/\iH (gs.map some) (gs'.map some)/\v'.ok (gs'.map some)/\κ v' gs' S'=some r:=by
 unfold QE at h;split at h
 ·rename_i p sz i j;obtain⟨c',g1,S1,h1,h2,h3,h4,h5,h⟩:=EJ hS (show Cl.ok S.gh (.ptrT p sz i j) from hv) h;exact⟨.cl c',g1,S1,h1,h2,h3,h4,h5,h⟩
 split at h
 ·cases h
 ·rename_i ti hti;have hsh:=(hΘ _ _ hti).sh;split at h
  ·rename_i cs _;obtain⟨cs',g1,S1,h1,h2,h3,h4,h5,h⟩:=MP _ _ _ _ _ _ hS hv h;refine⟨.agg cs',g1,S1,?_,h2,h3,h4,h5,h⟩;simp only[V.av,V1.av,Kv,hsh];rw[show ti.ty.shs=ti.ty.csh.map GF from rfl,h1];rfl
  ·rename_i c _;obtain⟨c',g1,S1,h1,h2,h3,h4,h5,h⟩:=EJ hS hv h;refine⟨.cl c',g1,S1,?_,h2,h3,h4,h5,h⟩
   have e:Kv P S.st (gs.map eE.tree) t (V.v (.cl c)).av=wd S.st (gs.map eE.tree) ((nv P 9 t).headD 0) c.av:=by
    cases c with
    |c x=>cases x<;>rfl
    | _=>rfl
   rw[e,hsh]
   have e2:ti.ty.shs.headD 0=GF (ti.ty.csh.headD none):=by
    unfold Ty.shs;cases ti.ty.csh with
    |nil=>rfl
    |cons a l=>cases a<;>rfl
   rw[e2];exact h1
  ·cases h
theorem MQ (hΘ:fW P Θ): ∀ (rs:List (TypeId×V)) (S:TS) (gs:List eE) (κ:List V1->List eE->Option ρ) (r:ρ),S.ok->(∀x∈rs,x.2.ok S.gh)->Gw Θ S gs rs κ=some r->
  ∃vs gs',HN P S.st (gs.map eE.tree) (rs.map fun x=>(x.1,x.2.av))=some (vs.map V1.av,gs'.map eE.tree)/\iH (gs.map some) (gs'.map some)/\(∀v∈vs,v.ok (gs'.map some))/\vs.length=rs.length/\κ vs gs'=some r:=by
 intro rs
 induction rs with
 |nil=>intro S gs κ r hS hrs h; exact⟨[],gs,rfl,iH.refl _,(fun v hv=>by cases hv),rfl,h⟩
 |cons x rs ih=>
  intro S gs κ r hS hrs h;obtain⟨t,v⟩:=x;unfold Gw at h;obtain⟨v',g1,S1,h1,h2,h3,h4,h5,h⟩:=O0 hΘ hS (hrs _ aM) h;obtain⟨vs,g2,k1,k2,k3,k4,h⟩:=ih S1 g1 _ r h2 (fun x hx=>V.ok_mono h3 (hrs x (aN _ hx))) h;refine⟨v'::vs,g2,?_,h4.trans k2,fun y hy=> ?_,by simp[k4],h⟩
  ·simp only[aW,HN,h1,ae,k1,aH]
  ·rcases bc.1 hy with rfl|hy
   all_goals grind [V1.ok_mono]
theorem O1 (hΘ:fW P Θ) (hS:S.ok): ∀ (rs:List ResultVar) (ts:List TypeId) (κ:List (TypeId×V)->Option ρ) (r:ρ),Ip Θ S rs ts κ=some r->
  ∃l:List (TypeId×V),rs.mapM (zC P S.st)=some (l.map fun x=>x.2.av)/\l.map (·.1)=ts/\(∀x∈l,x.2.ok S.gh)/\κ l=some r:=by
 intro rs
 induction rs with
 |nil=>
  intro ts κ r h;cases ts with
  |nil=>exact⟨[],rfl,rfl,(fun x hx=>by cases hx),h⟩
  |cons t ts=>cases h
 |cons a rs ih=>
  intro ts κ r h;cases ts with
  |nil=>cases a<;>cases h
  |cons t ts=>
   cases a with
   |tmp a=>
    unfold Ip at h;obtain⟨l,h1,h2,h3,h⟩:=ih ts _ r h;refine⟨(t,i6 S.env a)::l,?_,by simp[h2],fun x hx=> ?_,h⟩
    ·simp only[cJ,h1,zC];rfl
    ·rcases bc.1 hx with rfl|hx
     all_goals grind [Az]
   |cell a t'=>
    unfold Ip at h
    have hw:0<P.cellsOf t':=by
     have h':=h;unfold Gk at h';split at h'
     ·rename_i ti hti;rw[(hΘ _ _ hti).cells];exact Ty.width_pos _
     ·cases h'
    obtain⟨u,g1,g2,h⟩:=GA hΘ hS (Az hS a) h;obtain⟨l,h1,h2,h3,h⟩:=ih ts _ r h;refine⟨(t,u)::l,?_,by simp[h2],fun x hx=> ?_,h⟩
    ·simp only[cJ,h1,zC];rw[if_pos hw];have :load P S.st t' (S.st.env a)=some u.av:=g1;rw[this];rfl
    grind
theorem O2 {α β γ:Type} (f:α×β->γ): ∀l:List (α×β),(l.map (·.1)).zip (l.map f)=l.map fun x=>(x.1,f x)
 | [] =>rfl
 |a::l=>by grind
theorem O3 (vs:List V1): (EB vs).av=RA (vs.map V1.av):=by
 match vs with
 | [] =>rfl
 | [v] =>rfl
 |v::u::vs=>rfl
theorem BC: ∀ (args:List V1) (n t:Nat),(i6 (qB n args) (n+t)).av=(args.map V1.av).getD t .dead
 | [],n,t=>by simp[qB,i6]; rfl
 |a::l,n,0=>by simp[qB,i6]; rfl
 |a::l,n,t+1=>by
  have :Nat.beq n (n+(t+1))=false:=by
   cases h:Nat.beq n (n+(t+1)) with
   |false=>rfl
   |true=>have:=ao h; omega
  simp only[qB,i6,this,cond_false];rw[show n+(t+1)=(n+1)+t by omega,BC l (n+1) t];simp
theorem BD: ∀ (args:List V1) (n:Nat) (x:Nat×V),x∈qB n args-> ∃a∈args,x.2= .v a
 | [],n,x,h=>by cases h
 |a::l,n,x,h=>by
  simp only[qB,bc] at h;rcases h with rfl|h
  ·exact⟨a,aM,rfl⟩
  ·obtain⟨b,hb,he⟩:=BD l (n+1) x h;exact⟨b,aN _ hb,he⟩
theorem GR (a:List V1) (t:Nat): (i6 (qB 0 a) t).av=(a.map V1.av).getD t .dead:=by
 have:=BC a 0 t
 rwa [aR] at this
theorem Ix (_P:Program) (S:TS): ∀ (n r:Nat) (gs:List eE),vj S r n=some gs->((List.range' r n).map fun r=>(S.st.gh r).getD .dd)=gs.map eE.tree:=by
 intro n
 induction n with
 |zero=>simp_all [vj]
 |succ n ih=>
  intro r gs h;simp only[vj] at h;split at h
  ·rename_i t l hg;split at h
   ·rename_i ts hts;simp only[af] at h;subst h;rw[cz,aW,aW,ih _ _ hts]
    congr 1
    show ((fB S.gh r).map eE.tree).getD .dd=_;rw[hg];rfl
   ·cases h
  ·cases h
theorem Iy [dQ] (hΘ:fW P Θ) (hY:kG P Y) (hm:P.follows .mixedOrders=true) {Λ:nf} {f:FuncId} {fn:Func} (hf:DD P f=some fn) (hL: ∀c,fn.body=some c->iu P Λ (fu c)) {args:List V1} {G:List eE} {m:Nat} (hmG:m<=G.length) (ha: ∀a∈args,a.ok (G.map some)) {res:V} {out:List eE}
  (h:RG Θ Y Λ fn args G m (fun v g=>some (v,g))=some (res,out)):jg P f (args.map V1.av) (G.map eE.tree) m res.av (out.map eE.tree):=by
 unfold RG at h;split at h
 ·cases h
 ·rename_i c hc
  have hcok:lr P c=true:=by
   unfold DD at hf;simp only[ai] at hf;obtain⟨fn',g1,g2⟩:=hf;split at g2
   ·cases g2
   ·grind
  have hS0: ({ env:=qB 0 args,bx:= [],gh:=G.map some,fz:=m,nt:=args.length+(fn.ntmps-args.length) }:TS).ok:=
   ⟨fun x hx=>by obtain⟨a,h1,h2⟩:=BD _ _ _ hx; rw[h2]; exact ha a h1,fun cs hcs=>by cases hcs⟩
  have hbeg: ({ env:=qB 0 args,bx:= [],gh:=G.map some,fz:=m,nt:=args.length+(fn.ntmps-args.length) }:TS).st=KL fn.ntmps (args.map V1.av) (G.map eE.tree) m:=by
   unfold TS.st KL Qt;simp only[aK,b9]
   congr 1
   ·funext t
    exact GR _ t
   ·funext r
    show (fB (G.map some) r).map eE.tree=(G.map eE.tree)[r]?;unfold fB;rw[fT,ap,ap];cases G[r]?<;>rfl
  have hW:=EI hΘ hY hm c _ _ _ hcok (hL c hc) hS0 h;rw[hbeg] at hW
  have main: ∀ (S1:TS),S1.ok->(Ip Θ S1 fn.results.toList fn.resultTypes.toList fun rs=>match vj S1 0 m with
    |some gs=>Gw Θ S1 gs rs fun vs gs'=>some (EB vs,gs')
    |none=>none)=some (res,out)->L6 P fn.results.toList fn.resultTypes.toList m S1.st=some (res.av,out.map eE.tree):=by
   intro S1 hS1 h0;obtain⟨l,h1,h2,h3,h⟩:=O1 (P:=P) hΘ hS1 _ _ _ _ h0;clear h0;split at h
   ·rename_i gs hgs;have hgs:=Ix P S1 m 0 gs hgs;obtain⟨vs,gs',k1,k2,k3,k4,h⟩:=MQ (P:=P) hΘ _ _ _ _ _ hS1 h3 h;simp only[af,an] at h;obtain⟨rfl,rfl⟩:=h;unfold L6;rw[h1];simp only[ae,aK]
    have hz: (fn.resultTypes.toList.zip (l.map fun x=>x.2.av))=l.map fun x=>(x.1,x.2.av):=by rw[<-h2];exact O2 _ l
    rw[if_pos (by rw[<-h2]; simp),hz,ci,hgs,k1];simp only[aH,O3]
   ·cases h
  refine Gc hf hc (by simpa using hmG) (hW.mono (fun x S' hx=>⟨S',pc.refl,?_⟩))
  grind
theorem MR {G:List (Option eE)} {a:V1} (h:a.ok []):a.ok G:=V1.ok_mono (G:= []) ⟨aA _,fun r tr hr=>by cases hr⟩ h
theorem MS [dQ] (hΘ:fW P Θ) (hY:kG P Y) (hm:P.follows .mixedOrders=true) {Λ:nf} {f:FuncId} {fn:Func} (hf:DD P f=some fn) (hL: ∀c,fn.body=some c->iu P Λ (fu c)) {args:List V1} (ha: ∀a∈args,a.ok []) {res:V} {out:List eE}
  (h:Ru Θ Y Λ fn args (fun v g=>some (v,g))=some (res,out)):pC P f (args.map V1.av) [] res.av (out.map eE.tree):=Iy hΘ hY hm hf hL (aA 0) ha h
theorem JY [dQ] (hΘ:fW P Θ) (hY:kG P Y) (hm:P.follows .mixedOrders=true) {Λ:nf} {f:FuncId} {fn:Func} (hf:DD P f=some fn) (hL: ∀c,fn.body=some c->iu P Λ (fu c)) {m:Nat} (hm1:m<=1) {el:Ty} {l:List el.D} {args:List V1} (ha: ∀a∈args,a.ok []) {res:V} {out:List eE}
  (h:Mm Θ Y Λ fn m el l args (fun v g=>some (v,g))=some (res,out)):jg P f (.own ⟨0,[]⟩ el.width 0 l.length::args.map V1.av) [.sl el.width (l.map el.row)] m res.av (out.map eE.tree):=
 Iy hΘ hY hm hf hL (args:= .cl (.own ⟨0,[]⟩ el.width 0 l.length true)::args) (G:= [⟨el,l,none⟩]) hm1 (dF.2 ⟨⟨cE,fun _=>⟨rfl,rfl,fun tr htr=>by have htr:some (⟨el,l,none⟩:eE)=some tr:=htr;cases htr;rfl⟩⟩,fun a h=>MR (ha a h)⟩) h
theorem O4 [dQ] (hΘ:fW P Θ) (hY:kG P Y) (hm:P.follows .mixedOrders=true) {Λ:nf} {f:FuncId} {fn:Func} (hf:DD P f=some fn) (hL: ∀c,fn.body=some c->iu P Λ (fu c)) {el:Ty} {l:List el.D} {args:List V1} (ha: ∀a∈args,a.ok []) {res:V} {out:List eE}
  (h:QG Θ Y Λ fn el l args (fun v g=>some (v,g))=some (res,out)):jg P f (.ptrT ⟨0,[]⟩ el.width 0 0::args.map V1.av) [.sl el.width (l.map el.row)] 1 res.av (out.map eE.tree):=
 Iy hΘ hY hm hf hL (args:= .cl (.ptrT ⟨0,[]⟩ el.width 0 0)::args) (G:= [⟨el,l,none⟩]) (aq 1) (dF.2 ⟨cE,fun a h=>MR (ha a h)⟩) h
end
end
section
open Go
def z6:List Nat->Nat->Nat->Option Nat
 | [],_,_=>none
 |a::l,x,n=>bif Nat.beq a x then some n else z6 l x (n+1)
def wC (bs ls:List Nat):Cl->Cl
 | .own p sz lo len w=>match z6 ls p.r 0 with |some k=> .own ⟨k,p.l⟩ sz lo len w|none=> .dead
 | .ptrT p sz i j=>match z6 ls p.r 0 with |some k=> .ptrT ⟨k,p.l⟩ sz i j|none=> .dead
 | .ptrB n j=>match z6 bs n 0 with |some k=> .ptrB k j|none=> .dead
 |c=>c
def MT (bs ls:List Nat):V1->V1
 | .cl c=> .cl (wC bs ls c)
 | .agg cs=> .agg (cs.map (wC bs ls))
 | .fn f cs=> .fn f (cs.map (wC bs ls))
def MU (bs ls:List Nat):V->V
 | .v x=> .v (MT bs ls x)
 | .tup _=>V.dead
def JZ:List Nat->List Nat->List Nat
 | [],acc=>acc
 |a::l,acc=>match z6 acc a 0 with |some _=>JZ l acc|none=>JZ l (acc++ [a])
def BE:List Nat->Bool
 | [] =>true
 |a::l=>(match z6 l a 0 with |some _=>false|none=>true)&&BE l
def SR:Cl->List Nat| .ptrB n _=> [n] | _=> []
def RK:Cl->List Nat| .own p _ _ _ _=> [p.r] | .ptrT p _ _ _=> [p.r] | _=> []
def V1.all:V1->List Cl| .cl c=> [c] | .agg cs=>cs| .fn _ cs=>cs
def V.all:V->List Cl| .v x=>x.all| .tup _=> []
def J0 (S:TS) (keep:List Nat):List Nat:=JZ (keep.flatMap fun t=>(i6 S.env t).all.flatMap SR) []
def PY (S:TS) (keep bs:List Nat):List Nat:=JZ (List.range S.fz++(keep.flatMap fun t=>(i6 S.env t).all.flatMap RK)++bs.flatMap fun b=>((ou S.bx b).getD []).flatMap RK) []
def jh (S:TS) (keep bs ls:List Nat):TS where
 env:=keep.map fun t=>(t,MU bs ls (i6 S.env t))
 bx:=bs.map fun b=>((ou S.bx b).getD []).map (wC bs ls)
 gh:=ls.map fun r=>fB S.gh r
 fz:=S.fz
 nt:=S.nt
def EK (S:TS) (bs ls:List Nat):Bool:=BE bs&&BE ls&&bs.all (fun b=>Nat.blt b S.bx.length)&&RC (ls.take S.fz) (List.range S.fz)&&ls.all (fun r=>Nat.blt r S.gh.length)
def K2 (G:List (Option eE)):Cl->Cl
 | .own p sz lo len true=> .own p sz lo (match ou G p.r with |some (some tr)=>tr.l.length| _=>len) true
 |c=>c
def MV (G:List (Option eE)):V1->V1
 | .cl c=> .cl (K2 G c)
 | .agg cs=> .agg (cs.map (K2 G))
 | .fn f cs=> .fn f (cs.map (K2 G))
def RL (G:List (Option eE)):V->V
 | .v x=> .v (MV G x)
 | .tup l=> .tup (l.map (MV G))
def QI (S:TS):TS:= { S with env:=S.env.map (fun x=>(x.1,RL S.gh x.2)),bx:=S.bx.map (fun cs=>cs.map (K2 S.gh)) }
def yH {ρ:Type} (keep:List Nat) (S:TS) (κ:TS->Option ρ):Option ρ:=bif EK S (J0 S keep) (PY S keep (J0 S keep)) then κ (QI (jh S keep (J0 S keep) (PY S keep (J0 S keep)))) else none
theorem yI: ∀ {l:List Nat} {x n k:Nat},z6 l x n=some k->n<=k/\l[k-n]? =some x
 | [],x,n,k,h=>by cases h
 |a::l,x,n,k,h=>by
  simp only[z6] at h;cases hb:Nat.beq a x with
  |true=>simp_all
  |false=>
   rw[hb] at h;obtain⟨h1,h2⟩:=yI (l:=l) h
   grind
theorem DQ: ∀ {l:List Nat} {x n:Nat},z6 l x n=none->x∉l
 | [],x,n,_=>by simp
 |a::l,x,n,h=>by
  simp only[z6] at h;cases hb:Nat.beq a x with
  |true=>rw[hb] at h; cases h
  |false=>
   rw[hb] at h;have:=DQ (l:=l) h;intro hm
   simp_all
theorem wD: ∀ {l:List Nat},BE l=true-> ∀ (i j x:Nat),l[i]? =some x->l[j]? =some x->i=j
 | [],_,i,j,x,hi,_=>by simp at hi
 |a::l,h,i,j,x,hi,hj=>by
  simp only[BE,al] at h
  have hna:a∉l:=by
   have h1:=h.1;split at h1
   ·cases h1
   ·rename_i hp; exact DQ hp
  cases i with
  |zero=>
   simp only[aO,af] at hi;subst hi;cases j with
   |zero=>rfl
   |succ j=>simp only[cy] at hj; exact absurd (aw hj) hna
  |succ i=>
   simp only[cy] at hi;cases j with
   |zero=>simp only[aO,af] at hj;subst hj;exact absurd (aw hi) hna
   |succ j=>simp only[cy] at hj;rw[wD h.2 i j x hi hj]
def Bt.ren (bt:Bt) (bs ls:List Nat):Bt where
 β:=fun p=>bt.β ⟨ls.getD p.r 0,p.l⟩
 κ:=fun p=>bt.κ ⟨ls.getD p.r 0,p.l⟩
 bb:=fun n=>bt.bb (bs.getD n 0)
 nb:=bs.length
 ng:=ls.length
 A:=bt.A
theorem EL {w:World} {bt:Bt} {bs ls:List Nat} {c:Cl} {u:Value} (h:VR w bt c.av u):VR w (bt.ren bs ls) (wC bs ls c).av u:=by
 have lt: ∀ {l:List Nat} {x k:Nat},z6 l x 0=some k->k<l.length/\l.getD k 0=x:=by intro l x k hk;obtain⟨_,h2⟩:=yI hk;rw[cU] at h2;exact⟨(aj.1 h2).1,by simp[aD,h2]⟩
 cases c with
 |c x=>
  cases x with
  |sc v=>cases h with |sc h=>exact .sc h
  |ls t l=>cases h with |ro h=>exact .ro h
 |em=>cases h with |em a=>exact .em a
 |own p sz lo len wh=>
  simp only[wC];split
  ·rename_i k hk;obtain⟨h1,h2⟩:=lt hk;have hp: (⟨ls.getD k 0,p.l⟩:eO)=p:=by rw[h2]
   have e1: (bt.ren bs ls).κ ⟨k,p.l⟩=bt.κ p:=by have e: (bt.ren bs ls).κ ⟨k,p.l⟩=bt.κ (eO.mk (ls.getD k 0) p.l):=rfl;rw[e,hp]
   have e2: (bt.ren bs ls).β ⟨k,p.l⟩=bt.β p:=by have e: (bt.ren bs ls).β ⟨k,p.l⟩=bt.β (eO.mk (ls.getD k 0) p.l):=rfl;rw[e,hp]
   cases h with
   |own hp' hc hkk ha=>exact .own h1 hc (by rw[e1]; exact hkk) (by rw[e2]; exact ha)
  ·exact .dead _
 |pro cs=>cases h with |pro cs hs hA hr ht=>exact .pro cs hs hA hr ht
 |ptrB n j=>
  simp only[wC];split
  ·rename_i k hk;obtain⟨h1,h2⟩:=lt hk;cases h with
   |ptrB j hn=>
    have :bt.bb n=(bt.ren bs ls).bb k:=by show bt.bb n=bt.bb (bs.getD k 0); rw[h2]
    rw[this];exact .ptrB j h1
  ·exact .dead _
 |ptrT p sz i j=>
  simp only[wC];split
  ·rename_i k hk;obtain⟨h1,h2⟩:=lt hk;have hp: (⟨ls.getD k 0,p.l⟩:eO)=p:=by rw[h2]
   cases h with
   |ptrT sz i j hp' hkk=>
    have e1:bt.β p=(bt.ren bs ls).β ⟨k,p.l⟩:=by show bt.β p=bt.β ⟨ls.getD k 0,p.l⟩; rw[hp]
    rw[e1];exact .ptrT sz i j h1 (by show _<bt.κ ⟨ls.getD k 0,p.l⟩; rw[hp]; exact hkk)
  ·exact .dead _
 |dead=>exact .dead _
theorem MW {w:World} {bt:Bt} {bs ls:List Nat} {v:V1} {u:Value} (h:VR w bt v.av u):VR w (bt.ren bs ls) (MT bs ls v).av u:=by
 have cells: ∀ (cs:List Cl) (us:List Value),us.length=cs.length->(∀ (k:Nat) (c:AV) (u:Value),(cs.map Cl.av)[k]? =some c->us[k]? =some u->VR w bt c u)-> ∀ (k:Nat) (c:AV) (u:Value),((cs.map (wC bs ls)).map Cl.av)[k]? =some c->us[k]? =some u->VR w (bt.ren bs ls) c u:=by intro cs us _ hr k c u hk hu;rw[ap,ap] at hk;simp only[ak] at hk;obtain⟨c1,⟨c0,hc0,rfl⟩,rfl⟩:=hk;exact EL (hr k c0.av u (by rw[ap,hc0]; rfl) hu)
 cases v with
 |cl c=>exact EL h
 |agg cs=>
  simp only[V1.av] at h;cases h with
  |agg hl ho hr=>exact .agg (by simpa using hl) ho (cells cs _ (by simpa using hl) hr)
 |fn f cs=>
  simp only[V1.av] at h;cases h with
  |fn f hl hr=>exact .fn f (by simpa using hl) (cells cs _ (by simpa using hl) hr)
theorem O5 {w:World} {bt:Bt} {bs ls:List Nat} {v:V} {u:Value} (h:VR w bt v.av u):VR w (bt.ren bs ls) (MU bs ls v).av u:=by
 cases v with
 |v x=>exact MW h
 |tup l=>exact .dead _
theorem DR (S:TS) (f:V->V): ∀ (keep:List Nat) (t:Nat),i6 (keep.map fun t=>(t,f (i6 S.env t))) t=V.dead\/i6 (keep.map fun t=>(t,f (i6 S.env t))) t=f (i6 S.env t)
 | [],t=> .inl rfl
 |u::l,t=>by
  simp only[aW,i6];cases hb:Nat.beq u t with
  |true=>simp_all
  |false=>exact DR S f l t
theorem vp (S:TS) (keep bs ls:List Nat) (r:Nat):fB (jh S keep bs ls).gh r=(ls[r]?).bind fun q=>fB S.gh q:=by show (ou (ls.map fun r=>fB S.gh r) r).getD none=_;rw[fT,ap];cases ls[r]?<;>rfl
theorem GS [dQ] {S:TS} {keep bs ls:List Nat} (h:EK S bs ls=true):pc S.st (jh S keep bs ls).st:=by
 unfold EK at h;simp only[al] at h;obtain⟨⟨⟨⟨hnb,hnl⟩,hbs⟩,hfz⟩,hlt⟩:=h;have hfz:=EE hfz;intro w0 W btI SI bt a w hl;have inv:=hl.inv
 have hls: ∀ (k:Nat),k<S.fz->ls[k]? =some k:=by
  intro k hk;have : (ls.take S.fz)[k]? =(List.range S.fz)[k]? :=by rw[hfz]
  rw[bg,if_pos hk,List.getElem?_range hk] at this;exact this
 have look: ∀p s rs,(jh S keep bs ls).st.look p= .sl s rs-> ∃q,ls[p.r]? =some q/\S.st.look ⟨q,p.l⟩= .sl s rs/\ls.getD p.r 0=q:=by
  intro p s rs hp;unfold St.look at hp
  have e: (jh S keep bs ls).st.gh p.r=((ls[p.r]?).bind fun q=>fB S.gh q).map eE.tree:=by show (fB _ _).map eE.tree=_;rw[vp]
  rw[e] at hp;cases hq:ls[p.r]? with
  |none=>rw[hq] at hp; cases hp
  |some q=>refine⟨q,rfl,?_,by simp[aD,hq]⟩;rw[hq] at hp;exact hp
 have box: ∀n cells,(jh S keep bs ls).st.bx n=some cells-> ∃b cs,bs[n]? =some b/\S.bx[b]? =some cs/\cells=(cs.map (wC bs ls)).map Cl.av/\bs.getD n 0=b:=by intro n cells hn;have hn': (ou (bs.map fun b=>((ou S.bx b).getD []).map (wC bs ls)) n).map (fun cs=>cs.map Cl.av)=some cells:=hn;rw[fT,ap] at hn';simp only[ak] at hn';obtain⟨x,⟨b,hb,rfl⟩,rfl⟩:=hn';have hlt':b<S.bx.length:=ar (ay.1 hbs b (aw hb));refine⟨b,S.bx[b],hb,ah hlt',?_,by simp[aD,hb]⟩;rw[fT,ah hlt'];rfl
 have bxS: ∀ {b:Nat} {cs:List Cl},S.bx[b]? =some cs->S.st.bx b=some (cs.map Cl.av):=by intro b cs hb;show (ou S.bx b).map _=_;rw[fT,hb];rfl
 refine⟨bt.ren bs ls,?_⟩
 refine⟨{ good:=inv.good,os:=inv.os,tape:=inv.tape,output:=inv.output,size:=inv.size,keep:=inv.keep
          nb:=by show bs.length=_; simp[TS.st,jh]
          ng:=by show ls.length=_; simp[TS.st,jh]
          bx:=fun n cells hn=> ?_
          gh:=fun r t hr=> ?_
          tr:=fun p sz rows hp=> ?_
          inj:=fun p q s rs s' rs' hp hq hk hk' he=> ?_
          bbinj:=fun n m cs cs' hn hm he=> ?_
          bbtr:=fun n cs p s rs hn hp hk=> ?_
          alt:=inv.alt
          atr:=fun p s rs hp hk=> ?_
          abb:=fun n cs hn=> ?_ },⟨hl.er.1,fun t=> ?_⟩,hl.defers,hl.fz,?_,fun p hp=> ?_,fun r hr hn=> ?_⟩
 ·obtain⟨b,cs,h1,h2,rfl,h4⟩:=box n cells hn;obtain⟨g1,g2,arr,e,g3,g4,g5⟩:=inv.bx b _ (bxS h2);refine⟨by grind [TS.st,jh],by show _<=bt.bb (bs.getD n 0); rw[h4]; exact g2,arr,e,by show w.heap[bt.bb (bs.getD n 0)]? =_; rw[h4]; exact g3,by simpa using g4,fun j v hj=> ?_⟩;rw[ap,ap] at hj;simp only[ak] at hj;obtain⟨c1,⟨c0,hc0,rfl⟩,rfl⟩:=hj;obtain⟨c,k1,k2,k3⟩:=g5 j c0.av (by rw[ap,hc0]; rfl);exact⟨c,k1,EL k2,k3⟩
 ·grind [jh,vp,TS.st]
 ·obtain⟨q,h1,h2,h3⟩:=look p sz rows hp;obtain⟨g1,g2⟩:=inv.tr _ _ _ h2;have eκ: (bt.ren bs ls).κ p=bt.κ ⟨q,p.l⟩:=by show bt.κ ⟨ls.getD p.r 0,p.l⟩=_; rw[h3]
  have eβ: (bt.ren bs ls).β p=bt.β ⟨q,p.l⟩:=by show bt.β ⟨ls.getD p.r 0,p.l⟩=_; rw[h3]
  rw[eκ,eβ];refine⟨g1,fun hk=>⟨(g2 hk).1,?_⟩⟩;obtain⟨_,cs,e,k1,k2,k3,k4⟩:=g2 hk;refine⟨cs,e,by rw[eβ]; exact k1,by rw[eβ,eκ]; exact k2,k3,fun i r hi=> ?_⟩;obtain⟨m1,m2⟩:=k4 i r hi;refine⟨m1,fun j x hj=> ?_⟩;obtain⟨c,n1,n2⟩:=m2 j x hj;refine⟨c,by rw[eβ]; exact n1,?_⟩;have f1: (bt.ren bs ls).κ (p.sub i j)=bt.κ (eO.sub ⟨q,p.l⟩ i j):=by show bt.κ ⟨ls.getD p.r 0,p.l++ [(i,j)]⟩=bt.κ ⟨q,p.l++ [(i,j)]⟩; rw[h3]
  have f2: (bt.ren bs ls).β (p.sub i j)=bt.β (eO.sub ⟨q,p.l⟩ i j):=by show bt.β ⟨ls.getD p.r 0,p.l++ [(i,j)]⟩=bt.β ⟨q,p.l++ [(i,j)]⟩; rw[h3]
  cases n2 with
  |sc h=>exact .sc h
  |dd u=>exact .dd _
  |sl q1 q2 q3=>exact .sl q1 (by rw[f1]; exact q2) (by rw[f2]; exact q3)
 ·obtain⟨p',h1,h2,h3⟩:=look p s rs hp;obtain⟨q',g1,g2,g3⟩:=look q s' rs' hq;have:=inv.inj ⟨p',p.l⟩ ⟨q',q.l⟩ _ _ _ _ h2 g2 (by rw[<-h3]; exact hk) (by rw[<-g3]; exact hk') (by rw[<-h3,<-g3]; exact he);simp only[eO.mk.injEq] at this;obtain⟨e1,e2⟩:=this;subst e1;have e3:=wD hnl _ _ _ h1 g1;cases p<;>simp_all
 ·obtain⟨b,c,h1,h2,_,h4⟩:=box n cs hn;obtain⟨b',c',g1,g2,_,g4⟩:=box m cs' hm
  have:=inv.bbinj b b' _ _ (bxS h2) (bxS g2) (by have he':bt.bb (bs.getD n 0)=bt.bb (bs.getD m 0):=he;rw[h4,g4] at he';exact he')
  grind [wD]
 ·obtain⟨b,c,h1,h2,_,h4⟩:=box n cs hn;obtain⟨q,g1,g2,g3⟩:=look p s rs hp;have hk':0<bt.κ ⟨ls.getD p.r 0,p.l⟩:=hk;rw[g3] at hk';show bt.bb (bs.getD n 0)≠(bt.β ⟨ls.getD p.r 0,p.l⟩).1;rw[h4,g3];exact inv.bbtr _ _ _ _ _ (bxS h2) g2 hk'
 ·obtain⟨q,g1,g2,g3⟩:=look p s rs hp;have hk':0<bt.κ ⟨ls.getD p.r 0,p.l⟩:=hk;rw[g3] at hk';show ¬bt.A (bt.β ⟨ls.getD p.r 0,p.l⟩).1;rw[g3];exact inv.atr _ _ _ g2 hk'
 ·obtain⟨b,c,h1,h2,_,h4⟩:=box n cs hn;show ¬bt.A (bt.bb (bs.getD n 0));rw[h4];exact inv.abb _ _ (bxS h2)
 ·show VR w _ (i6 (jh S keep bs ls).env t).av _;rcases DR S (MU bs ls) keep t with h1|h1
  ·have :i6 (jh S keep bs ls).env t=V.dead:=h1;rw[this];exact .dead _
  ·have :i6 (jh S keep bs ls).env t=MU bs ls (i6 S.env t):=h1;rw[this];exact O5 (hl.er.2 t)
 ·show S.fz<=(jh S keep bs ls).gh.length
  grind [jh]
 ·have hp':p.r<S.fz:=by have:=hl.fz; have e:S.st.fz=S.fz:=rfl; omega
  have h3:ls.getD p.r 0=p.r:=by simp[aD,hls p.r hp']
  have:=hl.keep p hp;show bt.β ⟨ls.getD p.r 0,p.l⟩=_/\bt.κ ⟨ls.getD p.r 0,p.l⟩=_;rw[h3];exact this
 ·have hr':r<S.fz:=by have:=hl.fz; have e:S.st.fz=S.fz:=rfl; omega
  refine hl.gone r hr ?_;have hn': (fB (jh S keep bs ls).gh r).map eE.tree=none:=hn;rw[vp,hls r hr'] at hn';exact hn'
theorem AA {S:TS} {bs ls:List Nat} {keep:List Nat} {c:Cl} (h:c.ok S.gh): (wC bs ls c).ok (jh S keep bs ls).gh:=by
 have lt: ∀ {x k:Nat},z6 ls x 0=some k->k< (jh S keep bs ls).gh.length/\ls[k]? =some x:=by intro x k hk;obtain⟨_,h2⟩:=yI hk;rw[cU] at h2;exact⟨by grind [jh],h2⟩
 cases c with
 |own p sz lo len w=>
  simp only[wC];split
  ·rename_i k hk;obtain⟨h1,h2⟩:=lt hk;refine⟨h1,fun hw=> ?_⟩;obtain⟨a,b,c⟩:=h.2 hw
   grind [vp]
  ·trivial
 |ptrT p sz i j=>
  simp only[wC];split
  ·rename_i k hk; exact (lt hk).1
  ·trivial
 |ptrB n j=>simp only[wC]; split<;>trivial
 | _=>trivial
theorem O6 {S:TS} {bs ls:List Nat} {keep:List Nat} {v:V} (h:v.ok S.gh): (MU bs ls v).ok (jh S keep bs ls).gh:=by
 have one: ∀ {v:V1},v.ok S.gh->(MT bs ls v).ok (jh S keep bs ls).gh:=by
  intro v h;cases v with
  |cl c=>exact AA h
  |agg cs=>intro c hc; obtain⟨x,hx,rfl⟩:=aJ.1 hc; exact AA (h x hx)
  |fn f cs=>intro c hc; obtain⟨x,hx,rfl⟩:=aJ.1 hc; exact AA (h x hx)
 cases v with
 |v x=>exact one h
 |tup l=>trivial
theorem K3 {S:TS} (hS:S.ok) (keep bs ls:List Nat): (jh S keep bs ls).ok:=by
 refine⟨fun x hx=> ?_,fun cs hcs c hc=> ?_⟩
 ·obtain⟨t,_,rfl⟩:=aJ.1 hx;exact O6 (Az hS t)
 ·obtain⟨b,_,rfl⟩:=aJ.1 hcs;obtain⟨x,hx,rfl⟩:=aJ.1 hc;cases hb:ou S.bx b with
  |none=>rw[hb] at hx; cases hx
  |some cs=>rw[hb] at hx;rw[fT] at hb;exact AA (hS.bx cs (aw hb) x hx)
theorem AB {G:List (Option eE)} {c:Cl} (h:c.ok G):K2 G c=c:=by
 unfold K2;split
 ·rename_i p sz lo len;split
  ·rename_i tr htr;rw[(h.2 rfl).2.2 tr (by unfold fB; rw[htr]; rfl)]
  ·rfl
 ·rfl
theorem GU {G:List (Option eE)} {v:V1} (h:v.ok G):MV G v=v:=by
 cases v with
 |cl c=>exact congrArg V1.cl (AB h)
 |agg cs=>exact congrArg V1.agg ((aI fun c hc=>AB (h c hc)).trans (List.map_id' cs))
 |fn f cs=>exact congrArg (V1.fn f) ((aI fun c hc=>AB (h c hc)).trans (List.map_id' cs))
theorem O7 {G:List (Option eE)} {v:V} (h:v.ok G):RL G v=v:=by
 cases v with
 |v x=>exact congrArg V.v (GU h)
 |tup l=>exact congrArg V.tup ((aI fun c hc=>GU (h c hc)).trans (List.map_id' l))
theorem O8 {S:TS} (h:S.ok):QI S=S:=by unfold QI;rw[aI (g:=id) (fun x hx=>by rw[O7 (h.env x hx)]; rfl),aI (g:=id) (l:=S.bx) (fun cs hcs=>(aI fun c hc=>AB (h.bx cs hcs c hc)).trans (List.map_id' cs)),List.map_id,List.map_id]
theorem sf [dQ] {ρ:Type} {S:TS} (hS:S.ok) {keep:List Nat} {κ:TS->Option ρ} {r:ρ} (h:yH keep S κ=some r): ∃S1:TS,pc S.st S1.st/\S1.ok/\κ S1=some r:=by
 unfold yH at h;obtain⟨h1,h⟩:=dZ h
 grind [O8,K3,GS]
end
end Go.Proofs.YtlaicbcfjcplhaaGreat.En
