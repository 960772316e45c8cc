import Derived.Test.YtkghndikalnipaaGreatZX7
set_option linter.unusedSimpArgs false
set_option linter.unusedVariables false
namespace Go.Proofs.YtkghndikalnipaaGreat.En
section
open Go
section
variable {ρ:Type} {P:Program} {Θ:fV} {S:TS} {Y:lz}
theorem tI(hS:S.ok){ops:Array Oper}{o:Oper}{κ:Bool->TS->Option ρ}{r:ρ}(h:vO S ops.toList o κ=some r): ∃b S1,gz S.st ops o=some b/\S1.st=S.st/\S1.ok/\S1.gh=S.gh/\κ b S1=some r:=by
 unfold vO at h;split at h
 ·rename_i hg;exact⟨true,S,by unfold gz;rw[hg],rfl,hS,rfl,h⟩
 ·rename_i j want hg;split at h
  ·rename_i oj hj;split at h
   ·rename_i d hd;rw[eg,cw] at hj;split at h
    ·rename_i he;refine⟨_,S,?_,rfl,hS,rfl,h⟩;unfold gz;rw[hg];simp only[hj,ao,hd];have :S.st.env d= .tup [] :=by show (eS S.env d).av=_;rw[he];rfl
     rw[this]
    ·obtain⟨b,S1,h1,h2,h3,h4,h5⟩:=nQ hS h;refine⟨_,S1,?_,h2,h3,h4,h5⟩;unfold gz;rw[hg];simp only[hj,ao,hd];have :S.st.env d= .sc (.bool b):=h1;rw[this]
   ·cases h
  ·cases h
theorem eZ(hS:S.ok){d:Option Tmp}{v:V}(hv:v.ok S.gh){κ:TS->Option ρ}{r:ρ}(h:gZ S d v κ=some r): ∃S1,S.st.put d v.av=some (TS.st S1)/\S1.ok/\S1.gh=S.gh/\κ S1=some r:=by
 unfold gZ at h;split at h
 ·rename_i t;obtain⟨h1,h⟩:=dC h;have h1:t<S.nt:=ax h1;refine⟨{ S with env:=(t,v)::S.env },?_,⟨λx hx=> ?_,hS.bx⟩,rfl,h⟩
  ·simp only[St.put];rw[if_pos (show t<S.st.nt from h1)]
   congr 1
   unfold TS.st
   congr 1
   funext u
   unfold dQ;simp only[eS];cases hb:Nat.beq t u with
   |true=>simp_all
   |false=>
    have : ¬u=t:=by intro e;subst e;rw[cJ] at hb;cases hb
    rw[if_neg this];rfl
  ·rcases aZ.1 hx with rfl|hx
   ·exact hv
   ·exact hS.env x hx
 ·exact⟨S,rfl,hS,rfl,h⟩
theorem w7{α:Type}{x y:Option α}{r:α}(h:zb x y none=some r):x=some r/\y=some r:=by grind [zb]
theorem w6{α:Type}(x z:α):zb x x z=x:=by unfold zb;rw[if_pos rfl]
theorem qM{o:Oper}{t:TypeId}{x:Operand}(h:nC o=some (t,x)): (∃t',o.op= .binOp .eql t x (.const (.slice none 0 0)) t')/\o.guard=none:=by
 unfold nC at h
 grind
theorem og{o:Oper}{k:Nat}{g:FuncId}{caps:List Cl}{a:qj}{us:List TypeId}{xs:List Operand}(h:of Y S o=some (k,g,caps,a,us,xs)):
  ∃f as ts x t,o.op= .call { callee:=.value f,args:=as,argTypes:=ts } /\as.toList=x::xs/\ts.toList=t::us/\mh (S.opd x)=some a/\g<eT/\
   ((∃a b,S.opd f= .v (.cl (.c (.sc (.func (.func g) a b))))/\caps= [])\/S.opd f= .v (.fn g caps)):=by
 unfold of at h;split at h
 ·rename_i f as ts hop;split at h
  ·rename_i x xs' t us' e1 e2;split at h
   ·rename_i a' hx;split at h
    ·rename_i g' a b hf;obtain⟨h2,h⟩:=dC h;simp only[ak] at h2;simp only[af,au] at h;obtain⟨rfl,rfl,rfl,rfl,rfl,rfl⟩:=h;exact⟨f,as,ts,x,t,hop,e1,e2,hx,ax h2.1,.inl ⟨a,b,hf,rfl⟩⟩
    ·rename_i g' caps' hf;obtain⟨h2,h⟩:=dC h;simp only[ak] at h2;simp only[af,au] at h;obtain⟨rfl,rfl,rfl,rfl,rfl,rfl⟩:=h;exact⟨f,as,ts,x,t,hop,e1,e2,hx,ax h2.1,.inr hf⟩
    ·cases h
   ·cases h
  ·cases h
 ·cases h
theorem vr(c:Cl): (nn c).av=mr 1 c.av:=by
 cases c with
 |c x=>cases x<;>rfl
 |own p sz lo len w=>
  cases h:Nat.ble 1 p.r with
  |true=>simp only[nn,h,cond_true,Cl.av,mr];rw[if_pos (ax h)]
  |false=>simp only[nn,h,cond_false,Cl.av,mr];rw[if_neg λe=>by rw[cO e] at h;cases h]
 |ptrT p sz i j=>
  cases h:Nat.ble 1 p.r with
  |true=>simp only[nn,h,cond_true,Cl.av,mr];rw[if_pos (ax h)]
  |false=>simp only[nn,h,cond_false,Cl.av,mr];rw[if_neg λe=>by rw[cO e] at h;cases h]
 | _=>rfl
theorem Ab(c:Cl):sE 1 c.av=mr 1 c.av:=by
 cases c with
 |c x=>cases x<;>rfl
 | _=>rfl
theorem sG(v:V1): (sF v).av=sE 1 v.av:=by
 cases v with
 |cl c=>exact (vr c).trans (Ab c).symm
 |agg cs=>simp_all [sF,V1.av,sE,vr]
 |fn f cs=>rfl
theorem Ad(v:V): (xQ v).av=xP 1 v.av:=by
 cases v with
 |v x=>
  refine (sG x).trans ?_;cases x with
  |cl c=>cases c with
   |c x=>cases x<;>rfl
   | _=>rfl
  | _=>rfl
 |tup l=>simp_all [xQ,V.av,xP,sG]
theorem vu{x:dJ}{G:List dJ}{c:Cl}(h:c.ok ((x::G).map some)): (nn c).ok (G.map some):=by
 cases c with
 |own p sz lo len w=>
  cases hb:Nat.ble 1 p.r with
  |true=>
   have h1:=ax hb;simp only[nn,hb,cond_true];obtain⟨h2,h3⟩:=h;refine⟨by simp at h2 ⊢;omega,λhw=> ?_⟩
   grind [dX,eg]
  |false=>simp only[nn,hb,cond_false];trivial
 |ptrT p sz i j=>
  cases hb:Nat.ble 1 p.r with
  |true=>have h1:=ax hb;simp only[nn,hb,cond_true];have h:p.r< ((x::G).map some).length:=h;show p.r-1< (G.map some).length;simp at h ⊢;omega
  |false=>simp only[nn,hb,cond_false];trivial
 |c x=>cases x<;>trivial
 | _=>trivial
theorem sH{x:dJ}{G:List dJ}{v:V1}(h:v.ok ((x::G).map some)): (sF v).ok (G.map some):=by
 cases v with
 |cl c=>exact vu h
 |agg cs=>intro c hc;obtain⟨y,hy,rfl⟩:=aG.1 hc;exact vu (h y hy)
 |fn f cs=>trivial
theorem Ae{x:dJ}{G:List dJ}{v:V}(h:v.ok ((x::G).map some)): (xQ v).ok (G.map some):=by
 cases v with
 |v x=>exact sH h
 |tup l=>intro c hc;obtain⟨y,hy,rfl⟩:=aG.1 hc;exact sH (h y hy)
theorem pI(hΘ:ek P Θ)(hS:S.ok): ∀ (ts:List TypeId) (as:List Operand) (κ:List V1->Option ρ) (r:ρ),kE Θ S ts as κ=some r->ts.length=as.length
 | [],[],_,_,_=>rfl
 | [],_::_,_,_,h=>by simp[kE] at h
 | _::_,[],_,_,h=>by simp[kE] at h
 |t::ts,a::as,κ,r,h=>by unfold kE at h;obtain⟨v,_,h⟩:=yi hΘ hS (fZ hS a) h;rw[bD,bD,pI hΘ hS ts as _ r h]
structure ic (S S1:TS) (L:List Nat):Prop where
 env:S1.env=S.env
 bx:S1.bx=S.bx
 fz:S1.fz=S.fz
 nt:S1.nt=S.nt
 len:S1.gh.length=S.gh.length
 gh: ∀r,dX S1.gh r=if L.contains r then none else dX S.gh r
 was: ∀q∈L,∃tr,dX S.gh q=some tr
theorem ic.refl(S:TS):ic S S [] :=⟨rfl,rfl,rfl,rfl,rfl,λ_=>by simp,λ_ h=>by cases h⟩
theorem ic.one{q:Nat}{tr:dJ}(h:dX S.gh q=some tr):ic S { S with gh:=dW S.gh q none } [q] :=
 ⟨rfl,rfl,rfl,rfl,by simp[eG],λr=>by
  show dX (dW S.gh q none) r=_
  simp_all [gM],λr hr=>by grind⟩
theorem ic.trans{S1 S2:TS}{L L':List Nat}(h:ic S S1 L)(k:ic S1 S2 L'):ic S S2 (L++L'):=
 ⟨k.env.trans h.env,k.bx.trans h.bx,k.fz.trans h.fz,k.nt.trans h.nt,k.len.trans h.len,λr=>by
  rw[k.gh,h.gh]
  grind,λq hq=>by
  rcases bC.1 hq with hq|hq
  ·exact h.was q hq
  ·obtain⟨tr,ht⟩:=k.was q hq;rw[h.gh] at ht
   grind⟩
theorem ic.apart{S1 S2:TS}{L L':List Nat}(h:ic S S1 L)(k:ic S1 S2 L')(h1:L.Nodup)(h2:L'.Nodup): (L++L').Nodup:=by rw[List.nodup_append];refine⟨h1,h2,λa ha b hb e=> ?_⟩;subst e;obtain⟨tr,ht⟩:=k.was a hb;rw[h.gh,if_pos (by simpa using ha)] at ht;cases ht
theorem ic.le{S1:TS}{L:List Nat}(h:ic S S1 L):eL S.gh S1.gh:=⟨by rw[h.len];exact az _,λr tr _ ht=>by
 rw[h.gh] at ht
 grind⟩
theorem ic.ok{S1:TS}{L:List Nat}(h:ic S S1 L)(hS:S.ok):S1.ok:=
 ⟨λx hx=>V.ok_mono h.le (hS.env x (by rw[<-h.env];exact hx)),λcs hcs c hc=>Cl.ok_mono h.le (hS.bx cs (by rw[<-h.bx];exact hcs) c hc)⟩
theorem ic.st{S1:TS}{L:List Nat}(h:ic S S1 L):S1.st=dropL S.st L:=by
 unfold TS.st dropL;rw[h.env,h.bx,h.fz,h.nt,h.len];simp only
 congr 1
 funext r
 rw[h.gh];cases L.contains r<;>rfl
theorem pM: ∀ (L:List Nat) (S:TS),L.Nodup->(∀r∈L,∃tr,dX S.gh r=some tr)->ic S { S with gh:=AP S.gh L } L
 | [],S,_,_=>ic.refl S
 |r::L,S,hnd,h=>by
  obtain⟨tr,htr⟩:=h r aK;rw[List.nodup_cons] at hnd;have h1:=ic.one htr
  have h2:=pM L { S with gh:=dW S.gh r none } hnd.2 (λr' hr'=>by
   obtain⟨tr',htr'⟩:=h r' (aI _ hr');refine⟨tr',?_⟩;rw[h1.gh,if_neg]
   ·exact htr'
   ·intro hc;rw[bg,aL] at hc;subst hc;exact hnd.1 hr')
  exact h1.trans h2
theorem kN: ∀ (cs:List Cl) (ys:List C) (L:List Nat),kh S cs=some (ys,L)->(∀c∈cs,c.ok S.gh)->ys.length=cs.length/\(hU ys).length=L.length/\
  (∀ (k r:Nat),L[k]? =some r-> ∃el l,(hU ys)[k]? =some ⟨el,l,none⟩/\dX S.gh r=some ⟨el,l,none⟩)/\
  ∀ (w:World) (bt bt':Bt) (m:Nat),(∀ (k r:Nat),L[k]? =some r->bt'.β ⟨m+k,[]⟩=bt.β ⟨r,[]⟩/\bt'.κ ⟨m+k,[]⟩=bt.κ ⟨r,[]⟩/\m+k<bt'.ng)->
    ∀ (j:Nat) (c c':Cl) (u:Value),cs[j]? =some c->(lf ys m)[j]? =some c'->VR w bt c.av u->VR w bt' c'.av u
 | [],ys,L,h,_=>by simp only[kh,af,au] at h;obtain⟨rfl,rfl⟩:=h;exact⟨rfl,rfl,λk r hk=>by simp at hk,λw bt bt' m _ j c c' u hj=>by simp at hj⟩
 |c0::cs,ys,L,h,hok=>by
  unfold kh at h;split at h
  ·cases ‹_= []›
  ·rename_i v cs' e;simp only[bu] at e;obtain⟨rfl,rfl⟩:=e;split at h
   ·rename_i ys' L' hr;simp only[af,au] at h;obtain⟨rfl,rfl⟩:=h;obtain⟨h1,h2,h3,h4⟩:=kN cs ys' L' hr (λc hc=>hok c (aI _ hc));refine⟨by simp[h1],h2,h3,λw bt bt' m hm j c c' u hj hj' hv=> ?_⟩;cases j with
    |zero=>
     simp only[lf,aJ,af] at hj hj';subst hj hj';cases hv with
     |sc h=>exact .sc h
    |succ j=>exact h4 w bt bt' m hm j c c' u (by simpa using hj) (by simpa [lf] using hj') hv
   ·cases h
  ·rename_i r sz lo len cs' e;simp only[bu] at e;obtain⟨rfl,rfl⟩:=e;split at h
   ·rename_i el l hg;obtain⟨hsz,h0⟩:=dC h;have hsz:sz=el.width:=an hsz;clear h;split at h0
    ·rename_i ys' L' hr;simp only[af,au] at h0;obtain⟨rfl,rfl⟩:=h0;obtain⟨h1,h2,h3,h4⟩:=kN cs ys' L' hr (λc hc=>hok c (aI _ hc));obtain⟨_,hlo⟩:=hok (.own ⟨r,[]⟩ sz lo len true) aK;obtain⟨_,hlo,hln⟩:=hlo rfl;have hln:=hln _ hg;simp only at hln;refine⟨by simp[h1],by simp[hU,h2],λk r' hk=> ?_,λw bt bt' m hm j c c' u hj hj' hv=> ?_⟩
     ·cases k with
      |zero=>simp only[aJ,af] at hk;subst hk;exact⟨el,l,rfl,hg⟩
      |succ k=>exact h3 k r' (by simpa using hk)
     ·cases j with
      |zero=>
       simp only[lf,aJ,af] at hj hj';subst hj hj' hsz hlo hln;obtain⟨e1,e2,e3⟩:=hm 0 r rfl;rw[bI] at e1 e2 e3;cases hv with
       |own hp hc hk ha=>exact .own e3 hc (by rw[e2];exact hk) (by rw[e1];exact ha)
      |succ j=>exact h4 w bt bt' (m+1) (λk r' hk=>by
        have:=hm (k+1) r' (by simpa using hk)
        rwa [show m+(k+1)=m+1+k by omega] at this) j c c' u (by simpa using hj) (by simpa [lf] using hj') hv
    ·cases h0
   ·cases h
  ·cases h
theorem iJ: ∀ (ys:List C) (m:Nat),(lf ys m).length=ys.length
 | [],_=>rfl
 | .sc v::r,m=>by simp[lf,iJ r m]
 | .ls t l::r,m=>by simp[lf,iJ r (m+1)]
theorem ru: ∀ (L:List Nat) (S:TS) (out:List dJ) (κ:TS->Option ρ) (r:ρ),L.Nodup->nN S L out κ=some r->
  ∃Sp:TS,Sp.env=S.env/\Sp.bx=S.bx/\Sp.fz=S.fz/\Sp.nt=S.nt/\Sp.gh.length=S.gh.length/\out.length=L.length/\(∀ (k q:Nat),L[k]? =some q->dX Sp.gh q=out[k]?)/\(∀q,q∉L->dX Sp.gh q=dX S.gh q)/\eL S.gh Sp.gh/\κ Sp=some r
 | [],S,out,κ,r,_,h=>by
   cases out with
   |nil=>exact⟨S,rfl,rfl,rfl,rfl,rfl,rfl,λk q hk=>by simp at hk,λ_ _=>rfl,eL.refl _,h⟩
   |cons x out=>simp[nN] at h
 |q::L,S,out,κ,r,hnd,h=>by
  rw[List.nodup_cons] at hnd;cases out with
  |nil=>simp[nN] at h
  |cons x out=>
   obtain⟨t,l',hole⟩:=x;cases hole with
   |some y=>simp[nN] at h
   |none=>
    simp only[nN] at h;split at h
    ·rename_i el l hg;obtain⟨ht,h⟩:=dC h;have ht:t=el:=by simpa using ht
     subst ht;obtain⟨hl,h⟩:=dS h;obtain⟨Sp,a1,a2,a3,a4,a5,a6,a7,a8,a9,h⟩:=ru L { S with gh:=dW S.gh q (some ⟨t,l',none⟩) } out κ r hnd.2 h;have hql:=jh hg;have hG:eL S.gh (dW S.gh q (some ⟨t,l',none⟩)):=eL.put hg hl;refine⟨Sp,a1,a2,a3,a4,by rw[a5];simp[eG],by simp[a6],λk q' hk=> ?_,λq' hq'=> ?_,hG.trans a9,h⟩
     ·cases k with
      |zero=>
       simp only[aJ,af] at hk;subst hk;rw[a8 q hnd.1];show dX (dW S.gh q _) q=_
       simp_all [gM]
      |succ k=>grind
     ·rw[a8 q' (λhm=>hq' (aI _ hm))];show dX (dW S.gh q _) q'=_
      simp_all [gM]
    ·cases h
theorem ow{res:V}(h:Af res=true):res.av.plain=true/\ ∀G,res.ok G:=by
 unfold Af at h;split at h
 ·exact⟨rfl,λ_=>trivial⟩
 ·exact⟨rfl,λ_ x hx=>by cases hx⟩
 ·cases h
theorem sj[dE](hΘ:ek P Θ)(hY:fC P Y)(hS:S.ok){o:Oper}{k:Nat}{g:FuncId}{caps:List Cl}{a:qj}{us:List TypeId}{xs:List Operand}(ht:of Y S o=some (k,g,caps,a,us,xs)){κ:TS->Option ρ}{r:ρ}
  (h:od Θ Y S k g caps a us xs o.dst κ=some r): ∃S3:TS,(∀n0,fq P n0 S.st o S3.st)/\S3.ok/\κ S3=some r:=by
 obtain⟨f,as,ts,x,t0,hop,has,hts,hx,hgk,hf⟩:=og ht
 have hcal:callee S.st f=some (g,caps.map Cl.av):=by unfold callee;rw[dG];rcases hf with ⟨_,_,hf,rfl⟩|hf<;>(rw[hf];rfl)
 have others: ∀ {S0:TS} (hS0:S0.ok) (hG:eL S.gh S0.gh) {K:List V1->Option ρ},lQ Θ S0 us xs caps K=some r->
   ∃vs,us.length=xs.length/\jt P S0.st us xs (caps.map Cl.av)=vs.map V1.av/\K vs=some r:=by
  intro S0 hS0 hG K h;have hlen:=pI hΘ hS0 _ _ _ _ h;obtain⟨vs,h1,h⟩:=jF hΘ hS0 _ _ _ _ h
  have hcaps: ∀c∈caps,c.ok S0.gh:=by
   intro c hc;rcases hf with ⟨_,_,_,rfl⟩|hf
   ·cases hc
   ·have:=fZ hS f;rw[hf] at this;exact Cl.ok_mono hG (this c hc)
  obtain⟨ks,h2,h⟩:=nW hS0 _ _ _ hcaps h;refine⟨_,hlen,?_,h⟩;unfold jt;rw[h1,h2,bK,ba];rfl
 have stays: ∀ {q:Nat} {el:Ty} {l:List el.D} {vs:List V1} {av0:AV} {res:V} {out:List dJ},dX S.gh q=some ⟨el,l,none⟩->us.length=xs.length->jt P ({ S with gh:=dW S.gh q none }:TS).st us xs (caps.map Cl.av)=vs.map V1.av->
   (∀ (w:World) (bt:Bt) (u:Value),VR w bt (opd S.st x) u->VR w (handG bt S.st w [⟨q,[]⟩]) av0 u)->eV P g (av0::vs.map V1.av) [.sl el.width (l.map el.row)] 1 res.av (out.map dJ.tree)->res.ok (out.map some)->vH S q el l res out o.dst κ=some r-> ∃S3:TS,(∀n0,fq P n0 S.st o S3.st)/\S3.ok/\κ S3=some r:=by
  intro q el l vs av0 res out hq hlen hargs hx hSK hro h;unfold vH at h;split at h
  ·rename_i t' l' more;obtain⟨hc,h⟩:=dC h;have hc:=of_decide_eq_true hc;subst hc;obtain⟨hll,h⟩:=dS h;have hd:=ic.one hq;have hG:eL S.gh (dW S.gh q (some ⟨t',l',none⟩)):=eL.put hq hll;have hl0: (dW S.gh q (some ⟨t',l',none⟩)).length=S.gh.length:=by rw[eG];simp
   have hrk: (iB S.gh.length (xQ res)).ok (dW S.gh q (some ⟨t',l',none⟩)++more.map some):=by
    have:=kv (G:=dW S.gh q (some ⟨t',l',none⟩)) (Ae hro)
    rwa [hl0] at this
   obtain⟨S3,k1,k2,_,h⟩:=eZ (S:={ S with gh:=dW S.gh q (some ⟨t',l',none⟩)++more.map some }) (TS.ok_gh hS (hG.trans (eL.apps _ _))) hrk h;rw[show ({ S with gh:=dW S.gh q (some ⟨t',l',none⟩)++more.map some }:TS).st=_ from jr { S with gh:=dW S.gh q (some ⟨t',l',none⟩) } res.av more,ku,Ad] at k1
   have htr:S.st.gh q=some (.sl t'.width (l.map t'.row)):=by show (dX S.gh q).map dJ.tree=_;rw[hq];rfl
   have hql:=jh hq
   have hGave:ni S.st ([q].map λr=>⟨r,[]⟩) [.sl t'.width (l.map t'.row)] :=kO rfl (by simp) (λk r hk=>by grind)
   refine⟨S3,λn0=>fq.handG hop has hlen hcal (jo [q]) (λw0 W bt w hI=>hI.dropL [q]) hGave hx (m:=1) (res:=res.av) (out:=dJ.tree ⟨t',l',none⟩::more.map dJ.tree) (by rw[<-hd.st,hargs];exact hSK)
    (nP (Sp:=({ S with gh:=dW S.gh q (some ⟨t',l',none⟩) }:TS).st) hGave (by simp) rfl rfl rfl hl0 rfl rfl (λk r hk=> ?_) (λr hr=> ?_)) k1,k2,h⟩
   ·cases k with
    |zero=>simp_all [lp,dQ]
    |succ k=>simp at hk
   simp_all [lp,dQ]
  ·cases h
 have hxo:=fZ hS x;cases a with
 |own q sz=>
  obtain⟨lo,len,hxv⟩: ∃lo len,S.opd x= .v (.cl (.own ⟨q,[]⟩ sz lo len true)):=by
   unfold mh at hx
   grind
  rw[hxv] at hxo;unfold od at h;simp only at h;split at h
  ·rename_i el l hq;obtain⟨hsz,h0⟩:=dC h;have hsz:sz=el.width:=an hsz;clear h;subst hsz;have hd:=ic.one hq;obtain⟨vs,hlen,hargs,h⟩:=others (hd.ok hS) hd.le h0;obtain⟨_,hlo,hln⟩:=hxo.2 rfl;have hln:=hln _ hq;subst hlo hln
   have hav: ∀ (w:World) (bt:Bt) (u:Value),VR w bt (opd S.st x) u->VR w (handG bt S.st w [⟨q,[]⟩]) (.own ⟨0,[]⟩ el.width 0 l.length) u:=λw bt u hv=>by
    rw[dG,hxv] at hv;have hv:VR w bt (.own ⟨q,[]⟩ el.width 0 l.length) u:=hv;cases hv with
    |own hp hc hk ha=>exact .own cz hc hk ha
   cases hk:Nat.beq k 1 with
   |true=>rw[hk] at h;simp only[cond_true] at h;obtain⟨res,out,g1,g2,h⟩:=hY _ _ _ _ _ h;exact stays hq hlen hargs hav (g1.io g rfl hgk).get g2 h
   |false=>
    rw[hk] at h;simp only[cond_false] at h;obtain⟨hfz0,h⟩:=dC h;have hfz:S.st.fz<=q:=ax hfz0;obtain⟨res,out,g1,g2,h⟩:=hY _ _ _ _ _ h;have g1:=(g1.mv g rfl hgk).get;have hl0: (dW S.gh q none).length=S.gh.length:=by rw[eG];simp
    have hro: (iB S.gh.length res).ok (dW S.gh q none++out.map some):=by
     have:=kv (G:=dW S.gh q none) g2
     rwa [hl0] at this
    obtain⟨S3,k1,k2,_,h⟩:=eZ (S:={ S with gh:=dW S.gh q none++out.map some }) (TS.ok_gh (hd.ok hS) (eL.apps _ _)) hro h;rw[show ({ S with gh:=dW S.gh q none++out.map some }:TS).st=_ from jr { S with gh:=dW S.gh q none } res.av out,hd.st,ku,<-uo] at k1
    have htr:S.st.gh q=some (.sl el.width (l.map el.row)):=by show (dX S.gh q).map dJ.tree=_;rw[hq];rfl
    exact⟨S3,λn0=>fq.handG hop has hlen hcal (jo [q]) (λw0 W bt w hI=>hI.dropL [q]) (kO (ts:=[.sl el.width (l.map el.row)]) rfl (by simp) (λk r hk=>by grind)) hav (m:=0) (by rw[<-hd.st,hargs];exact g1) (vQ λr hr=>by rw[aL.1 hr];exact hfz) k1,k2,h⟩
  ·cases h
 |pt q sz=>
  have hxv:S.opd x= .v (.cl (.ptrT ⟨q,[]⟩ sz 0 0)):=by
   unfold mh at hx;split at hx<;>simp only[af,qj.pt.injEq,reduceCtorEq] at hx;obtain⟨rfl,rfl⟩:=hx
   assumption
  unfold od at h;simp only at h;split at h
  ·rename_i el l hq;obtain⟨hsz,h0⟩:=dC h;have hsz:sz=el.width:=an hsz;clear h;subst hsz;have hd:=ic.one hq;obtain⟨vs,hlen,hargs,h⟩:=others (hd.ok hS) hd.le h0;obtain⟨res,out,g1,g2,h⟩:=hY _ _ _ _ _ h;refine stays hq hlen hargs (λw bt u hv=> ?_) (g1.pt g rfl hgk).get g2 h;rw[dG,hxv] at hv;have hv:VR w bt (.ptrT ⟨q,[]⟩ el.width 0 0) u:=hv;cases hv with
   |ptrT _ _ _ hp hk=>exact .ptrT (p:=⟨0,[]⟩) _ 0 0 cz hk
  ·cases h
 |agg cs=>
  have hxv:S.opd x= .v (.agg cs):=by
   unfold mh at hx;split at hx<;>simp only[af,qj.agg.injEq,reduceCtorEq] at hx;subst hx
   assumption
  rw[hxv] at hxo;unfold od at h;simp only at h;split at h
  ·rename_i ys L hga;obtain⟨hnd,h0⟩:=dC h;clear h;have hnd:L.Nodup:=nB.1 hnd;obtain⟨g1,g2,g3,g4⟩:=kN cs ys L hga hxo
   have hd:=pM L S hnd (λq hq=>by obtain⟨k,hk,hkq⟩:=aU hq;obtain⟨el,l,_,e⟩:=g3 k q (by grind);exact⟨_,e⟩)
   obtain⟨vs,hlen,hargs,h⟩:=others (hd.ok hS) hd.le h0;obtain⟨res,out,k1,k2,h⟩:=hY _ _ _ _ _ h;have k1:=(k1.io g rfl hgk).getA;obtain⟨hns,h⟩:=dC h;obtain⟨hpl,hrok⟩:=ow hns;obtain⟨Sp,a1,a2,a3,a4,a5,a6,a7,a8,a9,h⟩:=ru L S out _ r hnd h;have hSp:Sp.ok:=⟨λx hx=>V.ok_mono a9 (hS.env x (by rw[<-a1];exact hx)),λcs hcs c hc=>Cl.ok_mono a9 (hS.bx cs (by rw[<-a2];exact hcs) c hc)⟩
   obtain⟨S3,m1,m2,_,h⟩:=eZ hSp (hrok _) h
   have hGave:ni S.st (L.map λr=>⟨r,[]⟩) ((hU ys).map dJ.tree):=kO (by simp[g2]) hnd (λk q hk=>by obtain⟨el,l,e1,e2⟩:=g3 k q hk;refine⟨el.width,l.map el.row,by rw[aw,e1];rfl,?_⟩;show (dX S.gh q).map dJ.tree=_;rw[e2];rfl)
   have hps: (L.map λr=>(⟨r,[]⟩:dM)).length=(hU ys).length:=by rw[aH,g2]
   have hout: (out.map dJ.tree).length=L.length:=by rw[aH,a6]
   refine⟨S3,λn0=>fq.handG hop has hlen hcal (jo L) (λw0 W bt w hI=>hI.dropL L) hGave (av0:=.agg ((lf ys 0).map Cl.av)) (λw bt u hv=> ?_) (res:=res.av) (out:=out.map dJ.tree) (m:=L.length) (by rw[<-hd.st,hargs,<-g2];exact k1)
    (nP (Sp:=Sp.st) hGave (Nat.le_of_eq hout.symm) (by unfold TS.st;simp only[a1]) (by unfold TS.st;simp only[a2]) (by unfold TS.st;simp only[a2]) (by unfold TS.st;simp only[a5]) a3 a4 (λk q hk=>by
      show (dX Sp.gh q).map dJ.tree=_;rw[a7 k q hk,aw]) (λq hq=>by
      show (dX Sp.gh q).map dJ.tree=(dX S.gh q).map dJ.tree;rw[a8 q hq])) (by grind [pX,uS]),m2,h⟩
   rw[dG,hxv] at hv;have hv:VR w bt (.agg (cs.map Cl.av)) u:=hv;cases hv with
   |agg hl ho hr=>
    rename_i us0;refine .agg (by grind [iJ]) ho (λk c u hk hu=> ?_);rw[aw] at hk;simp only[aj] at hk;obtain⟨c',hc',rfl⟩:=hk
    have hkl:k<cs.length:=by have:=(ai.1 hc').1;rw[iJ,g1] at this;exact this
    refine g4 w bt _ 0 (λi q hi=> ?_) k cs[k] c' u (aq hkl) hc' (hr k _ u (by grind) hu)
    have hpi: (L.map λr=>(⟨r,[]⟩:dM))[(⟨0+i,[]⟩:dM).r]? =some ⟨q,[]⟩:=by rw[aw];show (L[0+i]?).map _=_;rw[aP,hi];rfl
    have hpl2:=kZ hpi;refine⟨?_,?_,?_⟩
    ·show bt.β (pY _ _)=_;rw[hpl2];rfl
    ·show bt.κ (pY _ _)=_;rw[hpl2];rfl
    ·show 0+i< (L.map λr=>(⟨r,[]⟩:dM)).length
     grind
  ·cases h
 |nest q i j sz lo len=>
  obtain⟨w0,hxv⟩: ∃w,S.opd x= .v (.cl (.own ⟨q,[(i,j)]⟩ sz lo len w)):=by
   unfold mh at hx
   grind
  rw[hxv] at hxo;unfold od at h;simp only at h;split at h
  ·rename_i t l hq;obtain⟨y,hy,h⟩:=ah.1 h;split at h
   ·rename_i el v hv;obtain⟨hsz,h0⟩:=dC h;have hsz:sz=el.width:=an hsz;clear h;subst hsz;obtain⟨hll,h1⟩:=dS h0;clear h0;obtain⟨rfl,rfl⟩:=hll;have hql:=jh hq;have hhole:eL S.gh (dW S.gh q (some ⟨t,l,some (i,j)⟩)):=eL.put hq rfl;obtain⟨vs,hlen,hargs,h⟩:=others (S0:={ S with gh:=dW S.gh q (some ⟨t,l,some (i,j)⟩) }) (TS.ok_gh hS hhole) hhole h1;clear h1;obtain⟨res,out,k1,k2,h⟩:=hY _ _ _ _ _ h;have k1:=(k1.io g rfl hgk).get;split at h
    ·rename_i t' v' _;obtain⟨hc,h⟩:=dC h;simp only[ak,decide_eq_true_eq] at hc;obtain⟨rfl,hns⟩:=hc;obtain⟨hpl,hrok⟩:=ow hns;obtain⟨hvl,h⟩:=dS h;split at h
     ·rename_i z hz;have hG:eL S.gh (dW S.gh q (some ⟨t,l.set i z,none⟩)):=eL.put hq (by simp);obtain⟨S3,m1,m2,_,h⟩:=eZ (S:={ S with gh:=dW S.gh q (some ⟨t,l.set i z,none⟩) }) (TS.ok_gh hS hG) (hrok _) h
      have hrowy: (l.map t.row)[i]? =some ((t.flat y).map C.tree):=by rw[aw,hy];simp only[aF,t.row_flat]
      have hcell: ((t.flat y).map C.tree)[j]? =some (.sl t'.width (v.map t'.row)):=by rw[eg] at hv;rw[aw,hv];rfl
      have hgq:S.st.gh q=some (.sl t.width (l.map t.row)):=by show (dX S.gh q).map dJ.tree=_;rw[hq];rfl
      have hlook:S.st.look ⟨q,[(i,j)]⟩= .sl t'.width (v.map t'.row):=by unfold St.look;simp only[hgq,T.go,T.cell,aB,hrowy,aV,hcell]
      have hforget: ∀ (w0:World) (W:Nat->Prop) (bt:Bt) (w:World),eh w0 W bt S.st w->_:=λw0 W bt w hI=>hI.forget hlook
      have hSm: ({ S with gh:=dW S.gh q (some ⟨t,l,some (i,j)⟩) }:TS).st=S.st.setAt ⟨q,[(i,j)]⟩ .dd:=by rw[lp S _ hql];unfold St.setAt;simp only[hgq,aF];rfl
      have hSp: ({ S with gh:=dW S.gh q (some ⟨t,l.set i z,none⟩) }:TS).st=S.st.setAt ⟨q,[(i,j)]⟩ (.sl t'.width (v'.map t'.row)):=by
       rw[lp S _ hql];unfold St.setAt;simp only[hgq,aF,T.put]
       congr 3
       show T.sl t.width ((l.set i z).map t.row)=_;rw[List.map_set,t.row_flat z,t.unflat_some _ _ hz,eG,List.map_set];simp only[aB,hrowy,aV];rfl
      rw[hSp] at m1;refine⟨S3,λn0=>fq.handG hop has hlen hcal (Sm:=S.st.setAt ⟨q,[(i,j)]⟩ .dd) (ps:=[⟨q,[(i,j)]⟩]) ?_ (λw0 W bt w hI=>(hforget w0 W bt w hI).1) (xC hlook) (av0:=.own ⟨0,[]⟩ t'.width 0 v.length) (λw bt u hv=> ?_) (res:=res.av) (out:=[.sl t'.width (v'.map t'.row)]) (m:=1) (by rw[<-hSm,hargs];exact k1) (w9 hlook (by simpa using hvl)) (by rw[pX hpl,List.drop_succ_cons,List.drop_nil,uS];exact m1),m2,h⟩
      ·refine⟨rfl,rfl,rfl,λp s rs hp=> ?_⟩;rw[ir] at hp;by_cases hpr:p.r=q
       ·rw[if_pos hpr,hgq] at hp;simp only at hp
        rcases T.put_spec .dd [(i,j)] (.sl t.width (l.map t.row)) (.inl (by grind [St.look])) p.l s rs hp with ⟨m',hm,hgo⟩| ⟨rs0,e1,e2,e3,e4⟩
        ·rw[T.dd_go] at hgo;cases hgo
        ·refine⟨λp' hp' hu=> ?_,rs0,by unfold St.look;rw[hpr,hgq];exact e1⟩;rw[aL.1 hp'] at hu;obtain⟨_,m,b⟩:=hu;exact e3 m b.symm
       ·rw[if_neg hpr] at hp;refine⟨λp' hp' hu=> ?_,rs,hp⟩;rw[aL.1 hp'] at hu;exact hpr hu.1
      ·rw[dG,hxv] at hv;have hv:VR w bt (.own ⟨q,[(i,j)]⟩ t'.width 0 v.length) u:=hv;cases hv with
       |own hp hc hk ha=>exact .own cz hc hk ha
     ·cases h
    ·cases h
   ·cases h
  ·cases h
theorem yQ{el:Ty}(hw:el.width=1)(hf:el.flatB=true){z:el.D}(hz:el.unflat el.zcs=some z): ∃zv,el.zvs= [zv] /\gG zv=true/\el.row z= [.sc zv] :=by
 have hr:el.row z=el.zcs.map C.tree:=by rw[el.row_flat,el.unflat_some _ _ hz]
 rw[hr];clear hr hz z;cases el with
 |i k=>exact⟨_,rfl,rfl,rfl⟩
 |b=>exact⟨_,rfl,rfl,rfl⟩
 |s=>exact⟨_,rfl,rfl,rfl⟩
 |h=>exact⟨_,rfl,rfl,rfl⟩
 |st n=>cases n<;>first |exact⟨_,rfl,rfl,rfl⟩| (exfalso;revert hw;decide)| (exfalso;revert hf;decide)
 |ls t=>cases hf
theorem vX[dE](hΘ:ek P Θ)(hS:S.ok){ops:Array Oper}{o:Oper}{os:List Oper}{Post:St->Prop}{t:TypeId}{q sz lo len:Nat}(ht:qv S o=some (t,q,sz,lo,len)){κ:TS->Option ρ}{r:ρ}
  (ih: ∀S3:TS,S3.ok->κ S3=some r->mN P ops os S3.st Post) (h:tY Θ S t q sz lo len o.dst κ=some r):mN P ops (o::os) S.st Post:=by
 unfold qv at ht;split at ht
 ·rename_i as ts hop;split at ht
  ·cases ht
  ·rename_i hgd;split at ht
   ·rename_i x t' e1 e2;split at ht
    ·rename_i r' sz' lo' len' w hx;simp only[af,au] at ht;obtain⟨rfl,rfl,rfl,rfl,rfl⟩:=ht;have e1:as= #[x] :=by apply Array.ext';simpa using e1
     have e2:ts= #[t'] :=by apply Array.ext';simpa using e2
     subst e1 e2;unfold tY at h;split at h
     ·rename_i ti hti;split at h
      ·rename_i el l hq;obtain⟨hc,h0⟩:=dC h;simp only[ak,decide_eq_true_eq] at hc;obtain⟨⟨⟨hty,hw⟩,hsz⟩,hfl⟩:=hc;have hw:el.width=1:=an hw;have hsz:sz'=1:=an hsz;split at h0
       ·rename_i z hz;unfold iteP at h0;split at h0
        ·rename_i hle;obtain⟨elT',g1,g2,g3,g4,g5,g6⟩:=(hΘ _ _ hti).el el hty
         have hql:r'<S.gh.length:=by
          rcases cZ r' S.gh.length with h'|h'
          ·exact h'
          ·rw[me h'] at hq;cases hq
         have hG:eL S.gh (dW S.gh r' (some ⟨el,l.take lo'++List.replicate len' z++l.drop (lo'+len'),none⟩)):=eL.put hq (by simp;omega);obtain⟨S3,k1,k2,_,h⟩:=eZ (v:=.tup []) (TS.ok_gh hS hG) (λx hx=>by cases hx) h0;rw[lp S _ hql] at k1;obtain⟨zv,hzv,hsc,hrow⟩:=yQ hw hfl hz
         have htr:S.st.gh r'=some (.sl 1 (l.map el.row)):=by show (dX S.gh r').map dJ.tree=_;rw[hq];show some (T.sl el.width (l.map el.row))=_;rw[hw]
         have hxv:opd S.st x= .own ⟨r',[]⟩ 1 lo' len':=by rw[dG,hx,<-hsz];rfl
         refine mN.clear hop hgd g1 (by rw[g6,hzv]) hsc hxv htr (by simpa using hle) ⟨S3.st,?_,ih S3 k2 h⟩;rw[<-k1]
         congr 1
         show _=({ S.st with gh:=dQ S.st.gh r' (some (T.sl el.width ((l.take lo'++List.replicate len' z++l.drop (lo'+len')).map el.row))) }:St)
         simp_all
        ·cases h0
       ·cases h0
      ·cases h
     ·cases h
    ·cases ht
   ·cases ht
 ·cases ht
theorem zJ[dE](hΘ:ek P Θ)(hY:fC P Y){ops:Array Oper}: ∀ (os:List Oper) (S:TS) (κ:TS->Option ρ) (r:ρ),(∀o∈os,fY P o=true)->S.ok->n7 Θ Y ops.toList os S κ=some r->
  mN P ops os S.st (λS'=> ∃S1:TS,S'=S1.st/\S1.ok/\κ S1=some r):=by
 intro os
 induction os with
 |nil=>intro S κ r _ hS h;exact mN.nil ⟨S,rfl,hS,h⟩
 |cons o os ih=>
  intro S κ r hok hS h;unfold n7 at h;cases hn:nC o with
  |some tx=>
   obtain⟨t,x⟩:=tx;rw[hn] at h;simp only at h;obtain⟨hs,h⟩:=dC h;obtain⟨⟨t',ho⟩,hg⟩:=qM hn;unfold Cw at hs;split at hs
   ·rename_i ti hti;split at hs
    ·rename_i e he;obtain⟨el,hel,_⟩:=(hΘ t ti hti).el e he;split at h
     ·rename_i t1 l hx
      have way: ∀ (b:Bool),(gZ S o.dst (rA b) λS3=>n7 Θ Y ops.toList os S3 κ)=some r-> ∃S1,S.st.put o.dst (.sc (.bool b))=some S1/\mN P ops os S1 (λS'=> ∃S1:TS,S'=S1.st/\S1.ok/\κ S1=some r):=by intro b hb;obtain⟨S3,g5,g6,_,h⟩:=eZ (v:=rA b) hS trivial hb;exact⟨S3.st,g5,ih S3 κ r (λx hx=>hok x (aI _ hx)) g6 h⟩
      have hxv:opd S.st x= .ro t1.width (l.map t1.row):=by rw[dG,hx];rfl
      cases l with
      |nil=>
       obtain⟨a1,a2⟩:=w7 (show zb _ _ none=some r from h)
       grind [mN.eqnil]
      |cons y l=>exact mN.eqnil hel ho hg hxv (λh=>by cases h) (way false h)
     ·cases h
    ·cases hs
   ·cases hs
  |none=>
  rw[hn] at h;simp only at h;cases hcl:qv S o with
  |some z=>grind [vX]
  |none=>
  rw[hcl] at h;simp only at h;obtain⟨b,S1,h1,h2,h3,h4,h⟩:=tI hS h;refine mN.cons (b:=b) h1 ?_;cases b with
  |true=>
   simp only[cond_true] at h;rw[if_pos rfl,<-h2];cases hh:of Y S1 o with
   |some z=>obtain⟨k,g,caps,a,us,xs⟩:=z;rw[hh] at h;obtain⟨S3,g1,g2,g3⟩:=sj hΘ hY h3 hh h;exact⟨S3.st,(g1 0).op,ih S3 κ r (λx hx=>hok x (aI _ hx)) g2 g3⟩
   |none=>
   grind [jW,eZ,wW.one,one]
  |false=>simp only[cond_false] at h;obtain⟨S3,g5,g6,_,h⟩:=eZ (v:=.tup []) h3 (λx hx=>by cases hx) h;rw[if_neg (by simp)];exact⟨S3.st,by rw[<-h2];exact g5,ih S3 κ r (λx hx=>hok x (aI _ hx)) g6 h⟩
theorem AA{D D':iC}{X:St}{o:Oper}(h:D o.dst=D' o.dst):dD D P X o=dD D' P X o:=by simp_all [dD]
theorem vI{D D':iC}{X:St}{o:Oper}(h:D o.dst=D' o.dst):ed D P X o=ed D' P X o:=by simp_all [ed]
theorem Cp{D D':iC}{ops:Array Oper}: ∀ (os:List Oper) (X:St),(∀o∈os,D o.dst=D' o.dst)->po D P ops os X=po D' P ops os X:=by
 intro os
 induction os with
 |nil=>intro X _;rfl
 |cons o os ih=>grind [po,AA,vI]
theorem lI: ∀ (l m:List (Option dJ)) (n:Nat),gone n l (l++m)= []
 | [],m,n=>by cases m<;>rfl
 |x::l,m,n=>by
  cases x with
  |none=>exact lI l m (n+1)
  |some y=>exact lI l m (n+1)
theorem oW(l:List dJ):yM (l.map some)=l.map dJ.tree:=by unfold yM;rw[ba];rfl
theorem vw(S:TS)(out:List dJ):S.st.make ⟨S.st.ng,out.map dJ.tree,[]⟩=({ S with gh:=S.gh++out.map some }:TS).st:=by
 rw[jr S .dead out];unfold St.make install;simp only[aH]
 congr 1
theorem ic.make{S1:TS}{L:List Nat}(h:ic S S1 L)(x:dJ):S.st.make ⟨S.st.ng,[x.tree],fO L⟩=({ S1 with gh:=S1.gh++ [some x] }:TS).st:=by
 rw[oT,h.st,h.len];unfold St.make dropL;simp only[cy,fT]
 congr 1
 funext r
 unfold dQ;by_cases hr:r=S.gh.length
 ·simp_all [TS.st]
 ·rw[if_neg hr,if_neg (by show ¬ (S.gh.length<=r/\r<S.gh.length+1);omega)]
theorem vi: ∀ (l m x:List (Option dJ)) (n:Nat) (L:List Nat),m.length=l.length->(∀k,k<l.length->(((∃y,l[k]? =some (some y))/\m[k]? =some none)↔(n+k)∈L))->gone n l (m++x)=(List.range' n l.length).filter λr=>L.contains r
 | [],m,x,n,L,hl,_=>by have :m= [] :=bc hl;subst this;cases x<;>rfl
 |a::l,[],x,n,L,hl,_=>by cases hl
 |a::l,b::m,x,n,L,hl,h=>by
  have h0:=h 0 (Nat.zero_lt_succ _)
  have ih:=vi l m x (n+1) L (by simpa using hl) (λk hk=>by
   have:=h (k+1) (by simpa using hk)
   grind)
  simp only[aJ,af,bI] at h0;rw[bD,cq,List.filter_cons];cases a with
  |none=>
   have : ¬n∈L:=λhn=>by grind
   rw[if_neg (by simpa using this),<-ih];cases b<;>rfl
  |some y=>
   cases b with
   |none=>have :n∈L:=h0.1 ⟨⟨y,rfl⟩,rfl⟩;rw[if_pos (by simpa using this),<-ih];rfl
   |some z=>
    have : ¬n∈L:=λhn=>by have:=(h0.2 hn).2;cases this
    rw[if_neg (by simpa using this),<-ih];rfl
theorem qx{L:List Nat}{N:Nat}(h: ∀r∈L,r<N):fO L=(List.range N).filter λr=>L.contains r:=by
 have top:rg L<=N:=by
  induction L with
  |nil=>exact bO _
  |cons a l ih=>grind [rg,List.mem_cons_self]
 unfold fO;obtain⟨k,rfl⟩: ∃k,N=rg L+k:=⟨N-rg L,by omega⟩
 rw[bT,bT,<-List.range'_append_1,List.filter_append]
 have : (List.range' (0+rg L) k).filter (λr=>L.contains r)= [] :=by rw[List.filter_eq_nil_iff];intro r hr hc;have h1:=qJ (l:=L) (r:=r) (by simpa using hc);have h2:=(List.mem_range'_1.1 hr).1;omega
 rw[this,bP]
theorem ic.gone{S1:TS}{L:List Nat}(h:ic S S1 L)(x:List (Option dJ)):gone 0 S.gh (S1.gh++x)=fO L:=by
 rw[qx (N:=S.gh.length) (λr hr=>by obtain⟨tr,ht⟩:=h.was r hr;exact jh ht),bT]
 refine vi _ _ _ _ _ h.len (λk hk=> ?_);rw[aP];have g:=h.gh k;unfold dX at g;rw[eg,eg] at g;have hk1:k<S1.gh.length:=by rw[h.len];exact hk
 rw[aq hk,aq hk1] at g ⊢;simp only[aV,af] at g ⊢;constructor
 ·grind
 ·intro hL;obtain⟨tr,ht⟩:=h.was k hL
  simp_all [dX,eg]
theorem kj{G:List (Option dJ)}{r j:Nat}{c:Cl}(h:c.ok G)(hr:G.length<=r):gW r j c=c:=by
 have hb: ∀p:dM,p.r<G.length->Nat.beq p.r r=false:=λp hp=>by
  cases hx:Nat.beq p.r r with
  |false=>rfl
  |true=>have:=an hx;omega
 cases c with
 |own p sz lo len w=>simp only[gW];rw[hb p h.1];split<;>rfl
 |ptrT p sz a b=>simp only[gW];rw[hb p h];split<;>rfl
 | _=>rfl
theorem it{α:Type}{f:α->α}: ∀ {l:List α},(∀x∈l,f x=x)->l.map f=l
 | [],_=>rfl
 |a::l,h=>by rw[aO,h a aK,it λx hx=>h x (aI _ hx)]
theorem so(hS:S.ok){r j:Nat}(hr:S.gh.length<=r):S.kill r j=S:=by
 have v1: ∀v:V1,v.ok S.gh->iO r j v=v:=by
  intro v hv;cases v with
  |cl c=>simp only[iO];rw[kj hv hr]
  |agg cs=>simp only[iO];rw[it λc hc=>kj (hv c hc) hr]
  |fn f cs=>simp only[iO];rw[it λc hc=>kj (hv c hc) hr]
 have e1:S.env.map (λx=>(x.1,pQ r j x.2))=S.env:=by
  refine it (λx hx=> ?_);have hx:=hS.env x hx;obtain⟨t,v⟩:=x;cases v with
  |v x=>simp only[pQ];rw[v1 x hx]
  |tup l=>simp only[pQ];rw[it λc hc=>v1 c (hx c hc)]
 have e2:S.bx.map (λcs=>cs.map (gW r j))=S.bx:=by exact it (λcs hcs=>it (λc hc=>kj (hS.bx cs hcs c hc) hr))
 unfold TS.kill;rw[e1,e2]
theorem AE(hS:S.ok){S1:TS}{no j:Nat}(hno:S.gh.length<=no){et:Option Ty}{c:Cl}{x:C}(hc:c.ok S.gh)(h:eU S no j et c=some (x,S1)):
  ∃L,ic S S1 L/\L.Nodup/\fQ S.st (tJ et) c.av=some (x.tree,L):=by
 have wp: ∀t:Ty,¬tJ (some t)=0:=λt e=>by have:=t.width_pos;have e':t.width=0:=e;omega
 cases c with
 |c y=>
  cases y with
  |sc v=>
   cases et with
   |none=>simp only[eU,af,au] at h;obtain⟨rfl,rfl⟩:=h;exact⟨[],ic.refl _,dv,rfl⟩
   |some t=>simp[eU] at h
  |ls t l=>cases et<;>simp[eU] at h
 |em=>
  cases et with
  |none=>simp[eU] at h
  |some t=>simp only[eU,af,au] at h;obtain⟨rfl,rfl⟩:=h;rw[so hS hno];refine⟨[],ic.refl _,dv,?_⟩;unfold fQ;rw[if_neg (wp t)];rfl
 |own p sz lo len wh=>
  obtain⟨pr,pl⟩:=p;cases wh with
  |false=>cases et<;>simp[eU] at h
  |true=>
   cases et with
   |none=>simp[eU] at h
   |some t=>
    cases pl with
    |cons a l=>simp[eU] at h
    |nil=>
     simp only[eU] at h;obtain⟨h1,h⟩:=dC h;simp only[ak,bE] at h1;obtain⟨⟨h1,h2⟩,h3⟩:=h1;have h1:t.width=sz:=an h1;have h2:S.fz<=pr:=ax h2;split at h
     ·rename_i tr htr;split at h
      ·rename_i hh;obtain⟨h4,h⟩:=dC h;have h4':tr.t.width=sz:=an h4;simp only[af,au] at h;obtain⟨rfl,rfl⟩:=h;have hg:=dJ.look htr;obtain⟨tt,l,hole⟩:=tr;simp only at hh h4';subst hh;obtain⟨e1,e2,e3⟩:=jY hc (λ_=>hg);have hd:=ic.one hg;rw[so (hd.ok hS) (by rw[hd.len];exact hno)];refine⟨[pr],hd,by simp,?_⟩;unfold fQ;rw[if_neg (wp t)];simp only[Cl.av]
       have hrows:S.st.rows ⟨pr,[]⟩ sz=some (l.map tt.row):=by rw[<-h4'];refine fo ?_;unfold St.look;show (match (dX S.gh pr).map dJ.tree with |some t=>t.go [] |none=> .dd)=_;rw[hg];rfl
       rw[if_pos ⟨trivial,h1.symm,e2,h2⟩,hrows]
       simp_all [bW,C.tree]
      ·cases h
     ·cases h
 |pro cs=>cases et<;>simp[eU] at h
 |ptrB n j=>cases et<;>simp[eU] at h
 |ptrT p sz a b=>cases et<;>simp[eU] at h
 |dead=>cases et<;>simp[eU] at h
theorem tV{X Y:St}(hfz:Y.fz=X.fz)(hg: ∀r t,Y.gh r=some t->X.gh r=some t){s:Nat}{v:AV}{y:T×List Nat}(h:fQ Y s v=some y):fQ X s v=some y:=by
 unfold fQ at h ⊢;split at h
 ·rename_i h0;rw[if_pos h0];exact h
 ·rename_i h0;rw[if_neg h0];split at h
  ·exact h
  ·rename_i q s' lo len;split at h
   ·rename_i hc;rw[hfz] at hc;rw[if_pos hc]
    grind [St.rows,St.look]
   ·cases h
  ·cases h
theorem jJ{X Y:St}(hfz:Y.fz=X.fz)(hg: ∀r t,Y.gh r=some t->X.gh r=some t): ∀ {ss:List Nat} {vs:List AV} {y:List T×List Nat},eR Y ss vs=some y->eR X ss vs=some y
 |s::ss,v::vs,y,h=>by unfold eR at h ⊢;simp only[ah,aj] at h ⊢;obtain⟨a,h1,b,h2,h3⟩:=h;exact⟨a,tV hfz hg h1,b,jJ hfz hg h2,h3⟩
 | [],[],_,h=>h
 | [],_::_,_,h=>h
 | _::_,[],_,h=>h
theorem mY{X Y:St}(hfz:Y.fz=X.fz)(hg: ∀r t,Y.gh r=some t->X.gh r=some t){ss:List Nat}: ∀ {vss:List (List AV)} {y:List (List T)×List Nat},eH Y ss vss=some y->eH X ss vss=some y
 | [],_,h=>h
 |vs::vss,y,h=>by unfold eH at h ⊢;simp only[ah,aj] at h ⊢;obtain⟨a,h1,b,h2,h3⟩:=h;exact⟨a,jJ hfz hg h1,b,mY hfz hg h2,h3⟩
theorem ic.less{S1:TS}{L:List Nat}(h:ic S S1 L): ∀r t,S1.st.gh r=some t->S.st.gh r=some t:=by
 intro r t ht;rw[h.st] at ht
 grind [dropL]
theorem AF(no:Nat): ∀ (ets:List (Option Ty)) (cs:List Cl) (j:Nat) (S S1:TS) (xs:List C),S.ok->S.gh.length<=no->(∀c∈cs,c.ok S.gh)->gX no j S ets cs=some (xs,S1)->
  ∃L,ic S S1 L/\L.Nodup/\eR S.st (ets.map tJ) (cs.map Cl.av)=some (xs.map C.tree,L):=by
 intro ets
 induction ets with
 |nil=>
  intro cs j S S1 xs hS hno hcs h;cases cs with
  |nil=>simp only[gX,af,au] at h;obtain⟨rfl,rfl⟩:=h;exact⟨[],ic.refl _,dv,rfl⟩
  |cons c cs=>simp[gX] at h
 |cons et ets ih=>
  intro cs j S S1 xs hS hno hcs h;cases cs with
  |nil=>simp[gX] at h
  |cons c cs=>
   simp only[gX] at h;split at h
   ·rename_i x S2 hx;obtain⟨L1,d1,n1,e1⟩:=AE hS hno (hcs c aK) hx;split at h
    ·rename_i xs' S3 hxs;simp only[af,au] at h;obtain⟨rfl,rfl⟩:=h;obtain⟨L2,d2,n2,e2⟩:=ih cs (j+1) S2 S3 xs' (d1.ok hS) (by rw[d1.len];exact hno) (λy hy=>Cl.ok_mono d1.le (hcs y (aI _ hy))) hxs;refine⟨L1++L2,d1.trans d2,d1.apart d2 n1 n2,?_⟩;simp only[aO,eR];rw[e1];simp only[ao];rw[jJ (X:=S.st) (Y:=S2.st) d1.fz d1.less e2];rfl
    ·cases h
   ·cases h
theorem yb(el:Ty): ∀ (vs:List V) (S S1:TS) (l:List el.D),S.ok->(∀v∈vs,v.ok S.gh)->iR el S vs=some (l,S1)->
  ∃L,ic S S1 L/\L.Nodup/\eH S.st el.shs (vs.map λv=>v.av.cells)=some (l.map el.row,L)/\l.length=vs.length/\ ∀v∈vs,v.av.cells.length=el.width/\v.av.isDead=false:=by
 intro vs
 induction vs with
 |nil=>intro S S1 l hS hv h;simp only[iR,af,au] at h;obtain⟨rfl,rfl⟩:=h;exact⟨[],ic.refl _,dv,rfl,rfl,λv hv=>by cases hv⟩
 |cons v vs ih=>
  intro S S1 l hS hv h;cases v with
  |tup x=>simp[iR] at h
  |v x=>
   have hx:=hv (.v x) aK;simp only[iR] at h;split at h
   ·rename_i ws S2 hw
    have hcells: ∀c∈x.cells,c.ok S.gh:=by
     intro c hc;cases x with
     |cl y=>rw[aL.1 hc];exact hx
     |agg cs=>exact hx c hc
     |fn f cs=>rw[aL.1 hc];trivial
    obtain⟨L1,d1,n1,e1⟩:=AF _ _ _ _ _ _ _ hS (az _) hcells hw
    have hw':el.csh.length=x.cells.length/\ ∀c∈x.cells,c≠ .dead:=by obtain⟨_,m2,_,m4,_⟩:=oV S.gh.length 0 0 0 el.csh x.cells 0 S S2 ws [x.cells.map λc=>T.ofSc c.av] (x.cells.map λc=>T.ofSc c.av) hS hcells hw rfl (by simp) (λk c hk=>by grind);exact⟨m2,m4⟩
    split at h
    ·rename_i y ys S3 hy hys;simp only[af,au] at h;obtain⟨rfl,rfl⟩:=h;obtain⟨L2,d2,n2,e2,e3,e4⟩:=ih S2 S3 ys (d1.ok hS) (λu hu=>V.ok_mono d1.le (hv u (aI _ hu))) hys
     have hsh:el.shs=el.csh.map tJ:=by unfold Ty.shs;refine aE λc _=> ?_;cases c<;>rfl
     have hav: (V.v x).av.cells=x.cells.map Cl.av:=by
      cases x with
      |cl c=>
       simp only[V.av,V1.av,V1.cells,aO,ct];cases c with
       |c y=>cases y<;>rfl
       | _=>rfl
      |agg cs=>rfl
      |fn f cs=>exact absurd rfl (hw'.2 .dead (aL.2 rfl))
     refine⟨L1++L2,d1.trans d2,d1.apart d2 n1 n2,?_,by simp[e3],λu hu=> ?_⟩
     ·simp only[aO,eH];rw[hav,hsh,e1];simp only[ao];rw[<-hsh,mY (X:=S.st) (Y:=S2.st) d1.fz d1.less e2];simp only[aF];rw[el.row_flat,el.unflat_some _ _ hy]
     ·rcases aZ.1 hu with rfl|hu
      ·refine⟨?_,?_⟩
       ·grind [ll]
       ·cases x with
        |cl c=>
         have:=hw'.2 c (aL.2 rfl);cases c with
         |c y=>cases y<;>rfl
         |dead=>exact absurd rfl this
         | _=>rfl
        |agg cs=>rfl
        |fn f cs=>rfl
      ·exact e4 u hu
    ·cases h
   ·cases h
theorem ur(hΘ:ek P Θ){t:TypeId}(h:B8 Θ t=true): ∃ti el elT',fA Θ t=some ti/\ti.ty= .ls el/\i8 P t=some elT'/\P.cellsOf elT'=el.width/\P.bytesOf elT'=ti.el/\0<ti.el/\gk P 9 elT'=el.shs/\lV P elT'=some el.zvs:=by
 unfold B8 at h;split at h
 ·rename_i ti hti;split at h
  ·rename_i el he;obtain⟨elT',g⟩:=(hΘ _ _ hti).el el he;exact⟨ti,el,elT',hti,he,g⟩
  ·cases h
 ·cases h
theorem Ay{el:Ty}{v:Cl}(hv:v.ok S.gh){κ:List el.D->TS->Option ρ}{r:ρ}(h:yE S el v κ=some r):
  ∃more L S1,ic S S1 L/\eN S.st el.width el.flatB v.av=some (more.map el.row,L)/\κ more S1=some r:=by
 unfold yE at h;split at h
 ·exact⟨[],[],S,ic.refl _,rfl,h⟩
 ·rename_i t l;obtain⟨h1,h⟩:=dC h;split at h
  ·rename_i l' hl;obtain⟨e,hl⟩:=eD hl;subst e;simp only at hl;subst hl;refine⟨l,[],S,ic.refl _,?_,h⟩;simp only[Cl.av,C.av,eN];rw[if_pos ⟨trivial,iX h1 l⟩]
  ·cases h
 ·rename_i p sz lo len w;obtain⟨h0,h⟩:=dC h;have h0:el.width=sz:=an h0;cases hfl:el.flatB with
  |true=>
   rw[hfl] at h;simp only[cond_true] at h;obtain⟨t,l,h1,h2,h⟩:=eE h;split at h
   ·rename_i l' hl;obtain⟨e,hl⟩:=eD hl;subst e;simp only at hl;subst hl
    have src: ∀ (lo len:Nat),lo+len<=l.length->eN S.st t.width true (.own p sz lo len)=some (((l.drop lo).take len).map t.row,[]):=by intro lo len hle;simp only[eN];rw[if_pos h0.symm,fo h1];simp only[ao,aH];rw[if_neg (by simp),if_pos ⟨hle,by grind [iX]⟩];simp[b9,cA]
    cases w with
    |true=>
     obtain⟨e1,e2,e3⟩:=jY hv h2;refine⟨l,[],S,ic.refl _,?_,h⟩
     grind [Cl.av]
    |false=>simp only[cond_false] at h;obtain⟨h3,h⟩:=dS h;exact⟨_,[],S,ic.refl _,src lo len h3,h⟩
   ·cases h
  |false=>
   rw[hfl] at h;simp only[cond_false] at h;split at h
   ·rename_i hpl;obtain⟨h1,h'⟩:=dC h;clear h;simp only[ak] at h1;obtain⟨rfl,hfz⟩:=h1;have hfz:S.fz<=p.r:=ax hfz;obtain⟨t,l,g1,g2,h⟩:=eE h';split at h
    ·rename_i l' hl;obtain⟨e,hl⟩:=eD hl;subst e;simp only at hl;subst hl;obtain⟨e1,e2,e3⟩:=jY hv g2;refine⟨l,[p.r],_,ic.one (g2 e1),?_,h⟩;simp only[Cl.av,eN];rw[if_pos h0.symm,fo g1];simp only[ao,aH];rw[if_pos ⟨trivial,e1,e2,e3,hfz⟩]
    ·cases h
   ·cases h
 ·cases h
theorem xd{el:Ty}{v:Cl}(hv:v.ok S.gh)(hroot:vE (.v (.cl v))=true){more:List el.D}{κ:List el.D->TS->Option ρ}{r:ρ}(h:rx S el v more κ=some r):
  ∃ (l0:List el.D) (cons:List Nat) (S':TS),gD S.st el.width v.av=some (l0.map el.row,cons)/\ic S S' cons/\κ (l0++more) S'=some r:=by
 unfold rx at h;split at h
 ·exact⟨[],[],S,rfl,ic.refl _,h⟩
 ·rename_i p sz lo len w;obtain⟨pr,pl⟩:=p;cases pl with
  |cons a l=>cases hroot
  |nil=>
   obtain⟨h0,h'⟩:=dC h;clear h;simp only[ak] at h0;have hfz:S.fz<=pr:=ax h0.1;have hsz:el.width=sz:=an h0.2;simp only at h';obtain⟨t,l,h1,h2,h⟩:=eE h';split at h
   ·rename_i l' hl;obtain⟨e,hl⟩:=eD hl;subst e;simp only at hl;subst hl
    have base: ∀ (len:Nat),¬l.length<len->gD S.st t.width (.own ⟨pr,[]⟩ sz 0 len)=some ((l.take len).map t.row,[pr]):=by intro len hlen;simp only[gD];rw[if_pos ⟨hsz.symm,trivial,trivial,hfz⟩,fo h1];simp only[ao,aH];rw[if_neg hlen,b9]
    cases w with
    |true=>
     obtain⟨e1,e2,e3⟩:=jY hv h2;refine⟨l,[pr],_,?_,ic.one (h2 rfl),h⟩
     grind [Cl.av]
    |false=>
     simp only[cond_false] at h;obtain⟨h3,h⟩:=dS h;obtain⟨h4,h⟩:=mq h;refine⟨l.take len,[pr],_,?_,ic.one (h2 rfl),h⟩
     grind [Cl.av]
   ·cases h
 ·cases h
theorem vz[dE](hΘ:ek P Θ)(hY:fC P Y)(hS:S.ok){o:Oper}(hn:eA o=true)(hf:zO Θ o=true)(hb:uV S o=true){κ:V->TS->Option ρ}{r:ρ}(h:jz Θ Y S o κ=some r):
  ∃D v0 v adds cons S',fr P D/\ed D P S.st o=some (v0,adds,cons)/\shift S.st.ng v0=V.av v/\S.st.make ⟨S.st.ng,adds,cons⟩=TS.st S'/\kT S S'=⟨S.st.ng,adds,cons⟩/\S'.ok/\v.ok S'.gh/\κ v S'=some r:=by
 obtain⟨dst,op,ty,pos,aft,gd⟩:=o;cases op with
 |buildSlice t len parts=>
  obtain⟨ti,el,elT',hti,he,g1,g2,g3,g4,g5,g6⟩:=ur hΘ hf;unfold jz at h;simp only[hti,he] at h;obtain⟨hb',h'⟩:=dC h;clear h
  have hnr: ((parts.toList.map λx=>S.opd x.2).any oh)=false:=by have hb: (!(parts.toList.map λx=>S.opd x.2).any oh)=true:=hb;simpa using hb
  rw[hnr] at h';simp only[cond_false] at h';split at h'
  ·rename_i l S1 hp
   have hvok: ∀v∈parts.toList.map (λx=>S.opd x.2),v.ok S.gh:=λv hv=>by obtain⟨y,_,rfl⟩:=aG.1 hv;exact fZ hS _
   obtain⟨L,d,hnd,m1,m2,m3⟩:=yb el _ S S1 l hS hvok hp;simp only[ak] at hb';have hb1:len*el.width<=1048576:=ax hb'.1;have hb2:=nZ hb'.2
   have hlen:l.length=len:=by rw[m2];have:=congrArg List.length hb2;simpa using this
   refine⟨qN,.own ⟨0,[]⟩ el.width 0 len,_,[.sl el.width (l.map el.row)],fO L,{ S1 with gh:=S1.gh++ [some ⟨el,l,none⟩] },eJ,?_,?_,d.make ⟨el,l,none⟩,?_,TS.ok_gh (d.ok hS) (eL.app _ _),?_,h'⟩
   ·simp only[ed,g1,ao]
    rw[if_pos ⟨by rw[g2];exact hb1,hb2,by rw[g2];exact el.width_pos,by rw[g6];rfl,by rw[ay];intro y hy;obtain⟨q1,q2⟩:=m3 (S.opd y.2) (aG.2 ⟨y,hy,rfl⟩);simp only[dG,q1,q2,g2];rfl⟩]
    have e: (parts.toList.map λx=>(opd S.st x.2).cells)=(parts.toList.map λx=>S.opd x.2).map λv=>v.av.cells:=by rw[ba];exact aE λx _=>by simp only[dG,Function.comp]
    rw[e,g5,m1];simp only[ao];rw[if_pos (nB.2 hnd),g2]
   ·simp only[shift,ff,fp,V.av,V1.av,Cl.av,aP,hlen];rw[d.len];rfl
   ·unfold kT;simp only;rw[d.gone,ci (by rw[d.len];exact az _),bV (by rw[d.len];exact az _)];rfl
   ·refine⟨by simp,λ_=>⟨rfl,rfl,λtr htr=> ?_⟩⟩;rw[ft,if_pos rfl] at htr;cases htr;rfl
  ·cases h'
 |call c=>
  obtain⟨cl,as,ts⟩:=c;cases cl with
  |invoke a b=>cases hn
  |value f=>
   unfold jz at h;simp only at h
   have fin: ∀ (g:FuncId) (caps:List AV) (vs:List V1),g<eT->callee S.st f=some (g,caps)->args P S.st ts as caps=vs.map V1.av->Y g vs ρ (λres out=>κ (iB S.gh.length res) { S with gh:=S.gh++out.map some })=some r->
     ∃D v0 v adds cons S',fr P D/\ed D P S.st ⟨dst,.call { callee:=.value f,args:=as,argTypes:=ts },ty,pos,aft,gd⟩=some (v0,adds,cons)/\shift S.st.ng v0=V.av v/\S.st.make ⟨S.st.ng,adds,cons⟩=TS.st S'/\kT S S'=⟨S.st.ng,adds,cons⟩/\S'.ok/\v.ok S'.gh/\κ v S'=some r:=by
    intro g caps vs hg h1 h2 h3;obtain⟨res,out,h4,h5,h6⟩:=hY _ _ _ _ _ h3;have h4:=h4.fn hg;refine⟨wy dst g (vs.map V1.av) (res.av,out.map dJ.tree),res.av,_,out.map dJ.tree,[],_,oB h4,?_,?_,vw S out,?_,TS.ok_gh hS (eL.apps _ _),kv h5,h6⟩
    ·simp_all [ed,vA]
    ·rw[ku];rfl
    ·unfold kT;simp only[lI,ci (az _),List.drop_length,bG,oW];rfl
   unfold uY at h;split at h
   ·rename_i g x y hf';obtain⟨hg,h⟩:=dC h;have hg:g<eT:=ax hg;obtain⟨vs,h1,h⟩:=jF hΘ hS _ _ _ _ h;refine fin g [] vs hg ?_ ?_ h
    ·unfold callee;rw[dG,hf'];rfl
    grind [args]
   ·rename_i g caps hf';obtain⟨hg,h⟩:=dC h;have hg:g<eT:=ax hg;obtain⟨vs,h1,h⟩:=jF hΘ hS _ _ _ _ h
    have hcaps: ∀c∈caps,c.ok S.gh:=by have:=fZ hS f;rw[hf'] at this;exact this
    obtain⟨cs,h2,h⟩:=nW hS _ _ _ hcaps h;refine fin g (caps.map Cl.av) (vs++cs.map .cl) hg ?_ ?_ h
    ·unfold callee;rw[dG,hf'];rfl
    ·unfold args;rw[h1,h2,bK,ba];rfl
   ·cases h
  |builtin b=>
   cases b with
   |append=>
    unfold jz at h;simp only at h;split at h
    ·rename_i s x t t' e1 e2;have hbb: ((match ts.toList with | [t,t'] =>Nat.beq t t'| _=>true)&&(match as.toList with |s::_=>vE (S.opd s)| [] =>true))=true:=hb;rw[e1,e2] at hbb;simp only[ak] at hbb;rw[hbb.1] at h;simp only[cond_true] at h;have h':=h;have ht:t=t':=an hbb.1;clear h;have e1:as= #[s,x] :=by apply Array.ext';simpa using e1
     have e2:ts= #[t,t'] :=by apply Array.ext';simpa using e2
     subst e1 e2;subst ht;obtain⟨ti,el,elT',hti,he,g1,g2,g3,g4,g5,g6⟩:=ur hΘ hf;unfold zd at h';simp only[hti] at h';split at h'
     ·rename_i el' sv xv he' hs hx;rw[he] at he';cases he';have hsv:=fZ hS s;rw[hs] at hsv;have hxv:=fZ hS x;rw[hx] at hxv;obtain⟨more,L,S1,d1,q1,h⟩:=Ay (show xv.ok S.gh from hxv) h';have hroot:vE (.v (.cl sv))=true:=by rw[<-hs];exact hbb.2
      obtain⟨l0,cons,S2,q2,d2,h⟩:=xd (show sv.ok S1.gh from Cl.ok_mono d1.le hsv) hroot h;obtain⟨hbd,h⟩:=dS h;have hlen: (l0++more).length<=2 ^ 40:=aX (Nat.le_mul_of_pos_right _ g4) hbd;have hll: (l0++more).length=l0.length+more.length:=by simp
      have d:=d1.trans d2;refine⟨qN,.own ⟨0,[]⟩ el.width 0 (l0.length+more.length),_,[.sl el.width ((l0++more).map el.row)],fO (L++cons),{ S2 with gh:=S2.gh++ [some ⟨el,l0++more,none⟩] },eJ,?_,?_,d.make ⟨el,l0++more,none⟩,?_,TS.ok_gh (d.ok hS) (eL.app _ _),?_,h⟩
      ·simp only[ed];rw[if_pos trivial,g1];simp only[ao,g2,g5,kg,dG,hs,hx];show (eN S.st el.width el.flatB xv.av).bind _=_;rw[q1];simp only[ao];show (gD (dropL S.st L) el.width sv.av).bind _=_;rw[<-d1.st,q2];simp only[ao,aH];rw[if_pos ⟨by rw[g3,<-hll];exact hbd,by rw[<-hll];exact hlen,el.width_pos,by rw[lX g2 g5 g6];rfl⟩,bK]
      ·simp only[shift,ff,fp,V.av,V1.av,Cl.av,aP,hll];rw[d.len];rfl
      ·unfold kT;simp only;rw[d.gone,ci (by rw[d.len];exact az _),bV (by rw[d.len];exact az _)];rfl
      ·refine⟨by simp,λ_=>⟨rfl,rfl,λtr htr=> ?_⟩⟩;rw[ft,if_pos rfl] at htr;cases htr;rfl
     ·cases h'
    ·cases h
   | _=>cases hn
 |makeSlice t l c=>
  unfold jz at h;simp only at h;split at h
  ·rename_i ti hti;split at h
   ·rename_i el he;obtain⟨elT',g1,g2,g3,g4,g5,g6⟩:=(hΘ _ _ hti).el el he;obtain⟨n,h1,h⟩:=ji h;obtain⟨m,h2,h⟩:=ji h;split at h
    ·rename_i z hz;obtain⟨hb,h⟩:=dS h;have hz':=Ty.unflat_some _ _ _ hz
     have hzr:el.row z=List.zipWith zc el.shs el.zvs:=by rw[el.row_flat,hz',o9]
     refine⟨qN,.own ⟨0,[]⟩ el.width 0 n.toNat,_,[(⟨el,List.replicate n.toNat z,none⟩:dJ)].map dJ.tree,[],{ S with gh:=S.gh++ [(⟨el,List.replicate n.toNat z,none⟩:dJ)].map some },eJ,?_,?_,vw S _,?_,TS.ok_gh hS (eL.apps _ _),?_,h⟩
     ·simp only[ed,g1,ao,dG,h1,h2];rw[lX g2 g5 g6];simp only[ao]
      have hn:n<=n*(ti.el:Int):=by
       have h1e: (1:Int)<=ti.el:=by omega
       have:=cM h1e hb.1
       rwa [Int.mul_one] at this
      rw[if_pos ⟨hb.1,hb.2.1,by rw[g3,Int.mul_comm];exact hb.2.2,Int.le_trans hn hb.2.2⟩,g2,<-hzr];simp[dJ.tree]
     ·simp only[shift,ff,fp,V.av,V1.av,Cl.av,aP];rfl
     ·unfold kT;simp only[lI,ci (az _),List.drop_length,bG,oW];rfl
     ·refine⟨by simp,λ_=>⟨rfl,by simp,λtr htr=> ?_⟩⟩;rw[show [(⟨el,List.replicate n.toNat z,none⟩:dJ)].map some= [some ⟨el,List.replicate n.toNat z,none⟩] from rfl,ft,if_pos rfl] at htr;cases htr;simp
    ·cases h
   ·cases h
  ·cases h
 | _=>cases hn
end
end
section
open Go
section
variable {ρ:Type} {P:Program} {Θ:fV} {S:TS} {Y:lz}
open Classical in
noncomputable def lK(d:Option Tmp)(D1 D2:iC):iC:=λd'=>if d'=d then D1 d' else D2 d'
theorem sn[dE]{d:Option Tmp}{D1 D2:iC}(h1:fr P D1)(h2:fr P D2):fr P (lK d D1 D2):=by
 intro d' f args gs res out h;unfold lK at h;split at h
 ·exact h1 _ _ _ _ _ _ h
 ·exact h2 _ _ _ _ _ _ h
theorem xG(d:Option Tmp)(D1 D2:iC):lK d D1 D2 d=D1 d:=by unfold lK;rw[if_pos rfl]
theorem xH{d d':Option Tmp}(D1 D2:iC)(h:d'≠d):lK d D1 D2 d'=D2 d':=by unfold lK;rw[if_neg h]
theorem zH[dE](hΘ:ek P Θ)(hY:fC P Y){ops:Array Oper}: ∀ (os:List Oper) (S:TS) (ms:List eP) (κ:TS->List eP->Option ρ) (r:ρ),S.ok->rQ Θ Y ops.toList os S ms κ=some r->
  ∃D SV ms',fr P D/\po D P ops os S.st=some (TS.st SV,ms')/\SV.ok/\κ SV (ms++ms')=some r:=by
 intro os
 induction os with
 |nil=>intro S ms κ r hS h;exact⟨qN,S,[],eJ,rfl,hS,by rw[bP];exact h⟩
 |cons o os ih=>
  intro S ms κ r hS h;unfold rQ at h;cases hst:dB o with
  |true=>
   rw[hst] at h;simp only[cond_true] at h;obtain⟨D,SV,ms',h1,h2,h3,h4⟩:=ih _ _ _ _ hS h;refine⟨D,SV,⟨S.gh.length,[],[]⟩::ms',h1,?_,h3,?_⟩
   ·simp only[po,hst,if_true,h2,aF];rfl
   grind
  |false=>
   rw[hst] at h;simp only[cond_false] at h;cases hbo:dY o with
   |true=>
    rw[hbo] at h;simp only[cond_true] at h;cases hgn:o.guard.isNone with
    |false=>rw[hgn] at h;cases h
    |true=>
    rw[hgn] at h;simp only[cond_true] at h;obtain⟨S3,g5,g6,_,h⟩:=eZ (v:=V.v (.cl (.ptrB (S.bx.length-1-ey os) 0))) hS trivial h;obtain⟨D,SV,ms',k1,k2,k3,k4⟩:=ih _ _ _ _ g6 h;refine⟨D,SV,⟨S.gh.length,[],[]⟩::ms',k1,?_,k3,?_⟩
    ·simp only[po,hst,aQ,if_false,hbo,if_true,hgn];rw[show S.st.put o.dst (.ptrB (S.st.nb-1-ey os) 0)=some S3.st from g5];simp only[ao,k2,aF];rfl
    grind
   |false=>
   rw[hbo] at h;simp only[cond_false] at h;obtain⟨b,S1,h1,h2,h3,h4,h⟩:=tI hS h;have hng:S.st.ng=S1.st.ng:=by rw[h2]
   cases b with
   |false=>
    simp only[cond_false] at h;obtain⟨S3,g5,g6,_,h⟩:=eZ (v:=.tup []) h3 (λx hx=>by cases hx) h;obtain⟨D,SV,ms',k1,k2,k3,k4⟩:=ih _ _ _ _ g6 h;refine⟨D,SV,⟨S1.gh.length,[],[]⟩::ms',k1,?_,k3,?_⟩
    ·simp only[po,hst,hbo,aQ,if_false,h1,ao];rw[<-h2,show S1.st.put o.dst (.tup [])=some S3.st from g5];simp only[ao,k2,aF];rfl
    grind
   |true=>
    simp only[cond_true] at h;cases hnw:eA o with
    |false=>
     rw[hnw] at h;simp only[cond_false] at h;obtain⟨v,S2,m1,m2,m3,m4,m5,h⟩:=mD (D:=qN) hΘ h3 h;obtain⟨S3,g5,g6,_,h⟩:=eZ m3 (by rw[m4];exact m5) h;obtain⟨D,SV,ms',k1,k2,k3,k4⟩:=ih _ _ _ _ g6 h;refine⟨D,SV,⟨S1.gh.length,[],[]⟩::ms',k1,?_,k3,?_⟩
     ·have hV:dD D P S1.st o=some v.av:=by
       rw[<-m1]
       have : ∀D':iC,dD D P S1.st o=dD D' P S1.st o:=by
        intro D';obtain⟨dst,op,ty,pos,aft,gd⟩:=o;cases op with
        |call c=>
         obtain⟨cl,as,ts⟩:=c;cases cl with
         |value f=>cases hnw
         |invoke a b=>rfl
         |builtin b=>cases b<;>rfl
        |unOp op t x=>cases op<;>rfl
        |binOp op t x y t'=>cases op<;>rfl
        |makeFunc fn first caps=>cases fn<;>rfl
        |slice t x lo hi mx=>cases mx<;>rfl
        | _=>rfl
       exact this qN
      simp only[po,hst,hbo,aQ,if_false,h1,ao,if_true,hnw];rw[<-h2,hV];simp only[ao];rw[<-m2,g5];simp only[ao,k2,aF];rw[m2];first |rfl|skip
     grind
    |true=>
     rw[hnw] at h;simp only[cond_true] at h;obtain⟨hc,h⟩:=dC h;simp only[ak] at hc;obtain⟨D1,v0,v,adds,cons,S2,m1,m2,m3,m4,m5,m6,m7,h⟩:=vz hΘ hY h3 hnw hc.1.2 hc.2 h;obtain⟨S3,g5,g6,_,h⟩:=eZ m6 m7 h;obtain⟨D,SV,ms',k1,k2,k3,k4⟩:=ih _ _ _ _ g6 h;refine⟨lK o.dst D1 D,SV,⟨S1.st.ng,adds,cons⟩::ms',sn m1 k1,?_,k3,?_⟩
     ·have hN:ed (lK o.dst D1 D) P S1.st o=some (v0,adds,cons):=by
       rw[<-m2];exact vI (xG _ _ _)
      have hrest:po (lK o.dst D1 D) P ops os S3.st=some (SV.st,ms'):=by
       rw[<-k2];refine Cp os _ (λo' ho'=>xH _ _ (λe=> ?_));have hl:=hc.1.1;unfold CD at hl;split at hl
       ·grind [A2,Nat.beq_refl]
       ·cases hl
      simp_all [po]
     grind
theorem zL[dE](hΘ:ek P Θ)(hY:fC P Y){ops:Array Oper}{D:iC}: ∀ (os:List Oper) (S:TS) (κ:TS->Option ρ) (r:ρ),S.ok->xq Θ Y os S κ=some r->
  ∃S',pp D P ops os S.st=some (TS.st S')/\S'.ok/\κ S'=some r:=by
 intro os
 induction os with
 |nil=>intro S κ r hS h;exact⟨S,rfl,hS,h⟩
 |cons o os ih=>
  intro S κ r hS h;unfold xq at h;cases hst:dB o with
  |false=>simp_all [pp]
  |true=>
   rw[hst] at h;simp only[cond_true] at h;obtain⟨hc,h⟩:=dC h;simp only[ak] at hc;obtain⟨D',v,S1,g1,g2,g3,g4,h⟩:=jW hΘ hY hS h;obtain⟨S',h1,h2,h3⟩:=ih S1 κ r g3 h;refine⟨S',?_,h2,h3⟩;have hd:o.dst=none:=cD.1 hc.2
   have hs:step D P S.st o=some (v.av,S1.st):=by
    rw[<-g2];obtain⟨dst,op,ty,pos,aft,gd⟩:=o;cases op with
    |store t a x=>rfl
    | _=>cases hst
   simp_all [one,St.put,pp]
theorem Am(hΘ:ek P Θ): ∀ (os:List Oper) (S:TS) (κ:TS->Option ρ) (r:ρ),S.ok->yd Θ os S κ=some r-> ∃S0,qT P os S.st=some (TS.st S0)/\S0.ok/\κ S0=some r:=by
 intro os
 induction os with
 |nil=>intro S κ r hS h;exact⟨S,rfl,hS,h⟩
 |cons o os ih=>
  intro S κ r hS h;unfold yd at h;unfold qT;split at h
  ·rename_i t hop;split at h
   ·rename_i ti hti
    obtain⟨S0,h1,h2,h3⟩:=ih { S with bx:=S.bx++ [ti.ty.zvs.map cC] } κ r ⟨hS.env,λcs hcs c hc=>by
     rcases bC.1 hcs with h1|h1
     ·exact hS.bx cs h1 c hc
     grind [yS]⟩ h
    refine⟨S0,?_,h2,h3⟩;rw[hop];simp only[(hΘ _ _ hti).ze,ao];rw[<-h1]
    congr 1
    rw[uH,yR];rfl
   ·cases h
  grind
theorem uF{f g:TypeId->Bool}(h: ∀t,f t=true->g t=true){t:TypeId}{a:AV}(hs:lS f t a=true):lS g t a=true:=by cases a<;>simp only[lS] at hs ⊢<;>first |exact h t hs|exact hs
theorem sD{f g:TypeId->Bool}(h: ∀t,f t=true->g t=true){ops:List Oper}{B:List (List Nat)}{S SV:St}{i j:Nat}{oi oj:Oper}(hs:jk f ops B S SV i j oi oj=true):jk g ops B S SV i j oi oj=true:=by
 unfold jk at hs ⊢;split at hs
 ·simp only[ak] at hs ⊢;exact⟨uF h hs.1,hs.2⟩
 ·cases hs
theorem sN{ops:List Oper}{B:List (List Nat)}{f g:Nat->Nat->Oper->Oper->Bool}(h: ∀i j oi oj,f i j oi oj=true->g i j oi oj=true)(hs:kX ops B f=true):kX ops B g=true:=by
 unfold kX at hs ⊢
 grind
theorem v7{f g:TypeId->Bool}(h: ∀t,f t=true->g t=true){ops:List Oper}{B:List (List Nat)}{S SV:St}{ms:List eP}(hs:ua f ops B S ms SV=true):ua g ops B S ms SV=true:=by
 unfold ua at hs ⊢;simp only[ak,bq] at hs ⊢
 grind [sN,sD]
theorem ve(hΘ:ek P Θ)(t:TypeId)(h:vf Θ t=true):iH P t=true:=by
 unfold vf at h;split at h
 ·rename_i ti hti;unfold iH;rw[(hΘ t ti hti).sh];unfold Ty.flatB at h;unfold Ty.shs
  grind
 ·cases h
theorem yD(hΘ:ek P Θ){S:TS}{o:Oper}(h:yC Θ S o=true): ∀t x v,o.op= .store t x v->lS (iH P) t (opd S.st x)=true:=by
 intro t x v ho;unfold yC at h;rw[ho] at h;simp only at h;rw[dG];split at h
 ·rename_i e;rw[e];rfl
 ·rename_i e;rw[e];exact ve hΘ t h
 ·cases h
theorem wg(hΘ:ek P Θ){o:Oper}(h:qD Θ o=true):n9 P o=true:=by
 unfold n9;split
 ·rename_i t a b he;unfold qD at h;rw[he] at h;simp only at h;split at h
  ·rename_i ti hti;split at h
   ·rename_i el hel;have hl:B8 Θ t=true:=by unfold B8;rw[hti];simp only[hel]
    grind [ur,iH,kg]
   ·cases h
  ·cases h
 ·rfl
theorem xB{o:Oper}{κ:V->Option ρ}{r:ρ}(hΘ:ek P Θ)(h:xA Θ S o κ=some r): ∃ (el:Ty) (l:List el.D),AY P S.st o=some (V.v (.cl (.c (.ls el l)))).av/\κ (.v (.cl (.c (.ls el l))))=some r:=by
 unfold xA at h;split at h
 ·rename_i t len parts ho;split at h
  ·rename_i ti hti;split at h
   ·rename_i el he;obtain⟨elT',g1,g2,g3,g4,g5,g6⟩:=(hΘ _ _ hti).el el he;obtain⟨hb,h⟩:=dC h;simp only[ak] at hb;have hb1:len*el.width<=1048576:=ax hb.1;have hb2:=nZ hb.2;split at h
    ·rename_i l hl;obtain⟨m1,m2,m3⟩:=jU el _ l hl;refine⟨el,l,?_,h⟩;simp only[AY,ho,g1,ao]
     rw[if_pos ⟨by rw[g2];exact hb1,hb2,by rw[g2];exact el.width_pos,by rw[g6];rfl,by
      rw[ay];intro y hy;obtain⟨q1,q2⟩:=m3 (S.opd y.2) (aG.2 ⟨y,hy,rfl⟩)
      simp_all [dG]⟩]
     have e2: (parts.toList.map λx=>(opd S.st x.2).cells)=(parts.toList.map λx=>S.opd x.2).map λv=>v.av.cells:=by rw[ba];exact aE λx _=>by simp only[Function.comp,dG]
     rw[e2,g5,m2,g2];rfl
    ·cases h
   ·cases h
  ·cases h
 ·cases h
theorem zI[dE](hΘ:ek P Θ)(hY:fC P Y){n0:Nat}{ops:List Oper}{B:List (List Nat)}: ∀ (os:List Oper) (k:Nat) (S:TS) (κ:TS->Option ρ) (r:ρ),(∀o∈os,fY P o=true)->(os≠ [] ->n0<=S.gh.length)->S.ok->qA Θ Y n0 ops B k os S κ=some r->
  ∃ (T:Nat->St) (S':TS),T k=S.st/\T (k+os.length)=S'.st/\S'.ok/\κ S'=some r/\ ∀i o,os[i]? =some o->pH P n0 ops B T (k+i) o\/(i+1=os.length/\dB o=true/\wW P (T (k+i)) o (T (k+i+1))/\ ∀j,j<k+i->j∈B.getD (k+i) []):=by
 intro os
 induction os with
 |nil=>intro k S κ r _ _ hS h;exact⟨λ_=>S.st,S,rfl,rfl,hS,h,λi o h=>by simp at h⟩
 |cons o os ih=>
  intro k S κ r hop hn0 hS h;have hop': ∀o∈os,fY P o=true:=λx hx=>hop x (aI _ hx);have hok:=hop o aK;have hn0:=hn0 (by simp)
  have glue: ∀ {S3:TS},(os≠ [] ->n0<=S3.gh.length)->S3.ok->qA Θ Y n0 ops B (k+1) os S3 κ=some r->((jA o=true/\fq P n0 S.st o S3.st)\/wU P n0 (Ca S.st ops B k) (yc S.st ops B k) S.st o S3.st\/(os= [] /\dB o=true/\wW P S.st o S3.st/\ ∀j,j<k->j∈B.getD k []))->
    ∃ (T:Nat->St) (S':TS),T k=S.st/\T (k+(o::os).length)=S'.st/\S'.ok/\κ S'=some r/\ ∀i o',(o::os)[i]? =some o'->pH P n0 ops B T (k+i) o'\/(i+1=(o::os).length/\dB o'=true/\wW P (T (k+i)) o' (T (k+i+1))/\ ∀j,j<k+i->j∈B.getD (k+i) []):=by
   intro S3 hn3 hS3 h3 hst;obtain⟨T,S',t1,t2,hS',hk,hT⟩:=ih (k+1) S3 κ r hop' hn3 hS3 h3
   let T':Nat->St:=λi=>if i=k then S.st else T i
   have e0:T' k=S.st:=if_pos rfl;have e1: ∀i,k<i->T' i=T i:=λi hi=>if_neg (by omega);refine⟨T',S',e0,?_,hS',hk,λi o' ho'=> ?_⟩
   ·grind
   ·cases i with
    |zero=>
     simp only[aJ,af] at ho';subst ho';have e2:T' (k+1)=S3.st:=by rw[e1 _ (by omega),t1]
     rcases hst with h|h| ⟨rfl,h1,h2,h3⟩
     ·left;left
      grind
     ·left;right
      grind
     grind
    |succ i=>grind [pH]
  unfold qA at h;cases hh:of Y S o with
  |some z=>
   obtain⟨kd,g,caps,a,us,xs⟩:=z;rw[hh] at h;obtain⟨S3,g1,g2,g3⟩:=sj hΘ hY hS hh h
   have hv:jA o=true:=by obtain⟨f,as,ts,x,t0,hop,_⟩:=og hh;unfold jA eA B4;rw[hop];rfl
   exact glue (λ_=>aX hn0 (g1 0).ng) g2 g3 (.inl ⟨hv,g1 n0⟩)
  |none=>
  rw[hh] at h;simp only at h;cases hct:B4 o with
  |true=>
   rw[hct] at h;simp only[cond_true] at h;obtain⟨el,l,m1,h⟩:=xB hΘ h;obtain⟨S3,g5,g6,g7,h⟩:=eZ (v:=V.v (.cl (.c (.ls el l)))) hS trivial h
   have hst:dB o=false:=by
    unfold B4 at hct;unfold dB;split at hct
    ·rename_i hop;rw[hop]
    ·cases hct
   exact glue (λ_=>by rw[g7];exact hn0) g6 h (.inr (.inl ⟨by simp[jA,hst,hct],_,.inr m1,g5⟩))
  |false=>
  rw[hct] at h;simp only[cond_false] at h;cases hs:dB o with
  |true=>
   rw[hs] at h;simp only[cond_true] at h;obtain⟨hc,h⟩:=dC h;obtain⟨D,v,S2,hD,g2,g3,g4,h⟩:=jW hΘ hY hS h;obtain⟨S3,g5,g6,g7,h⟩:=eZ g3 g4 h;rcases Bool.or_eq_true_iff.1 hc with hc|hc
   ·have hst:=fq.store hD hok hs (yD hΘ hc) g2 g5 (n0:=n0);exact glue (λ_=>aX hn0 hst.ng) g6 h (.inl ⟨by simp[jA,hs],hst⟩)
   ·simp only[ak,dh,ay,bw,bg] at hc;exact glue (λhne=>absurd hc.1 hne) g6 h (.inr (.inr ⟨hc.1,hs,wW.one hD hok (by unfold one;rw[g2];exact g5),hc.2⟩))
  |false=>
  rw[hs] at h;simp only[cond_false] at h;cases hn:eA o with
  |true=>
   rw[hn] at h;simp only[cond_true] at h;have hv:jA o=true:=by simp[jA,hn,hct]
   cases hfl: !im o&&qD Θ o with
   |true=>simp only[hfl,Bool.true_or,cond_true] at h;simp only[ak,bE] at hfl;obtain⟨D,v,S2,hD,g2,g3,g4,h⟩:=jW hΘ hY hS h;obtain⟨S3,g5,g6,g7,h⟩:=eZ g3 g4 h;have hst:=fq.flat hD hok hn hfl.1 (wg hΘ hfl.2) g2 g5 (n0:=n0) hn0;exact glue (λ_=>aX hn0 hst.ng) g6 h (.inl ⟨hv,hst⟩)
   |false=>
    simp only[hfl,b7] at h;cases hfb:zO Θ o&&uV S o with
    |false=>
     obtain⟨D,v,S2,hD,g2,g3,g4,h⟩:=jW hΘ hY hS h
     grind
    |true=>
     have hfb':=hfb;simp only[ak] at hfb';obtain⟨D,v0,v,adds,cons,S2,hD,g2,g3,g4,g8,g9,g10,h⟩:=vz hΘ hY hS hn hfb'.1 hfb'.2 h;simp only[hfb,dz] at h;obtain⟨hc,h⟩:=dC h;obtain⟨S3,g5,g6,g7,h⟩:=eZ g9 g10 h
     have hst:fq P n0 S.st o S3.st:=fq.new hD hok hn g2 (by rw[g4,g3];exact g5) hn0 λha r hr=>by
      rw[ha,b7] at hc;have e:gone 0 S.gh S2.gh=cons:=congrArg eP.cons g8
      simp_all
     exact glue (λ_=>aX hn0 hst.ng) g6 h (.inl ⟨hv,hst⟩)
  |false=>rw[hn] at h;simp only[cond_false] at h;obtain⟨hp,h⟩:=dC h;obtain⟨v,S2,m1,m2,m3,m4,m5,h⟩:=mD (D:=zB) hΘ hS h;obtain⟨S3,g5,g6,g7,h⟩:=eZ m3 (by rw[m4];exact m5) h;refine glue (λ_=>by rw[g7,m4];exact hn0) g6 h (.inr (.inl ⟨by simp[jA,hs,hn],v.av,.inl ⟨hn,hok,m1,hp⟩,by rw[<-m2];exact g5⟩))
theorem zK[dE](hΘ:ek P Θ)(hY:fC P Y)(hm:P.follows .mixedOrders=true){id:Nat}{ops:Array Oper}(hok:fF P (.region id ops true)=true)(hS:S.ok){κ:TS->Option ρ}{r:ρ}(h:Bl Θ Y ops.toList S κ=some r):
  gQ P (.region id ops true) S.st (λx S'=>x= .nor/\ ∃S1:TS,S'=S1.st/\S1.ok/\κ S1=some r):=by
 unfold Bl at h;simp only[fF] at hok;cases hc:rH ops||(ops.toList.any (Dc Y)&&A5 ops) with
 |true=>
  rw[show (rH ops.toList.toArray||(ops.toList.any (Dc Y)&&A5 ops.toList.toArray))=true from hc] at h;simp only[cond_true] at h
  have hph:A5 ops=true:=by
   unfold rH at hc;simp only[bq,ak] at hc;rcases hc with hc|hc
   ·exact hc.2
   ·exact hc.2
  obtain⟨T,S',t1,t2,h2,h3,hT⟩:=zI hΘ hY ops.toList 0 S κ r (λo ho=>ay.1 hok o ho) (λ_=>az _) hS h;have hsz:ops.toList.length=ops.size:=by simp
  rw[aP,hsz] at t2;have tl: ∀ {i:Nat} {o:Oper},ops[i]? =some o->ops.toList[i]? =some o:=by intro i o h;simpa using h
  by_cases hl: ∃o,ops[ops.size-1]? =some o/\ ¬pH P S.st.ng ops.toList (ef ops.toList) T (ops.size-1) o
  ·obtain⟨o,ho,hnp⟩:=hl;have hlt:=(aD.1 ho).1;refine gQ.phase hm (sP hph) T t1 (m:=ops.size-1) (.inr ⟨by omega,o,ho,?_⟩) (λi o hi ho=> ?_) ⟨rfl,S',t2,h2,h3⟩
   ·have:=hT _ o (tl ho);rw[aP] at this;rcases this with h|h
    ·exact absurd h hnp
    ·exact⟨h.2.1,h.2.2.1,h.2.2.2⟩
   ·have:=hT _ o (tl ho);rw[aP] at this;rcases this with h|h
    ·exact h
    ·omega
  ·refine gQ.phase hm (sP hph) T t1 (m:=ops.size) (.inl rfl) (λi o hi ho=> ?_) ⟨rfl,S',t2,h2,h3⟩;have:=hT _ o (tl ho);rw[aP] at this;rcases this with h|h
   ·exact h
   grind
 |false=>
 rw[show (rH ops.toList.toArray||(ops.toList.any (Dc Y)&&A5 ops.toList.toArray))=false from hc] at h;simp only[cond_false] at h;obtain⟨hd,h⟩:=dC h;have hd:u7 ops=true:=hd;obtain⟨S0,h0,hS0,h⟩:=Am hΘ _ _ _ _ hS h;obtain⟨D,SV,ms,h1,h2,h3,h4⟩:=zH hΘ hY _ _ _ _ _ hS0 h;obtain⟨h5,h6⟩:=dC h4;rw[bG] at h5;obtain⟨S',h7,h8,h9⟩:=zL (D:=D) (ops:=ops) hΘ hY _ _ _ _ h3 h6;exact gQ.draw h1 hm (by unfold nY;rw[hd,hok];rfl) h0 h2 (v7 (ve hΘ) h5) h7 ⟨rfl,S',rfl,h8,h9⟩
def dZ:Code->List Code
 | .seq a b=>dZ a++dZ b
 | .cond _ a b=>dZ a++dZ b
 | .block _ c=>dZ c
 | .loop c=> [c]
 | _=> []
def eM[dE](P:Program)(Λ:gn)(cs:List Code):Prop:=∀c∈cs,∀ (S:TS) (ρ:Type) (κ:X->TS->Option ρ) (r:ρ),S.ok->Λ (fB c) S ρ κ=some r->gQ P (.loop c) S.st (λx S'=> ∃S1:TS,S'=S1.st/\S1.ok/\κ x S1=some r)
theorem qz[dE](hΘ:ek P Θ)(hY:fC P Y)(hm:P.follows .mixedOrders=true){Λ:gn}: ∀ (c:Code) (S:TS) (κ:X->TS->Option ρ) (r:ρ),fF P c=true->eM P Λ (dZ c)->S.ok->ma Θ Y Λ c S κ=some r->
  gQ P c S.st (λx S'=> ∃S1:TS,S'=S1.st/\S1.ok/\κ x S1=some r):=by
 intro c
 induction c with
 |skip=>intro S κ r _ _ hS h;exact gQ.skip ⟨S,rfl,hS,h⟩
 |exit i=>intro S κ r _ _ hS h;exact gQ.exit ⟨S,rfl,hS,h⟩
 |ret=>intro S κ r _ _ hS h;exact gQ.ret ⟨S,rfl,hS,h⟩
 |region id ops dr=>
  intro S κ r hok _ hS h;cases dr with
  |false=>exact gQ.region (zJ hΘ hY _ _ _ _ (λo ho=>ay.1 hok o ho) hS h)
  |true=>refine (zK hΘ hY hm hok hS h).mono (λx S' hx=> ?_);obtain⟨rfl,hx⟩:=hx;exact⟨S',gK.refl,hx⟩
 |seq a b iha ihb=>
  intro S κ r hok hL hS h;simp only[fF,ak] at hok;have hLa:eM P Λ (dZ a):=λc hc=>hL c (bR _ hc);have hLb:eM P Λ (dZ b):=λc hc=>hL c (List.mem_append_right _ hc);unfold ma at h;refine gQ.seq ((iha S _ r hok.1 hLa hS h).mono (λx S' hx=>⟨S',gK.refl,?_⟩))
  grind
 |cond t a b iha ihb=>
  intro S κ r hok hL hS h;simp only[fF,ak] at hok
  grind [eM,dZ,ma,nQ,gQ.cond]
 |block i c ih=>
  intro S κ r hok hL hS h;unfold ma at h;refine gQ.block ((ih S _ r hok hL hS h).mono (λx S' hx=>⟨S',gK.refl,?_⟩));obtain⟨S1,rfl,h1,h2⟩:=hx;cases x with
  |nor=>exact⟨S1,rfl,h1,h2⟩
  |ret=>exact⟨S1,rfl,h1,h2⟩
  |ext j=>
   simp only at h2 ⊢;cases hb:Nat.beq j i with
   |true=>rw[hb] at h2;rw[if_pos (an hb)];exact⟨S1,rfl,h1,h2⟩
   |false=>rw[hb] at h2;rw[if_neg (by grind [Nat.beq_refl])];exact⟨S1,rfl,h1,h2⟩
 |loop c ih=>intro S κ r hok hL hS h;exact hL c (aL.2 rfl) S ρ κ r hS h
 | _=>intro S κ r hok;cases hok
end
end
section
open Go
section
variable {ρ:Type} {P:Program} {Θ:fV} {S:TS} {Y:lz}
theorem qC(hS:S.ok){gs:List dJ}{et:Option Ty}{c:Cl}(hc:c.ok S.gh){κ:Cl->List dJ->TS->Option ρ}{r:ρ}(h:xt S gs et c κ=some r):
  ∃c' gs' S',kM S.st (gs.map dJ.tree) (tJ et) c.av=some (Cl.av c',gs'.map dJ.tree,TS.st S')/\S'.ok/\eL S.gh S'.gh/\eL (gs.map some) (gs'.map some)/\c'.ok (gs'.map some)/\κ c' gs' S'=some r:=by
 have new: ∀ (t:Ty) (l:List t.D) (n:Nat),n=l.length->(Cl.own ⟨gs.length,[]⟩ t.width 0 n true).ok ((gs++ [(⟨t,l,none⟩:dJ)]).map some):=by intro t l n hn;refine⟨by simp,λ_=>⟨rfl,rfl,λtr htr=> ?_⟩⟩;rw[bK] at htr;have e:=ft (G:=gs.map some) (x:=some (⟨t,l,none⟩:dJ)) gs.length;simp only[aH,if_true] at e;have htr':dX (gs.map some++ [some (⟨t,l,none⟩:dJ)]) gs.length=some tr:=htr;rw[e] at htr';cases htr';exact hn
 have grow: ∀ (x:dJ),eL (gs.map some) ((gs++ [x]).map some):=λx=>by rw[bK];exact eL.app _ _
 unfold xt at h;split at h
 ·refine⟨_,_,_,rfl,hS,eL.refl _,eL.refl _,?_,h⟩;trivial
 ·rename_i t;refine⟨_,_,S,?_,hS,eL.refl _,grow _,new t [] 0 rfl,h⟩;simp only[Cl.av,kM,tJ,aH,bK,aO,ct];rfl
 ·rename_i p sz lo len w t';obtain⟨pr,pl⟩:=p;cases pl with
  |cons a l=>cases h
  |nil=>
   simp only at h;obtain⟨h1,h'⟩:=dC h;clear h;simp only[ak] at h1;have h2:S.fz<=pr:=ax h1.1;have h3:t'.width=sz:=an h1.2;obtain⟨t,l,k1,k2,h⟩:=eE h';obtain⟨k3,h⟩:=dC h;have k3:t.width=sz:=an k3
   have fin0: ∀ (lo len:Nat),lo+len<=l.length->(lo=0\/sz<=3/\t.flatB=true)->kM S.st (gs.map dJ.tree) (tJ (some t')) (.own ⟨pr,[]⟩ sz lo len)=some (.own ⟨gs.length,[]⟩ sz 0 len,(gs++ [(⟨t,(l.drop lo).take len,none⟩:dJ)]).map dJ.tree,({ S with gh:=dW S.gh pr none }:TS).st):=by
    intro lo len hlen hoff;simp only[kM];have hrows:S.st.rows ⟨pr,[]⟩ sz=some (l.map t.row):=by rw[<-k3];exact fo k1
    rw[if_pos ⟨trivial,by show sz=t'.width;exact h3.symm,h2⟩,hrows];simp only[ao,aH];rw[if_pos ⟨hlen,hoff.imp id λh=>⟨h.1,iX h.2 l⟩⟩,lU];simp only[tJ,h3,bK,aO,ct,dJ.tree,b9,cA,k3]
   have fin: ∀ (len:Nat),len<=l.length->kM S.st (gs.map dJ.tree) (tJ (some t')) (.own ⟨pr,[]⟩ sz 0 len)=some (.own ⟨gs.length,[]⟩ sz 0 len,(gs++ [(⟨t,l.take len,none⟩:dJ)]).map dJ.tree,({ S with gh:=dW S.gh pr none }:TS).st):=λlen hlen=>by
    have:=fin0 0 len (by omega) (.inl rfl)
    rwa [cE] at this
   cases w with
   |true=>
    obtain⟨e1,e2,e3⟩:=jY hc k2;refine⟨_,_,_,?_,TS.ok_gh hS (eL.gone _ _),eL.gone _ _,grow _,by rw[<-k3];exact new t l _ rfl,h⟩
    simp_all [Cl.av]
   |false=>
    simp only[cond_false] at h;rcases z8 h with ⟨h4,h⟩| ⟨_,h⟩
    case inr=>
     obtain⟨hz,h⟩:=dC h;simp only[ak] at hz;obtain⟨h4,h⟩:=dS h;refine⟨_,_,_,?_,TS.ok_gh hS (eL.gone _ _),eL.gone _ _,grow _,by rw[<-k3];exact new t ((l.drop lo).take len) _ rfl,h⟩;have:=fin0 lo len h4 (.inr ⟨ax hz.2,hz.1⟩);have hl: ((l.drop lo).take len).length=len:=by simp;omega
     simp only[Cl.av];rw[hl];exact this
    case inl=>
     refine⟨_,_,_,?_,TS.ok_gh hS (eL.gone _ _),eL.gone _ _,grow _,by rw[<-k3];exact new t (l.take len) _ rfl,h⟩
     grind [Cl.av]
 ·rename_i p sz i j;obtain⟨pr,pl⟩:=p;cases pl with
  |cons a l=>cases h
  |nil=>
   simp only at h;obtain⟨h1,h'⟩:=dC h;clear h;obtain⟨t,l,k1,k2,h⟩:=eE h';obtain⟨k3,h⟩:=dC h;have k3:t.width=sz:=an k3;have hrows:S.st.rows ⟨pr,[]⟩ sz=some (l.map t.row):=by rw[<-k3];exact fo k1
   refine⟨_,_,_,?_,TS.ok_gh hS (eL.gone _ _),eL.gone _ _,grow _,?_,h⟩
   ·simp only[Cl.av,kM];rw[if_pos ⟨trivial,ax h1⟩,hrows];simp only[ao,lU,aH,bK,aO,ct,dJ.tree,k3]
   ·show gs.length< ((gs++ [(⟨t,l,none⟩:dJ)]).map some).length;simp
 ·cases h
theorem xw: ∀ (ets:List (Option Ty)) (cs:List Cl) (S:TS) (gs:List dJ) (κ:List Cl->List dJ->TS->Option ρ) (r:ρ),S.ok->(∀c∈cs,c.ok S.gh)->va S gs ets cs κ=some r->
  ∃cs' gs' S',jf S.st (gs.map dJ.tree) (ets.map tJ) (cs.map Cl.av)=some (cs'.map Cl.av,gs'.map dJ.tree,TS.st S')/\S'.ok/\eL S.gh S'.gh/\eL (gs.map some) (gs'.map some)/\(∀c∈cs',c.ok (gs'.map some))/\κ cs' gs' S'=some r:=by
 intro ets
 induction ets with
 |nil=>
  intro cs S gs κ r hS hcs h;cases cs with
  |nil=>exact⟨[],gs,S,rfl,hS,eL.refl _,eL.refl _,(λc hc=>by cases hc),h⟩
  |cons c cs=>cases h
 |cons et ets ih=>
  intro cs S gs κ r hS hcs h;cases cs with
  |nil=>cases h
  |cons c cs=>
   unfold va at h;obtain⟨c',g1,S1,h1,h2,h3,h4,h5,h⟩:=qC hS (hcs c aK) h;obtain⟨cs',g2,S2,k1,k2,k3,k4,k5,h⟩:=ih cs S1 g1 _ r h2 (λx hx=>Cl.ok_mono h3 (hcs x (aI _ hx))) h;refine⟨c'::cs',g2,S2,?_,k2,h3.trans k3,h4.trans k4,λx hx=> ?_,h⟩
   ·simp only[aO,jf,h1,ao,k1,aF]
   ·rcases aZ.1 hx with rfl|hx
    all_goals grind [Cl.ok_mono]
theorem zM(hΘ:ek P Θ)(hS:S.ok){gs:List dJ}{t:TypeId}{v:V}(hv:v.ok S.gh){κ:V1->List dJ->TS->Option ρ}{r:ρ}(h:Bm Θ S gs t v κ=some r):
  ∃v' gs' S',v8 P S.st (gs.map dJ.tree) t v.av=some (V1.av v',gs'.map dJ.tree,TS.st S')/\S'.ok/\eL S.gh S'.gh/\eL (gs.map some) (gs'.map some)/\v'.ok (gs'.map some)/\κ v' gs' S'=some r:=by
 unfold Bm at h;split at h
 ·rename_i p sz i j;obtain⟨c',g1,S1,h1,h2,h3,h4,h5,h⟩:=qC hS (show Cl.ok S.gh (.ptrT p sz i j) from hv) h;exact⟨.cl c',g1,S1,h1,h2,h3,h4,h5,h⟩
 split at h
 ·cases h
 ·rename_i ti hti;have hsh:=(hΘ _ _ hti).sh;split at h
  ·rename_i cs _;obtain⟨cs',g1,S1,h1,h2,h3,h4,h5,h⟩:=xw _ _ _ _ _ _ hS hv h;refine⟨.agg cs',g1,S1,?_,h2,h3,h4,h5,h⟩;simp only[V.av,V1.av,v8,hsh];rw[show ti.ty.shs=ti.ty.csh.map tJ from rfl,h1];rfl
  ·rename_i c _;obtain⟨c',g1,S1,h1,h2,h3,h4,h5,h⟩:=qC hS hv h;refine⟨.cl c',g1,S1,?_,h2,h3,h4,h5,h⟩
   have e:v8 P S.st (gs.map dJ.tree) t (V.v (.cl c)).av=kM S.st (gs.map dJ.tree) ((gk P 9 t).headD 0) c.av:=by
    cases c with
    |c x=>cases x<;>rfl
    | _=>rfl
   rw[e,hsh]
   have e2:ti.ty.shs.headD 0=tJ (ti.ty.csh.headD none):=by
    unfold Ty.shs;cases ti.ty.csh with
    |nil=>rfl
    |cons a l=>cases a<;>rfl
   rw[e2];exact h1
  ·cases h
theorem xx(hΘ:ek P Θ): ∀ (rs:List (TypeId×V)) (S:TS) (gs:List dJ) (κ:List V1->List dJ->Option ρ) (r:ρ),S.ok->(∀x∈rs,x.2.ok S.gh)->rS Θ S gs rs κ=some r->
  ∃vs gs',uc P S.st (gs.map dJ.tree) (rs.map λx=>(x.1,x.2.av))=some (vs.map V1.av,gs'.map dJ.tree)/\eL (gs.map some) (gs'.map some)/\(∀v∈vs,v.ok (gs'.map some))/\vs.length=rs.length/\κ vs gs'=some r:=by
 intro rs
 induction rs with
 |nil=>intro S gs κ r hS hrs h;exact⟨[],gs,rfl,eL.refl _,(λv hv=>by cases hv),rfl,h⟩
 |cons x rs ih=>
  intro S gs κ r hS hrs h;obtain⟨t,v⟩:=x;unfold rS at h;obtain⟨v',g1,S1,h1,h2,h3,h4,h5,h⟩:=zM hΘ hS (hrs _ aK) h;obtain⟨vs,g2,k1,k2,k3,k4,h⟩:=ih S1 g1 _ r h2 (λx hx=>V.ok_mono h3 (hrs x (aI _ hx))) h;refine⟨v'::vs,g2,?_,h4.trans k2,λy hy=> ?_,by simp[k4],h⟩
  ·simp only[aO,uc,h1,ao,k1,aF]
  ·rcases aZ.1 hy with rfl|hy
   all_goals grind [V1.ok_mono]
theorem Ar(hΘ:ek P Θ)(hS:S.ok): ∀ (rs:List ResultVar) (ts:List TypeId) (κ:List (TypeId×V)->Option ρ) (r:ρ),uw Θ S rs ts κ=some r->
  ∃l:List (TypeId×V),rs.mapM (m0 P S.st)=some (l.map λx=>x.2.av)/\l.map (·.1)=ts/\(∀x∈l,x.2.ok S.gh)/\κ l=some r:=by
 intro rs
 induction rs with
 |nil=>
  intro ts κ r h;cases ts with
  |nil=>exact⟨[],rfl,rfl,(λx hx=>by cases hx),h⟩
  |cons t ts=>cases h
 |cons a rs ih=>
  intro ts κ r h;cases ts with
  |nil=>cases a<;>cases h
  |cons t ts=>
   cases a with
   |tmp a=>
    unfold uw at h;obtain⟨l,h1,h2,h3,h⟩:=ih ts _ r h;refine⟨(t,eS S.env a)::l,?_,by simp[h2],λx hx=> ?_,h⟩
    ·simp only[cF,h1,m0];rfl
    ·rcases aZ.1 hx with rfl|hx
     all_goals grind [nx]
   |cell a t'=>
    unfold uw at h
    have hw:0<P.cellsOf t':=by
     have h':=h;unfold sA at h';split at h'
     ·rename_i ti hti;rw[(hΘ _ _ hti).cells];exact Ty.width_pos _
     ·cases h'
    obtain⟨u,g1,g2,h⟩:=sB hΘ hS (nx hS a) h;obtain⟨l,h1,h2,h3,h⟩:=ih ts _ r h;refine⟨(t,u)::l,?_,by simp[h2],λx hx=> ?_,h⟩
    ·simp only[cF,h1,m0];rw[if_pos hw];have :load P S.st t' (S.st.env a)=some u.av:=g1;rw[this];rfl
    grind
theorem AJ{α β γ:Type}(f:α×β->γ): ∀l:List (α×β),(l.map (·.1)).zip (l.map f)=l.map λx=>(x.1,f x)
 | [] =>rfl
 |a::l=>by grind
theorem Aj(vs:List V1): (qS vs).av=CF (vs.map V1.av):=by
 match vs with
 | [] =>rfl
 | [v] =>rfl
 |v::u::vs=>rfl
theorem oz: ∀ (args:List V1) (n t:Nat),(eS (iu n args) (n+t)).av=(args.map V1.av).getD t .dead
 | [],n,t=>by simp[iu,eS];rfl
 |a::l,n,0=>by simp[iu,eS];rfl
 |a::l,n,t+1=>by
  have :Nat.beq n (n+(t+1))=false:=by
   cases h:Nat.beq n (n+(t+1)) with
   |false=>rfl
   |true=>have:=an h;omega
  simp only[iu,eS,this,cond_false];rw[show n+(t+1)=(n+1)+t by omega,oz l (n+1) t];simp
theorem oA: ∀ (args:List V1) (n:Nat) (x:Nat×V),x∈iu n args-> ∃a∈args,x.2= .v a
 | [],n,x,h=>by cases h
 |a::l,n,x,h=>by
  simp only[iu,aZ] at h;rcases h with rfl|h
  ·exact⟨a,aK,rfl⟩
  ·obtain⟨b,hb,he⟩:=oA l (n+1) x h;exact⟨b,aI _ hb,he⟩
theorem sM(a:List V1)(t:Nat): (eS (iu 0 a) t).av=(a.map V1.av).getD t .dead:=by
 have:=oz a 0 t
 rwa [aP] at this
theorem uK(_P:Program)(S:TS): ∀ (n r:Nat) (gs:List dJ),kz S r n=some gs->((List.range' r n).map λr=>(S.st.gh r).getD .dd)=gs.map dJ.tree:=by
 intro n
 induction n with
 |zero=>simp_all [kz]
 |succ n ih=>
  intro r gs h;simp only[kz] at h;split at h
  ·rename_i t l hg;split at h
   ·rename_i ts hts;simp only[af] at h;subst h;rw[cq,aO,aO,ih _ _ hts]
    congr 1
    show ((dX S.gh r).map dJ.tree).getD .dd=_;rw[hg];rfl
   ·cases h
  ·cases h
theorem ue[dE](hΘ:ek P Θ)(hY:fC P Y)(hm:P.follows .mixedOrders=true){Λ:gn}{f:FuncId}{fn:Func}(hf:rn P f=some fn)(hL: ∀c,fn.body=some c->eM P Λ (dZ c)){args:List V1}{G:List dJ}{m:Nat}(hmG:m<=G.length)(ha: ∀a∈args,a.ok (G.map some)){res:V}{out:List dJ}
  (h:Ct Θ Y Λ fn args G m (λv g=>some (v,g))=some (res,out)):eV P f (args.map V1.av) (G.map dJ.tree) m res.av (out.map dJ.tree):=by
 unfold Ct at h;split at h
 ·cases h
 ·rename_i c hc
  have hcok:fF P c=true:=by
   unfold rn at hf;simp only[ah] at hf;obtain⟨fn',g1,g2⟩:=hf;split at g2
   ·cases g2
   ·grind
  have hS0: ({ env:=iu 0 args,bx:=[],gh:=G.map some,fz:=m,nt:=args.length+(fn.ntmps-args.length) }:TS).ok:=
   ⟨λx hx=>by obtain⟨a,h1,h2⟩:=oA _ _ _ hx;rw[h2];exact ha a h1,λcs hcs=>by cases hcs⟩
  have hbeg: ({ env:=iu 0 args,bx:=[],gh:=G.map some,fz:=m,nt:=args.length+(fn.ntmps-args.length) }:TS).st=vR fn.ntmps (args.map V1.av) (G.map dJ.tree) m:=by
   unfold TS.st vR Bg;simp only[aH,bU]
   congr 1
   ·funext t
    exact sM _ t
   ·funext r
    show (dX (G.map some) r).map dJ.tree=(G.map dJ.tree)[r]?;unfold dX;rw[eg,aw,aw];cases G[r]?<;>rfl
  have hW:=qz hΘ hY hm c _ _ _ hcok (hL c hc) hS0 h;rw[hbeg] at hW
  have main: ∀ (S1:TS),S1.ok->(uw Θ S1 fn.results.toList fn.resultTypes.toList λrs=>match kz S1 0 m with
    |some gs=>rS Θ S1 gs rs λvs gs'=>some (qS vs,gs')
    |none=>none)=some (res,out)->xk P fn.results.toList fn.resultTypes.toList m S1.st=some (res.av,out.map dJ.tree):=by
   intro S1 hS1 h0;obtain⟨l,h1,h2,h3,h⟩:=Ar (P:=P) hΘ hS1 _ _ _ _ h0;clear h0;split at h
   ·rename_i gs hgs;have hgs:=uK P S1 m 0 gs hgs;obtain⟨vs,gs',k1,k2,k3,k4,h⟩:=xx (P:=P) hΘ _ _ _ _ _ hS1 h3 h;simp only[af,au] at h;obtain⟨rfl,rfl⟩:=h;unfold xk;rw[h1];simp only[ao,aH]
    have hz: (fn.resultTypes.toList.zip (l.map λx=>x.2.av))=l.map λx=>(x.1,x.2.av):=by rw[<-h2];exact AJ _ l
    rw[if_pos (by rw[<-h2];simp),hz,bT,hgs,k1];simp only[aF,Aj]
   ·cases h
  refine ry hf hc (by simpa using hmG) (hW.mono (λx S' hx=>⟨S',gK.refl,?_⟩))
  grind
theorem xY{G:List (Option dJ)}{a:V1}(h:a.ok []):a.ok G:=V1.ok_mono (G:=[]) ⟨bO _,λr tr hr=>by cases hr⟩ h
theorem Bo[dE](hΘ:ek P Θ)(hY:fC P Y)(hm:P.follows .mixedOrders=true){Λ:gn}{f:FuncId}{fn:Func}(hf:rn P f=some fn)(hL: ∀c,fn.body=some c->eM P Λ (dZ c)){args:List V1}(ha: ∀a∈args,a.ok []){res:V}{out:List dJ}
  (h:C7 Θ Y Λ fn args (λv g=>some (v,g))=some (res,out)):ig P f (args.map V1.av) [] res.av (out.map dJ.tree):=ue hΘ hY hm hf hL (bO 0) ha h
theorem vg[dE](hΘ:ek P Θ)(hY:fC P Y)(hm:P.follows .mixedOrders=true){Λ:gn}{f:FuncId}{fn:Func}(hf:rn P f=some fn)(hL: ∀c,fn.body=some c->eM P Λ (dZ c)){m:Nat}(hm1:m<=1){el:Ty}{l:List el.D}{args:List V1}(ha: ∀a∈args,a.ok []){res:V}{out:List dJ}
  (h:xz Θ Y Λ fn m el l args (λv g=>some (v,g))=some (res,out)):eV P f (.own ⟨0,[]⟩ el.width 0 l.length::args.map V1.av) [.sl el.width (l.map el.row)] m res.av (out.map dJ.tree):=
 ue hΘ hY hm hf hL (args:=.cl (.own ⟨0,[]⟩ el.width 0 l.length true)::args) (G:=[⟨el,l,none⟩]) hm1 (List.forall_mem_cons.2 ⟨⟨cz,λ_=>⟨rfl,rfl,λtr htr=>by have htr:some (⟨el,l,none⟩:dJ)=some tr:=htr;cases htr;rfl⟩⟩,λa h=>xY (ha a h)⟩) h
theorem zR[dE](hΘ:ek P Θ)(hY:fC P Y)(hm:P.follows .mixedOrders=true){Λ:gn}{f:FuncId}{fn:Func}(hf:rn P f=some fn)(hL: ∀c,fn.body=some c->eM P Λ (dZ c)){el:Ty}{l:List el.D}{args:List V1}(ha: ∀a∈args,a.ok []){res:V}{out:List dJ}
  (h:Bp Θ Y Λ fn el l args (λv g=>some (v,g))=some (res,out)):eV P f (.ptrT ⟨0,[]⟩ el.width 0 0::args.map V1.av) [.sl el.width (l.map el.row)] 1 res.av (out.map dJ.tree):=
 ue hΘ hY hm hf hL (args:=.cl (.ptrT ⟨0,[]⟩ el.width 0 0)::args) (G:=[⟨el,l,none⟩]) (az 1) (List.forall_mem_cons.2 ⟨cz,λa h=>xY (ha a h)⟩) h
end
end
section
open Go
def nq:List Nat->Nat->Nat->Option Nat
 | [],_,_=>none
 |a::l,x,n=>bif Nat.beq a x then some n else nq l x (n+1)
def lc(bs ls:List Nat):Cl->Cl
 | .own p sz lo len w=>match nq ls p.r 0 with |some k=> .own ⟨k,p.l⟩ sz lo len w|none=> .dead
 | .ptrT p sz i j=>match nq ls p.r 0 with |some k=> .ptrT ⟨k,p.l⟩ sz i j|none=> .dead
 | .ptrB n j=>match nq bs n 0 with |some k=> .ptrB k j|none=> .dead
 |c=>c
def yn(bs ls:List Nat):V1->V1
 | .cl c=> .cl (lc bs ls c)
 | .agg cs=> .agg (cs.map (lc bs ls))
 | .fn f cs=> .fn f (cs.map (lc bs ls))
def yl(bs ls:List Nat):V->V
 | .v x=> .v (yn bs ls x)
 | .tup _=>V.dead
def uZ:List Nat->List Nat->List Nat
 | [],acc=>acc
 |a::l,acc=>match nq acc a 0 with |some _=>uZ l acc|none=>uZ l (acc++ [a])
def ox:List Nat->Bool
 | [] =>true
 |a::l=>(match nq l a 0 with |some _=>false|none=>true)&&ox l
def Dk:Cl->List Nat| .ptrB n _=> [n] | _=> []
def CB:Cl->List Nat| .own p _ _ _ _=> [p.r] | .ptrT p _ _ _=> [p.r] | _=> []
def V1.all:V1->List Cl| .cl c=> [c] | .agg cs=>cs| .fn _ cs=>cs
def V.all:V->List Cl| .v x=>x.all| .tup _=> []
def vn(S:TS)(keep:List Nat):List Nat:=uZ (keep.flatMap λt=>(eS S.env t).all.flatMap Dk) []
def A1(S:TS)(keep bs:List Nat):List Nat:=uZ (List.range S.fz++(keep.flatMap λt=>(eS S.env t).all.flatMap CB)++bs.flatMap λb=>((gA S.bx b).getD []).flatMap CB) []
def eW(S:TS)(keep bs ls:List Nat):TS where
 env:=keep.map λt=>(t,yl bs ls (eS S.env t))
 bx:=bs.map λb=>((gA S.bx b).getD []).map (lc bs ls)
 gh:=ls.map λr=>dX S.gh r
 fz:=S.fz
 nt:=S.nt
def qt(S:TS)(bs ls:List Nat):Bool:=ox bs&&ox ls&&bs.all (λb=>Nat.blt b S.bx.length)&&B7 (ls.take S.fz) (List.range S.fz)&&ls.all (λr=>Nat.blt r S.gh.length)
def v9(G:List (Option dJ)):Cl->Cl
 | .own p sz lo len true=> .own p sz lo (match gA G p.r with |some (some tr)=>tr.l.length| _=>len) true
 |c=>c
def xy(G:List (Option dJ)):V1->V1
 | .cl c=> .cl (v9 G c)
 | .agg cs=> .agg (cs.map (v9 G))
 | .fn f cs=> .fn f (cs.map (v9 G))
def Cr(G:List (Option dJ)):V->V
 | .v x=> .v (xy G x)
 | .tup l=> .tup (l.map (xy G))
def Bn(S:TS):TS:={ S with env:=S.env.map (λx=>(x.1,Cr S.gh x.2)),bx:=S.bx.map (λcs=>cs.map (v9 S.gh)) }
def l8{ρ:Type}(keep:List Nat)(S:TS)(κ:TS->Option ρ):Option ρ:=bif qt S (vn S keep) (A1 S keep (vn S keep)) then κ (Bn (eW S keep (vn S keep) (A1 S keep (vn S keep)))) else none
theorem mt: ∀ {l:List Nat} {x n k:Nat},nq l x n=some k->n<=k/\l[k-n]? =some x
 | [],x,n,k,h=>by cases h
 |a::l,x,n,k,h=>by
  simp only[nq] at h;cases hb:Nat.beq a x with
  |true=>simp_all
  |false=>
   rw[hb] at h;obtain⟨h1,h2⟩:=mt (l:=l) h
   grind
theorem pZ: ∀ {l:List Nat} {x n:Nat},nq l x n=none->x∉l
 | [],x,n,_=>by simp
 |a::l,x,n,h=>by
  simp only[nq] at h;cases hb:Nat.beq a x with
  |true=>rw[hb] at h;cases h
  |false=>
   rw[hb] at h;have:=pZ (l:=l) h;intro hm
   simp_all
theorem kW: ∀ {l:List Nat},ox l=true-> ∀ (i j x:Nat),l[i]? =some x->l[j]? =some x->i=j
 | [],_,i,j,x,hi,_=>by simp at hi
 |a::l,h,i,j,x,hi,hj=>by
  simp only[ox,ak] at h
  have hna:a∉l:=by
   have h1:=h.1;split at h1
   ·cases h1
   ·rename_i hp;exact pZ hp
  cases i with
  |zero=>
   simp only[aJ,af] at hi;subst hi;cases j with
   |zero=>rfl
   |succ j=>simp only[cj] at hj;exact absurd (aA hj) hna
  |succ i=>
   simp only[cj] at hi;cases j with
   |zero=>simp only[aJ,af] at hj;subst hj;exact absurd (aA hi) hna
   |succ j=>simp only[cj] at hj;rw[kW h.2 i j x hi hj]
def Bt.ren(bt:Bt)(bs ls:List Nat):Bt where
 β:=λp=>bt.β ⟨ls.getD p.r 0,p.l⟩
 κ:=λp=>bt.κ ⟨ls.getD p.r 0,p.l⟩
 bb:=λn=>bt.bb (bs.getD n 0)
 nb:=bs.length
 ng:=ls.length
 A:=bt.A
theorem qV{w:World}{bt:Bt}{bs ls:List Nat}{c:Cl}{u:Value}(h:VR w bt c.av u):VR w (bt.ren bs ls) (lc bs ls c).av u:=by
 have lt: ∀ {l:List Nat} {x k:Nat},nq l x 0=some k->k<l.length/\l.getD k 0=x:=by intro l x k hk;obtain⟨_,h2⟩:=mt hk;rw[Nat.sub_zero] at h2;exact⟨(ai.1 h2).1,by simp[aB,h2]⟩
 cases c with
 |c x=>
  cases x with
  |sc v=>cases h with |sc h=>exact .sc h
  |ls t l=>cases h with |ro h=>exact .ro h
 |em=>cases h with |em a=>exact .em a
 |own p sz lo len wh=>
  simp only[lc];split
  ·rename_i k hk;obtain⟨h1,h2⟩:=lt hk;have hp: (⟨ls.getD k 0,p.l⟩:dM)=p:=by rw[h2]
   have e1: (bt.ren bs ls).κ ⟨k,p.l⟩=bt.κ p:=by have e: (bt.ren bs ls).κ ⟨k,p.l⟩=bt.κ (dM.mk (ls.getD k 0) p.l):=rfl;rw[e,hp]
   have e2: (bt.ren bs ls).β ⟨k,p.l⟩=bt.β p:=by have e: (bt.ren bs ls).β ⟨k,p.l⟩=bt.β (dM.mk (ls.getD k 0) p.l):=rfl;rw[e,hp]
   cases h with
   |own hp' hc hkk ha=>exact .own h1 hc (by rw[e1];exact hkk) (by rw[e2];exact ha)
  ·exact .dead _
 |pro cs=>cases h with |pro cs hs hA hr ht=>exact .pro cs hs hA hr ht
 |ptrB n j=>
  simp only[lc];split
  ·rename_i k hk;obtain⟨h1,h2⟩:=lt hk;cases h with
   |ptrB j hn=>
    have :bt.bb n=(bt.ren bs ls).bb k:=by show bt.bb n=bt.bb (bs.getD k 0);rw[h2]
    rw[this];exact .ptrB j h1
  ·exact .dead _
 |ptrT p sz i j=>
  simp only[lc];split
  ·rename_i k hk;obtain⟨h1,h2⟩:=lt hk;have hp: (⟨ls.getD k 0,p.l⟩:dM)=p:=by rw[h2]
   cases h with
   |ptrT sz i j hp' hkk=>
    have e1:bt.β p=(bt.ren bs ls).β ⟨k,p.l⟩:=by show bt.β p=bt.β ⟨ls.getD k 0,p.l⟩;rw[hp]
    rw[e1];exact .ptrT sz i j h1 (by show _<bt.κ ⟨ls.getD k 0,p.l⟩;rw[hp];exact hkk)
  ·exact .dead _
 |dead=>exact .dead _
theorem yp{w:World}{bt:Bt}{bs ls:List Nat}{v:V1}{u:Value}(h:VR w bt v.av u):VR w (bt.ren bs ls) (yn bs ls v).av u:=by
 have cells: ∀ (cs:List Cl) (us:List Value),us.length=cs.length->(∀ (k:Nat) (c:AV) (u:Value),(cs.map Cl.av)[k]? =some c->us[k]? =some u->VR w bt c u)-> ∀ (k:Nat) (c:AV) (u:Value),((cs.map (lc bs ls)).map Cl.av)[k]? =some c->us[k]? =some u->VR w (bt.ren bs ls) c u:=by intro cs us _ hr k c u hk hu;rw[aw,aw] at hk;simp only[aj] at hk;obtain⟨c1,⟨c0,hc0,rfl⟩,rfl⟩:=hk;exact qV (hr k c0.av u (by rw[aw,hc0];rfl) hu)
 cases v with
 |cl c=>exact qV h
 |agg cs=>
  simp only[V1.av] at h;cases h with
  |agg hl ho hr=>exact .agg (by simpa using hl) ho (cells cs _ (by simpa using hl) hr)
 |fn f cs=>
  simp only[V1.av] at h;cases h with
  |fn f hl hr=>exact .fn f (by simpa using hl) (cells cs _ (by simpa using hl) hr)
theorem Ap{w:World}{bt:Bt}{bs ls:List Nat}{v:V}{u:Value}(h:VR w bt v.av u):VR w (bt.ren bs ls) (yl bs ls v).av u:=by
 cases v with
 |v x=>exact yp h
 |tup l=>exact .dead _
theorem pN(S:TS)(f:V->V): ∀ (keep:List Nat) (t:Nat),eS (keep.map λt=>(t,f (eS S.env t))) t=V.dead\/eS (keep.map λt=>(t,f (eS S.env t))) t=f (eS S.env t)
 | [],t=> .inl rfl
 |u::l,t=>by
  simp only[aO,eS];cases hb:Nat.beq u t with
  |true=>simp_all
  |false=>exact pN S f l t
theorem kp(S:TS)(keep bs ls:List Nat)(r:Nat):dX (eW S keep bs ls).gh r=(ls[r]?).bind λq=>dX S.gh q:=by show (gA (ls.map λr=>dX S.gh r) r).getD none=_;rw[eg,aw];cases ls[r]?<;>rfl
theorem sW[dE]{S:TS}{keep bs ls:List Nat}(h:qt S bs ls=true):gK S.st (eW S keep bs ls).st:=by
 unfold qt at h;simp only[ak] at h;obtain⟨⟨⟨⟨hnb,hnl⟩,hbs⟩,hfz⟩,hlt⟩:=h;have hfz:=nZ hfz;intro w0 W btI SI bt a w hl;have inv:=hl.inv
 have hls: ∀ (k:Nat),k<S.fz->ls[k]? =some k:=by
  intro k hk;have : (ls.take S.fz)[k]? =(List.range S.fz)[k]? :=by rw[hfz]
  rw[bn,if_pos hk,List.getElem?_range hk] at this;exact this
 have look: ∀p s rs,(eW S keep bs ls).st.look p= .sl s rs-> ∃q,ls[p.r]? =some q/\S.st.look ⟨q,p.l⟩= .sl s rs/\ls.getD p.r 0=q:=by
  intro p s rs hp;unfold St.look at hp
  have e: (eW S keep bs ls).st.gh p.r=((ls[p.r]?).bind λq=>dX S.gh q).map dJ.tree:=by show (dX _ _).map dJ.tree=_;rw[kp]
  rw[e] at hp;cases hq:ls[p.r]? with
  |none=>rw[hq] at hp;cases hp
  |some q=>refine⟨q,rfl,?_,by simp[aB,hq]⟩;rw[hq] at hp;exact hp
 have box: ∀n cells,(eW S keep bs ls).st.bx n=some cells-> ∃b cs,bs[n]? =some b/\S.bx[b]? =some cs/\cells=(cs.map (lc bs ls)).map Cl.av/\bs.getD n 0=b:=by intro n cells hn;have hn': (gA (bs.map λb=>((gA S.bx b).getD []).map (lc bs ls)) n).map (λcs=>cs.map Cl.av)=some cells:=hn;rw[eg,aw] at hn';simp only[aj] at hn';obtain⟨x,⟨b,hb,rfl⟩,rfl⟩:=hn';have hlt':b<S.bx.length:=ax (ay.1 hbs b (aA hb));refine⟨b,S.bx[b],hb,aq hlt',?_,by simp[aB,hb]⟩;rw[eg,aq hlt'];rfl
 have bxS: ∀ {b:Nat} {cs:List Cl},S.bx[b]? =some cs->S.st.bx b=some (cs.map Cl.av):=by intro b cs hb;show (gA S.bx b).map _=_;rw[eg,hb];rfl
 refine⟨bt.ren bs ls,?_⟩
 refine⟨{ good:=inv.good,os:=inv.os,tape:=inv.tape,output:=inv.output,size:=inv.size,keep:=inv.keep
          nb:=by show bs.length=_;simp[TS.st,eW]
          ng:=by show ls.length=_;simp[TS.st,eW]
          bx:=λn cells hn=> ?_
          gh:=λr t hr=> ?_
          tr:=λp sz rows hp=> ?_
          inj:=λp q s rs s' rs' hp hq hk hk' he=> ?_
          bbinj:=λn m cs cs' hn hm he=> ?_
          bbtr:=λn cs p s rs hn hp hk=> ?_
          alt:=inv.alt
          atr:=λp s rs hp hk=> ?_
          abb:=λn cs hn=> ?_ },⟨hl.er.1,λt=> ?_⟩,hl.defers,hl.fz,?_,λp hp=> ?_,λr hr hn=> ?_⟩
 ·obtain⟨b,cs,h1,h2,rfl,h4⟩:=box n cells hn;obtain⟨g1,g2,arr,e,g3,g4,g5⟩:=inv.bx b _ (bxS h2);refine⟨by grind [TS.st,eW],by show _<=bt.bb (bs.getD n 0);rw[h4];exact g2,arr,e,by show w.heap[bt.bb (bs.getD n 0)]? =_;rw[h4];exact g3,by simpa using g4,λj v hj=> ?_⟩;rw[aw,aw] at hj;simp only[aj] at hj;obtain⟨c1,⟨c0,hc0,rfl⟩,rfl⟩:=hj;obtain⟨c,k1,k2,k3⟩:=g5 j c0.av (by rw[aw,hc0];rfl);exact⟨c,k1,qV k2,k3⟩
 ·grind [eW,kp,TS.st]
 ·obtain⟨q,h1,h2,h3⟩:=look p sz rows hp;obtain⟨g1,g2⟩:=inv.tr _ _ _ h2;have eκ: (bt.ren bs ls).κ p=bt.κ ⟨q,p.l⟩:=by show bt.κ ⟨ls.getD p.r 0,p.l⟩=_;rw[h3]
  have eβ: (bt.ren bs ls).β p=bt.β ⟨q,p.l⟩:=by show bt.β ⟨ls.getD p.r 0,p.l⟩=_;rw[h3]
  rw[eκ,eβ];refine⟨g1,λhk=>⟨(g2 hk).1,?_⟩⟩;obtain⟨_,cs,e,k1,k2,k3,k4⟩:=g2 hk;refine⟨cs,e,by rw[eβ];exact k1,by rw[eβ,eκ];exact k2,k3,λi r hi=> ?_⟩;obtain⟨m1,m2⟩:=k4 i r hi;refine⟨m1,λj x hj=> ?_⟩;obtain⟨c,n1,n2⟩:=m2 j x hj;refine⟨c,by rw[eβ];exact n1,?_⟩;have f1: (bt.ren bs ls).κ (p.sub i j)=bt.κ (dM.sub ⟨q,p.l⟩ i j):=by show bt.κ ⟨ls.getD p.r 0,p.l++ [(i,j)]⟩=bt.κ ⟨q,p.l++ [(i,j)]⟩;rw[h3]
  have f2: (bt.ren bs ls).β (p.sub i j)=bt.β (dM.sub ⟨q,p.l⟩ i j):=by show bt.β ⟨ls.getD p.r 0,p.l++ [(i,j)]⟩=bt.β ⟨q,p.l++ [(i,j)]⟩;rw[h3]
  cases n2 with
  |sc h=>exact .sc h
  |dd u=>exact .dd _
  |sl q1 q2 q3=>exact .sl q1 (by rw[f1];exact q2) (by rw[f2];exact q3)
 ·obtain⟨p',h1,h2,h3⟩:=look p s rs hp;obtain⟨q',g1,g2,g3⟩:=look q s' rs' hq;have:=inv.inj ⟨p',p.l⟩ ⟨q',q.l⟩ _ _ _ _ h2 g2 (by rw[<-h3];exact hk) (by rw[<-g3];exact hk') (by rw[<-h3,<-g3];exact he);simp only[dM.mk.injEq] at this;obtain⟨e1,e2⟩:=this;subst e1;have e3:=kW hnl _ _ _ h1 g1;cases p<;>simp_all
 ·obtain⟨b,c,h1,h2,_,h4⟩:=box n cs hn;obtain⟨b',c',g1,g2,_,g4⟩:=box m cs' hm
  have:=inv.bbinj b b' _ _ (bxS h2) (bxS g2) (by have he':bt.bb (bs.getD n 0)=bt.bb (bs.getD m 0):=he;rw[h4,g4] at he';exact he')
  grind [kW]
 ·obtain⟨b,c,h1,h2,_,h4⟩:=box n cs hn;obtain⟨q,g1,g2,g3⟩:=look p s rs hp;have hk':0<bt.κ ⟨ls.getD p.r 0,p.l⟩:=hk;rw[g3] at hk';show bt.bb (bs.getD n 0)≠(bt.β ⟨ls.getD p.r 0,p.l⟩).1;rw[h4,g3];exact inv.bbtr _ _ _ _ _ (bxS h2) g2 hk'
 ·obtain⟨q,g1,g2,g3⟩:=look p s rs hp;have hk':0<bt.κ ⟨ls.getD p.r 0,p.l⟩:=hk;rw[g3] at hk';show ¬bt.A (bt.β ⟨ls.getD p.r 0,p.l⟩).1;rw[g3];exact inv.atr _ _ _ g2 hk'
 ·obtain⟨b,c,h1,h2,_,h4⟩:=box n cs hn;show ¬bt.A (bt.bb (bs.getD n 0));rw[h4];exact inv.abb _ _ (bxS h2)
 ·show VR w _ (eS (eW S keep bs ls).env t).av _;rcases pN S (yl bs ls) keep t with h1|h1
  ·have :eS (eW S keep bs ls).env t=V.dead:=h1;rw[this];exact .dead _
  ·have :eS (eW S keep bs ls).env t=yl bs ls (eS S.env t):=h1;rw[this];exact Ap (hl.er.2 t)
 ·show S.fz<=(eW S keep bs ls).gh.length
  grind [eW]
 ·have hp':p.r<S.fz:=by have:=hl.fz;have e:S.st.fz=S.fz:=rfl;omega
  have h3:ls.getD p.r 0=p.r:=by simp[aB,hls p.r hp']
  have:=hl.keep p hp;show bt.β ⟨ls.getD p.r 0,p.l⟩=_/\bt.κ ⟨ls.getD p.r 0,p.l⟩=_;rw[h3];exact this
 ·have hr':r<S.fz:=by have:=hl.fz;have e:S.st.fz=S.fz:=rfl;omega
  refine hl.gone r hr ?_;have hn': (dX (eW S keep bs ls).gh r).map dJ.tree=none:=hn;rw[kp,hls r hr'] at hn';exact hn'
theorem nE{S:TS}{bs ls:List Nat}{keep:List Nat}{c:Cl}(h:c.ok S.gh): (lc bs ls c).ok (eW S keep bs ls).gh:=by
 have lt: ∀ {x k:Nat},nq ls x 0=some k->k< (eW S keep bs ls).gh.length/\ls[k]? =some x:=by intro x k hk;obtain⟨_,h2⟩:=mt hk;rw[Nat.sub_zero] at h2;exact⟨by grind [eW],h2⟩
 cases c with
 |own p sz lo len w=>
  simp only[lc];split
  ·rename_i k hk;obtain⟨h1,h2⟩:=lt hk;refine⟨h1,λhw=> ?_⟩;obtain⟨a,b,c⟩:=h.2 hw
   grind [kp]
  ·trivial
 |ptrT p sz i j=>
  simp only[lc];split
  ·rename_i k hk;exact (lt hk).1
  ·trivial
 |ptrB n j=>simp only[lc];split<;>trivial
 | _=>trivial
theorem Aq{S:TS}{bs ls:List Nat}{keep:List Nat}{v:V}(h:v.ok S.gh): (yl bs ls v).ok (eW S keep bs ls).gh:=by
 have one: ∀ {v:V1},v.ok S.gh->(yn bs ls v).ok (eW S keep bs ls).gh:=by
  intro v h;cases v with
  |cl c=>exact nE h
  |agg cs=>intro c hc;obtain⟨x,hx,rfl⟩:=aG.1 hc;exact nE (h x hx)
  |fn f cs=>intro c hc;obtain⟨x,hx,rfl⟩:=aG.1 hc;exact nE (h x hx)
 cases v with
 |v x=>exact one h
 |tup l=>trivial
theorem wG{S:TS}(hS:S.ok)(keep bs ls:List Nat): (eW S keep bs ls).ok:=by
 refine⟨λx hx=> ?_,λcs hcs c hc=> ?_⟩
 ·obtain⟨t,_,rfl⟩:=aG.1 hx;exact Aq (nx hS t)
 ·obtain⟨b,_,rfl⟩:=aG.1 hcs;obtain⟨x,hx,rfl⟩:=aG.1 hc;cases hb:gA S.bx b with
  |none=>rw[hb] at hx;cases hx
  |some cs=>rw[hb] at hx;rw[eg] at hb;exact nE (hS.bx cs (aA hb) x hx)
theorem nw{G:List (Option dJ)}{c:Cl}(h:c.ok G):v9 G c=c:=by
 unfold v9;split
 ·rename_i p sz lo len;split
  ·rename_i tr htr;rw[(h.2 rfl).2.2 tr (by unfold dX;rw[htr];rfl)]
  ·rfl
 ·rfl
theorem rV{G:List (Option dJ)}{v:V1}(h:v.ok G):xy G v=v:=by
 cases v with
 |cl c=>exact congrArg V1.cl (nw h)
 |agg cs=>exact congrArg V1.agg ((aE λc hc=>nw (h c hc)).trans (List.map_id' cs))
 |fn f cs=>exact congrArg (V1.fn f) ((aE λc hc=>nw (h c hc)).trans (List.map_id' cs))
theorem zQ{G:List (Option dJ)}{v:V}(h:v.ok G):Cr G v=v:=by
 cases v with
 |v x=>exact congrArg V.v (rV h)
 |tup l=>exact congrArg V.tup ((aE λc hc=>rV (h c hc)).trans (List.map_id' l))
theorem zP{S:TS}(h:S.ok):Bn S=S:=by unfold Bn;rw[aE (g:=id) (λx hx=>by rw[zQ (h.env x hx)];rfl),aE (g:=id) (l:=S.bx) (λcs hcs=>(aE λc hc=>nw (h.bx cs hcs c hc)).trans (List.map_id' cs)),List.map_id,List.map_id]
theorem iV[dE]{ρ:Type}{S:TS}(hS:S.ok){keep:List Nat}{κ:TS->Option ρ}{r:ρ}(h:l8 keep S κ=some r): ∃S1:TS,gK S.st S1.st/\S1.ok/\κ S1=some r:=by
 unfold l8 at h;obtain⟨h1,h⟩:=dC h
 grind [zP,wG,sW]
end
end Go.Proofs.YtkghndikalnipaaGreat.En
