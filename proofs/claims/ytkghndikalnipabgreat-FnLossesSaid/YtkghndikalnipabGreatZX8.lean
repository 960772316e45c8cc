import Derived.Test.YtkghndikalnipabGreatZX7
set_option linter.unusedSimpArgs false
set_option linter.unusedVariables false
namespace Go.Proofs.YtkghndikalnipabGreat.En
section
open Go
section
variable {ρ:Type} {P:Program} {Θ:ft} {S:TS} {Y:kA}
theorem rF(hS:S.ok){ops:Array Oper}{o:Oper}{κ:Bool->TS->Option ρ}{r:ρ}(h:ub S ops.toList o κ=some r): ∃b S1,fP S.st ops o=some b/\S1.st=S.st/\S1.ok/\S1.gh=S.gh/\κ b S1=some r:=by
 unfold ub at h;split at h
 ·rename_i hg;exact⟨true,S,by unfold fP;rw[hg],rfl,hS,rfl,h⟩
 ·rename_i j want hg;split at h
  ·rename_i oj hj;split at h
   ·rename_i d hd;rw[dN,cj] at hj;split at h
    ·rename_i he;refine⟨_,S,?_,rfl,hS,rfl,h⟩;unfold fP;rw[hg];simp only[hj,al,hd];have :S.st.env d= .tup [] :=by show (en S.env d).av=_;rw[he];rfl
     rw[this]
    ·obtain⟨b,S1,h1,h2,h3,h4,h5⟩:=mE hS h;refine⟨_,S1,?_,h2,h3,h4,h5⟩;unfold fP;rw[hg];simp only[hj,al,hd];have :S.st.env d= .sc (.bool b):=h1;rw[this]
   ·cases h
  ·cases h
theorem eC(hS:S.ok){d:Option Tmp}{v:V}(hv:v.ok S.gh){κ:TS->Option ρ}{r:ρ}(h:gp S d v κ=some r): ∃S1,S.st.put d v.av=some (TS.st S1)/\S1.ok/\S1.gh=S.gh/\κ S1=some r:=by
 unfold gp at h;split at h
 ·rename_i t;obtain⟨h1,h⟩:=dj h;have h1:t<S.nt:=aq h1;refine⟨{ S with env:=(t,v)::S.env },?_,⟨λx hx=> ?_,hS.bx⟩,rfl,h⟩
  ·simp only[St.put];rw[if_pos (show t<S.st.nt from h1)]
   congr 1
   unfold TS.st
   congr 1
   funext u
   unfold dC;simp only[en];cases hb:Nat.beq t u with
   |true=>simp_all
   |false=>
    have : ¬u=t:=by intro e;subst e;rw[cy] at hb;cases hb
    rw[if_neg this];rfl
  ·rcases aU.1 hx with rfl|hx
   ·exact hv
   ·exact hS.env x hx
 ·exact⟨S,rfl,hS,rfl,h⟩
theorem vh{α:Type}{x y:Option α}{r:α}(h:wY x y none=some r):x=some r/\y=some r:=by grind [wY]
theorem vg{α:Type}(x z:α):wY x x z=x:=by unfold wY;rw[if_pos rfl]
theorem pn{o:Oper}{t:TypeId}{x:Operand}(h:mn o=some (t,x)): (∃t',o.op= .binOp .eql t x (.const (.slice none 0 0)) t')/\o.guard=none:=by
 unfold mn at h
 grind
theorem mY{o:Oper}{k:Nat}{g:FuncId}{caps:List Cl}{a:oT}{us:List TypeId}{xs:List Operand}(h:mX Y S o=some (k,g,caps,a,us,xs)):
  ∃f as ts x t,o.op= .call { callee:=.value f,args:=as,argTypes:=ts } /\as.toList=x::xs/\ts.toList=t::us/\lp (S.opd x)=some a/\g<eu/\
   ((∃a b,S.opd f= .v (.cl (.c (.sc (.func (.func g) a b))))/\caps= [])\/S.opd f= .v (.fn g caps)):=by
 unfold mX at h;split at h
 ·rename_i f as ts hop;split at h
  ·rename_i x xs' t us' e1 e2;split at h
   ·rename_i a' hx;split at h
    ·rename_i g' a b hf;obtain⟨h2,h⟩:=dj h;simp only[aj] at h2;simp only[ae,ao] at h;obtain⟨rfl,rfl,rfl,rfl,rfl,rfl⟩:=h;exact⟨f,as,ts,x,t,hop,e1,e2,hx,aq h2.1,.inl ⟨a,b,hf,rfl⟩⟩
    ·rename_i g' caps' hf;obtain⟨h2,h⟩:=dj h;simp only[aj] at h2;simp only[ae,ao] at h;obtain⟨rfl,rfl,rfl,rfl,rfl,rfl⟩:=h;exact⟨f,as,ts,x,t,hop,e1,e2,hx,aq h2.1,.inr hf⟩
    ·cases h
   ·cases h
  ·cases h
 ·cases h
theorem tL(c:Cl): (ma c).av=ly 1 c.av:=by
 cases c with
 |c x=>cases x<;>rfl
 |own p sz lo len w=>
  cases h:Nat.ble 1 p.r with
  |true=>simp only[ma,h,cond_true,Cl.av,ly];rw[if_pos (aq h)]
  |false=>simp only[ma,h,cond_false,Cl.av,ly];rw[if_neg λe=>by rw[cE e] at h;cases h]
 |ptrT p sz i j=>
  cases h:Nat.ble 1 p.r with
  |true=>simp only[ma,h,cond_true,Cl.av,ly];rw[if_pos (aq h)]
  |false=>simp only[ma,h,cond_false,Cl.av,ly];rw[if_neg λe=>by rw[cE e] at h;cases h]
 | _=>rfl
theorem xV(c:Cl):qO 1 c.av=ly 1 c.av:=by
 cases c with
 |c x=>cases x<;>rfl
 | _=>rfl
theorem qQ(v:V1): (qP v).av=qO 1 v.av:=by
 cases v with
 |cl c=>exact (tL c).trans (xV c).symm
 |agg cs=>simp_all [qP,V1.av,qO,tL]
 |fn f cs=>rfl
theorem xW(v:V): (vR v).av=vQ 1 v.av:=by
 cases v with
 |v x=>
  refine (qQ x).trans ?_;cases x with
  |cl c=>cases c with
   |c x=>cases x<;>rfl
   | _=>rfl
  | _=>rfl
 |tup l=>simp_all [vR,V.av,vQ,qQ]
theorem tM{x:dw}{G:List dw}{c:Cl}(h:c.ok ((x::G).map some)): (ma c).ok (G.map some):=by
 cases c with
 |own p sz lo len w=>
  cases hb:Nat.ble 1 p.r with
  |true=>
   have h1:=aq hb;simp only[ma,hb,cond_true];obtain⟨h2,h3⟩:=h;refine⟨by simp at h2 ⊢;omega,λhw=> ?_⟩
   grind [dI,dN]
  |false=>simp only[ma,hb,cond_false];trivial
 |ptrT p sz i j=>
  cases hb:Nat.ble 1 p.r with
  |true=>have h1:=aq hb;simp only[ma,hb,cond_true];have h:p.r< ((x::G).map some).length:=h;show p.r-1< (G.map some).length;simp at h ⊢;omega
  |false=>simp only[ma,hb,cond_false];trivial
 |c x=>cases x<;>trivial
 | _=>trivial
theorem qR{x:dw}{G:List dw}{v:V1}(h:v.ok ((x::G).map some)): (qP v).ok (G.map some):=by
 cases v with
 |cl c=>exact tM h
 |agg cs=>intro c hc;obtain⟨y,hy,rfl⟩:=aB.1 hc;exact tM (h y hy)
 |fn f cs=>trivial
theorem xX{x:dw}{G:List dw}{v:V}(h:v.ok ((x::G).map some)): (vR v).ok (G.map some):=by
 cases v with
 |v x=>exact qR h
 |tup l=>intro c hc;obtain⟨y,hy,rfl⟩:=aB.1 hc;exact qR (h y hy)
theorem oh(hΘ:dQ P Θ)(hS:S.ok): ∀ (ts:List TypeId) (as:List Operand) (κ:List V1->Option ρ) (r:ρ),jO Θ S ts as κ=some r->ts.length=as.length
 | [],[],_,_,_=>rfl
 | [],_::_,_,_,h=>by simp[jO] at h
 | _::_,[],_,_,h=>by simp[jO] at h
 |t::ts,a::as,κ,r,h=>by unfold jO at h;obtain⟨v,_,h⟩:=we hΘ hS (fy hS a) h;rw[bA,bA,oh hΘ hS ts as _ r h]
structure gx (S S1:TS) (L:List Nat):Prop where
 env:S1.env=S.env
 bx:S1.bx=S.bx
 fz:S1.fz=S.fz
 nt:S1.nt=S.nt
 len:S1.gh.length=S.gh.length
 gh: ∀r,dI S1.gh r=if L.contains r then none else dI S.gh r
 was: ∀q∈L,∃tr,dI S.gh q=some tr
theorem gx.refl(S:TS):gx S S [] :=⟨rfl,rfl,rfl,rfl,rfl,λ_=>by simp,λ_ h=>by cases h⟩
theorem gx.one{q:Nat}{tr:dw}(h:dI S.gh q=some tr):gx S { S with gh:=dH S.gh q none } [q] :=
 ⟨rfl,rfl,rfl,rfl,by simp[dY],λr=>by
  show dI (dH S.gh q none) r=_
  simp_all [fY],λr hr=>by grind⟩
theorem gx.trans{S1 S2:TS}{L L':List Nat}(h:gx S S1 L)(k:gx S1 S2 L'):gx S S2 (L++L'):=
 ⟨k.env.trans h.env,k.bx.trans h.bx,k.fz.trans h.fz,k.nt.trans h.nt,k.len.trans h.len,λr=>by
  rw[k.gh,h.gh]
  grind,λq hq=>by
  rcases bq.1 hq with hq|hq
  ·exact h.was q hq
  ·obtain⟨tr,ht⟩:=k.was q hq;rw[h.gh] at ht
   grind⟩
theorem gx.apart{S1 S2:TS}{L L':List Nat}(h:gx S S1 L)(k:gx S1 S2 L')(h1:L.Nodup)(h2:L'.Nodup): (L++L').Nodup:=by rw[List.nodup_append];refine⟨h1,h2,λa ha b hb e=> ?_⟩;subst e;obtain⟨tr,ht⟩:=k.was a hb;rw[h.gh,if_pos (by simpa using ha)] at ht;cases ht
theorem gx.le{S1:TS}{L:List Nat}(h:gx S S1 L):ef S.gh S1.gh:=⟨by rw[h.len];exact au _,λr tr _ ht=>by
 rw[h.gh] at ht
 grind⟩
theorem gx.ok{S1:TS}{L:List Nat}(h:gx S S1 L)(hS:S.ok):S1.ok:=
 ⟨λx hx=>V.ok_mono h.le (hS.env x (by rw[<-h.env];exact hx)),λcs hcs c hc=>Cl.ok_mono h.le (hS.bx cs (by rw[<-h.bx];exact hcs) c hc)⟩
theorem gx.st{S1:TS}{L:List Nat}(h:gx S S1 L):S1.st=dropL S.st L:=by
 unfold TS.st dropL;rw[h.env,h.bx,h.fz,h.nt,h.len];simp only
 congr 1
 funext r
 rw[h.gh];cases L.contains r<;>rfl
theorem ou: ∀ (L:List Nat) (S:TS),L.Nodup->(∀r∈L,∃tr,dI S.gh r=some tr)->gx S { S with gh:=yI S.gh L } L
 | [],S,_,_=>gx.refl S
 |r::L,S,hnd,h=>by
  obtain⟨tr,htr⟩:=h r aF;rw[List.nodup_cons] at hnd;have h1:=gx.one htr
  have h2:=ou L { S with gh:=dH S.gh r none } hnd.2 (λr' hr'=>by
   obtain⟨tr',htr'⟩:=h r' (aE _ hr');refine⟨tr',?_⟩;rw[h1.gh,if_neg]
   ·exact htr'
   ·intro hc;rw[ba,aH] at hc;subst hc;exact hnd.1 hr')
  exact h1.trans h2
theorem jW: ∀ (cs:List Cl) (ys:List C) (L:List Nat),jz S cs=some (ys,L)->(∀c∈cs,c.ok S.gh)->ys.length=cs.length/\(gr ys).length=L.length/\
  (∀ (k r:Nat),L[k]? =some r-> ∃el l,(gr ys)[k]? =some ⟨el,l,none⟩/\dI S.gh r=some ⟨el,l,none⟩)/\
  ∀ (w:World) (bt bt':Bt) (m:Nat),(∀ (k r:Nat),L[k]? =some r->bt'.β ⟨m+k,[]⟩=bt.β ⟨r,[]⟩/\bt'.κ ⟨m+k,[]⟩=bt.κ ⟨r,[]⟩/\m+k<bt'.ng)->
    ∀ (j:Nat) (c c':Cl) (u:Value),cs[j]? =some c->(km ys m)[j]? =some c'->VR w bt c.av u->VR w bt' c'.av u
 | [],ys,L,h,_=>by simp only[jz,ae,ao] at h;obtain⟨rfl,rfl⟩:=h;exact⟨rfl,rfl,λk r hk=>by simp at hk,λw bt bt' m _ j c c' u hj=>by simp at hj⟩
 |c0::cs,ys,L,h,hok=>by
  unfold jz at h;split at h
  ·cases ‹_= []›
  ·rename_i v cs' e;simp only[bk] at e;obtain⟨rfl,rfl⟩:=e;split at h
   ·rename_i ys' L' hr;simp only[ae,ao] at h;obtain⟨rfl,rfl⟩:=h;obtain⟨h1,h2,h3,h4⟩:=jW cs ys' L' hr (λc hc=>hok c (aE _ hc));refine⟨by simp[h1],h2,h3,λw bt bt' m hm j c c' u hj hj' hv=> ?_⟩;cases j with
    |zero=>
     simp only[km,aG,ae] at hj hj';subst hj hj';cases hv with
     |sc h=>exact .sc h
    |succ j=>exact h4 w bt bt' m hm j c c' u (by simpa using hj) (by simpa [km] using hj') hv
   ·cases h
  ·rename_i r sz lo len cs' e;simp only[bk] at e;obtain⟨rfl,rfl⟩:=e;split at h
   ·rename_i el l hg;obtain⟨hsz,h0⟩:=dj h;have hsz:sz=el.width:=ak hsz;clear h;split at h0
    ·rename_i ys' L' hr;simp only[ae,ao] at h0;obtain⟨rfl,rfl⟩:=h0;obtain⟨h1,h2,h3,h4⟩:=jW cs ys' L' hr (λc hc=>hok c (aE _ hc));obtain⟨_,hlo⟩:=hok (.own ⟨r,[]⟩ sz lo len true) aF;obtain⟨_,hlo,hln⟩:=hlo rfl;have hln:=hln _ hg;simp only at hln;refine⟨by simp[h1],by simp[gr,h2],λk r' hk=> ?_,λw bt bt' m hm j c c' u hj hj' hv=> ?_⟩
     ·cases k with
      |zero=>simp only[aG,ae] at hk;subst hk;exact⟨el,l,rfl,hg⟩
      |succ k=>exact h3 k r' (by simpa using hk)
     ·cases j with
      |zero=>
       simp only[km,aG,ae] at hj hj';subst hj hj' hsz hlo hln;obtain⟨e1,e2,e3⟩:=hm 0 r rfl;rw[bE] at e1 e2 e3;cases hv with
       |own hp hc hk ha=>exact .own e3 hc (by rw[e2];exact hk) (by rw[e1];exact ha)
      |succ j=>exact h4 w bt bt' (m+1) (λk r' hk=>by
        have:=hm (k+1) r' (by simpa using hk)
        rwa [show m+(k+1)=m+1+k by omega] at this) j c c' u (by simpa using hj) (by simpa [km] using hj') hv
    ·cases h0
   ·cases h
  ·cases h
theorem gY: ∀ (ys:List C) (m:Nat),(km ys m).length=ys.length
 | [],_=>rfl
 | .sc v::r,m=>by simp[km,gY r m]
 | .ls t l::r,m=>by simp[km,gY r (m+1)]
theorem pW: ∀ (L:List Nat) (S:TS) (out:List dw) (κ:TS->Option ρ) (r:ρ),L.Nodup->mC S L out κ=some r->
  ∃Sp:TS,Sp.env=S.env/\Sp.bx=S.bx/\Sp.fz=S.fz/\Sp.nt=S.nt/\Sp.gh.length=S.gh.length/\out.length=L.length/\(∀ (k q:Nat),L[k]? =some q->dI Sp.gh q=out[k]?)/\(∀q,q∉L->dI Sp.gh q=dI S.gh q)/\ef S.gh Sp.gh/\κ Sp=some r
 | [],S,out,κ,r,_,h=>by
   cases out with
   |nil=>exact⟨S,rfl,rfl,rfl,rfl,rfl,rfl,λk q hk=>by simp at hk,λ_ _=>rfl,ef.refl _,h⟩
   |cons x out=>simp[mC] at h
 |q::L,S,out,κ,r,hnd,h=>by
  rw[List.nodup_cons] at hnd;cases out with
  |nil=>simp[mC] at h
  |cons x out=>
   obtain⟨t,l',hole⟩:=x;cases hole with
   |some y=>simp[mC] at h
   |none=>
    simp only[mC] at h;split at h
    ·rename_i el l hg;obtain⟨ht,h⟩:=dj h;have ht:t=el:=by simpa using ht
     subst ht;obtain⟨hl,h⟩:=dE h;obtain⟨Sp,a1,a2,a3,a4,a5,a6,a7,a8,a9,h⟩:=pW L { S with gh:=dH S.gh q (some ⟨t,l',none⟩) } out κ r hnd.2 h;have hql:=iG hg;have hG:ef S.gh (dH S.gh q (some ⟨t,l',none⟩)):=ef.put hg hl;refine⟨Sp,a1,a2,a3,a4,by rw[a5];simp[dY],by simp[a6],λk q' hk=> ?_,λq' hq'=> ?_,hG.trans a9,h⟩
     ·cases k with
      |zero=>
       simp only[aG,ae] at hk;subst hk;rw[a8 q hnd.1];show dI (dH S.gh q _) q=_
       simp_all [fY]
      |succ k=>grind
     ·rw[a8 q' (λhm=>hq' (aE _ hm))];show dI (dH S.gh q _) q'=_
      simp_all [fY]
    ·cases h
theorem nc{res:V}(h:xY res=true):res.av.plain=true/\ ∀G,res.ok G:=by
 unfold xY at h;split at h
 ·exact⟨rfl,λ_=>trivial⟩
 ·exact⟨rfl,λ_ x hx=>by cases hx⟩
 ·cases h
theorem qD[dp](hΘ:dQ P Θ)(hY:eV P Y)(hS:S.ok){o:Oper}{k:Nat}{g:FuncId}{caps:List Cl}{a:oT}{us:List TypeId}{xs:List Operand}(ht:mX Y S o=some (k,g,caps,a,us,xs)){κ:TS->Option ρ}{r:ρ}
  (h:mW Θ Y S k g caps a us xs o.dst κ=some r): ∃S3:TS,(∀n0,eN P n0 S.st o S3.st)/\S3.ok/\κ S3=some r:=by
 obtain⟨f,as,ts,x,t0,hop,has,hts,hx,hgk,hf⟩:=mY ht
 have hcal:callee S.st f=some (g,caps.map Cl.av):=by unfold callee;rw[dt];rcases hf with ⟨_,_,hf,rfl⟩|hf<;>(rw[hf];rfl)
 have others: ∀ {S0:TS} (hS0:S0.ok) (hG:ef S.gh S0.gh) {K:List V1->Option ρ},kO Θ S0 us xs caps K=some r->
   ∃vs,us.length=xs.length/\iT P S0.st us xs (caps.map Cl.av)=vs.map V1.av/\K vs=some r:=by
  intro S0 hS0 hG K h;have hlen:=oh hΘ hS0 _ _ _ _ h;obtain⟨vs,h1,h⟩:=i9 hΘ hS0 _ _ _ _ h
  have hcaps: ∀c∈caps,c.ok S0.gh:=by
   intro c hc;rcases hf with ⟨_,_,_,rfl⟩|hf
   ·cases hc
   ·have:=fy hS f;rw[hf] at this;exact Cl.ok_mono hG (this c hc)
  obtain⟨ks,h2,h⟩:=mM hS0 _ _ _ hcaps h;refine⟨_,hlen,?_,h⟩;unfold iT;rw[h1,h2,bG,aW];rfl
 have stays: ∀ {q:Nat} {el:Ty} {l:List el.D} {vs:List V1} {av0:AV} {res:V} {out:List dw},dI S.gh q=some ⟨el,l,none⟩->us.length=xs.length->iT P ({ S with gh:=dH S.gh q none }:TS).st us xs (caps.map Cl.av)=vs.map V1.av->
   (∀ (w:World) (bt:Bt) (u:Value),VR w bt (opd S.st x) u->VR w (handG bt S.st w [⟨q,[]⟩]) av0 u)->ew P g (av0::vs.map V1.av) [.sl el.width (l.map el.row)] 1 res.av (out.map dw.tree)->res.ok (out.map some)->tY S q el l res out o.dst κ=some r-> ∃S3:TS,(∀n0,eN P n0 S.st o S3.st)/\S3.ok/\κ S3=some r:=by
  intro q el l vs av0 res out hq hlen hargs hx hSK hro h;unfold tY at h;split at h
  ·rename_i t' l' more;obtain⟨hc,h⟩:=dj h;have hc:=of_decide_eq_true hc;subst hc;obtain⟨hll,h⟩:=dE h;have hd:=gx.one hq;have hG:ef S.gh (dH S.gh q (some ⟨t',l',none⟩)):=ef.put hq hll;have hl0: (dH S.gh q (some ⟨t',l',none⟩)).length=S.gh.length:=by rw[dY];simp
   have hrk: (gQ S.gh.length (vR res)).ok (dH S.gh q (some ⟨t',l',none⟩)++more.map some):=by
    have:=jI (G:=dH S.gh q (some ⟨t',l',none⟩)) (xX hro)
    rwa [hl0] at this
   obtain⟨S3,k1,k2,_,h⟩:=eC (S:={ S with gh:=dH S.gh q (some ⟨t',l',none⟩)++more.map some }) (TS.ok_gh hS (hG.trans (ef.apps _ _))) hrk h;rw[show ({ S with gh:=dH S.gh q (some ⟨t',l',none⟩)++more.map some }:TS).st=_ from iQ { S with gh:=dH S.gh q (some ⟨t',l',none⟩) } res.av more,jH,xW] at k1
   have htr:S.st.gh q=some (.sl t'.width (l.map t'.row)):=by show (dI S.gh q).map dw.tree=_;rw[hq];rfl
   have hql:=iG hq
   have hGave:l7 S.st ([q].map λr=>⟨r,[]⟩) [.sl t'.width (l.map t'.row)] :=jX rfl (by simp) (λk r hk=>by grind)
   refine⟨S3,λn0=>eN.handG hop has hlen hcal (iO [q]) (λw0 W bt w hI=>hI.dropL [q]) hGave hx (m:=1) (res:=res.av) (out:=dw.tree ⟨t',l',none⟩::more.map dw.tree) (by rw[<-hd.st,hargs];exact hSK)
    (mD (Sp:=({ S with gh:=dH S.gh q (some ⟨t',l',none⟩) }:TS).st) hGave (by simp) rfl rfl rfl hl0 rfl rfl (λk r hk=> ?_) (λr hr=> ?_)) k1,k2,h⟩
   ·cases k with
    |zero=>simp_all [ku,dC]
    |succ k=>simp at hk
   simp_all [ku,dC]
  ·cases h
 have hxo:=fy hS x;cases a with
 |own q sz=>
  obtain⟨lo,len,hxv⟩: ∃lo len,S.opd x= .v (.cl (.own ⟨q,[]⟩ sz lo len true)):=by
   unfold lp at hx
   grind
  rw[hxv] at hxo;unfold mW at h;simp only at h;split at h
  ·rename_i el l hq;obtain⟨hsz,h0⟩:=dj h;have hsz:sz=el.width:=ak hsz;clear h;subst hsz;have hd:=gx.one hq;obtain⟨vs,hlen,hargs,h⟩:=others (hd.ok hS) hd.le h0;obtain⟨_,hlo,hln⟩:=hxo.2 rfl;have hln:=hln _ hq;subst hlo hln
   have hav: ∀ (w:World) (bt:Bt) (u:Value),VR w bt (opd S.st x) u->VR w (handG bt S.st w [⟨q,[]⟩]) (.own ⟨0,[]⟩ el.width 0 l.length) u:=λw bt u hv=>by
    rw[dt,hxv] at hv;have hv:VR w bt (.own ⟨q,[]⟩ el.width 0 l.length) u:=hv;cases hv with
    |own hp hc hk ha=>exact .own cn hc hk ha
   cases hk:Nat.beq k 1 with
   |true=>rw[hk] at h;simp only[cond_true] at h;obtain⟨res,out,g1,g2,h⟩:=hY _ _ _ _ _ h;exact stays hq hlen hargs hav (g1.io g rfl hgk).get g2 h
   |false=>
    rw[hk] at h;simp only[cond_false] at h;obtain⟨hfz0,h⟩:=dj h;have hfz:S.st.fz<=q:=aq hfz0;obtain⟨res,out,g1,g2,h⟩:=hY _ _ _ _ _ h;have g1:=(g1.mv g rfl hgk).get;have hl0: (dH S.gh q none).length=S.gh.length:=by rw[dY];simp
    have hro: (gQ S.gh.length res).ok (dH S.gh q none++out.map some):=by
     have:=jI (G:=dH S.gh q none) g2
     rwa [hl0] at this
    obtain⟨S3,k1,k2,_,h⟩:=eC (S:={ S with gh:=dH S.gh q none++out.map some }) (TS.ok_gh (hd.ok hS) (ef.apps _ _)) hro h;rw[show ({ S with gh:=dH S.gh q none++out.map some }:TS).st=_ from iQ { S with gh:=dH S.gh q none } res.av out,hd.st,jH,<-so] at k1
    have htr:S.st.gh q=some (.sl el.width (l.map el.row)):=by show (dI S.gh q).map dw.tree=_;rw[hq];rfl
    exact⟨S3,λn0=>eN.handG hop has hlen hcal (iO [q]) (λw0 W bt w hI=>hI.dropL [q]) (jX (ts:=[.sl el.width (l.map el.row)]) rfl (by simp) (λk r hk=>by grind)) hav (m:=0) (by rw[<-hd.st,hargs];exact g1) (ud λr hr=>by rw[aH.1 hr];exact hfz) k1,k2,h⟩
  ·cases h
 |pt q sz=>
  have hxv:S.opd x= .v (.cl (.ptrT ⟨q,[]⟩ sz 0 0)):=by
   unfold lp at hx;split at hx<;>simp only[ae,oT.pt.injEq,reduceCtorEq] at hx;obtain⟨rfl,rfl⟩:=hx
   assumption
  unfold mW at h;simp only at h;split at h
  ·rename_i el l hq;obtain⟨hsz,h0⟩:=dj h;have hsz:sz=el.width:=ak hsz;clear h;subst hsz;have hd:=gx.one hq;obtain⟨vs,hlen,hargs,h⟩:=others (hd.ok hS) hd.le h0;obtain⟨res,out,g1,g2,h⟩:=hY _ _ _ _ _ h;refine stays hq hlen hargs (λw bt u hv=> ?_) (g1.pt g rfl hgk).get g2 h;rw[dt,hxv] at hv;have hv:VR w bt (.ptrT ⟨q,[]⟩ el.width 0 0) u:=hv;cases hv with
   |ptrT _ _ _ hp hk=>exact .ptrT (p:=⟨0,[]⟩) _ 0 0 cn hk
  ·cases h
 |agg cs=>
  have hxv:S.opd x= .v (.agg cs):=by
   unfold lp at hx;split at hx<;>simp only[ae,oT.agg.injEq,reduceCtorEq] at hx;subst hx
   assumption
  rw[hxv] at hxo;unfold mW at h;simp only at h;split at h
  ·rename_i ys L hga;obtain⟨hnd,h0⟩:=dj h;clear h;have hnd:L.Nodup:=mm.1 hnd;obtain⟨g1,g2,g3,g4⟩:=jW cs ys L hga hxo
   have hd:=ou L S hnd (λq hq=>by obtain⟨k,hk,hkq⟩:=aO hq;obtain⟨el,l,_,e⟩:=g3 k q (by grind);exact⟨_,e⟩)
   obtain⟨vs,hlen,hargs,h⟩:=others (hd.ok hS) hd.le h0;obtain⟨res,out,k1,k2,h⟩:=hY _ _ _ _ _ h;have k1:=(k1.io g rfl hgk).getA;obtain⟨hns,h⟩:=dj h;obtain⟨hpl,hrok⟩:=nc hns;obtain⟨Sp,a1,a2,a3,a4,a5,a6,a7,a8,a9,h⟩:=pW L S out _ r hnd h;have hSp:Sp.ok:=⟨λx hx=>V.ok_mono a9 (hS.env x (by rw[<-a1];exact hx)),λcs hcs c hc=>Cl.ok_mono a9 (hS.bx cs (by rw[<-a2];exact hcs) c hc)⟩
   obtain⟨S3,m1,m2,_,h⟩:=eC hSp (hrok _) h
   have hGave:l7 S.st (L.map λr=>⟨r,[]⟩) ((gr ys).map dw.tree):=jX (by simp[g2]) hnd (λk q hk=>by obtain⟨el,l,e1,e2⟩:=g3 k q hk;refine⟨el.width,l.map el.row,by rw[ap,e1];rfl,?_⟩;show (dI S.gh q).map dw.tree=_;rw[e2];rfl)
   have hps: (L.map λr=>(⟨r,[]⟩:dA)).length=(gr ys).length:=by rw[aD,g2]
   have hout: (out.map dw.tree).length=L.length:=by rw[aD,a6]
   refine⟨S3,λn0=>eN.handG hop has hlen hcal (iO L) (λw0 W bt w hI=>hI.dropL L) hGave (av0:=.agg ((km ys 0).map Cl.av)) (λw bt u hv=> ?_) (res:=res.av) (out:=out.map dw.tree) (m:=L.length) (by rw[<-hd.st,hargs,<-g2];exact k1)
    (mD (Sp:=Sp.st) hGave (Nat.le_of_eq hout.symm) (by unfold TS.st;simp only[a1]) (by unfold TS.st;simp only[a2]) (by unfold TS.st;simp only[a2]) (by unfold TS.st;simp only[a5]) a3 a4 (λk q hk=>by
      show (dI Sp.gh q).map dw.tree=_;rw[a7 k q hk,ap]) (λq hq=>by
      show (dI Sp.gh q).map dw.tree=(dI S.gh q).map dw.tree;rw[a8 q hq])) (by grind [oF,sY]),m2,h⟩
   rw[dt,hxv] at hv;have hv:VR w bt (.agg (cs.map Cl.av)) u:=hv;cases hv with
   |agg hl ho hr=>
    rename_i us0;refine .agg (by grind [gY]) ho (λk c u hk hu=> ?_);rw[ap] at hk;simp only[ai] at hk;obtain⟨c',hc',rfl⟩:=hk
    have hkl:k<cs.length:=by have:=(ah.1 hc').1;rw[gY,g1] at this;exact this
    refine g4 w bt _ 0 (λi q hi=> ?_) k cs[k] c' u (an hkl) hc' (hr k _ u (by grind) hu)
    have hpi: (L.map λr=>(⟨r,[]⟩:dA))[(⟨0+i,[]⟩:dA).r]? =some ⟨q,[]⟩:=by rw[ap];show (L[0+i]?).map _=_;rw[aL,hi];rfl
    have hpl2:=kh hpi;refine⟨?_,?_,?_⟩
    ·show bt.β (oG _ _)=_;rw[hpl2];rfl
    ·show bt.κ (oG _ _)=_;rw[hpl2];rfl
    ·show 0+i< (L.map λr=>(⟨r,[]⟩:dA)).length
     grind
  ·cases h
 |nest q i j sz lo len=>
  obtain⟨w0,hxv⟩: ∃w,S.opd x= .v (.cl (.own ⟨q,[(i,j)]⟩ sz lo len w)):=by
   unfold lp at hx
   grind
  rw[hxv] at hxo;unfold mW at h;simp only at h;split at h
  ·rename_i t l hq;obtain⟨y,hy,h⟩:=af.1 h;split at h
   ·rename_i el v hv;obtain⟨hsz,h0⟩:=dj h;have hsz:sz=el.width:=ak hsz;clear h;subst hsz;obtain⟨hll,h1⟩:=dE h0;clear h0;obtain⟨rfl,rfl⟩:=hll;have hql:=iG hq;have hhole:ef S.gh (dH S.gh q (some ⟨t,l,some (i,j)⟩)):=ef.put hq rfl;obtain⟨vs,hlen,hargs,h⟩:=others (S0:={ S with gh:=dH S.gh q (some ⟨t,l,some (i,j)⟩) }) (TS.ok_gh hS hhole) hhole h1;clear h1;obtain⟨res,out,k1,k2,h⟩:=hY _ _ _ _ _ h;have k1:=(k1.io g rfl hgk).get;split at h
    ·rename_i t' v' _;obtain⟨hc,h⟩:=dj h;simp only[aj,decide_eq_true_eq] at hc;obtain⟨rfl,hns⟩:=hc;obtain⟨hpl,hrok⟩:=nc hns;obtain⟨hvl,h⟩:=dE h;split at h
     ·rename_i z hz;have hG:ef S.gh (dH S.gh q (some ⟨t,l.set i z,none⟩)):=ef.put hq (by simp);obtain⟨S3,m1,m2,_,h⟩:=eC (S:={ S with gh:=dH S.gh q (some ⟨t,l.set i z,none⟩) }) (TS.ok_gh hS hG) (hrok _) h
      have hrowy: (l.map t.row)[i]? =some ((t.flat y).map C.tree):=by rw[ap,hy];simp only[aA,t.row_flat]
      have hcell: ((t.flat y).map C.tree)[j]? =some (.sl t'.width (v.map t'.row)):=by rw[dN] at hv;rw[ap,hv];rfl
      have hgq:S.st.gh q=some (.sl t.width (l.map t.row)):=by show (dI S.gh q).map dw.tree=_;rw[hq];rfl
      have hlook:S.st.look ⟨q,[(i,j)]⟩= .sl t'.width (v.map t'.row):=by unfold St.look;simp only[hgq,T.go,T.cell,ax,hrowy,aP,hcell]
      have hforget: ∀ (w0:World) (W:Nat->Prop) (bt:Bt) (w:World),dP w0 W bt S.st w->_:=λw0 W bt w hI=>hI.forget hlook
      have hSm: ({ S with gh:=dH S.gh q (some ⟨t,l,some (i,j)⟩) }:TS).st=S.st.setAt ⟨q,[(i,j)]⟩ .dd:=by rw[ku S _ hql];unfold St.setAt;simp only[hgq,aA];rfl
      have hSp: ({ S with gh:=dH S.gh q (some ⟨t,l.set i z,none⟩) }:TS).st=S.st.setAt ⟨q,[(i,j)]⟩ (.sl t'.width (v'.map t'.row)):=by
       rw[ku S _ hql];unfold St.setAt;simp only[hgq,aA,T.put]
       congr 3
       show T.sl t.width ((l.set i z).map t.row)=_;rw[List.map_set,t.row_flat z,t.unflat_some _ _ hz,dY,List.map_set];simp only[ax,hrowy,aP];rfl
      rw[hSp] at m1;refine⟨S3,λn0=>eN.handG hop has hlen hcal (Sm:=S.st.setAt ⟨q,[(i,j)]⟩ .dd) (ps:=[⟨q,[(i,j)]⟩]) ?_ (λw0 W bt w hI=>(hforget w0 W bt w hI).1) (vD hlook) (av0:=.own ⟨0,[]⟩ t'.width 0 v.length) (λw bt u hv=> ?_) (res:=res.av) (out:=[.sl t'.width (v'.map t'.row)]) (m:=1) (by rw[<-hSm,hargs];exact k1) (vj hlook (by simpa using hvl)) (by rw[oF hpl,List.drop_succ_cons,List.drop_nil,sY];exact m1),m2,h⟩
      ·refine⟨rfl,rfl,rfl,λp s rs hp=> ?_⟩;rw[gF] at hp;by_cases hpr:p.r=q
       ·rw[if_pos hpr,hgq] at hp;simp only at hp
        rcases T.put_spec .dd [(i,j)] (.sl t.width (l.map t.row)) (.inl (by grind [St.look])) p.l s rs hp with ⟨m',hm,hgo⟩| ⟨rs0,e1,e2,e3,e4⟩
        ·rw[T.dd_go] at hgo;cases hgo
        ·refine⟨λp' hp' hu=> ?_,rs0,by unfold St.look;rw[hpr,hgq];exact e1⟩;rw[aH.1 hp'] at hu;obtain⟨_,m,b⟩:=hu;exact e3 m b.symm
       ·rw[if_neg hpr] at hp;refine⟨λp' hp' hu=> ?_,rs,hp⟩;rw[aH.1 hp'] at hu;exact hpr hu.1
      ·rw[dt,hxv] at hv;have hv:VR w bt (.own ⟨q,[(i,j)]⟩ t'.width 0 v.length) u:=hv;cases hv with
       |own hp hc hk ha=>exact .own cn hc hk ha
     ·cases h
    ·cases h
   ·cases h
  ·cases h
theorem wN{el:Ty}(hw:el.width=1)(hf:el.flatB=true){z:el.D}(hz:el.unflat el.zcs=some z): ∃zv,el.zvs= [zv] /\fS zv=true/\el.row z= [.sc zv] :=by
 have hr:el.row z=el.zcs.map C.tree:=by rw[el.row_flat,el.unflat_some _ _ hz]
 rw[hr];clear hr hz z;cases el with
 |i k=>exact⟨_,rfl,rfl,rfl⟩
 |b=>exact⟨_,rfl,rfl,rfl⟩
 |s=>exact⟨_,rfl,rfl,rfl⟩
 |h=>exact⟨_,rfl,rfl,rfl⟩
 |st n=>cases n<;>first |exact⟨_,rfl,rfl,rfl⟩| (exfalso;revert hw;decide)| (exfalso;revert hf;decide)
 |ls t=>cases hf
theorem ul[dp](hΘ:dQ P Θ)(hS:S.ok){ops:Array Oper}{o:Oper}{os:List Oper}{Post:St->Prop}{t:TypeId}{q sz lo len:Nat}(ht:o5 S o=some (t,q,sz,lo,len)){κ:TS->Option ρ}{r:ρ}
  (ih: ∀S3:TS,S3.ok->κ S3=some r->lN P ops os S3.st Post) (h:rT Θ S t q sz lo len o.dst κ=some r):lN P ops (o::os) S.st Post:=by
 unfold o5 at ht;split at ht
 ·rename_i as ts hop;split at ht
  ·cases ht
  ·rename_i hgd;split at ht
   ·rename_i x t' e1 e2;split at ht
    ·rename_i r' sz' lo' len' w hx;simp only[ae,ao] at ht;obtain⟨rfl,rfl,rfl,rfl,rfl⟩:=ht;have e1:as= #[x] :=by apply Array.ext';simpa using e1
     have e2:ts= #[t'] :=by apply Array.ext';simpa using e2
     subst e1 e2;unfold rT at h;split at h
     ·rename_i ti hti;split at h
      ·rename_i el l hq;obtain⟨hc,h0⟩:=dj h;simp only[aj,decide_eq_true_eq] at hc;obtain⟨⟨⟨hty,hw⟩,hsz⟩,hfl⟩:=hc;have hw:el.width=1:=ak hw;have hsz:sz'=1:=ak hsz;split at h0
       ·rename_i z hz;unfold iteP at h0;split at h0
        ·rename_i hle;obtain⟨elT',g1,g2,g3,g4,g5,g6⟩:=(hΘ _ _ hti).el el hty
         have hql:r'<S.gh.length:=by
          rcases cM r' S.gh.length with h'|h'
          ·exact h'
          ·rw[li h'] at hq;cases hq
         have hG:ef S.gh (dH S.gh r' (some ⟨el,l.take lo'++List.replicate len' z++l.drop (lo'+len'),none⟩)):=ef.put hq (by simp;omega);obtain⟨S3,k1,k2,_,h⟩:=eC (v:=.tup []) (TS.ok_gh hS hG) (λx hx=>by cases hx) h0;rw[ku S _ hql] at k1;obtain⟨zv,hzv,hsc,hrow⟩:=wN hw hfl hz
         have htr:S.st.gh r'=some (.sl 1 (l.map el.row)):=by show (dI S.gh r').map dw.tree=_;rw[hq];show some (T.sl el.width (l.map el.row))=_;rw[hw]
         have hxv:opd S.st x= .own ⟨r',[]⟩ 1 lo' len':=by rw[dt,hx,<-hsz];rfl
         refine lN.clear hop hgd g1 (by rw[g6,hzv]) hsc hxv htr (by simpa using hle) ⟨S3.st,?_,ih S3 k2 h⟩;rw[<-k1]
         congr 1
         show _=({ S.st with gh:=dC S.st.gh r' (some (T.sl el.width ((l.take lo'++List.replicate len' z++l.drop (lo'+len')).map el.row))) }:St)
         simp_all
        ·cases h0
       ·cases h0
      ·cases h
     ·cases h
    ·cases ht
   ·cases ht
 ·cases ht
theorem xB[dp](hΘ:dQ P Θ)(hY:eV P Y){ops:Array Oper}: ∀ (os:List Oper) (S:TS) (κ:TS->Option ρ) (r:ρ),(∀o∈os,fw P o=true)->S.ok->mQ Θ Y ops.toList os S κ=some r->
  lN P ops os S.st (λS'=> ∃S1:TS,S'=S1.st/\S1.ok/\κ S1=some r):=by
 intro os
 induction os with
 |nil=>intro S κ r _ hS h;exact lN.nil ⟨S,rfl,hS,h⟩
 |cons o os ih=>
  intro S κ r hok hS h;unfold mQ at h;cases hn:mn o with
  |some tx=>
   obtain⟨t,x⟩:=tx;rw[hn] at h;simp only at h;obtain⟨hs,h⟩:=dj h;obtain⟨⟨t',ho⟩,hg⟩:=pn hn;unfold Ar at hs;split at hs
   ·rename_i ti hti;split at hs
    ·rename_i e he;obtain⟨el,hel,_⟩:=(hΘ t ti hti).el e he;split at h
     ·rename_i t1 l hx
      have way: ∀ (b:Bool),(gp S o.dst (qa b) λS3=>mQ Θ Y ops.toList os S3 κ)=some r-> ∃S1,S.st.put o.dst (.sc (.bool b))=some S1/\lN P ops os S1 (λS'=> ∃S1:TS,S'=S1.st/\S1.ok/\κ S1=some r):=by intro b hb;obtain⟨S3,g5,g6,_,h⟩:=eC (v:=qa b) hS trivial hb;exact⟨S3.st,g5,ih S3 κ r (λx hx=>hok x (aE _ hx)) g6 h⟩
      have hxv:opd S.st x= .ro t1.width (l.map t1.row):=by rw[dt,hx];rfl
      cases l with
      |nil=>
       obtain⟨a1,a2⟩:=vh (show wY _ _ none=some r from h)
       grind [lN.eqnil]
      |cons y l=>exact lN.eqnil hel ho hg hxv (λh=>by cases h) (way false h)
     ·cases h
    ·cases hs
   ·cases hs
  |none=>
  rw[hn] at h;simp only at h;cases hcl:o5 S o with
  |some z=>grind [ul]
  |none=>
  rw[hcl] at h;simp only at h;obtain⟨b,S1,h1,h2,h3,h4,h⟩:=rF hS h;refine lN.cons (b:=b) h1 ?_;cases b with
  |true=>
   simp only[cond_true] at h;rw[if_pos rfl,<-h2];cases hh:mX Y S1 o with
   |some z=>obtain⟨k,g,caps,a,us,xs⟩:=z;rw[hh] at h;obtain⟨S3,g1,g2,g3⟩:=qD hΘ hY h3 hh h;exact⟨S3.st,(g1 0).op,ih S3 κ r (λx hx=>hok x (aE _ hx)) g2 g3⟩
   |none=>
   grind [jo,eC,vb.one,one]
  |false=>simp only[cond_false] at h;obtain⟨S3,g5,g6,_,h⟩:=eC (v:=.tup []) h3 (λx hx=>by cases hx) h;rw[if_neg (by simp)];exact⟨S3.st,by rw[<-h2];exact g5,ih S3 κ r (λx hx=>hok x (aE _ hx)) g6 h⟩
theorem yt{D D':gR}{X:St}{o:Oper}(h:D o.dst=D' o.dst):dk D P X o=dk D' P X o:=by simp_all [dk]
theorem tZ{D D':gR}{X:St}{o:Oper}(h:D o.dst=D' o.dst):dL D P X o=dL D' P X o:=by simp_all [dL]
theorem Am{D D':gR}{ops:Array Oper}: ∀ (os:List Oper) (X:St),(∀o∈os,D o.dst=D' o.dst)->nX D P ops os X=nX D' P ops os X:=by
 intro os
 induction os with
 |nil=>intro X _;rfl
 |cons o os ih=>grind [nX,yt,tZ]
theorem kH: ∀ (l m:List (Option dw)) (n:Nat),gone n l (l++m)= []
 | [],m,n=>by cases m<;>rfl
 |x::l,m,n=>by
  cases x with
  |none=>exact kH l m (n+1)
  |some y=>exact kH l m (n+1)
theorem nH(l:List dw):wJ (l.map some)=l.map dw.tree:=by unfold wJ;rw[aW];rfl
theorem tN(S:TS)(out:List dw):S.st.make ⟨S.st.ng,out.map dw.tree,[]⟩=({ S with gh:=S.gh++out.map some }:TS).st:=by
 rw[iQ S .dead out];unfold St.make gW;simp only[aD]
 congr 1
theorem gx.make{S1:TS}{L:List Nat}(h:gx S S1 L)(x:dw):S.st.make ⟨S.st.ng,[x.tree],fj L⟩=({ S1 with gh:=S1.gh++ [some x] }:TS).st:=by
 rw[nE,h.st,h.len];unfold St.make dropL;simp only[cm,fq]
 congr 1
 funext r
 unfold dC;by_cases hr:r=S.gh.length
 ·simp_all [TS.st]
 ·rw[if_neg hr,if_neg (by show ¬ (S.gh.length<=r/\r<S.gh.length+1);omega)]
theorem tD: ∀ (l m x:List (Option dw)) (n:Nat) (L:List Nat),m.length=l.length->(∀k,k<l.length->(((∃y,l[k]? =some (some y))/\m[k]? =some none)↔(n+k)∈L))->gone n l (m++x)=(List.range' n l.length).filter λr=>L.contains r
 | [],m,x,n,L,hl,_=>by have :m= [] :=aX hl;subst this;cases x<;>rfl
 |a::l,[],x,n,L,hl,_=>by cases hl
 |a::l,b::m,x,n,L,hl,h=>by
  have h0:=h 0 (Nat.zero_lt_succ _)
  have ih:=tD l m x (n+1) L (by simpa using hl) (λk hk=>by
   have:=h (k+1) (by simpa using hk)
   grind)
  simp only[aG,ae,bE] at h0;rw[bA,cf,List.filter_cons];cases a with
  |none=>
   have : ¬n∈L:=λhn=>by grind
   rw[if_neg (by simpa using this),<-ih];cases b<;>rfl
  |some y=>
   cases b with
   |none=>have :n∈L:=h0.1 ⟨⟨y,rfl⟩,rfl⟩;rw[if_pos (by simpa using this),<-ih];rfl
   |some z=>
    have : ¬n∈L:=λhn=>by have:=(h0.2 hn).2;cases this
    rw[if_neg (by simpa using this),<-ih];rfl
theorem o6{L:List Nat}{N:Nat}(h: ∀r∈L,r<N):fj L=(List.range N).filter λr=>L.contains r:=by
 have top:pN L<=N:=by
  induction L with
  |nil=>exact bL _
  |cons a l ih=>grind [pN,List.mem_cons_self]
 unfold fj;obtain⟨k,rfl⟩: ∃k,N=pN L+k:=⟨N-pN L,by omega⟩
 rw[bP,bP,<-List.range'_append_1,List.filter_append]
 have : (List.range' (0+pN L) k).filter (λr=>L.contains r)= [] :=by rw[List.filter_eq_nil_iff];intro r hr hc;have h1:=pj (l:=L) (r:=r) (by simpa using hc);have h2:=(List.mem_range'_1.1 hr).1;omega
 rw[this,bM]
theorem gx.gone{S1:TS}{L:List Nat}(h:gx S S1 L)(x:List (Option dw)):gone 0 S.gh (S1.gh++x)=fj L:=by
 rw[o6 (N:=S.gh.length) (λr hr=>by obtain⟨tr,ht⟩:=h.was r hr;exact iG ht),bP]
 refine tD _ _ _ _ _ h.len (λk hk=> ?_);rw[aL];have g:=h.gh k;unfold dI at g;rw[dN,dN] at g;have hk1:k<S1.gh.length:=by rw[h.len];exact hk
 rw[an hk,an hk1] at g ⊢;simp only[aP,ae] at g ⊢;constructor
 ·grind
 ·intro hL;obtain⟨tr,ht⟩:=h.was k hL
  simp_all [dI,dN]
theorem jB{G:List (Option dw)}{r j:Nat}{c:Cl}(h:c.ok G)(hr:G.length<=r):gl r j c=c:=by
 have hb: ∀p:dA,p.r<G.length->Nat.beq p.r r=false:=λp hp=>by
  cases hx:Nat.beq p.r r with
  |false=>rfl
  |true=>have:=ak hx;omega
 cases c with
 |own p sz lo len w=>simp only[gl];rw[hb p h.1];split<;>rfl
 |ptrT p sz a b=>simp only[gl];rw[hb p h];split<;>rfl
 | _=>rfl
theorem gG{α:Type}{f:α->α}: ∀ {l:List α},(∀x∈l,f x=x)->l.map f=l
 | [],_=>rfl
 |a::l,h=>by rw[aK,h a aF,gG λx hx=>h x (aE _ hx)]
theorem qG(hS:S.ok){r j:Nat}(hr:S.gh.length<=r):S.kill r j=S:=by
 have v1: ∀v:V1,v.ok S.gh->ia r j v=v:=by
  intro v hv;cases v with
  |cl c=>simp only[ia];rw[jB hv hr]
  |agg cs=>simp only[ia];rw[gG λc hc=>jB (hv c hc) hr]
  |fn f cs=>simp only[ia];rw[gG λc hc=>jB (hv c hc) hr]
 have e1:S.env.map (λx=>(x.1,oy r j x.2))=S.env:=by
  refine gG (λx hx=> ?_);have hx:=hS.env x hx;obtain⟨t,v⟩:=x;cases v with
  |v x=>simp only[oy];rw[v1 x hx]
  |tup l=>simp only[oy];rw[gG λc hc=>v1 c (hx c hc)]
 have e2:S.bx.map (λcs=>cs.map (gl r j))=S.bx:=by exact gG (λcs hcs=>gG (λc hc=>jB (hS.bx cs hcs c hc) hr))
 unfold TS.kill;rw[e1,e2]
theorem yx(hS:S.ok){S1:TS}{no j:Nat}(hno:S.gh.length<=no){et:Option Ty}{c:Cl}{x:C}(hc:c.ok S.gh)(h:ev S no j et c=some (x,S1)):
  ∃L,gx S S1 L/\L.Nodup/\fm S.st (rG et) c.av=some (x.tree,L):=by
 have wp: ∀t:Ty,¬rG (some t)=0:=λt e=>by have:=t.width_pos;have e':t.width=0:=e;omega
 cases c with
 |c y=>
  cases y with
  |sc v=>
   cases et with
   |none=>simp only[ev,ae,ao] at h;obtain⟨rfl,rfl⟩:=h;exact⟨[],gx.refl _,c9,rfl⟩
   |some t=>simp[ev] at h
  |ls t l=>cases et<;>simp[ev] at h
 |em=>
  cases et with
  |none=>simp[ev] at h
  |some t=>simp only[ev,ae,ao] at h;obtain⟨rfl,rfl⟩:=h;rw[qG hS hno];refine⟨[],gx.refl _,c9,?_⟩;unfold fm;rw[if_neg (wp t)];rfl
 |own p sz lo len wh=>
  obtain⟨pr,pl⟩:=p;cases wh with
  |false=>cases et<;>simp[ev] at h
  |true=>
   cases et with
   |none=>simp[ev] at h
   |some t=>
    cases pl with
    |cons a l=>simp[ev] at h
    |nil=>
     simp only[ev] at h;obtain⟨h1,h⟩:=dj h;simp only[aj,bB] at h1;obtain⟨⟨h1,h2⟩,h3⟩:=h1;have h1:t.width=sz:=ak h1;have h2:S.fz<=pr:=aq h2;split at h
     ·rename_i tr htr;split at h
      ·rename_i hh;obtain⟨h4,h⟩:=dj h;have h4':tr.t.width=sz:=ak h4;simp only[ae,ao] at h;obtain⟨rfl,rfl⟩:=h;have hg:=dw.look htr;obtain⟨tt,l,hole⟩:=tr;simp only at hh h4';subst hh;obtain⟨e1,e2,e3⟩:=jq hc (λ_=>hg);have hd:=gx.one hg;rw[qG (hd.ok hS) (by rw[hd.len];exact hno)];refine⟨[pr],hd,by simp,?_⟩;unfold fm;rw[if_neg (wp t)];simp only[Cl.av]
       have hrows:S.st.rows ⟨pr,[]⟩ sz=some (l.map tt.row):=by rw[<-h4'];refine eL ?_;unfold St.look;show (match (dI S.gh pr).map dw.tree with |some t=>t.go [] |none=> .dd)=_;rw[hg];rfl
       rw[if_pos ⟨trivial,h1.symm,e2,h2⟩,hrows]
       simp_all [bS,C.tree]
      ·cases h
     ·cases h
 |pro cs=>cases et<;>simp[ev] at h
 |ptrB n j=>cases et<;>simp[ev] at h
 |ptrT p sz a b=>cases et<;>simp[ev] at h
 |dead=>cases et<;>simp[ev] at h
theorem rQ{X Y:St}(hfz:Y.fz=X.fz)(hg: ∀r t,Y.gh r=some t->X.gh r=some t){s:Nat}{v:AV}{y:T×List Nat}(h:fm Y s v=some y):fm X s v=some y:=by
 unfold fm at h ⊢;split at h
 ·rename_i h0;rw[if_pos h0];exact h
 ·rename_i h0;rw[if_neg h0];split at h
  ·exact h
  ·rename_i q s' lo len;split at h
   ·rename_i hc;rw[hfz] at hc;rw[if_pos hc]
    grind [St.rows,St.look]
   ·cases h
  ·cases h
theorem jc{X Y:St}(hfz:Y.fz=X.fz)(hg: ∀r t,Y.gh r=some t->X.gh r=some t): ∀ {ss:List Nat} {vs:List AV} {y:List T×List Nat},ek Y ss vs=some y->ek X ss vs=some y
 |s::ss,v::vs,y,h=>by unfold ek at h ⊢;simp only[af,ai] at h ⊢;obtain⟨a,h1,b,h2,h3⟩:=h;exact⟨a,rQ hfz hg h1,b,jc hfz hg h2,h3⟩
 | [],[],_,h=>h
 | [],_::_,_,h=>h
 | _::_,[],_,h=>h
theorem lV{X Y:St}(hfz:Y.fz=X.fz)(hg: ∀r t,Y.gh r=some t->X.gh r=some t){ss:List Nat}: ∀ {vss:List (List AV)} {y:List (List T)×List Nat},dZ Y ss vss=some y->dZ X ss vss=some y
 | [],_,h=>h
 |vs::vss,y,h=>by unfold dZ at h ⊢;simp only[af,ai] at h ⊢;obtain⟨a,h1,b,h2,h3⟩:=h;exact⟨a,jc hfz hg h1,b,lV hfz hg h2,h3⟩
theorem gx.less{S1:TS}{L:List Nat}(h:gx S S1 L): ∀r t,S1.st.gh r=some t->S.st.gh r=some t:=by
 intro r t ht;rw[h.st] at ht
 grind [dropL]
theorem yy(no:Nat): ∀ (ets:List (Option Ty)) (cs:List Cl) (j:Nat) (S S1:TS) (xs:List C),S.ok->S.gh.length<=no->(∀c∈cs,c.ok S.gh)->gm no j S ets cs=some (xs,S1)->
  ∃L,gx S S1 L/\L.Nodup/\ek S.st (ets.map rG) (cs.map Cl.av)=some (xs.map C.tree,L):=by
 intro ets
 induction ets with
 |nil=>
  intro cs j S S1 xs hS hno hcs h;cases cs with
  |nil=>simp only[gm,ae,ao] at h;obtain⟨rfl,rfl⟩:=h;exact⟨[],gx.refl _,c9,rfl⟩
  |cons c cs=>simp[gm] at h
 |cons et ets ih=>
  intro cs j S S1 xs hS hno hcs h;cases cs with
  |nil=>simp[gm] at h
  |cons c cs=>
   simp only[gm] at h;split at h
   ·rename_i x S2 hx;obtain⟨L1,d1,n1,e1⟩:=yx hS hno (hcs c aF) hx;split at h
    ·rename_i xs' S3 hxs;simp only[ae,ao] at h;obtain⟨rfl,rfl⟩:=h;obtain⟨L2,d2,n2,e2⟩:=ih cs (j+1) S2 S3 xs' (d1.ok hS) (by rw[d1.len];exact hno) (λy hy=>Cl.ok_mono d1.le (hcs y (aE _ hy))) hxs;refine⟨L1++L2,d1.trans d2,d1.apart d2 n1 n2,?_⟩;simp only[aK,ek];rw[e1];simp only[al];rw[jc (X:=S.st) (Y:=S2.st) d1.fz d1.less e2];rfl
    ·cases h
   ·cases h
theorem v5(el:Ty): ∀ (vs:List V) (S S1:TS) (l:List el.D),S.ok->(∀v∈vs,v.ok S.gh)->ig el S vs=some (l,S1)->
  ∃L,gx S S1 L/\L.Nodup/\dZ S.st el.shs (vs.map λv=>v.av.cells)=some (l.map el.row,L)/\l.length=vs.length/\ ∀v∈vs,v.av.cells.length=el.width/\v.av.isDead=false:=by
 intro vs
 induction vs with
 |nil=>intro S S1 l hS hv h;simp only[ig,ae,ao] at h;obtain⟨rfl,rfl⟩:=h;exact⟨[],gx.refl _,c9,rfl,rfl,λv hv=>by cases hv⟩
 |cons v vs ih=>
  intro S S1 l hS hv h;cases v with
  |tup x=>simp[ig] at h
  |v x=>
   have hx:=hv (.v x) aF;simp only[ig] at h;split at h
   ·rename_i ws S2 hw
    have hcells: ∀c∈x.cells,c.ok S.gh:=by
     intro c hc;cases x with
     |cl y=>rw[aH.1 hc];exact hx
     |agg cs=>exact hx c hc
     |fn f cs=>rw[aH.1 hc];trivial
    obtain⟨L1,d1,n1,e1⟩:=yy _ _ _ _ _ _ _ hS (au _) hcells hw
    have hw':el.csh.length=x.cells.length/\ ∀c∈x.cells,c≠ .dead:=by obtain⟨_,m2,_,m4,_⟩:=nG S.gh.length 0 0 0 el.csh x.cells 0 S S2 ws [x.cells.map λc=>T.ofSc c.av] (x.cells.map λc=>T.ofSc c.av) hS hcells hw rfl (by simp) (λk c hk=>by grind);exact⟨m2,m4⟩
    split at h
    ·rename_i y ys S3 hy hys;simp only[ae,ao] at h;obtain⟨rfl,rfl⟩:=h;obtain⟨L2,d2,n2,e2,e3,e4⟩:=ih S2 S3 ys (d1.ok hS) (λu hu=>V.ok_mono d1.le (hv u (aE _ hu))) hys
     have hsh:el.shs=el.csh.map rG:=by unfold Ty.shs;refine az λc _=> ?_;cases c<;>rfl
     have hav: (V.v x).av.cells=x.cells.map Cl.av:=by
      cases x with
      |cl c=>
       simp only[V.av,V1.av,V1.cells,aK,cg];cases c with
       |c y=>cases y<;>rfl
       | _=>rfl
      |agg cs=>rfl
      |fn f cs=>exact absurd rfl (hw'.2 .dead (aH.2 rfl))
     refine⟨L1++L2,d1.trans d2,d1.apart d2 n1 n2,?_,by simp[e3],λu hu=> ?_⟩
     ·simp only[aK,dZ];rw[hav,hsh,e1];simp only[al];rw[<-hsh,lV (X:=S.st) (Y:=S2.st) d1.fz d1.less e2];simp only[aA];rw[el.row_flat,el.unflat_some _ _ hy]
     ·rcases aU.1 hu with rfl|hu
      ·refine⟨?_,?_⟩
       ·grind [kt]
       ·cases x with
        |cl c=>
         have:=hw'.2 c (aH.2 rfl);cases c with
         |c y=>cases y<;>rfl
         |dead=>exact absurd rfl this
         | _=>rfl
        |agg cs=>rfl
        |fn f cs=>rfl
      ·exact e4 u hu
    ·cases h
   ·cases h
theorem sr(hΘ:dQ P Θ){t:TypeId}(h:z9 Θ t=true): ∃ti el elT',eT Θ t=some ti/\ti.ty= .ls el/\iv P t=some elT'/\P.cellsOf elT'=el.width/\P.bytesOf elT'=ti.el/\0<ti.el/\fE P 9 elT'=el.shs/\kT P elT'=some el.zvs:=by
 unfold z9 at h;split at h
 ·rename_i ti hti;split at h
  ·rename_i el he;obtain⟨elT',g⟩:=(hΘ _ _ hti).el el he;exact⟨ti,el,elT',hti,he,g⟩
  ·cases h
 ·cases h
theorem yq{el:Ty}{v:Cl}(hv:v.ok S.gh){κ:List el.D->TS->Option ρ}{r:ρ}(h:wB S el v κ=some r):
  ∃more L S1,gx S S1 L/\eh S.st el.width el.flatB v.av=some (more.map el.row,L)/\κ more S1=some r:=by
 unfold wB at h;split at h
 ·exact⟨[],[],S,gx.refl _,rfl,h⟩
 ·rename_i t l;obtain⟨h1,h⟩:=dj h;split at h
  ·rename_i l' hl;obtain⟨e,hl⟩:=dV hl;subst e;simp only at hl;subst hl;refine⟨l,[],S,gx.refl _,?_,h⟩;simp only[Cl.av,C.av,eh];rw[if_pos ⟨trivial,iq h1 l⟩]
  ·cases h
 ·rename_i p sz lo len w;obtain⟨h0,h⟩:=dj h;have h0:el.width=sz:=ak h0;cases hfl:el.flatB with
  |true=>
   rw[hfl] at h;simp only[cond_true] at h;obtain⟨t,l,h1,h2,h⟩:=dW h;split at h
   ·rename_i l' hl;obtain⟨e,hl⟩:=dV hl;subst e;simp only at hl;subst hl
    have src: ∀ (lo len:Nat),lo+len<=l.length->eh S.st t.width true (.own p sz lo len)=some (((l.drop lo).take len).map t.row,[]):=by intro lo len hle;simp only[eh];rw[if_pos h0.symm,eL h1];simp only[al,aD];rw[if_neg (by simp),if_pos ⟨hle,by grind [iq]⟩];simp[bX,co]
    cases w with
    |true=>
     obtain⟨e1,e2,e3⟩:=jq hv h2;refine⟨l,[],S,gx.refl _,?_,h⟩
     grind [Cl.av]
    |false=>simp only[cond_false] at h;obtain⟨h3,h⟩:=dE h;exact⟨_,[],S,gx.refl _,src lo len h3,h⟩
   ·cases h
  |false=>
   rw[hfl] at h;simp only[cond_false] at h;split at h
   ·rename_i hpl;obtain⟨h1,h'⟩:=dj h;clear h;simp only[aj] at h1;obtain⟨rfl,hfz⟩:=h1;have hfz:S.fz<=p.r:=aq hfz;obtain⟨t,l,g1,g2,h⟩:=dW h';split at h
    ·rename_i l' hl;obtain⟨e,hl⟩:=dV hl;subst e;simp only at hl;subst hl;obtain⟨e1,e2,e3⟩:=jq hv g2;refine⟨l,[p.r],_,gx.one (g2 e1),?_,h⟩;simp only[Cl.av,eh];rw[if_pos h0.symm,eL g1];simp only[al,aD];rw[if_pos ⟨trivial,e1,e2,e3,hfz⟩]
    ·cases h
   ·cases h
 ·cases h
theorem vl{el:Ty}{v:Cl}(hv:v.ok S.gh)(hroot:tV (.v (.cl v))=true){more:List el.D}{κ:List el.D->TS->Option ρ}{r:ρ}(h:pY S el v more κ=some r):
  ∃ (l0:List el.D) (cons:List Nat) (S':TS),fT S.st el.width v.av=some (l0.map el.row,cons)/\gx S S' cons/\κ (l0++more) S'=some r:=by
 unfold pY at h;split at h
 ·exact⟨[],[],S,rfl,gx.refl _,h⟩
 ·rename_i p sz lo len w;obtain⟨pr,pl⟩:=p;cases pl with
  |cons a l=>cases hroot
  |nil=>
   obtain⟨h0,h'⟩:=dj h;clear h;simp only[aj] at h0;have hfz:S.fz<=pr:=aq h0.1;have hsz:el.width=sz:=ak h0.2;simp only at h';obtain⟨t,l,h1,h2,h⟩:=dW h';split at h
   ·rename_i l' hl;obtain⟨e,hl⟩:=dV hl;subst e;simp only at hl;subst hl
    have base: ∀ (len:Nat),¬l.length<len->fT S.st t.width (.own ⟨pr,[]⟩ sz 0 len)=some ((l.take len).map t.row,[pr]):=by intro len hlen;simp only[fT];rw[if_pos ⟨hsz.symm,trivial,trivial,hfz⟩,eL h1];simp only[al,aD];rw[if_neg hlen,bX]
    cases w with
    |true=>
     obtain⟨e1,e2,e3⟩:=jq hv h2;refine⟨l,[pr],_,?_,gx.one (h2 rfl),h⟩
     grind [Cl.av]
    |false=>
     simp only[cond_false] at h;obtain⟨h3,h⟩:=dE h;obtain⟨h4,h⟩:=lx h;refine⟨l.take len,[pr],_,?_,gx.one (h2 rfl),h⟩
     grind [Cl.av]
   ·cases h
 ·cases h
theorem tQ[dp](hΘ:dQ P Θ)(hY:eV P Y)(hS:S.ok){o:Oper}(hn:dS o=true)(hf:xG Θ o=true)(hb:s9 S o=true){κ:V->TS->Option ρ}{r:ρ}(h:iZ Θ Y S o κ=some r):
  ∃D v0 v adds cons S',eO P D/\dL D P S.st o=some (v0,adds,cons)/\shift S.st.ng v0=V.av v/\S.st.make ⟨S.st.ng,adds,cons⟩=TS.st S'/\j8 S S'=⟨S.st.ng,adds,cons⟩/\S'.ok/\v.ok S'.gh/\κ v S'=some r:=by
 obtain⟨dst,op,ty,pos,aft,gd⟩:=o;cases op with
 |buildSlice t len parts=>
  obtain⟨ti,el,elT',hti,he,g1,g2,g3,g4,g5,g6⟩:=sr hΘ hf;unfold iZ at h;simp only[hti,he] at h;obtain⟨hb',h'⟩:=dj h;clear h
  have hnr: ((parts.toList.map λx=>S.opd x.2).any mZ)=false:=by have hb: (!(parts.toList.map λx=>S.opd x.2).any mZ)=true:=hb;simpa using hb
  rw[hnr] at h';simp only[cond_false] at h';split at h'
  ·rename_i l S1 hp
   have hvok: ∀v∈parts.toList.map (λx=>S.opd x.2),v.ok S.gh:=λv hv=>by obtain⟨y,_,rfl⟩:=aB.1 hv;exact fy hS _
   obtain⟨L,d,hnd,m1,m2,m3⟩:=v5 el _ S S1 l hS hvok hp;simp only[aj] at hb';have hb1:len*el.width<=1048576:=aq hb'.1;have hb2:=mP hb'.2
   have hlen:l.length=len:=by rw[m2];have:=congrArg List.length hb2;simpa using this
   refine⟨po,.own ⟨0,[]⟩ el.width 0 len,_,[.sl el.width (l.map el.row)],fj L,{ S1 with gh:=S1.gh++ [some ⟨el,l,none⟩] },ec,?_,?_,d.make ⟨el,l,none⟩,?_,TS.ok_gh (d.ok hS) (ef.app _ _),?_,h'⟩
   ·simp only[dL,g1,al]
    rw[if_pos ⟨by rw[g2];exact hb1,hb2,by rw[g2];exact el.width_pos,by rw[g6];rfl,by rw[ar];intro y hy;obtain⟨q1,q2⟩:=m3 (S.opd y.2) (aB.2 ⟨y,hy,rfl⟩);simp only[dt,q1,q2,g2];rfl⟩]
    have e: (parts.toList.map λx=>(opd S.st x.2).cells)=(parts.toList.map λx=>S.opd x.2).map λv=>v.av.cells:=by rw[aW];exact az λx _=>by simp only[dt,Function.comp]
    rw[e,g5,m1];simp only[al];rw[if_pos (mm.2 hnd),g2]
   ·simp only[shift,eE,eM,V.av,V1.av,Cl.av,aL,hlen];rw[d.len];rfl
   ·unfold j8;simp only;rw[d.gone,b9 (by rw[d.len];exact au _),bR (by rw[d.len];exact au _)];rfl
   ·refine⟨by simp,λ_=>⟨rfl,rfl,λtr htr=> ?_⟩⟩;rw[eP,if_pos rfl] at htr;cases htr;rfl
  ·cases h'
 |call c=>
  obtain⟨cl,as,ts⟩:=c;cases cl with
  |invoke a b=>cases hn
  |value f=>
   unfold iZ at h;simp only at h
   have fin: ∀ (g:FuncId) (caps:List AV) (vs:List V1),g<eu->callee S.st f=some (g,caps)->args P S.st ts as caps=vs.map V1.av->Y g vs ρ (λres out=>κ (gQ S.gh.length res) { S with gh:=S.gh++out.map some })=some r->
     ∃D v0 v adds cons S',eO P D/\dL D P S.st ⟨dst,.call { callee:=.value f,args:=as,argTypes:=ts },ty,pos,aft,gd⟩=some (v0,adds,cons)/\shift S.st.ng v0=V.av v/\S.st.make ⟨S.st.ng,adds,cons⟩=TS.st S'/\j8 S S'=⟨S.st.ng,adds,cons⟩/\S'.ok/\v.ok S'.gh/\κ v S'=some r:=by
    intro g caps vs hg h1 h2 h3;obtain⟨res,out,h4,h5,h6⟩:=hY _ _ _ _ _ h3;have h4:=h4.fn hg;refine⟨uJ dst g (vs.map V1.av) (res.av,out.map dw.tree),res.av,_,out.map dw.tree,[],_,nj h4,?_,?_,tN S out,?_,TS.ok_gh hS (ef.apps _ _),jI h5,h6⟩
    ·simp_all [dL,tR]
    ·rw[jH];rfl
    ·unfold j8;simp only[kH,b9 (au _),List.drop_length,bC,nH];rfl
   unfold te at h;split at h
   ·rename_i g x y hf';obtain⟨hg,h⟩:=dj h;have hg:g<eu:=aq hg;obtain⟨vs,h1,h⟩:=i9 hΘ hS _ _ _ _ h;refine fin g [] vs hg ?_ ?_ h
    ·unfold callee;rw[dt,hf'];rfl
    grind [args]
   ·rename_i g caps hf';obtain⟨hg,h⟩:=dj h;have hg:g<eu:=aq hg;obtain⟨vs,h1,h⟩:=i9 hΘ hS _ _ _ _ h
    have hcaps: ∀c∈caps,c.ok S.gh:=by have:=fy hS f;rw[hf'] at this;exact this
    obtain⟨cs,h2,h⟩:=mM hS _ _ _ hcaps h;refine fin g (caps.map Cl.av) (vs++cs.map .cl) hg ?_ ?_ h
    ·unfold callee;rw[dt,hf'];rfl
    ·unfold args;rw[h1,h2,bG,aW];rfl
   ·cases h
  |builtin b=>
   cases b with
   |append=>
    unfold iZ at h;simp only at h;split at h
    ·rename_i s x t t' e1 e2;have hbb: ((match ts.toList with | [t,t'] =>Nat.beq t t'| _=>true)&&(match as.toList with |s::_=>tV (S.opd s)| [] =>true))=true:=hb;rw[e1,e2] at hbb;simp only[aj] at hbb;rw[hbb.1] at h;simp only[cond_true] at h;have h':=h;have ht:t=t':=ak hbb.1;clear h;have e1:as= #[s,x] :=by apply Array.ext';simpa using e1
     have e2:ts= #[t,t'] :=by apply Array.ext';simpa using e2
     subst e1 e2;subst ht;obtain⟨ti,el,elT',hti,he,g1,g2,g3,g4,g5,g6⟩:=sr hΘ hf;unfold wZ at h';simp only[hti] at h';split at h'
     ·rename_i el' sv xv he' hs hx;rw[he] at he';cases he';have hsv:=fy hS s;rw[hs] at hsv;have hxv:=fy hS x;rw[hx] at hxv;obtain⟨more,L,S1,d1,q1,h⟩:=yq (show xv.ok S.gh from hxv) h';have hroot:tV (.v (.cl sv))=true:=by rw[<-hs];exact hbb.2
      obtain⟨l0,cons,S2,q2,d2,h⟩:=vl (show sv.ok S1.gh from Cl.ok_mono d1.le hsv) hroot h;obtain⟨hbd,h⟩:=dE h;have hlen: (l0++more).length<=2 ^ 40:=aR (Nat.le_mul_of_pos_right _ g4) hbd;have hll: (l0++more).length=l0.length+more.length:=by simp
      have d:=d1.trans d2;refine⟨po,.own ⟨0,[]⟩ el.width 0 (l0.length+more.length),_,[.sl el.width ((l0++more).map el.row)],fj (L++cons),{ S2 with gh:=S2.gh++ [some ⟨el,l0++more,none⟩] },ec,?_,?_,d.make ⟨el,l0++more,none⟩,?_,TS.ok_gh (d.ok hS) (ef.app _ _),?_,h⟩
      ·simp only[dL];rw[if_pos trivial,g1];simp only[al,g2,g5,jy,dt,hs,hx];show (eh S.st el.width el.flatB xv.av).bind _=_;rw[q1];simp only[al];show (fT (dropL S.st L) el.width sv.av).bind _=_;rw[<-d1.st,q2];simp only[al,aD];rw[if_pos ⟨by rw[g3,<-hll];exact hbd,by rw[<-hll];exact hlen,el.width_pos,by rw[kV g2 g5 g6];rfl⟩,bG]
      ·simp only[shift,eE,eM,V.av,V1.av,Cl.av,aL,hll];rw[d.len];rfl
      ·unfold j8;simp only;rw[d.gone,b9 (by rw[d.len];exact au _),bR (by rw[d.len];exact au _)];rfl
      ·refine⟨by simp,λ_=>⟨rfl,rfl,λtr htr=> ?_⟩⟩;rw[eP,if_pos rfl] at htr;cases htr;rfl
     ·cases h'
    ·cases h
   | _=>cases hn
 |makeSlice t l c=>
  unfold iZ at h;simp only at h;split at h
  ·rename_i ti hti;split at h
   ·rename_i el he;obtain⟨elT',g1,g2,g3,g4,g5,g6⟩:=(hΘ _ _ hti).el el he;obtain⟨n,h1,h⟩:=iH h;obtain⟨m,h2,h⟩:=iH h;split at h
    ·rename_i z hz;obtain⟨hb,h⟩:=dE h;have hz':=Ty.unflat_some _ _ _ hz
     have hzr:el.row z=List.zipWith zc el.shs el.zvs:=by rw[el.row_flat,hz',nN]
     refine⟨po,.own ⟨0,[]⟩ el.width 0 n.toNat,_,[(⟨el,List.replicate n.toNat z,none⟩:dw)].map dw.tree,[],{ S with gh:=S.gh++ [(⟨el,List.replicate n.toNat z,none⟩:dw)].map some },ec,?_,?_,tN S _,?_,TS.ok_gh hS (ef.apps _ _),?_,h⟩
     ·simp only[dL,g1,al,dt,h1,h2];rw[kV g2 g5 g6];simp only[al]
      have hn:n<=n*(ti.el:Int):=by
       have h1e: (1:Int)<=ti.el:=by omega
       have:=cB h1e hb.1
       rwa [Int.mul_one] at this
      rw[if_pos ⟨hb.1,hb.2.1,by rw[g3,Int.mul_comm];exact hb.2.2,Int.le_trans hn hb.2.2⟩,g2,<-hzr];simp[dw.tree]
     ·simp only[shift,eE,eM,V.av,V1.av,Cl.av,aL];rfl
     ·unfold j8;simp only[kH,b9 (au _),List.drop_length,bC,nH];rfl
     ·refine⟨by simp,λ_=>⟨rfl,by simp,λtr htr=> ?_⟩⟩;rw[show [(⟨el,List.replicate n.toNat z,none⟩:dw)].map some= [some ⟨el,List.replicate n.toNat z,none⟩] from rfl,eP,if_pos rfl] at htr;cases htr;simp
    ·cases h
   ·cases h
  ·cases h
 | _=>cases hn
end
end
section
open Go
section
variable {ρ:Type} {P:Program} {Θ:ft} {S:TS} {Y:kA}
open Classical in
noncomputable def kJ(d:Option Tmp)(D1 D2:gR):gR:=λd'=>if d'=d then D1 d' else D2 d'
theorem qF[dp]{d:Option Tmp}{D1 D2:gR}(h1:eO P D1)(h2:eO P D2):eO P (kJ d D1 D2):=by
 intro d' f args gs res out h;unfold kJ at h;split at h
 ·exact h1 _ _ _ _ _ _ h
 ·exact h2 _ _ _ _ _ _ h
theorem vH(d:Option Tmp)(D1 D2:gR):kJ d D1 D2 d=D1 d:=by unfold kJ;rw[if_pos rfl]
theorem vI{d d':Option Tmp}(D1 D2:gR)(h:d'≠d):kJ d D1 D2 d'=D2 d':=by unfold kJ;rw[if_neg h]
theorem xz[dp](hΘ:dQ P Θ)(hY:eV P Y){ops:Array Oper}: ∀ (os:List Oper) (S:TS) (ms:List ej) (κ:TS->List ej->Option ρ) (r:ρ),S.ok->qs Θ Y ops.toList os S ms κ=some r->
  ∃D SV ms',eO P D/\nX D P ops os S.st=some (TS.st SV,ms')/\SV.ok/\κ SV (ms++ms')=some r:=by
 intro os
 induction os with
 |nil=>intro S ms κ r hS h;exact⟨po,S,[],ec,rfl,hS,by rw[bM];exact h⟩
 |cons o os ih=>
  intro S ms κ r hS h;unfold qs at h;cases hst:dh o with
  |true=>
   rw[hst] at h;simp only[cond_true] at h;obtain⟨D,SV,ms',h1,h2,h3,h4⟩:=ih _ _ _ _ hS h;refine⟨D,SV,⟨S.gh.length,[],[]⟩::ms',h1,?_,h3,?_⟩
   ·simp only[nX,hst,if_true,h2,aA];rfl
   grind
  |false=>
   rw[hst] at h;simp only[cond_false] at h;cases hbo:dJ o with
   |true=>
    rw[hbo] at h;simp only[cond_true] at h;cases hgn:o.guard.isNone with
    |false=>rw[hgn] at h;cases h
    |true=>
    rw[hgn] at h;simp only[cond_true] at h;obtain⟨S3,g5,g6,_,h⟩:=eC (v:=V.v (.cl (.ptrB (S.bx.length-1-dR os) 0))) hS trivial h;obtain⟨D,SV,ms',k1,k2,k3,k4⟩:=ih _ _ _ _ g6 h;refine⟨D,SV,⟨S.gh.length,[],[]⟩::ms',k1,?_,k3,?_⟩
    ·simp only[nX,hst,aM,if_false,hbo,if_true,hgn];rw[show S.st.put o.dst (.ptrB (S.st.nb-1-dR os) 0)=some S3.st from g5];simp only[al,k2,aA];rfl
    grind
   |false=>
   rw[hbo] at h;simp only[cond_false] at h;obtain⟨b,S1,h1,h2,h3,h4,h⟩:=rF hS h;have hng:S.st.ng=S1.st.ng:=by rw[h2]
   cases b with
   |false=>
    simp only[cond_false] at h;obtain⟨S3,g5,g6,_,h⟩:=eC (v:=.tup []) h3 (λx hx=>by cases hx) h;obtain⟨D,SV,ms',k1,k2,k3,k4⟩:=ih _ _ _ _ g6 h;refine⟨D,SV,⟨S1.gh.length,[],[]⟩::ms',k1,?_,k3,?_⟩
    ·simp only[nX,hst,hbo,aM,if_false,h1,al];rw[<-h2,show S1.st.put o.dst (.tup [])=some S3.st from g5];simp only[al,k2,aA];rfl
    grind
   |true=>
    simp only[cond_true] at h;cases hnw:dS o with
    |false=>
     rw[hnw] at h;simp only[cond_false] at h;obtain⟨v,S2,m1,m2,m3,m4,m5,h⟩:=lG (D:=po) hΘ h3 h;obtain⟨S3,g5,g6,_,h⟩:=eC m3 (by rw[m4];exact m5) h;obtain⟨D,SV,ms',k1,k2,k3,k4⟩:=ih _ _ _ _ g6 h;refine⟨D,SV,⟨S1.gh.length,[],[]⟩::ms',k1,?_,k3,?_⟩
     ·have hV:dk D P S1.st o=some v.av:=by
       rw[<-m1]
       have : ∀D':gR,dk D P S1.st o=dk D' P S1.st o:=by
        intro D';obtain⟨dst,op,ty,pos,aft,gd⟩:=o;cases op with
        |call c=>
         obtain⟨cl,as,ts⟩:=c;cases cl with
         |value f=>cases hnw
         |invoke a b=>rfl
         |builtin b=>cases b<;>rfl
        |unOp op t x=>cases op<;>rfl
        |binOp op t x y t'=>cases op<;>rfl
        |makeFunc fn first caps=>cases fn<;>rfl
        |slice t x lo hi mx=>cases mx<;>rfl
        | _=>rfl
       exact this po
      simp only[nX,hst,hbo,aM,if_false,h1,al,if_true,hnw];rw[<-h2,hV];simp only[al];rw[<-m2,g5];simp only[al,k2,aA];rw[m2];first |rfl|skip
     grind
    |true=>
     rw[hnw] at h;simp only[cond_true] at h;obtain⟨hc,h⟩:=dj h;simp only[aj] at hc;obtain⟨D1,v0,v,adds,cons,S2,m1,m2,m3,m4,m5,m6,m7,h⟩:=tQ hΘ hY h3 hnw hc.1.2 hc.2 h;obtain⟨S3,g5,g6,_,h⟩:=eC m6 m7 h;obtain⟨D,SV,ms',k1,k2,k3,k4⟩:=ih _ _ _ _ g6 h;refine⟨kJ o.dst D1 D,SV,⟨S1.st.ng,adds,cons⟩::ms',qF m1 k1,?_,k3,?_⟩
     ·have hN:dL (kJ o.dst D1 D) P S1.st o=some (v0,adds,cons):=by
       rw[<-m2];exact tZ (vH _ _ _)
      have hrest:nX (kJ o.dst D1 D) P ops os S3.st=some (SV.st,ms'):=by
       rw[<-k2];refine Am os _ (λo' ho'=>vI _ _ (λe=> ?_));have hl:=hc.1.1;unfold AA at hl;split at hl
       ·grind [yS,Nat.beq_refl]
       ·cases hl
      simp_all [nX]
     grind
theorem xD[dp](hΘ:dQ P Θ)(hY:eV P Y){ops:Array Oper}{D:gR}: ∀ (os:List Oper) (S:TS) (κ:TS->Option ρ) (r:ρ),S.ok->vv Θ Y os S κ=some r->
  ∃S',nY D P ops os S.st=some (TS.st S')/\S'.ok/\κ S'=some r:=by
 intro os
 induction os with
 |nil=>intro S κ r hS h;exact⟨S,rfl,hS,h⟩
 |cons o os ih=>
  intro S κ r hS h;unfold vv at h;cases hst:dh o with
  |false=>simp_all [nY]
  |true=>
   rw[hst] at h;simp only[cond_true] at h;obtain⟨hc,h⟩:=dj h;simp only[aj] at hc;obtain⟨D',v,S1,g1,g2,g3,g4,h⟩:=jo hΘ hY hS h;obtain⟨S',h1,h2,h3⟩:=ih S1 κ r g3 h;refine⟨S',?_,h2,h3⟩;have hd:o.dst=none:=cr.1 hc.2
   have hs:step D P S.st o=some (v.av,S1.st):=by
    rw[<-g2];obtain⟨dst,op,ty,pos,aft,gd⟩:=o;cases op with
    |store t a x=>rfl
    | _=>cases hst
   simp_all [one,St.put,nY]
theorem yf(hΘ:dQ P Θ): ∀ (os:List Oper) (S:TS) (κ:TS->Option ρ) (r:ρ),S.ok->v7 Θ os S κ=some r-> ∃S0,pB P os S.st=some (TS.st S0)/\S0.ok/\κ S0=some r:=by
 intro os
 induction os with
 |nil=>intro S κ r hS h;exact⟨S,rfl,hS,h⟩
 |cons o os ih=>
  intro S κ r hS h;unfold v7 at h;unfold pB;split at h
  ·rename_i t hop;split at h
   ·rename_i ti hti
    obtain⟨S0,h1,h2,h3⟩:=ih { S with bx:=S.bx++ [ti.ty.zvs.map cC] } κ r ⟨hS.env,λcs hcs c hc=>by
     rcases bq.1 hcs with h1|h1
     ·exact hS.bx cs h1 c hc
     grind [wP]⟩ h
    refine⟨S0,?_,h2,h3⟩;rw[hop];simp only[(hΘ _ _ hti).ze,al];rw[<-h1]
    congr 1
    rw[sM,wO];rfl
   ·cases h
  grind
theorem sK{f g:TypeId->Bool}(h: ∀t,f t=true->g t=true){t:TypeId}{a:AV}(hs:kQ f t a=true):kQ g t a=true:=by cases a<;>simp only[kQ] at hs ⊢<;>first |exact h t hs|exact hs
theorem qN{f g:TypeId->Bool}(h: ∀t,f t=true->g t=true){ops:List Oper}{B:List (List Nat)}{S SV:St}{i j:Nat}{oi oj:Oper}(hs:iJ f ops B S SV i j oi oj=true):iJ g ops B S SV i j oi oj=true:=by
 unfold iJ at hs ⊢;split at hs
 ·simp only[aj] at hs ⊢;exact⟨sK h hs.1,hs.2⟩
 ·cases hs
theorem qX{ops:List Oper}{B:List (List Nat)}{f g:Nat->Nat->Oper->Oper->Bool}(h: ∀i j oi oj,f i j oi oj=true->g i j oi oj=true)(hs:kf ops B f=true):kf ops B g=true:=by
 unfold kf at hs ⊢
 grind
theorem uu{f g:TypeId->Bool}(h: ∀t,f t=true->g t=true){ops:List Oper}{B:List (List Nat)}{S SV:St}{ms:List ej}(hs:rX f ops B S ms SV=true):rX g ops B S ms SV=true:=by
 unfold rX at hs ⊢;simp only[aj,bi] at hs ⊢
 grind [qX,qN]
theorem tw(hΘ:dQ P Θ)(t:TypeId)(h:tA Θ t=true):gV P t=true:=by
 unfold tA at h;split at h
 ·rename_i ti hti;unfold gV;rw[(hΘ t ti hti).sh];unfold Ty.flatB at h;unfold Ty.shs
  grind
 ·cases h
theorem wA(hΘ:dQ P Θ){S:TS}{o:Oper}(h:wz Θ S o=true): ∀t x v,o.op= .store t x v->kQ (gV P) t (opd S.st x)=true:=by
 intro t x v ho;unfold wz at h;rw[ho] at h;simp only at h;rw[dt];split at h
 ·rename_i e;rw[e];rfl
 ·rename_i e;rw[e];exact tw hΘ t h
 ·cases h
theorem uy(hΘ:dQ P Θ){o:Oper}(h:pc Θ o=true):mS P o=true:=by
 unfold mS;split
 ·rename_i t a b he;unfold pc at h;rw[he] at h;simp only at h;split at h
  ·rename_i ti hti;split at h
   ·rename_i el hel;have hl:z9 Θ t=true:=by unfold z9;rw[hti];simp only[hel]
    grind [sr,gV,jy]
   ·cases h
  ·cases h
 ·rfl
theorem vC{o:Oper}{κ:V->Option ρ}{r:ρ}(hΘ:dQ P Θ)(h:vB Θ S o κ=some r): ∃ (el:Ty) (l:List el.D),yO P S.st o=some (V.v (.cl (.c (.ls el l)))).av/\κ (.v (.cl (.c (.ls el l))))=some r:=by
 unfold vB at h;split at h
 ·rename_i t len parts ho;split at h
  ·rename_i ti hti;split at h
   ·rename_i el he;obtain⟨elT',g1,g2,g3,g4,g5,g6⟩:=(hΘ _ _ hti).el el he;obtain⟨hb,h⟩:=dj h;simp only[aj] at hb;have hb1:len*el.width<=1048576:=aq hb.1;have hb2:=mP hb.2;split at h
    ·rename_i l hl;obtain⟨m1,m2,m3⟩:=jm el _ l hl;refine⟨el,l,?_,h⟩;simp only[yO,ho,g1,al]
     rw[if_pos ⟨by rw[g2];exact hb1,hb2,by rw[g2];exact el.width_pos,by rw[g6];rfl,by
      rw[ar];intro y hy;obtain⟨q1,q2⟩:=m3 (S.opd y.2) (aB.2 ⟨y,hy,rfl⟩)
      simp_all [dt]⟩]
     have e2: (parts.toList.map λx=>(opd S.st x.2).cells)=(parts.toList.map λx=>S.opd x.2).map λv=>v.av.cells:=by rw[aW];exact az λx _=>by simp only[Function.comp,dt]
     rw[e2,g5,m2,g2];rfl
    ·cases h
   ·cases h
  ·cases h
 ·cases h
theorem xA[dp](hΘ:dQ P Θ)(hY:eV P Y){n0:Nat}{ops:List Oper}{B:List (List Nat)}: ∀ (os:List Oper) (k:Nat) (S:TS) (κ:TS->Option ρ) (r:ρ),(∀o∈os,fw P o=true)->(os≠ [] ->n0<=S.gh.length)->S.ok->o9 Θ Y n0 ops B k os S κ=some r->
  ∃ (T:Nat->St) (S':TS),T k=S.st/\T (k+os.length)=S'.st/\S'.ok/\κ S'=some r/\ ∀i o,os[i]? =some o->og P n0 ops B T (k+i) o\/(i+1=os.length/\dh o=true/\vb P (T (k+i)) o (T (k+i+1))/\ ∀j,j<k+i->j∈B.getD (k+i) []):=by
 intro os
 induction os with
 |nil=>intro k S κ r _ _ hS h;exact⟨λ_=>S.st,S,rfl,rfl,hS,h,λi o h=>by simp at h⟩
 |cons o os ih=>
  intro k S κ r hop hn0 hS h;have hop': ∀o∈os,fw P o=true:=λx hx=>hop x (aE _ hx);have hok:=hop o aF;have hn0:=hn0 (by simp)
  have glue: ∀ {S3:TS},(os≠ [] ->n0<=S3.gh.length)->S3.ok->o9 Θ Y n0 ops B (k+1) os S3 κ=some r->((i5 o=true/\eN P n0 S.st o S3.st)\/u9 P n0 (Ab S.st ops B k) (v6 S.st ops B k) S.st o S3.st\/(os= [] /\dh o=true/\vb P S.st o S3.st/\ ∀j,j<k->j∈B.getD k []))->
    ∃ (T:Nat->St) (S':TS),T k=S.st/\T (k+(o::os).length)=S'.st/\S'.ok/\κ S'=some r/\ ∀i o',(o::os)[i]? =some o'->og P n0 ops B T (k+i) o'\/(i+1=(o::os).length/\dh o'=true/\vb P (T (k+i)) o' (T (k+i+1))/\ ∀j,j<k+i->j∈B.getD (k+i) []):=by
   intro S3 hn3 hS3 h3 hst;obtain⟨T,S',t1,t2,hS',hk,hT⟩:=ih (k+1) S3 κ r hop' hn3 hS3 h3
   let T':Nat->St:=λi=>if i=k then S.st else T i
   have e0:T' k=S.st:=if_pos rfl;have e1: ∀i,k<i->T' i=T i:=λi hi=>if_neg (by omega);refine⟨T',S',e0,?_,hS',hk,λi o' ho'=> ?_⟩
   ·grind
   ·cases i with
    |zero=>
     simp only[aG,ae] at ho';subst ho';have e2:T' (k+1)=S3.st:=by rw[e1 _ (by omega),t1]
     rcases hst with h|h| ⟨rfl,h1,h2,h3⟩
     ·left;left
      grind
     ·left;right
      grind
     grind
    |succ i=>grind [og]
  unfold o9 at h;cases hh:mX Y S o with
  |some z=>
   obtain⟨kd,g,caps,a,us,xs⟩:=z;rw[hh] at h;obtain⟨S3,g1,g2,g3⟩:=qD hΘ hY hS hh h
   have hv:i5 o=true:=by obtain⟨f,as,ts,x,t0,hop,_⟩:=mY hh;unfold i5 dS z6;rw[hop];rfl
   exact glue (λ_=>aR hn0 (g1 0).ng) g2 g3 (.inl ⟨hv,g1 n0⟩)
  |none=>
  rw[hh] at h;simp only at h;cases hct:z6 o with
  |true=>
   rw[hct] at h;simp only[cond_true] at h;obtain⟨el,l,m1,h⟩:=vC hΘ h;obtain⟨S3,g5,g6,g7,h⟩:=eC (v:=V.v (.cl (.c (.ls el l)))) hS trivial h
   have hst:dh o=false:=by
    unfold z6 at hct;unfold dh;split at hct
    ·rename_i hop;rw[hop]
    ·cases hct
   exact glue (λ_=>by rw[g7];exact hn0) g6 h (.inr (.inl ⟨by simp[i5,hst,hct],_,.inr m1,g5⟩))
  |false=>
  rw[hct] at h;simp only[cond_false] at h;cases hs:dh o with
  |true=>
   rw[hs] at h;simp only[cond_true] at h;obtain⟨hc,h⟩:=dj h;obtain⟨D,v,S2,hD,g2,g3,g4,h⟩:=jo hΘ hY hS h;obtain⟨S3,g5,g6,g7,h⟩:=eC g3 g4 h;rcases Bool.or_eq_true_iff.1 hc with hc|hc
   ·have hst:=eN.store hD hok hs (wA hΘ hc) g2 g5 (n0:=n0);exact glue (λ_=>aR hn0 hst.ng) g6 h (.inl ⟨by simp[i5,hs],hst⟩)
   ·simp only[aj,cT,ar,bn,ba] at hc;exact glue (λhne=>absurd hc.1 hne) g6 h (.inr (.inr ⟨hc.1,hs,vb.one hD hok (by unfold one;rw[g2];exact g5),hc.2⟩))
  |false=>
  rw[hs] at h;simp only[cond_false] at h;cases hn:dS o with
  |true=>
   rw[hn] at h;simp only[cond_true] at h;have hv:i5 o=true:=by simp[i5,hn,hct]
   cases hfl: !gD o&&pc Θ o with
   |true=>simp only[hfl,Bool.true_or,cond_true] at h;simp only[aj,bB] at hfl;obtain⟨D,v,S2,hD,g2,g3,g4,h⟩:=jo hΘ hY hS h;obtain⟨S3,g5,g6,g7,h⟩:=eC g3 g4 h;have hst:=eN.flat hD hok hn hfl.1 (uy hΘ hfl.2) g2 g5 (n0:=n0) hn0;exact glue (λ_=>aR hn0 hst.ng) g6 h (.inl ⟨hv,hst⟩)
   |false=>
    simp only[hfl,bV] at h;cases hfb:xG Θ o&&s9 S o with
    |false=>
     obtain⟨D,v,S2,hD,g2,g3,g4,h⟩:=jo hΘ hY hS h
     grind
    |true=>
     have hfb':=hfb;simp only[aj] at hfb';obtain⟨D,v0,v,adds,cons,S2,hD,g2,g3,g4,g8,g9,g10,h⟩:=tQ hΘ hY hS hn hfb'.1 hfb'.2 h;simp only[hfb,df] at h;obtain⟨hc,h⟩:=dj h;obtain⟨S3,g5,g6,g7,h⟩:=eC g9 g10 h
     have hst:eN P n0 S.st o S3.st:=eN.new hD hok hn g2 (by rw[g4,g3];exact g5) hn0 λha r hr=>by
      rw[ha,bV] at hc;have e:gone 0 S.gh S2.gh=cons:=congrArg ej.cons g8
      simp_all
     exact glue (λ_=>aR hn0 hst.ng) g6 h (.inl ⟨hv,hst⟩)
  |false=>rw[hn] at h;simp only[cond_false] at h;obtain⟨hp,h⟩:=dj h;obtain⟨v,S2,m1,m2,m3,m4,m5,h⟩:=lG (D:=xp) hΘ hS h;obtain⟨S3,g5,g6,g7,h⟩:=eC m3 (by rw[m4];exact m5) h;refine glue (λ_=>by rw[g7,m4];exact hn0) g6 h (.inr (.inl ⟨by simp[i5,hs,hn],v.av,.inl ⟨hn,hok,m1,hp⟩,by rw[<-m2];exact g5⟩))
theorem xC[dp](hΘ:dQ P Θ)(hY:eV P Y)(hm:P.follows .mixedOrders=true){id:Nat}{ops:Array Oper}(hok:eY P (.region id ops true)=true)(hS:S.ok){κ:TS->Option ρ}{r:ρ}(h:zm Θ Y ops.toList S κ=some r):
  gb P (.region id ops true) S.st (λx S'=>x= .nor/\ ∃S1:TS,S'=S1.st/\S1.ok/\κ S1=some r):=by
 unfold zm at h;simp only[eY] at hok;cases hc:qh ops||(ops.toList.any (Bg Y)&&yV ops) with
 |true=>
  rw[show (qh ops.toList.toArray||(ops.toList.any (Bg Y)&&yV ops.toList.toArray))=true from hc] at h;simp only[cond_true] at h
  have hph:yV ops=true:=by
   unfold qh at hc;simp only[bi,aj] at hc;rcases hc with hc|hc
   ·exact hc.2
   ·exact hc.2
  obtain⟨T,S',t1,t2,h2,h3,hT⟩:=xA hΘ hY ops.toList 0 S κ r (λo ho=>ar.1 hok o ho) (λ_=>au _) hS h;have hsz:ops.toList.length=ops.size:=by simp
  rw[aL,hsz] at t2;have tl: ∀ {i:Nat} {o:Oper},ops[i]? =some o->ops.toList[i]? =some o:=by intro i o h;simpa using h
  by_cases hl: ∃o,ops[ops.size-1]? =some o/\ ¬og P S.st.ng ops.toList (dM ops.toList) T (ops.size-1) o
  ·obtain⟨o,ho,hnp⟩:=hl;have hlt:=(ay.1 ho).1;refine gb.phase hm (qZ hph) T t1 (m:=ops.size-1) (.inr ⟨by omega,o,ho,?_⟩) (λi o hi ho=> ?_) ⟨rfl,S',t2,h2,h3⟩
   ·have:=hT _ o (tl ho);rw[aL] at this;rcases this with h|h
    ·exact absurd h hnp
    ·exact⟨h.2.1,h.2.2.1,h.2.2.2⟩
   ·have:=hT _ o (tl ho);rw[aL] at this;rcases this with h|h
    ·exact h
    ·omega
  ·refine gb.phase hm (qZ hph) T t1 (m:=ops.size) (.inl rfl) (λi o hi ho=> ?_) ⟨rfl,S',t2,h2,h3⟩;have:=hT _ o (tl ho);rw[aL] at this;rcases this with h|h
   ·exact h
   grind
 |false=>
 rw[show (qh ops.toList.toArray||(ops.toList.any (Bg Y)&&yV ops.toList.toArray))=false from hc] at h;simp only[cond_false] at h;obtain⟨hd,h⟩:=dj h;have hd:tg ops=true:=hd;obtain⟨S0,h0,hS0,h⟩:=yf hΘ _ _ _ _ hS h;obtain⟨D,SV,ms,h1,h2,h3,h4⟩:=xz hΘ hY _ _ _ _ _ hS0 h;obtain⟨h5,h6⟩:=dj h4;rw[bC] at h5;obtain⟨S',h7,h8,h9⟩:=xD (D:=D) (ops:=ops) hΘ hY _ _ _ _ h3 h6;exact gb.draw h1 hm (by unfold mO;rw[hd,hok];rfl) h0 h2 (uu (tw hΘ) h5) h7 ⟨rfl,S',rfl,h8,h9⟩
def dK:Code->List Code
 | .seq a b=>dK a++dK b
 | .cond _ a b=>dK a++dK b
 | .block _ c=>dK c
 | .loop c=> [c]
 | _=> []
def eg[dp](P:Program)(Λ:fH)(cs:List Code):Prop:=∀c∈cs,∀ (S:TS) (ρ:Type) (κ:X->TS->Option ρ) (r:ρ),S.ok->Λ (eU c) S ρ κ=some r->gb P (.loop c) S.st (λx S'=> ∃S1:TS,S'=S1.st/\S1.ok/\κ x S1=some r)
theorem o8[dp](hΘ:dQ P Θ)(hY:eV P Y)(hm:P.follows .mixedOrders=true){Λ:fH}: ∀ (c:Code) (S:TS) (κ:X->TS->Option ρ) (r:ρ),eY P c=true->eg P Λ (dK c)->S.ok->ld Θ Y Λ c S κ=some r->
  gb P c S.st (λx S'=> ∃S1:TS,S'=S1.st/\S1.ok/\κ x S1=some r):=by
 intro c
 induction c with
 |skip=>intro S κ r _ _ hS h;exact gb.skip ⟨S,rfl,hS,h⟩
 |exit i=>intro S κ r _ _ hS h;exact gb.exit ⟨S,rfl,hS,h⟩
 |ret=>intro S κ r _ _ hS h;exact gb.ret ⟨S,rfl,hS,h⟩
 |region id ops dr=>
  intro S κ r hok _ hS h;cases dr with
  |false=>exact gb.region (xB hΘ hY _ _ _ _ (λo ho=>ar.1 hok o ho) hS h)
  |true=>refine (xC hΘ hY hm hok hS h).mono (λx S' hx=> ?_);obtain⟨rfl,hx⟩:=hx;exact⟨S',fX.refl,hx⟩
 |seq a b iha ihb=>
  intro S κ r hok hL hS h;simp only[eY,aj] at hok;have hLa:eg P Λ (dK a):=λc hc=>hL c (bO _ hc);have hLb:eg P Λ (dK b):=λc hc=>hL c (List.mem_append_right _ hc);unfold ld at h;refine gb.seq ((iha S _ r hok.1 hLa hS h).mono (λx S' hx=>⟨S',fX.refl,?_⟩))
  grind
 |cond t a b iha ihb=>
  intro S κ r hok hL hS h;simp only[eY,aj] at hok
  grind [eg,dK,ld,mE,gb.cond]
 |block i c ih=>
  intro S κ r hok hL hS h;unfold ld at h;refine gb.block ((ih S _ r hok hL hS h).mono (λx S' hx=>⟨S',fX.refl,?_⟩));obtain⟨S1,rfl,h1,h2⟩:=hx;cases x with
  |nor=>exact⟨S1,rfl,h1,h2⟩
  |ret=>exact⟨S1,rfl,h1,h2⟩
  |ext j=>
   simp only at h2 ⊢;cases hb:Nat.beq j i with
   |true=>rw[hb] at h2;rw[if_pos (ak hb)];exact⟨S1,rfl,h1,h2⟩
   |false=>rw[hb] at h2;rw[if_neg (by grind [Nat.beq_refl])];exact⟨S1,rfl,h1,h2⟩
 |loop c ih=>intro S κ r hok hL hS h;exact hL c (aH.2 rfl) S ρ κ r hS h
 | _=>intro S κ r hok;cases hok
end
end
section
open Go
section
variable {ρ:Type} {P:Program} {Θ:ft} {S:TS} {Y:kA}
theorem pb(hS:S.ok){gs:List dw}{et:Option Ty}{c:Cl}(hc:c.ok S.gh){κ:Cl->List dw->TS->Option ρ}{r:ρ}(h:vw S gs et c κ=some r):
  ∃c' gs' S',jV S.st (gs.map dw.tree) (rG et) c.av=some (Cl.av c',gs'.map dw.tree,TS.st S')/\S'.ok/\ef S.gh S'.gh/\ef (gs.map some) (gs'.map some)/\c'.ok (gs'.map some)/\κ c' gs' S'=some r:=by
 have new: ∀ (t:Ty) (l:List t.D) (n:Nat),n=l.length->(Cl.own ⟨gs.length,[]⟩ t.width 0 n true).ok ((gs++ [(⟨t,l,none⟩:dw)]).map some):=by intro t l n hn;refine⟨by simp,λ_=>⟨rfl,rfl,λtr htr=> ?_⟩⟩;rw[bG] at htr;have e:=eP (G:=gs.map some) (x:=some (⟨t,l,none⟩:dw)) gs.length;simp only[aD,if_true] at e;have htr':dI (gs.map some++ [some (⟨t,l,none⟩:dw)]) gs.length=some tr:=htr;rw[e] at htr';cases htr';exact hn
 have grow: ∀ (x:dw),ef (gs.map some) ((gs++ [x]).map some):=λx=>by rw[bG];exact ef.app _ _
 unfold vw at h;split at h
 ·refine⟨_,_,_,rfl,hS,ef.refl _,ef.refl _,?_,h⟩;trivial
 ·rename_i t;refine⟨_,_,S,?_,hS,ef.refl _,grow _,new t [] 0 rfl,h⟩;simp only[Cl.av,jV,rG,aD,bG,aK,cg];rfl
 ·rename_i p sz lo len w t';obtain⟨pr,pl⟩:=p;cases pl with
  |cons a l=>cases h
  |nil=>
   simp only at h;obtain⟨h1,h'⟩:=dj h;clear h;simp only[aj] at h1;have h2:S.fz<=pr:=aq h1.1;have h3:t'.width=sz:=ak h1.2;obtain⟨t,l,k1,k2,h⟩:=dW h';obtain⟨k3,h⟩:=dj h;have k3:t.width=sz:=ak k3
   have fin0: ∀ (lo len:Nat),lo+len<=l.length->(lo=0\/sz<=3/\t.flatB=true)->jV S.st (gs.map dw.tree) (rG (some t')) (.own ⟨pr,[]⟩ sz lo len)=some (.own ⟨gs.length,[]⟩ sz 0 len,(gs++ [(⟨t,(l.drop lo).take len,none⟩:dw)]).map dw.tree,({ S with gh:=dH S.gh pr none }:TS).st):=by
    intro lo len hlen hoff;simp only[jV];have hrows:S.st.rows ⟨pr,[]⟩ sz=some (l.map t.row):=by rw[<-k3];exact eL k1
    rw[if_pos ⟨trivial,by show sz=t'.width;exact h3.symm,h2⟩,hrows];simp only[al,aD];rw[if_pos ⟨hlen,hoff.imp id λh=>⟨h.1,iq h.2 l⟩⟩,kS];simp only[rG,h3,bG,aK,cg,dw.tree,bX,co,k3]
   have fin: ∀ (len:Nat),len<=l.length->jV S.st (gs.map dw.tree) (rG (some t')) (.own ⟨pr,[]⟩ sz 0 len)=some (.own ⟨gs.length,[]⟩ sz 0 len,(gs++ [(⟨t,l.take len,none⟩:dw)]).map dw.tree,({ S with gh:=dH S.gh pr none }:TS).st):=λlen hlen=>by
    have:=fin0 0 len (by omega) (.inl rfl)
    rwa [ct] at this
   cases w with
   |true=>
    obtain⟨e1,e2,e3⟩:=jq hc k2;refine⟨_,_,_,?_,TS.ok_gh hS (ef.gone _ _),ef.gone _ _,grow _,by rw[<-k3];exact new t l _ rfl,h⟩
    simp_all [Cl.av]
   |false=>
    simp only[cond_false] at h;rcases xS h with ⟨h4,h⟩| ⟨_,h⟩
    case inr=>
     obtain⟨hz,h⟩:=dj h;simp only[aj] at hz;obtain⟨h4,h⟩:=dE h;refine⟨_,_,_,?_,TS.ok_gh hS (ef.gone _ _),ef.gone _ _,grow _,by rw[<-k3];exact new t ((l.drop lo).take len) _ rfl,h⟩;have:=fin0 lo len h4 (.inr ⟨aq hz.2,hz.1⟩);have hl: ((l.drop lo).take len).length=len:=by simp;omega
     simp only[Cl.av];rw[hl];exact this
    case inl=>
     refine⟨_,_,_,?_,TS.ok_gh hS (ef.gone _ _),ef.gone _ _,grow _,by rw[<-k3];exact new t (l.take len) _ rfl,h⟩
     grind [Cl.av]
 ·rename_i p sz i j;obtain⟨pr,pl⟩:=p;cases pl with
  |cons a l=>cases h
  |nil=>
   simp only at h;obtain⟨h1,h'⟩:=dj h;clear h;obtain⟨t,l,k1,k2,h⟩:=dW h';obtain⟨k3,h⟩:=dj h;have k3:t.width=sz:=ak k3;have hrows:S.st.rows ⟨pr,[]⟩ sz=some (l.map t.row):=by rw[<-k3];exact eL k1
   refine⟨_,_,_,?_,TS.ok_gh hS (ef.gone _ _),ef.gone _ _,grow _,?_,h⟩
   ·simp only[Cl.av,jV];rw[if_pos ⟨trivial,aq h1⟩,hrows];simp only[al,kS,aD,bG,aK,cg,dw.tree,k3]
   ·show gs.length< ((gs++ [(⟨t,l,none⟩:dw)]).map some).length;simp
 ·cases h
theorem vx: ∀ (ets:List (Option Ty)) (cs:List Cl) (S:TS) (gs:List dw) (κ:List Cl->List dw->TS->Option ρ) (r:ρ),S.ok->(∀c∈cs,c.ok S.gh)->tj S gs ets cs κ=some r->
  ∃cs' gs' S',iC S.st (gs.map dw.tree) (ets.map rG) (cs.map Cl.av)=some (cs'.map Cl.av,gs'.map dw.tree,TS.st S')/\S'.ok/\ef S.gh S'.gh/\ef (gs.map some) (gs'.map some)/\(∀c∈cs',c.ok (gs'.map some))/\κ cs' gs' S'=some r:=by
 intro ets
 induction ets with
 |nil=>
  intro cs S gs κ r hS hcs h;cases cs with
  |nil=>exact⟨[],gs,S,rfl,hS,ef.refl _,ef.refl _,(λc hc=>by cases hc),h⟩
  |cons c cs=>cases h
 |cons et ets ih=>
  intro cs S gs κ r hS hcs h;cases cs with
  |nil=>cases h
  |cons c cs=>
   unfold tj at h;obtain⟨c',g1,S1,h1,h2,h3,h4,h5,h⟩:=pb hS (hcs c aF) h;obtain⟨cs',g2,S2,k1,k2,k3,k4,k5,h⟩:=ih cs S1 g1 _ r h2 (λx hx=>Cl.ok_mono h3 (hcs x (aE _ hx))) h;refine⟨c'::cs',g2,S2,?_,k2,h3.trans k3,h4.trans k4,λx hx=> ?_,h⟩
   ·simp only[aK,iC,h1,al,k1,aA]
   ·rcases aU.1 hx with rfl|hx
    all_goals grind [Cl.ok_mono]
theorem xE(hΘ:dQ P Θ)(hS:S.ok){gs:List dw}{t:TypeId}{v:V}(hv:v.ok S.gh){κ:V1->List dw->TS->Option ρ}{r:ρ}(h:zn Θ S gs t v κ=some r):
  ∃v' gs' S',uv P S.st (gs.map dw.tree) t v.av=some (V1.av v',gs'.map dw.tree,TS.st S')/\S'.ok/\ef S.gh S'.gh/\ef (gs.map some) (gs'.map some)/\v'.ok (gs'.map some)/\κ v' gs' S'=some r:=by
 unfold zn at h;split at h
 ·rename_i p sz i j;obtain⟨c',g1,S1,h1,h2,h3,h4,h5,h⟩:=pb hS (show Cl.ok S.gh (.ptrT p sz i j) from hv) h;exact⟨.cl c',g1,S1,h1,h2,h3,h4,h5,h⟩
 split at h
 ·cases h
 ·rename_i ti hti;have hsh:=(hΘ _ _ hti).sh;split at h
  ·rename_i cs _;obtain⟨cs',g1,S1,h1,h2,h3,h4,h5,h⟩:=vx _ _ _ _ _ _ hS hv h;refine⟨.agg cs',g1,S1,?_,h2,h3,h4,h5,h⟩;simp only[V.av,V1.av,uv,hsh];rw[show ti.ty.shs=ti.ty.csh.map rG from rfl,h1];rfl
  ·rename_i c _;obtain⟨c',g1,S1,h1,h2,h3,h4,h5,h⟩:=pb hS hv h;refine⟨.cl c',g1,S1,?_,h2,h3,h4,h5,h⟩
   have e:uv P S.st (gs.map dw.tree) t (V.v (.cl c)).av=jV S.st (gs.map dw.tree) ((fE P 9 t).headD 0) c.av:=by
    cases c with
    |c x=>cases x<;>rfl
    | _=>rfl
   rw[e,hsh]
   have e2:ti.ty.shs.headD 0=rG (ti.ty.csh.headD none):=by
    unfold Ty.shs;cases ti.ty.csh with
    |nil=>rfl
    |cons a l=>cases a<;>rfl
   rw[e2];exact h1
  ·cases h
theorem vy(hΘ:dQ P Θ): ∀ (rs:List (TypeId×V)) (S:TS) (gs:List dw) (κ:List V1->List dw->Option ρ) (r:ρ),S.ok->(∀x∈rs,x.2.ok S.gh)->qu Θ S gs rs κ=some r->
  ∃vs gs',rZ P S.st (gs.map dw.tree) (rs.map λx=>(x.1,x.2.av))=some (vs.map V1.av,gs'.map dw.tree)/\ef (gs.map some) (gs'.map some)/\(∀v∈vs,v.ok (gs'.map some))/\vs.length=rs.length/\κ vs gs'=some r:=by
 intro rs
 induction rs with
 |nil=>intro S gs κ r hS hrs h;exact⟨[],gs,rfl,ef.refl _,(λv hv=>by cases hv),rfl,h⟩
 |cons x rs ih=>
  intro S gs κ r hS hrs h;obtain⟨t,v⟩:=x;unfold qu at h;obtain⟨v',g1,S1,h1,h2,h3,h4,h5,h⟩:=xE hΘ hS (hrs _ aF) h;obtain⟨vs,g2,k1,k2,k3,k4,h⟩:=ih S1 g1 _ r h2 (λx hx=>V.ok_mono h3 (hrs x (aE _ hx))) h;refine⟨v'::vs,g2,?_,h4.trans k2,λy hy=> ?_,by simp[k4],h⟩
  ·simp only[aK,rZ,h1,al,k1,aA]
  ·rcases aU.1 hy with rfl|hy
   all_goals grind [V1.ok_mono]
theorem yk(hΘ:dQ P Θ)(hS:S.ok): ∀ (rs:List ResultVar) (ts:List TypeId) (κ:List (TypeId×V)->Option ρ) (r:ρ),sB Θ S rs ts κ=some r->
  ∃l:List (TypeId×V),rs.mapM (lX P S.st)=some (l.map λx=>x.2.av)/\l.map (·.1)=ts/\(∀x∈l,x.2.ok S.gh)/\κ l=some r:=by
 intro rs
 induction rs with
 |nil=>
  intro ts κ r h;cases ts with
  |nil=>exact⟨[],rfl,rfl,(λx hx=>by cases hx),h⟩
  |cons t ts=>cases h
 |cons a rs ih=>
  intro ts κ r h;cases ts with
  |nil=>cases a<;>cases h
  |cons t ts=>
   cases a with
   |tmp a=>
    unfold sB at h;obtain⟨l,h1,h2,h3,h⟩:=ih ts _ r h;refine⟨(t,en S.env a)::l,?_,by simp[h2],λx hx=> ?_,h⟩
    ·simp only[cu,h1,lX];rfl
    ·rcases aU.1 hx with rfl|hx
     all_goals grind [mg]
   |cell a t'=>
    unfold sB at h
    have hw:0<P.cellsOf t':=by
     have h':=h;unfold qK at h';split at h'
     ·rename_i ti hti;rw[(hΘ _ _ hti).cells];exact Ty.width_pos _
     ·cases h'
    obtain⟨u,g1,g2,h⟩:=qL hΘ hS (mg hS a) h;obtain⟨l,h1,h2,h3,h⟩:=ih ts _ r h;refine⟨(t,u)::l,?_,by simp[h2],λx hx=> ?_,h⟩
    ·simp only[cu,h1,lX];rw[if_pos hw];have :load P S.st t' (S.st.env a)=some u.av:=g1;rw[this];rfl
    grind
theorem yC{α β γ:Type}(f:α×β->γ): ∀l:List (α×β),(l.map (·.1)).zip (l.map f)=l.map λx=>(x.1,f x)
 | [] =>rfl
 |a::l=>by grind
theorem yc(vs:List V1): (pA vs).av=AD (vs.map V1.av):=by
 match vs with
 | [] =>rfl
 | [v] =>rfl
 |v::u::vs=>rfl
theorem nh: ∀ (args:List V1) (n t:Nat),(en (gJ n args) (n+t)).av=(args.map V1.av).getD t .dead
 | [],n,t=>by simp[gJ,en];rfl
 |a::l,n,0=>by simp[gJ,en];rfl
 |a::l,n,t+1=>by
  have :Nat.beq n (n+(t+1))=false:=by
   cases h:Nat.beq n (n+(t+1)) with
   |false=>rfl
   |true=>have:=ak h;omega
  simp only[gJ,en,this,cond_false];rw[show n+(t+1)=(n+1)+t by omega,nh l (n+1) t];simp
theorem ni: ∀ (args:List V1) (n:Nat) (x:Nat×V),x∈gJ n args-> ∃a∈args,x.2= .v a
 | [],n,x,h=>by cases h
 |a::l,n,x,h=>by
  simp only[gJ,aU] at h;rcases h with rfl|h
  ·exact⟨a,aF,rfl⟩
  ·obtain⟨b,hb,he⟩:=ni l (n+1) x h;exact⟨b,aE _ hb,he⟩
theorem qW(a:List V1)(t:Nat): (en (gJ 0 a) t).av=(a.map V1.av).getD t .dead:=by
 have:=nh a 0 t
 rwa [aL] at this
theorem sP(_P:Program)(S:TS): ∀ (n r:Nat) (gs:List dw),jK S r n=some gs->((List.range' r n).map λr=>(S.st.gh r).getD .dd)=gs.map dw.tree:=by
 intro n
 induction n with
 |zero=>simp_all [jK]
 |succ n ih=>
  intro r gs h;simp only[jK] at h;split at h
  ·rename_i t l hg;split at h
   ·rename_i ts hts;simp only[ae] at h;subst h;rw[cf,aK,aK,ih _ _ hts]
    congr 1
    show ((dI S.gh r).map dw.tree).getD .dd=_;rw[hg];rfl
   ·cases h
  ·cases h
theorem sb[dp](hΘ:dQ P Θ)(hY:eV P Y)(hm:P.follows .mixedOrders=true){Λ:fH}{f:FuncId}{fn:Func}(hf:pR P f=some fn)(hL: ∀c,fn.body=some c->eg P Λ (dK c)){args:List V1}{G:List dw}{m:Nat}(hmG:m<=G.length)(ha: ∀a∈args,a.ok (G.map some)){res:V}{out:List dw}
  (h:Ap Θ Y Λ fn args G m (λv g=>some (v,g))=some (res,out)):ew P f (args.map V1.av) (G.map dw.tree) m res.av (out.map dw.tree):=by
 unfold Ap at h;split at h
 ·cases h
 ·rename_i c hc
  have hcok:eY P c=true:=by
   unfold pR at hf;simp only[af] at hf;obtain⟨fn',g1,g2⟩:=hf;split at g2
   ·cases g2
   ·grind
  have hS0: ({ env:=gJ 0 args,bx:=[],gh:=G.map some,fz:=m,nt:=args.length+(fn.ntmps-args.length) }:TS).ok:=
   ⟨λx hx=>by obtain⟨a,h1,h2⟩:=ni _ _ _ hx;rw[h2];exact ha a h1,λcs hcs=>by cases hcs⟩
  have hbeg: ({ env:=gJ 0 args,bx:=[],gh:=G.map some,fz:=m,nt:=args.length+(fn.ntmps-args.length) }:TS).st=ue fn.ntmps (args.map V1.av) (G.map dw.tree) m:=by
   unfold TS.st ue zi;simp only[aD,bQ]
   congr 1
   ·funext t
    exact qW _ t
   ·funext r
    show (dI (G.map some) r).map dw.tree=(G.map dw.tree)[r]?;unfold dI;rw[dN,ap,ap];cases G[r]?<;>rfl
  have hW:=o8 hΘ hY hm c _ _ _ hcok (hL c hc) hS0 h;rw[hbeg] at hW
  have main: ∀ (S1:TS),S1.ok->(sB Θ S1 fn.results.toList fn.resultTypes.toList λrs=>match jK S1 0 m with
    |some gs=>qu Θ S1 gs rs λvs gs'=>some (pA vs,gs')
    |none=>none)=some (res,out)->vt P fn.results.toList fn.resultTypes.toList m S1.st=some (res.av,out.map dw.tree):=by
   intro S1 hS1 h0;obtain⟨l,h1,h2,h3,h⟩:=yk (P:=P) hΘ hS1 _ _ _ _ h0;clear h0;split at h
   ·rename_i gs hgs;have hgs:=sP P S1 m 0 gs hgs;obtain⟨vs,gs',k1,k2,k3,k4,h⟩:=vy (P:=P) hΘ _ _ _ _ _ hS1 h3 h;simp only[ae,ao] at h;obtain⟨rfl,rfl⟩:=h;unfold vt;rw[h1];simp only[al,aD]
    have hz: (fn.resultTypes.toList.zip (l.map λx=>x.2.av))=l.map λx=>(x.1,x.2.av):=by rw[<-h2];exact yC _ l
    rw[if_pos (by rw[<-h2];simp),hz,bP,hgs,k1];simp only[aA,yc]
   ·cases h
  refine pZ hf hc (by simpa using hmG) (hW.mono (λx S' hx=>⟨S',fX.refl,?_⟩))
  grind
theorem vZ{G:List (Option dw)}{a:V1}(h:a.ok []):a.ok G:=V1.ok_mono (G:=[]) ⟨bL _,λr tr hr=>by cases hr⟩ h
theorem zp[dp](hΘ:dQ P Θ)(hY:eV P Y)(hm:P.follows .mixedOrders=true){Λ:fH}{f:FuncId}{fn:Func}(hf:pR P f=some fn)(hL: ∀c,fn.body=some c->eg P Λ (dK c)){args:List V1}(ha: ∀a∈args,a.ok []){res:V}{out:List dw}
  (h:Bb Θ Y Λ fn args (λv g=>some (v,g))=some (res,out)):gy P f (args.map V1.av) [] res.av (out.map dw.tree):=sb hΘ hY hm hf hL (bL 0) ha h
theorem tB[dp](hΘ:dQ P Θ)(hY:eV P Y)(hm:P.follows .mixedOrders=true){Λ:fH}{f:FuncId}{fn:Func}(hf:pR P f=some fn)(hL: ∀c,fn.body=some c->eg P Λ (dK c)){m:Nat}(hm1:m<=1){el:Ty}{l:List el.D}{args:List V1}(ha: ∀a∈args,a.ok []){res:V}{out:List dw}
  (h:vA Θ Y Λ fn m el l args (λv g=>some (v,g))=some (res,out)):ew P f (.own ⟨0,[]⟩ el.width 0 l.length::args.map V1.av) [.sl el.width (l.map el.row)] m res.av (out.map dw.tree):=
 sb hΘ hY hm hf hL (args:=.cl (.own ⟨0,[]⟩ el.width 0 l.length true)::args) (G:=[⟨el,l,none⟩]) hm1 (List.forall_mem_cons.2 ⟨⟨cn,λ_=>⟨rfl,rfl,λtr htr=>by have htr:some (⟨el,l,none⟩:dw)=some tr:=htr;cases htr;rfl⟩⟩,λa h=>vZ (ha a h)⟩) h
theorem xJ[dp](hΘ:dQ P Θ)(hY:eV P Y)(hm:P.follows .mixedOrders=true){Λ:fH}{f:FuncId}{fn:Func}(hf:pR P f=some fn)(hL: ∀c,fn.body=some c->eg P Λ (dK c)){el:Ty}{l:List el.D}{args:List V1}(ha: ∀a∈args,a.ok []){res:V}{out:List dw}
  (h:zq Θ Y Λ fn el l args (λv g=>some (v,g))=some (res,out)):ew P f (.ptrT ⟨0,[]⟩ el.width 0 0::args.map V1.av) [.sl el.width (l.map el.row)] 1 res.av (out.map dw.tree):=
 sb hΘ hY hm hf hL (args:=.cl (.ptrT ⟨0,[]⟩ el.width 0 0)::args) (G:=[⟨el,l,none⟩]) (au 1) (List.forall_mem_cons.2 ⟨cn,λa h=>vZ (ha a h)⟩) h
end
end
section
open Go
def mc:List Nat->Nat->Nat->Option Nat
 | [],_,_=>none
 |a::l,x,n=>bif Nat.beq a x then some n else mc l x (n+1)
def kj(bs ls:List Nat):Cl->Cl
 | .own p sz lo len w=>match mc ls p.r 0 with |some k=> .own ⟨k,p.l⟩ sz lo len w|none=> .dead
 | .ptrT p sz i j=>match mc ls p.r 0 with |some k=> .ptrT ⟨k,p.l⟩ sz i j|none=> .dead
 | .ptrB n j=>match mc bs n 0 with |some k=> .ptrB k j|none=> .dead
 |c=>c
def wk(bs ls:List Nat):V1->V1
 | .cl c=> .cl (kj bs ls c)
 | .agg cs=> .agg (cs.map (kj bs ls))
 | .fn f cs=> .fn f (cs.map (kj bs ls))
def wj(bs ls:List Nat):V->V
 | .v x=> .v (wk bs ls x)
 | .tup _=>V.dead
def tf:List Nat->List Nat->List Nat
 | [],acc=>acc
 |a::l,acc=>match mc acc a 0 with |some _=>tf l acc|none=>tf l (acc++ [a])
def ne:List Nat->Bool
 | [] =>true
 |a::l=>(match mc l a 0 with |some _=>false|none=>true)&&ne l
def Bp:Cl->List Nat| .ptrB n _=> [n] | _=> []
def Ay:Cl->List Nat| .own p _ _ _ _=> [p.r] | .ptrT p _ _ _=> [p.r] | _=> []
def V1.all:V1->List Cl| .cl c=> [c] | .agg cs=>cs| .fn _ cs=>cs
def V.all:V->List Cl| .v x=>x.all| .tup _=> []
def tH(S:TS)(keep:List Nat):List Nat:=tf (keep.flatMap λt=>(en S.env t).all.flatMap Bp) []
def yR(S:TS)(keep bs:List Nat):List Nat:=tf (List.range S.fz++(keep.flatMap λt=>(en S.env t).all.flatMap Ay)++bs.flatMap λb=>((fR S.bx b).getD []).flatMap Ay) []
def ey(S:TS)(keep bs ls:List Nat):TS where
 env:=keep.map λt=>(t,wj bs ls (en S.env t))
 bx:=bs.map λb=>((fR S.bx b).getD []).map (kj bs ls)
 gh:=ls.map λr=>dI S.gh r
 fz:=S.fz
 nt:=S.nt
def o3(S:TS)(bs ls:List Nat):Bool:=ne bs&&ne ls&&bs.all (λb=>Nat.blt b S.bx.length)&&z8 (ls.take S.fz) (List.range S.fz)&&ls.all (λr=>Nat.blt r S.gh.length)
def uw(G:List (Option dw)):Cl->Cl
 | .own p sz lo len true=> .own p sz lo (match fR G p.r with |some (some tr)=>tr.l.length| _=>len) true
 |c=>c
def vz(G:List (Option dw)):V1->V1
 | .cl c=> .cl (uw G c)
 | .agg cs=> .agg (cs.map (uw G))
 | .fn f cs=> .fn f (cs.map (uw G))
def Ao(G:List (Option dw)):V->V
 | .v x=> .v (vz G x)
 | .tup l=> .tup (l.map (vz G))
def zo(S:TS):TS:={ S with env:=S.env.map (λx=>(x.1,Ao S.gh x.2)),bx:=S.bx.map (λcs=>cs.map (uw S.gh)) }
def k9{ρ:Type}(keep:List Nat)(S:TS)(κ:TS->Option ρ):Option ρ:=bif o3 S (tH S keep) (yR S keep (tH S keep)) then κ (zo (ey S keep (tH S keep) (yR S keep (tH S keep)))) else none
theorem lz: ∀ {l:List Nat} {x n k:Nat},mc l x n=some k->n<=k/\l[k-n]? =some x
 | [],x,n,k,h=>by cases h
 |a::l,x,n,k,h=>by
  simp only[mc] at h;cases hb:Nat.beq a x with
  |true=>simp_all
  |false=>
   rw[hb] at h;obtain⟨h1,h2⟩:=lz (l:=l) h
   grind
theorem oH: ∀ {l:List Nat} {x n:Nat},mc l x n=none->x∉l
 | [],x,n,_=>by simp
 |a::l,x,n,h=>by
  simp only[mc] at h;cases hb:Nat.beq a x with
  |true=>rw[hb] at h;cases h
  |false=>
   rw[hb] at h;have:=oH (l:=l) h;intro hm
   simp_all
theorem ke: ∀ {l:List Nat},ne l=true-> ∀ (i j x:Nat),l[i]? =some x->l[j]? =some x->i=j
 | [],_,i,j,x,hi,_=>by simp at hi
 |a::l,h,i,j,x,hi,hj=>by
  simp only[ne,aj] at h
  have hna:a∉l:=by
   have h1:=h.1;split at h1
   ·cases h1
   ·rename_i hp;exact oH hp
  cases i with
  |zero=>
   simp only[aG,ae] at hi;subst hi;cases j with
   |zero=>rfl
   |succ j=>simp only[cb] at hj;exact absurd (aw hj) hna
  |succ i=>
   simp only[cb] at hi;cases j with
   |zero=>simp only[aG,ae] at hj;subst hj;exact absurd (aw hi) hna
   |succ j=>simp only[cb] at hj;rw[ke h.2 i j x hi hj]
def Bt.ren(bt:Bt)(bs ls:List Nat):Bt where
 β:=λp=>bt.β ⟨ls.getD p.r 0,p.l⟩
 κ:=λp=>bt.κ ⟨ls.getD p.r 0,p.l⟩
 bb:=λn=>bt.bb (bs.getD n 0)
 nb:=bs.length
 ng:=ls.length
 A:=bt.A
theorem pD{w:World}{bt:Bt}{bs ls:List Nat}{c:Cl}{u:Value}(h:VR w bt c.av u):VR w (bt.ren bs ls) (kj bs ls c).av u:=by
 have lt: ∀ {l:List Nat} {x k:Nat},mc l x 0=some k->k<l.length/\l.getD k 0=x:=by intro l x k hk;obtain⟨_,h2⟩:=lz hk;rw[Nat.sub_zero] at h2;exact⟨(ah.1 h2).1,by simp[ax,h2]⟩
 cases c with
 |c x=>
  cases x with
  |sc v=>cases h with |sc h=>exact .sc h
  |ls t l=>cases h with |ro h=>exact .ro h
 |em=>cases h with |em a=>exact .em a
 |own p sz lo len wh=>
  simp only[kj];split
  ·rename_i k hk;obtain⟨h1,h2⟩:=lt hk;have hp: (⟨ls.getD k 0,p.l⟩:dA)=p:=by rw[h2]
   have e1: (bt.ren bs ls).κ ⟨k,p.l⟩=bt.κ p:=by have e: (bt.ren bs ls).κ ⟨k,p.l⟩=bt.κ (dA.mk (ls.getD k 0) p.l):=rfl;rw[e,hp]
   have e2: (bt.ren bs ls).β ⟨k,p.l⟩=bt.β p:=by have e: (bt.ren bs ls).β ⟨k,p.l⟩=bt.β (dA.mk (ls.getD k 0) p.l):=rfl;rw[e,hp]
   cases h with
   |own hp' hc hkk ha=>exact .own h1 hc (by rw[e1];exact hkk) (by rw[e2];exact ha)
  ·exact .dead _
 |pro cs=>cases h with |pro cs hs hA hr ht=>exact .pro cs hs hA hr ht
 |ptrB n j=>
  simp only[kj];split
  ·rename_i k hk;obtain⟨h1,h2⟩:=lt hk;cases h with
   |ptrB j hn=>
    have :bt.bb n=(bt.ren bs ls).bb k:=by show bt.bb n=bt.bb (bs.getD k 0);rw[h2]
    rw[this];exact .ptrB j h1
  ·exact .dead _
 |ptrT p sz i j=>
  simp only[kj];split
  ·rename_i k hk;obtain⟨h1,h2⟩:=lt hk;have hp: (⟨ls.getD k 0,p.l⟩:dA)=p:=by rw[h2]
   cases h with
   |ptrT sz i j hp' hkk=>
    have e1:bt.β p=(bt.ren bs ls).β ⟨k,p.l⟩:=by show bt.β p=bt.β ⟨ls.getD k 0,p.l⟩;rw[hp]
    rw[e1];exact .ptrT sz i j h1 (by show _<bt.κ ⟨ls.getD k 0,p.l⟩;rw[hp];exact hkk)
  ·exact .dead _
 |dead=>exact .dead _
theorem wl{w:World}{bt:Bt}{bs ls:List Nat}{v:V1}{u:Value}(h:VR w bt v.av u):VR w (bt.ren bs ls) (wk bs ls v).av u:=by
 have cells: ∀ (cs:List Cl) (us:List Value),us.length=cs.length->(∀ (k:Nat) (c:AV) (u:Value),(cs.map Cl.av)[k]? =some c->us[k]? =some u->VR w bt c u)-> ∀ (k:Nat) (c:AV) (u:Value),((cs.map (kj bs ls)).map Cl.av)[k]? =some c->us[k]? =some u->VR w (bt.ren bs ls) c u:=by intro cs us _ hr k c u hk hu;rw[ap,ap] at hk;simp only[ai] at hk;obtain⟨c1,⟨c0,hc0,rfl⟩,rfl⟩:=hk;exact pD (hr k c0.av u (by rw[ap,hc0];rfl) hu)
 cases v with
 |cl c=>exact pD h
 |agg cs=>
  simp only[V1.av] at h;cases h with
  |agg hl ho hr=>exact .agg (by simpa using hl) ho (cells cs _ (by simpa using hl) hr)
 |fn f cs=>
  simp only[V1.av] at h;cases h with
  |fn f hl hr=>exact .fn f (by simpa using hl) (cells cs _ (by simpa using hl) hr)
theorem yi{w:World}{bt:Bt}{bs ls:List Nat}{v:V}{u:Value}(h:VR w bt v.av u):VR w (bt.ren bs ls) (wj bs ls v).av u:=by
 cases v with
 |v x=>exact wl h
 |tup l=>exact .dead _
theorem ov(S:TS)(f:V->V): ∀ (keep:List Nat) (t:Nat),en (keep.map λt=>(t,f (en S.env t))) t=V.dead\/en (keep.map λt=>(t,f (en S.env t))) t=f (en S.env t)
 | [],t=> .inl rfl
 |u::l,t=>by
  simp only[aK,en];cases hb:Nat.beq u t with
  |true=>simp_all
  |false=>exact ov S f l t
theorem jE(S:TS)(keep bs ls:List Nat)(r:Nat):dI (ey S keep bs ls).gh r=(ls[r]?).bind λq=>dI S.gh q:=by show (fR (ls.map λr=>dI S.gh r) r).getD none=_;rw[dN,ap];cases ls[r]?<;>rfl
theorem rd[dp]{S:TS}{keep bs ls:List Nat}(h:o3 S bs ls=true):fX S.st (ey S keep bs ls).st:=by
 unfold o3 at h;simp only[aj] at h;obtain⟨⟨⟨⟨hnb,hnl⟩,hbs⟩,hfz⟩,hlt⟩:=h;have hfz:=mP hfz;intro w0 W btI SI bt a w hl;have inv:=hl.inv
 have hls: ∀ (k:Nat),k<S.fz->ls[k]? =some k:=by
  intro k hk;have : (ls.take S.fz)[k]? =(List.range S.fz)[k]? :=by rw[hfz]
  rw[bg,if_pos hk,List.getElem?_range hk] at this;exact this
 have look: ∀p s rs,(ey S keep bs ls).st.look p= .sl s rs-> ∃q,ls[p.r]? =some q/\S.st.look ⟨q,p.l⟩= .sl s rs/\ls.getD p.r 0=q:=by
  intro p s rs hp;unfold St.look at hp
  have e: (ey S keep bs ls).st.gh p.r=((ls[p.r]?).bind λq=>dI S.gh q).map dw.tree:=by show (dI _ _).map dw.tree=_;rw[jE]
  rw[e] at hp;cases hq:ls[p.r]? with
  |none=>rw[hq] at hp;cases hp
  |some q=>refine⟨q,rfl,?_,by simp[ax,hq]⟩;rw[hq] at hp;exact hp
 have box: ∀n cells,(ey S keep bs ls).st.bx n=some cells-> ∃b cs,bs[n]? =some b/\S.bx[b]? =some cs/\cells=(cs.map (kj bs ls)).map Cl.av/\bs.getD n 0=b:=by intro n cells hn;have hn': (fR (bs.map λb=>((fR S.bx b).getD []).map (kj bs ls)) n).map (λcs=>cs.map Cl.av)=some cells:=hn;rw[dN,ap] at hn';simp only[ai] at hn';obtain⟨x,⟨b,hb,rfl⟩,rfl⟩:=hn';have hlt':b<S.bx.length:=aq (ar.1 hbs b (aw hb));refine⟨b,S.bx[b],hb,an hlt',?_,by simp[ax,hb]⟩;rw[dN,an hlt'];rfl
 have bxS: ∀ {b:Nat} {cs:List Cl},S.bx[b]? =some cs->S.st.bx b=some (cs.map Cl.av):=by intro b cs hb;show (fR S.bx b).map _=_;rw[dN,hb];rfl
 refine⟨bt.ren bs ls,?_⟩
 refine⟨{ good:=inv.good,os:=inv.os,tape:=inv.tape,output:=inv.output,size:=inv.size,keep:=inv.keep
          nb:=by show bs.length=_;simp[TS.st,ey]
          ng:=by show ls.length=_;simp[TS.st,ey]
          bx:=λn cells hn=> ?_
          gh:=λr t hr=> ?_
          tr:=λp sz rows hp=> ?_
          inj:=λp q s rs s' rs' hp hq hk hk' he=> ?_
          bbinj:=λn m cs cs' hn hm he=> ?_
          bbtr:=λn cs p s rs hn hp hk=> ?_
          alt:=inv.alt
          atr:=λp s rs hp hk=> ?_
          abb:=λn cs hn=> ?_ },⟨hl.er.1,λt=> ?_⟩,hl.defers,hl.fz,?_,λp hp=> ?_,λr hr hn=> ?_⟩
 ·obtain⟨b,cs,h1,h2,rfl,h4⟩:=box n cells hn;obtain⟨g1,g2,arr,e,g3,g4,g5⟩:=inv.bx b _ (bxS h2);refine⟨by grind [TS.st,ey],by show _<=bt.bb (bs.getD n 0);rw[h4];exact g2,arr,e,by show w.heap[bt.bb (bs.getD n 0)]? =_;rw[h4];exact g3,by simpa using g4,λj v hj=> ?_⟩;rw[ap,ap] at hj;simp only[ai] at hj;obtain⟨c1,⟨c0,hc0,rfl⟩,rfl⟩:=hj;obtain⟨c,k1,k2,k3⟩:=g5 j c0.av (by rw[ap,hc0];rfl);exact⟨c,k1,pD k2,k3⟩
 ·grind [ey,jE,TS.st]
 ·obtain⟨q,h1,h2,h3⟩:=look p sz rows hp;obtain⟨g1,g2⟩:=inv.tr _ _ _ h2;have eκ: (bt.ren bs ls).κ p=bt.κ ⟨q,p.l⟩:=by show bt.κ ⟨ls.getD p.r 0,p.l⟩=_;rw[h3]
  have eβ: (bt.ren bs ls).β p=bt.β ⟨q,p.l⟩:=by show bt.β ⟨ls.getD p.r 0,p.l⟩=_;rw[h3]
  rw[eκ,eβ];refine⟨g1,λhk=>⟨(g2 hk).1,?_⟩⟩;obtain⟨_,cs,e,k1,k2,k3,k4⟩:=g2 hk;refine⟨cs,e,by rw[eβ];exact k1,by rw[eβ,eκ];exact k2,k3,λi r hi=> ?_⟩;obtain⟨m1,m2⟩:=k4 i r hi;refine⟨m1,λj x hj=> ?_⟩;obtain⟨c,n1,n2⟩:=m2 j x hj;refine⟨c,by rw[eβ];exact n1,?_⟩;have f1: (bt.ren bs ls).κ (p.sub i j)=bt.κ (dA.sub ⟨q,p.l⟩ i j):=by show bt.κ ⟨ls.getD p.r 0,p.l++ [(i,j)]⟩=bt.κ ⟨q,p.l++ [(i,j)]⟩;rw[h3]
  have f2: (bt.ren bs ls).β (p.sub i j)=bt.β (dA.sub ⟨q,p.l⟩ i j):=by show bt.β ⟨ls.getD p.r 0,p.l++ [(i,j)]⟩=bt.β ⟨q,p.l++ [(i,j)]⟩;rw[h3]
  cases n2 with
  |sc h=>exact .sc h
  |dd u=>exact .dd _
  |sl q1 q2 q3=>exact .sl q1 (by rw[f1];exact q2) (by rw[f2];exact q3)
 ·obtain⟨p',h1,h2,h3⟩:=look p s rs hp;obtain⟨q',g1,g2,g3⟩:=look q s' rs' hq;have:=inv.inj ⟨p',p.l⟩ ⟨q',q.l⟩ _ _ _ _ h2 g2 (by rw[<-h3];exact hk) (by rw[<-g3];exact hk') (by rw[<-h3,<-g3];exact he);simp only[dA.mk.injEq] at this;obtain⟨e1,e2⟩:=this;subst e1;have e3:=ke hnl _ _ _ h1 g1;cases p<;>simp_all
 ·obtain⟨b,c,h1,h2,_,h4⟩:=box n cs hn;obtain⟨b',c',g1,g2,_,g4⟩:=box m cs' hm
  have:=inv.bbinj b b' _ _ (bxS h2) (bxS g2) (by have he':bt.bb (bs.getD n 0)=bt.bb (bs.getD m 0):=he;rw[h4,g4] at he';exact he')
  grind [ke]
 ·obtain⟨b,c,h1,h2,_,h4⟩:=box n cs hn;obtain⟨q,g1,g2,g3⟩:=look p s rs hp;have hk':0<bt.κ ⟨ls.getD p.r 0,p.l⟩:=hk;rw[g3] at hk';show bt.bb (bs.getD n 0)≠(bt.β ⟨ls.getD p.r 0,p.l⟩).1;rw[h4,g3];exact inv.bbtr _ _ _ _ _ (bxS h2) g2 hk'
 ·obtain⟨q,g1,g2,g3⟩:=look p s rs hp;have hk':0<bt.κ ⟨ls.getD p.r 0,p.l⟩:=hk;rw[g3] at hk';show ¬bt.A (bt.β ⟨ls.getD p.r 0,p.l⟩).1;rw[g3];exact inv.atr _ _ _ g2 hk'
 ·obtain⟨b,c,h1,h2,_,h4⟩:=box n cs hn;show ¬bt.A (bt.bb (bs.getD n 0));rw[h4];exact inv.abb _ _ (bxS h2)
 ·show VR w _ (en (ey S keep bs ls).env t).av _;rcases ov S (wj bs ls) keep t with h1|h1
  ·have :en (ey S keep bs ls).env t=V.dead:=h1;rw[this];exact .dead _
  ·have :en (ey S keep bs ls).env t=wj bs ls (en S.env t):=h1;rw[this];exact yi (hl.er.2 t)
 ·show S.fz<=(ey S keep bs ls).gh.length
  grind [ey]
 ·have hp':p.r<S.fz:=by have:=hl.fz;have e:S.st.fz=S.fz:=rfl;omega
  have h3:ls.getD p.r 0=p.r:=by simp[ax,hls p.r hp']
  have:=hl.keep p hp;show bt.β ⟨ls.getD p.r 0,p.l⟩=_/\bt.κ ⟨ls.getD p.r 0,p.l⟩=_;rw[h3];exact this
 ·have hr':r<S.fz:=by have:=hl.fz;have e:S.st.fz=S.fz:=rfl;omega
  refine hl.gone r hr ?_;have hn': (dI (ey S keep bs ls).gh r).map dw.tree=none:=hn;rw[jE,hls r hr'] at hn';exact hn'
theorem mq{S:TS}{bs ls:List Nat}{keep:List Nat}{c:Cl}(h:c.ok S.gh): (kj bs ls c).ok (ey S keep bs ls).gh:=by
 have lt: ∀ {x k:Nat},mc ls x 0=some k->k< (ey S keep bs ls).gh.length/\ls[k]? =some x:=by intro x k hk;obtain⟨_,h2⟩:=lz hk;rw[Nat.sub_zero] at h2;exact⟨by grind [ey],h2⟩
 cases c with
 |own p sz lo len w=>
  simp only[kj];split
  ·rename_i k hk;obtain⟨h1,h2⟩:=lt hk;refine⟨h1,λhw=> ?_⟩;obtain⟨a,b,c⟩:=h.2 hw
   grind [jE]
  ·trivial
 |ptrT p sz i j=>
  simp only[kj];split
  ·rename_i k hk;exact (lt hk).1
  ·trivial
 |ptrB n j=>simp only[kj];split<;>trivial
 | _=>trivial
theorem yj{S:TS}{bs ls:List Nat}{keep:List Nat}{v:V}(h:v.ok S.gh): (wj bs ls v).ok (ey S keep bs ls).gh:=by
 have one: ∀ {v:V1},v.ok S.gh->(wk bs ls v).ok (ey S keep bs ls).gh:=by
  intro v h;cases v with
  |cl c=>exact mq h
  |agg cs=>intro c hc;obtain⟨x,hx,rfl⟩:=aB.1 hc;exact mq (h x hx)
  |fn f cs=>intro c hc;obtain⟨x,hx,rfl⟩:=aB.1 hc;exact mq (h x hx)
 cases v with
 |v x=>exact one h
 |tup l=>trivial
theorem uQ{S:TS}(hS:S.ok)(keep bs ls:List Nat): (ey S keep bs ls).ok:=by
 refine⟨λx hx=> ?_,λcs hcs c hc=> ?_⟩
 ·obtain⟨t,_,rfl⟩:=aB.1 hx;exact yj (mg hS t)
 ·obtain⟨b,_,rfl⟩:=aB.1 hcs;obtain⟨x,hx,rfl⟩:=aB.1 hc;cases hb:fR S.bx b with
  |none=>rw[hb] at hx;cases hx
  |some cs=>rw[hb] at hx;rw[dN] at hb;exact mq (hS.bx cs (aw hb) x hx)
theorem mf{G:List (Option dw)}{c:Cl}(h:c.ok G):uw G c=c:=by
 unfold uw;split
 ·rename_i p sz lo len;split
  ·rename_i tr htr;rw[(h.2 rfl).2.2 tr (by unfold dI;rw[htr];rfl)]
  ·rfl
 ·rfl
theorem qx{G:List (Option dw)}{v:V1}(h:v.ok G):vz G v=v:=by
 cases v with
 |cl c=>exact congrArg V1.cl (mf h)
 |agg cs=>exact congrArg V1.agg ((az λc hc=>mf (h c hc)).trans (List.map_id' cs))
 |fn f cs=>exact congrArg (V1.fn f) ((az λc hc=>mf (h c hc)).trans (List.map_id' cs))
theorem xI{G:List (Option dw)}{v:V}(h:v.ok G):Ao G v=v:=by
 cases v with
 |v x=>exact congrArg V.v (qx h)
 |tup l=>exact congrArg V.tup ((az λc hc=>qx (h c hc)).trans (List.map_id' l))
theorem xH{S:TS}(h:S.ok):zo S=S:=by unfold zo;rw[az (g:=id) (λx hx=>by rw[xI (h.env x hx)];rfl),az (g:=id) (l:=S.bx) (λcs hcs=>(az λc hc=>mf (h.bx cs hcs c hc)).trans (List.map_id' cs)),List.map_id,List.map_id]
theorem ik[dp]{ρ:Type}{S:TS}(hS:S.ok){keep:List Nat}{κ:TS->Option ρ}{r:ρ}(h:k9 keep S κ=some r): ∃S1:TS,fX S.st S1.st/\S1.ok/\κ S1=some r:=by
 unfold k9 at h;obtain⟨h1,h⟩:=dj h
 grind [xH,uQ,rd]
end
end Go.Proofs.YtkghndikalnipabGreat.En
