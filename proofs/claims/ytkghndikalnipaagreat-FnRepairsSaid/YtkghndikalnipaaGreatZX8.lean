import Derived.Test.YtkghndikalnipaaGreatZX7
set_option linter.unusedSimpArgs false
set_option linter.unusedVariables false
namespace Go.Proofs.YtkghndikalnipaaGreat.En
section
open Go
section
variable {ρ:Type} {P:Program} {Θ:fw} {S:TS} {Y:kF}
theorem rN(hS:S.ok){ops:Array Oper}{o:Oper}{κ:Bool->TS->Option ρ}{r:ρ}(h:uh S ops.toList o κ=some r): ∃b S1,fT S.st ops o=some b/\S1.st=S.st/\S1.ok/\S1.gh=S.gh/\κ b S1=some r:=by
 unfold uh at h;split at h
 ·rename_i hg;exact⟨true,S,by unfold fT;rw[hg],rfl,hS,rfl,h⟩
 ·rename_i j want hg;split at h
  ·rename_i oj hj;split at h
   ·rename_i d hd;rw[dP,cj] at hj;split at h
    ·rename_i he;refine⟨_,S,?_,rfl,hS,rfl,h⟩;unfold fT;rw[hg];simp only[hj,an,hd];have :S.st.env d= .tup [] :=by show (ew S.env d).av=_;rw[he];rfl
     rw[this]
    ·obtain⟨b,S1,h1,h2,h3,h4,h5⟩:=mN hS h;refine⟨_,S1,?_,h2,h3,h4,h5⟩;unfold fT;rw[hg];simp only[hj,an,hd];have :S.st.env d= .sc (.bool b):=h1;rw[this]
   ·cases h
  ·cases h
theorem eF(hS:S.ok){d:Option Tmp}{v:V}(hv:v.ok S.gh){κ:TS->Option ρ}{r:ρ}(h:gv S d v κ=some r): ∃S1,S.st.put d v.av=some (TS.st S1)/\S1.ok/\S1.gh=S.gh/\κ S1=some r:=by
 unfold gv at h;split at h
 ·rename_i t;obtain⟨h1,h⟩:=dj h;have h1:t<S.nt:=ar h1;refine⟨{ S with env:=(t,v)::S.env },?_,⟨λx hx=> ?_,hS.bx⟩,rfl,h⟩
  ·simp only[St.put];rw[if_pos (show t<S.st.nt from h1)]
   congr 1
   unfold TS.st
   congr 1
   funext u
   unfold dD;simp only[ew];cases hb:Nat.beq t u with
   |true=>simp_all
   |false=>
    have : ¬u=t:=by intro e;subst e;rw[cy] at hb;cases hb
    rw[if_neg this];rfl
  ·rcases aW.1 hx with rfl|hx
   ·exact hv
   ·exact hS.env x hx
 ·exact⟨S,rfl,hS,rfl,h⟩
theorem vn{α:Type}{x y:Option α}{r:α}(h:xf x y none=some r):x=some r/\y=some r:=by grind [xf]
theorem vm{α:Type}(x z:α):xf x x z=x:=by unfold xf;rw[if_pos rfl]
theorem pA{o:Oper}{t:TypeId}{x:Operand}(h:mz o=some (t,x)): (∃t',o.op= .binOp .eql t x (.const (.slice none 0 0)) t')/\o.guard=none:=by
 unfold mz at h
 grind
theorem ne{o:Oper}{k:Nat}{g:FuncId}{caps:List Cl}{a:o3}{us:List TypeId}{xs:List Operand}(h:nc Y S o=some (k,g,caps,a,us,xs)):
  ∃f as ts x t,o.op= .call { callee:=.value f,args:=as,argTypes:=ts } /\as.toList=x::xs/\ts.toList=t::us/\lA (S.opd x)=some a/\g<ey/\
   ((∃a b,S.opd f= .v (.cl (.c (.sc (.func (.func g) a b))))/\caps= [])\/S.opd f= .v (.fn g caps)):=by
 unfold nc at h;split at h
 ·rename_i f as ts hop;split at h
  ·rename_i x xs' t us' e1 e2;split at h
   ·rename_i a' hx;split at h
    ·rename_i g' a b hf;obtain⟨h2,h⟩:=dj h;simp only[aj] at h2;simp only[ae,ap] at h;obtain⟨rfl,rfl,rfl,rfl,rfl,rfl⟩:=h;exact⟨f,as,ts,x,t,hop,e1,e2,hx,ar h2.1,.inl ⟨a,b,hf,rfl⟩⟩
    ·rename_i g' caps' hf;obtain⟨h2,h⟩:=dj h;simp only[aj] at h2;simp only[ae,ap] at h;obtain⟨rfl,rfl,rfl,rfl,rfl,rfl⟩:=h;exact⟨f,as,ts,x,t,hop,e1,e2,hx,ar h2.1,.inr hf⟩
    ·cases h
   ·cases h
  ·cases h
 ·cases h
theorem tR(c:Cl): (mi c).av=lG 1 c.av:=by
 cases c with
 |c x=>cases x<;>rfl
 |own p sz lo len w=>
  cases h:Nat.ble 1 p.r with
  |true=>simp only[mi,h,cond_true,Cl.av,lG];rw[if_pos (ar h)]
  |false=>simp only[mi,h,cond_false,Cl.av,lG];rw[if_neg λe=>by rw[cE e] at h;cases h]
 |ptrT p sz i j=>
  cases h:Nat.ble 1 p.r with
  |true=>simp only[mi,h,cond_true,Cl.av,lG];rw[if_pos (ar h)]
  |false=>simp only[mi,h,cond_false,Cl.av,lG];rw[if_neg λe=>by rw[cE e] at h;cases h]
 | _=>rfl
theorem yd(c:Cl):qW 1 c.av=lG 1 c.av:=by
 cases c with
 |c x=>cases x<;>rfl
 | _=>rfl
theorem qY(v:V1): (qX v).av=qW 1 v.av:=by
 cases v with
 |cl c=>exact (tR c).trans (yd c).symm
 |agg cs=>simp_all [qX,V1.av,qW,tR]
 |fn f cs=>rfl
theorem ye(v:V): (v3 v).av=vZ 1 v.av:=by
 cases v with
 |v x=>
  refine (qY x).trans ?_;cases x with
  |cl c=>cases c with
   |c x=>cases x<;>rfl
   | _=>rfl
  | _=>rfl
 |tup l=>simp_all [v3,V.av,vZ,qY]
theorem tS{x:dx}{G:List dx}{c:Cl}(h:c.ok ((x::G).map some)): (mi c).ok (G.map some):=by
 cases c with
 |own p sz lo len w=>
  cases hb:Nat.ble 1 p.r with
  |true=>
   have h1:=ar hb;simp only[mi,hb,cond_true];obtain⟨h2,h3⟩:=h;refine⟨by simp at h2 ⊢;omega,λhw=> ?_⟩
   grind [dJ,dP]
  |false=>simp only[mi,hb,cond_false];trivial
 |ptrT p sz i j=>
  cases hb:Nat.ble 1 p.r with
  |true=>have h1:=ar hb;simp only[mi,hb,cond_true];have h:p.r< ((x::G).map some).length:=h;show p.r-1< (G.map some).length;simp at h ⊢;omega
  |false=>simp only[mi,hb,cond_false];trivial
 |c x=>cases x<;>trivial
 | _=>trivial
theorem qZ{x:dx}{G:List dx}{v:V1}(h:v.ok ((x::G).map some)): (qX v).ok (G.map some):=by
 cases v with
 |cl c=>exact tS h
 |agg cs=>intro c hc;obtain⟨y,hy,rfl⟩:=aD.1 hc;exact tS (h y hy)
 |fn f cs=>trivial
theorem yf{x:dx}{G:List dx}{v:V}(h:v.ok ((x::G).map some)): (v3 v).ok (G.map some):=by
 cases v with
 |v x=>exact qZ h
 |tup l=>intro c hc;obtain⟨y,hy,rfl⟩:=aD.1 hc;exact qZ (h y hy)
theorem oy(hΘ:dR P Θ)(hS:S.ok): ∀ (ts:List TypeId) (as:List Operand) (κ:List V1->Option ρ) (r:ρ),jU Θ S ts as κ=some r->ts.length=as.length
 | [],[],_,_,_=>rfl
 | [],_::_,_,_,h=>by simp[jU] at h
 | _::_,[],_,_,h=>by simp[jU] at h
 |t::ts,a::as,κ,r,h=>by unfold jU at h;obtain⟨v,_,h⟩:=wo hΘ hS (fD hS a) h;rw[bA,bA,oy hΘ hS ts as _ r h]
structure gC (S S1:TS) (L:List Nat):Prop where
 env:S1.env=S.env
 bx:S1.bx=S.bx
 fz:S1.fz=S.fz
 nt:S1.nt=S.nt
 len:S1.gh.length=S.gh.length
 gh: ∀r,dJ S1.gh r=if L.contains r then none else dJ S.gh r
 was: ∀q∈L,∃tr,dJ S.gh q=some tr
theorem gC.refl(S:TS):gC S S [] :=⟨rfl,rfl,rfl,rfl,rfl,λ_=>by simp,λ_ h=>by cases h⟩
theorem gC.one{q:Nat}{tr:dx}(h:dJ S.gh q=some tr):gC S { S with gh:=dI S.gh q none } [q] :=
 ⟨rfl,rfl,rfl,rfl,by simp[dZ],λr=>by
  show dJ (dI S.gh q none) r=_
  simp_all [gf],λr hr=>by grind⟩
theorem gC.trans{S1 S2:TS}{L L':List Nat}(h:gC S S1 L)(k:gC S1 S2 L'):gC S S2 (L++L'):=
 ⟨k.env.trans h.env,k.bx.trans h.bx,k.fz.trans h.fz,k.nt.trans h.nt,k.len.trans h.len,λr=>by
  rw[k.gh,h.gh]
  grind,λq hq=>by
  rcases bz.1 hq with hq|hq
  ·exact h.was q hq
  ·obtain⟨tr,ht⟩:=k.was q hq;rw[h.gh] at ht
   grind⟩
theorem gC.apart{S1 S2:TS}{L L':List Nat}(h:gC S S1 L)(k:gC S1 S2 L')(h1:L.Nodup)(h2:L'.Nodup): (L++L').Nodup:=by rw[List.nodup_append];refine⟨h1,h2,λa ha b hb e=> ?_⟩;subst e;obtain⟨tr,ht⟩:=k.was a hb;rw[h.gh,if_pos (by simpa using ha)] at ht;cases ht
theorem gC.le{S1:TS}{L:List Nat}(h:gC S S1 L):eg S.gh S1.gh:=⟨by rw[h.len];exact aw _,λr tr _ ht=>by
 rw[h.gh] at ht
 grind⟩
theorem gC.ok{S1:TS}{L:List Nat}(h:gC S S1 L)(hS:S.ok):S1.ok:=
 ⟨λx hx=>V.ok_mono h.le (hS.env x (by rw[<-h.env];exact hx)),λcs hcs c hc=>Cl.ok_mono h.le (hS.bx cs (by rw[<-h.bx];exact hcs) c hc)⟩
theorem gC.st{S1:TS}{L:List Nat}(h:gC S S1 L):S1.st=dropL S.st L:=by
 unfold TS.st dropL;rw[h.env,h.bx,h.fz,h.nt,h.len];simp only
 congr 1
 funext r
 rw[h.gh];cases L.contains r<;>rfl
theorem oC: ∀ (L:List Nat) (S:TS),L.Nodup->(∀r∈L,∃tr,dJ S.gh r=some tr)->gC S { S with gh:=yP S.gh L } L
 | [],S,_,_=>gC.refl S
 |r::L,S,hnd,h=>by
  obtain⟨tr,htr⟩:=h r aH;rw[List.nodup_cons] at hnd;have h1:=gC.one htr
  have h2:=oC L { S with gh:=dI S.gh r none } hnd.2 (λr' hr'=>by
   obtain⟨tr',htr'⟩:=h r' (aE _ hr');refine⟨tr',?_⟩;rw[h1.gh,if_neg]
   ·exact htr'
   ·intro hc;rw[bi,aI] at hc;subst hc;exact hnd.1 hr')
  exact h1.trans h2
theorem ka: ∀ (cs:List Cl) (ys:List C) (L:List Nat),jE S cs=some (ys,L)->(∀c∈cs,c.ok S.gh)->ys.length=cs.length/\(gy ys).length=L.length/\
  (∀ (k r:Nat),L[k]? =some r-> ∃el l,(gy ys)[k]? =some ⟨el,l,none⟩/\dJ S.gh r=some ⟨el,l,none⟩)/\
  ∀ (w:World) (bt bt':Bt) (m:Nat),(∀ (k r:Nat),L[k]? =some r->bt'.β ⟨m+k,[]⟩=bt.β ⟨r,[]⟩/\bt'.κ ⟨m+k,[]⟩=bt.κ ⟨r,[]⟩/\m+k<bt'.ng)->
    ∀ (j:Nat) (c c':Cl) (u:Value),cs[j]? =some c->(kv ys m)[j]? =some c'->VR w bt c.av u->VR w bt' c'.av u
 | [],ys,L,h,_=>by simp only[jE,ae,ap] at h;obtain⟨rfl,rfl⟩:=h;exact⟨rfl,rfl,λk r hk=>by simp at hk,λw bt bt' m _ j c c' u hj=>by simp at hj⟩
 |c0::cs,ys,L,h,hok=>by
  unfold jE at h;split at h
  ·cases ‹_= []›
  ·rename_i v cs' e;simp only[bk] at e;obtain⟨rfl,rfl⟩:=e;split at h
   ·rename_i ys' L' hr;simp only[ae,ap] at h;obtain⟨rfl,rfl⟩:=h;obtain⟨h1,h2,h3,h4⟩:=ka cs ys' L' hr (λc hc=>hok c (aE _ hc));refine⟨by simp[h1],h2,h3,λw bt bt' m hm j c c' u hj hj' hv=> ?_⟩;cases j with
    |zero=>
     simp only[kv,aG,ae] at hj hj';subst hj hj';cases hv with
     |sc h=>exact .sc h
    |succ j=>exact h4 w bt bt' m hm j c c' u (by simpa using hj) (by simpa [kv] using hj') hv
   ·cases h
  ·rename_i r sz lo len cs' e;simp only[bk] at e;obtain⟨rfl,rfl⟩:=e;split at h
   ·rename_i el l hg;obtain⟨hsz,h0⟩:=dj h;have hsz:sz=el.width:=ak hsz;clear h;split at h0
    ·rename_i ys' L' hr;simp only[ae,ap] at h0;obtain⟨rfl,rfl⟩:=h0;obtain⟨h1,h2,h3,h4⟩:=ka cs ys' L' hr (λc hc=>hok c (aE _ hc));obtain⟨_,hlo⟩:=hok (.own ⟨r,[]⟩ sz lo len true) aH;obtain⟨_,hlo,hln⟩:=hlo rfl;have hln:=hln _ hg;simp only at hln;refine⟨by simp[h1],by simp[gy,h2],λk r' hk=> ?_,λw bt bt' m hm j c c' u hj hj' hv=> ?_⟩
     ·cases k with
      |zero=>simp only[aG,ae] at hk;subst hk;exact⟨el,l,rfl,hg⟩
      |succ k=>exact h3 k r' (by simpa using hk)
     ·cases j with
      |zero=>
       simp only[kv,aG,ae] at hj hj';subst hj hj' hsz hlo hln;obtain⟨e1,e2,e3⟩:=hm 0 r rfl;rw[bF] at e1 e2 e3;cases hv with
       |own hp hc hk ha=>exact .own e3 hc (by rw[e2];exact hk) (by rw[e1];exact ha)
      |succ j=>exact h4 w bt bt' (m+1) (λk r' hk=>by
        have:=hm (k+1) r' (by simpa using hk)
        rwa [show m+(k+1)=m+1+k by omega] at this) j c c' u (by simpa using hj) (by simpa [kv] using hj') hv
    ·cases h0
   ·cases h
  ·cases h
theorem ia: ∀ (ys:List C) (m:Nat),(kv ys m).length=ys.length
 | [],_=>rfl
 | .sc v::r,m=>by simp[kv,ia r m]
 | .ls t l::r,m=>by simp[kv,ia r (m+1)]
theorem qc: ∀ (L:List Nat) (S:TS) (out:List dx) (κ:TS->Option ρ) (r:ρ),L.Nodup->mL S L out κ=some r->
  ∃Sp:TS,Sp.env=S.env/\Sp.bx=S.bx/\Sp.fz=S.fz/\Sp.nt=S.nt/\Sp.gh.length=S.gh.length/\out.length=L.length/\(∀ (k q:Nat),L[k]? =some q->dJ Sp.gh q=out[k]?)/\(∀q,q∉L->dJ Sp.gh q=dJ S.gh q)/\eg S.gh Sp.gh/\κ Sp=some r
 | [],S,out,κ,r,_,h=>by
   cases out with
   |nil=>exact⟨S,rfl,rfl,rfl,rfl,rfl,rfl,λk q hk=>by simp at hk,λ_ _=>rfl,eg.refl _,h⟩
   |cons x out=>simp[mL] at h
 |q::L,S,out,κ,r,hnd,h=>by
  rw[List.nodup_cons] at hnd;cases out with
  |nil=>simp[mL] at h
  |cons x out=>
   obtain⟨t,l',hole⟩:=x;cases hole with
   |some y=>simp[mL] at h
   |none=>
    simp only[mL] at h;split at h
    ·rename_i el l hg;obtain⟨ht,h⟩:=dj h;have ht:t=el:=by simpa using ht
     subst ht;obtain⟨hl,h⟩:=dF h;obtain⟨Sp,a1,a2,a3,a4,a5,a6,a7,a8,a9,h⟩:=qc L { S with gh:=dI S.gh q (some ⟨t,l',none⟩) } out κ r hnd.2 h;have hql:=iL hg;have hG:eg S.gh (dI S.gh q (some ⟨t,l',none⟩)):=eg.put hg hl;refine⟨Sp,a1,a2,a3,a4,by rw[a5];simp[dZ],by simp[a6],λk q' hk=> ?_,λq' hq'=> ?_,hG.trans a9,h⟩
     ·cases k with
      |zero=>
       simp only[aG,ae] at hk;subst hk;rw[a8 q hnd.1];show dJ (dI S.gh q _) q=_
       simp_all [gf]
      |succ k=>grind
     ·rw[a8 q' (λhm=>hq' (aE _ hm))];show dJ (dI S.gh q _) q'=_
      simp_all [gf]
    ·cases h
theorem np{res:V}(h:yg res=true):res.av.plain=true/\ ∀G,res.ok G:=by
 unfold yg at h;split at h
 ·exact⟨rfl,λ_=>trivial⟩
 ·exact⟨rfl,λ_ x hx=>by cases hx⟩
 ·cases h
theorem qK[dp](hΘ:dR P Θ)(hY:eY P Y)(hS:S.ok){o:Oper}{k:Nat}{g:FuncId}{caps:List Cl}{a:o3}{us:List TypeId}{xs:List Operand}(ht:nc Y S o=some (k,g,caps,a,us,xs)){κ:TS->Option ρ}{r:ρ}
  (h:na Θ Y S k g caps a us xs o.dst κ=some r): ∃S3:TS,(∀n0,eR P n0 S.st o S3.st)/\S3.ok/\κ S3=some r:=by
 obtain⟨f,as,ts,x,t0,hop,has,hts,hx,hgk,hf⟩:=ne ht
 have hcal:callee S.st f=some (g,caps.map Cl.av):=by unfold callee;rw[du];rcases hf with ⟨_,_,hf,rfl⟩|hf<;>(rw[hf];rfl)
 have others: ∀ {S0:TS} (hS0:S0.ok) (hG:eg S.gh S0.gh) {K:List V1->Option ρ},kV Θ S0 us xs caps K=some r->
   ∃vs,us.length=xs.length/\iY P S0.st us xs (caps.map Cl.av)=vs.map V1.av/\K vs=some r:=by
  intro S0 hS0 hG K h;have hlen:=oy hΘ hS0 _ _ _ _ h;obtain⟨vs,h1,h⟩:=jd hΘ hS0 _ _ _ _ h
  have hcaps: ∀c∈caps,c.ok S0.gh:=by
   intro c hc;rcases hf with ⟨_,_,_,rfl⟩|hf
   ·cases hc
   ·have:=fD hS f;rw[hf] at this;exact Cl.ok_mono hG (this c hc)
  obtain⟨ks,h2,h⟩:=mT hS0 _ _ _ hcaps h;refine⟨_,hlen,?_,h⟩;unfold iY;rw[h1,h2,bH,aX];rfl
 have stays: ∀ {q:Nat} {el:Ty} {l:List el.D} {vs:List V1} {av0:AV} {res:V} {out:List dx},dJ S.gh q=some ⟨el,l,none⟩->us.length=xs.length->iY P ({ S with gh:=dI S.gh q none }:TS).st us xs (caps.map Cl.av)=vs.map V1.av->
   (∀ (w:World) (bt:Bt) (u:Value),VR w bt (opd S.st x) u->VR w (handG bt S.st w [⟨q,[]⟩]) av0 u)->eB P g (av0::vs.map V1.av) [.sl el.width (l.map el.row)] 1 res.av (out.map dx.tree)->res.ok (out.map some)->ua S q el l res out o.dst κ=some r-> ∃S3:TS,(∀n0,eR P n0 S.st o S3.st)/\S3.ok/\κ S3=some r:=by
  intro q el l vs av0 res out hq hlen hargs hx hSK hro h;unfold ua at h;split at h
  ·rename_i t' l' more;obtain⟨hc,h⟩:=dj h;have hc:=of_decide_eq_true hc;subst hc;obtain⟨hll,h⟩:=dF h;have hd:=gC.one hq;have hG:eg S.gh (dI S.gh q (some ⟨t',l',none⟩)):=eg.put hq hll;have hl0: (dI S.gh q (some ⟨t',l',none⟩)).length=S.gh.length:=by rw[dZ];simp
   have hrk: (gV S.gh.length (v3 res)).ok (dI S.gh q (some ⟨t',l',none⟩)++more.map some):=by
    have:=jN (G:=dI S.gh q (some ⟨t',l',none⟩)) (yf hro)
    rwa [hl0] at this
   obtain⟨S3,k1,k2,_,h⟩:=eF (S:={ S with gh:=dI S.gh q (some ⟨t',l',none⟩)++more.map some }) (TS.ok_gh hS (hG.trans (eg.apps _ _))) hrk h;rw[show ({ S with gh:=dI S.gh q (some ⟨t',l',none⟩)++more.map some }:TS).st=_ from iW { S with gh:=dI S.gh q (some ⟨t',l',none⟩) } res.av more,jM,ye] at k1
   have htr:S.st.gh q=some (.sl t'.width (l.map t'.row)):=by show (dJ S.gh q).map dx.tree=_;rw[hq];rfl
   have hql:=iL hq
   have hGave:mf S.st ([q].map λr=>⟨r,[]⟩) [.sl t'.width (l.map t'.row)] :=kb rfl (by simp) (λk r hk=>by grind)
   refine⟨S3,λn0=>eR.handG hop has hlen hcal (iU [q]) (λw0 W bt w hI=>hI.dropL [q]) hGave hx (m:=1) (res:=res.av) (out:=dx.tree ⟨t',l',none⟩::more.map dx.tree) (by rw[<-hd.st,hargs];exact hSK)
    (mM (Sp:=({ S with gh:=dI S.gh q (some ⟨t',l',none⟩) }:TS).st) hGave (by simp) rfl rfl rfl hl0 rfl rfl (λk r hk=> ?_) (λr hr=> ?_)) k1,k2,h⟩
   ·cases k with
    |zero=>simp_all [kB,dD]
    |succ k=>simp at hk
   simp_all [kB,dD]
  ·cases h
 have hxo:=fD hS x;cases a with
 |own q sz=>
  obtain⟨lo,len,hxv⟩: ∃lo len,S.opd x= .v (.cl (.own ⟨q,[]⟩ sz lo len true)):=by
   unfold lA at hx
   grind
  rw[hxv] at hxo;unfold na at h;simp only at h;split at h
  ·rename_i el l hq;obtain⟨hsz,h0⟩:=dj h;have hsz:sz=el.width:=ak hsz;clear h;subst hsz;have hd:=gC.one hq;obtain⟨vs,hlen,hargs,h⟩:=others (hd.ok hS) hd.le h0;obtain⟨_,hlo,hln⟩:=hxo.2 rfl;have hln:=hln _ hq;subst hlo hln
   have hav: ∀ (w:World) (bt:Bt) (u:Value),VR w bt (opd S.st x) u->VR w (handG bt S.st w [⟨q,[]⟩]) (.own ⟨0,[]⟩ el.width 0 l.length) u:=λw bt u hv=>by
    rw[du,hxv] at hv;have hv:VR w bt (.own ⟨q,[]⟩ el.width 0 l.length) u:=hv;cases hv with
    |own hp hc hk ha=>exact .own cn hc hk ha
   cases hk:Nat.beq k 1 with
   |true=>rw[hk] at h;simp only[cond_true] at h;obtain⟨res,out,g1,g2,h⟩:=hY _ _ _ _ _ h;exact stays hq hlen hargs hav (g1.io g rfl hgk).get g2 h
   |false=>
    rw[hk] at h;simp only[cond_false] at h;obtain⟨hfz0,h⟩:=dj h;have hfz:S.st.fz<=q:=ar hfz0;obtain⟨res,out,g1,g2,h⟩:=hY _ _ _ _ _ h;have g1:=(g1.mv g rfl hgk).get;have hl0: (dI S.gh q none).length=S.gh.length:=by rw[dZ];simp
    have hro: (gV S.gh.length res).ok (dI S.gh q none++out.map some):=by
     have:=jN (G:=dI S.gh q none) g2
     rwa [hl0] at this
    obtain⟨S3,k1,k2,_,h⟩:=eF (S:={ S with gh:=dI S.gh q none++out.map some }) (TS.ok_gh (hd.ok hS) (eg.apps _ _)) hro h;rw[show ({ S with gh:=dI S.gh q none++out.map some }:TS).st=_ from iW { S with gh:=dI S.gh q none } res.av out,hd.st,jM,<-sD] at k1
    have htr:S.st.gh q=some (.sl el.width (l.map el.row)):=by show (dJ S.gh q).map dx.tree=_;rw[hq];rfl
    exact⟨S3,λn0=>eR.handG hop has hlen hcal (iU [q]) (λw0 W bt w hI=>hI.dropL [q]) (kb (ts:=[.sl el.width (l.map el.row)]) rfl (by simp) (λk r hk=>by grind)) hav (m:=0) (by rw[<-hd.st,hargs];exact g1) (uk λr hr=>by rw[aI.1 hr];exact hfz) k1,k2,h⟩
  ·cases h
 |pt q sz=>
  have hxv:S.opd x= .v (.cl (.ptrT ⟨q,[]⟩ sz 0 0)):=by
   unfold lA at hx;split at hx<;>simp only[ae,o3.pt.injEq,reduceCtorEq] at hx;obtain⟨rfl,rfl⟩:=hx
   assumption
  unfold na at h;simp only at h;split at h
  ·rename_i el l hq;obtain⟨hsz,h0⟩:=dj h;have hsz:sz=el.width:=ak hsz;clear h;subst hsz;have hd:=gC.one hq;obtain⟨vs,hlen,hargs,h⟩:=others (hd.ok hS) hd.le h0;obtain⟨res,out,g1,g2,h⟩:=hY _ _ _ _ _ h;refine stays hq hlen hargs (λw bt u hv=> ?_) (g1.pt g rfl hgk).get g2 h;rw[du,hxv] at hv;have hv:VR w bt (.ptrT ⟨q,[]⟩ el.width 0 0) u:=hv;cases hv with
   |ptrT _ _ _ hp hk=>exact .ptrT (p:=⟨0,[]⟩) _ 0 0 cn hk
  ·cases h
 |agg cs=>
  have hxv:S.opd x= .v (.agg cs):=by
   unfold lA at hx;split at hx<;>simp only[ae,o3.agg.injEq,reduceCtorEq] at hx;subst hx
   assumption
  rw[hxv] at hxo;unfold na at h;simp only at h;split at h
  ·rename_i ys L hga;obtain⟨hnd,h0⟩:=dj h;clear h;have hnd:L.Nodup:=my.1 hnd;obtain⟨g1,g2,g3,g4⟩:=ka cs ys L hga hxo
   have hd:=oC L S hnd (λq hq=>by obtain⟨k,hk,hkq⟩:=aP hq;obtain⟨el,l,_,e⟩:=g3 k q (by grind);exact⟨_,e⟩)
   obtain⟨vs,hlen,hargs,h⟩:=others (hd.ok hS) hd.le h0;obtain⟨res,out,k1,k2,h⟩:=hY _ _ _ _ _ h;have k1:=(k1.io g rfl hgk).getA;obtain⟨hns,h⟩:=dj h;obtain⟨hpl,hrok⟩:=np hns;obtain⟨Sp,a1,a2,a3,a4,a5,a6,a7,a8,a9,h⟩:=qc L S out _ r hnd h;have hSp:Sp.ok:=⟨λx hx=>V.ok_mono a9 (hS.env x (by rw[<-a1];exact hx)),λcs hcs c hc=>Cl.ok_mono a9 (hS.bx cs (by rw[<-a2];exact hcs) c hc)⟩
   obtain⟨S3,m1,m2,_,h⟩:=eF hSp (hrok _) h
   have hGave:mf S.st (L.map λr=>⟨r,[]⟩) ((gy ys).map dx.tree):=kb (by simp[g2]) hnd (λk q hk=>by obtain⟨el,l,e1,e2⟩:=g3 k q hk;refine⟨el.width,l.map el.row,by rw[aq,e1];rfl,?_⟩;show (dJ S.gh q).map dx.tree=_;rw[e2];rfl)
   have hps: (L.map λr=>(⟨r,[]⟩:dA)).length=(gy ys).length:=by rw[aF,g2]
   have hout: (out.map dx.tree).length=L.length:=by rw[aF,a6]
   refine⟨S3,λn0=>eR.handG hop has hlen hcal (iU L) (λw0 W bt w hI=>hI.dropL L) hGave (av0:=.agg ((kv ys 0).map Cl.av)) (λw bt u hv=> ?_) (res:=res.av) (out:=out.map dx.tree) (m:=L.length) (by rw[<-hd.st,hargs,<-g2];exact k1)
    (mM (Sp:=Sp.st) hGave (Nat.le_of_eq hout.symm) (by unfold TS.st;simp only[a1]) (by unfold TS.st;simp only[a2]) (by unfold TS.st;simp only[a2]) (by unfold TS.st;simp only[a5]) a3 a4 (λk q hk=>by
      show (dJ Sp.gh q).map dx.tree=_;rw[a7 k q hk,aq]) (λq hq=>by
      show (dJ Sp.gh q).map dx.tree=(dJ S.gh q).map dx.tree;rw[a8 q hq])) (by grind [oP,te]),m2,h⟩
   rw[du,hxv] at hv;have hv:VR w bt (.agg (cs.map Cl.av)) u:=hv;cases hv with
   |agg hl ho hr=>
    rename_i us0;refine .agg (by grind [ia]) ho (λk c u hk hu=> ?_);rw[aq] at hk;simp only[ai] at hk;obtain⟨c',hc',rfl⟩:=hk
    have hkl:k<cs.length:=by have:=(ah.1 hc').1;rw[ia,g1] at this;exact this
    refine g4 w bt _ 0 (λi q hi=> ?_) k cs[k] c' u (ao hkl) hc' (hr k _ u (by grind) hu)
    have hpi: (L.map λr=>(⟨r,[]⟩:dA))[(⟨0+i,[]⟩:dA).r]? =some ⟨q,[]⟩:=by rw[aq];show (L[0+i]?).map _=_;rw[aM,hi];rfl
    have hpl2:=kr hpi;refine⟨?_,?_,?_⟩
    ·show bt.β (oQ _ _)=_;rw[hpl2];rfl
    ·show bt.κ (oQ _ _)=_;rw[hpl2];rfl
    ·show 0+i< (L.map λr=>(⟨r,[]⟩:dA)).length
     grind
  ·cases h
 |nest q i j sz lo len=>
  obtain⟨w0,hxv⟩: ∃w,S.opd x= .v (.cl (.own ⟨q,[(i,j)]⟩ sz lo len w)):=by
   unfold lA at hx
   grind
  rw[hxv] at hxo;unfold na at h;simp only at h;split at h
  ·rename_i t l hq;obtain⟨y,hy,h⟩:=af.1 h;split at h
   ·rename_i el v hv;obtain⟨hsz,h0⟩:=dj h;have hsz:sz=el.width:=ak hsz;clear h;subst hsz;obtain⟨hll,h1⟩:=dF h0;clear h0;obtain⟨rfl,rfl⟩:=hll;have hql:=iL hq;have hhole:eg S.gh (dI S.gh q (some ⟨t,l,some (i,j)⟩)):=eg.put hq rfl;obtain⟨vs,hlen,hargs,h⟩:=others (S0:={ S with gh:=dI S.gh q (some ⟨t,l,some (i,j)⟩) }) (TS.ok_gh hS hhole) hhole h1;clear h1;obtain⟨res,out,k1,k2,h⟩:=hY _ _ _ _ _ h;have k1:=(k1.io g rfl hgk).get;split at h
    ·rename_i t' v' _;obtain⟨hc,h⟩:=dj h;simp only[aj,decide_eq_true_eq] at hc;obtain⟨rfl,hns⟩:=hc;obtain⟨hpl,hrok⟩:=np hns;obtain⟨hvl,h⟩:=dF h;split at h
     ·rename_i z hz;have hG:eg S.gh (dI S.gh q (some ⟨t,l.set i z,none⟩)):=eg.put hq (by simp);obtain⟨S3,m1,m2,_,h⟩:=eF (S:={ S with gh:=dI S.gh q (some ⟨t,l.set i z,none⟩) }) (TS.ok_gh hS hG) (hrok _) h
      have hrowy: (l.map t.row)[i]? =some ((t.flat y).map C.tree):=by rw[aq,hy];simp only[aB,t.row_flat]
      have hcell: ((t.flat y).map C.tree)[j]? =some (.sl t'.width (v.map t'.row)):=by rw[dP] at hv;rw[aq,hv];rfl
      have hgq:S.st.gh q=some (.sl t.width (l.map t.row)):=by show (dJ S.gh q).map dx.tree=_;rw[hq];rfl
      have hlook:S.st.look ⟨q,[(i,j)]⟩= .sl t'.width (v.map t'.row):=by unfold St.look;simp only[hgq,T.go,T.cell,ay,hrowy,aQ,hcell]
      have hforget: ∀ (w0:World) (W:Nat->Prop) (bt:Bt) (w:World),dQ w0 W bt S.st w->_:=λw0 W bt w hI=>hI.forget hlook
      have hSm: ({ S with gh:=dI S.gh q (some ⟨t,l,some (i,j)⟩) }:TS).st=S.st.setAt ⟨q,[(i,j)]⟩ .dd:=by rw[kB S _ hql];unfold St.setAt;simp only[hgq,aB];rfl
      have hSp: ({ S with gh:=dI S.gh q (some ⟨t,l.set i z,none⟩) }:TS).st=S.st.setAt ⟨q,[(i,j)]⟩ (.sl t'.width (v'.map t'.row)):=by
       rw[kB S _ hql];unfold St.setAt;simp only[hgq,aB,T.put]
       congr 3
       show T.sl t.width ((l.set i z).map t.row)=_;rw[List.map_set,t.row_flat z,t.unflat_some _ _ hz,dZ,List.map_set];simp only[ay,hrowy,aQ];rfl
      rw[hSp] at m1;refine⟨S3,λn0=>eR.handG hop has hlen hcal (Sm:=S.st.setAt ⟨q,[(i,j)]⟩ .dd) (ps:=[⟨q,[(i,j)]⟩]) ?_ (λw0 W bt w hI=>(hforget w0 W bt w hI).1) (vM hlook) (av0:=.own ⟨0,[]⟩ t'.width 0 v.length) (λw bt u hv=> ?_) (res:=res.av) (out:=[.sl t'.width (v'.map t'.row)]) (m:=1) (by rw[<-hSm,hargs];exact k1) (vp hlook (by simpa using hvl)) (by rw[oP hpl,List.drop_succ_cons,List.drop_nil,te];exact m1),m2,h⟩
      ·refine⟨rfl,rfl,rfl,λp s rs hp=> ?_⟩;rw[gM] at hp;by_cases hpr:p.r=q
       ·rw[if_pos hpr,hgq] at hp;simp only at hp
        rcases T.put_spec .dd [(i,j)] (.sl t.width (l.map t.row)) (.inl (by grind [St.look])) p.l s rs hp with ⟨m',hm,hgo⟩| ⟨rs0,e1,e2,e3,e4⟩
        ·rw[T.dd_go] at hgo;cases hgo
        ·refine⟨λp' hp' hu=> ?_,rs0,by unfold St.look;rw[hpr,hgq];exact e1⟩;rw[aI.1 hp'] at hu;obtain⟨_,m,b⟩:=hu;exact e3 m b.symm
       ·rw[if_neg hpr] at hp;refine⟨λp' hp' hu=> ?_,rs,hp⟩;rw[aI.1 hp'] at hu;exact hpr hu.1
      ·rw[du,hxv] at hv;have hv:VR w bt (.own ⟨q,[(i,j)]⟩ t'.width 0 v.length) u:=hv;cases hv with
       |own hp hc hk ha=>exact .own cn hc hk ha
     ·cases h
    ·cases h
   ·cases h
  ·cases h
theorem wW{el:Ty}(hw:el.width=1)(hf:el.flatB=true){z:el.D}(hz:el.unflat el.zcs=some z): ∃zv,el.zvs= [zv] /\fW zv=true/\el.row z= [.sc zv] :=by
 have hr:el.row z=el.zcs.map C.tree:=by rw[el.row_flat,el.unflat_some _ _ hz]
 rw[hr];clear hr hz z;cases el with
 |i k=>exact⟨_,rfl,rfl,rfl⟩
 |b=>exact⟨_,rfl,rfl,rfl⟩
 |s=>exact⟨_,rfl,rfl,rfl⟩
 |h=>exact⟨_,rfl,rfl,rfl⟩
 |st n=>cases n<;>first |exact⟨_,rfl,rfl,rfl⟩| (exfalso;revert hw;decide)| (exfalso;revert hf;decide)
 |ls t=>cases hf
theorem uv[dp](hΘ:dR P Θ)(hS:S.ok){ops:Array Oper}{o:Oper}{os:List Oper}{Post:St->Prop}{t:TypeId}{q sz lo len:Nat}(ht:pd S o=some (t,q,sz,lo,len)){κ:TS->Option ρ}{r:ρ}
  (ih: ∀S3:TS,S3.ok->κ S3=some r->lV P ops os S3.st Post) (h:sf Θ S t q sz lo len o.dst κ=some r):lV P ops (o::os) S.st Post:=by
 unfold pd at ht;split at ht
 ·rename_i as ts hop;split at ht
  ·cases ht
  ·rename_i hgd;split at ht
   ·rename_i x t' e1 e2;split at ht
    ·rename_i r' sz' lo' len' w hx;simp only[ae,ap] at ht;obtain⟨rfl,rfl,rfl,rfl,rfl⟩:=ht;have e1:as= #[x] :=by apply Array.ext';simpa using e1
     have e2:ts= #[t'] :=by apply Array.ext';simpa using e2
     subst e1 e2;unfold sf at h;split at h
     ·rename_i ti hti;split at h
      ·rename_i el l hq;obtain⟨hc,h0⟩:=dj h;simp only[aj,decide_eq_true_eq] at hc;obtain⟨⟨⟨hty,hw⟩,hsz⟩,hfl⟩:=hc;have hw:el.width=1:=ak hw;have hsz:sz'=1:=ak hsz;split at h0
       ·rename_i z hz;unfold iteP at h0;split at h0
        ·rename_i hle;obtain⟨elT',g1,g2,g3,g4,g5,g6⟩:=(hΘ _ _ hti).el el hty
         have hql:r'<S.gh.length:=by
          rcases cM r' S.gh.length with h'|h'
          ·exact h'
          ·rw[lx h'] at hq;cases hq
         have hG:eg S.gh (dI S.gh r' (some ⟨el,l.take lo'++List.replicate len' z++l.drop (lo'+len'),none⟩)):=eg.put hq (by simp;omega);obtain⟨S3,k1,k2,_,h⟩:=eF (v:=.tup []) (TS.ok_gh hS hG) (λx hx=>by cases hx) h0;rw[kB S _ hql] at k1;obtain⟨zv,hzv,hsc,hrow⟩:=wW hw hfl hz
         have htr:S.st.gh r'=some (.sl 1 (l.map el.row)):=by show (dJ S.gh r').map dx.tree=_;rw[hq];show some (T.sl el.width (l.map el.row))=_;rw[hw]
         have hxv:opd S.st x= .own ⟨r',[]⟩ 1 lo' len':=by rw[du,hx,<-hsz];rfl
         refine lV.clear hop hgd g1 (by rw[g6,hzv]) hsc hxv htr (by simpa using hle) ⟨S3.st,?_,ih S3 k2 h⟩;rw[<-k1]
         congr 1
         show _=({ S.st with gh:=dD S.st.gh r' (some (T.sl el.width ((l.take lo'++List.replicate len' z++l.drop (lo'+len')).map el.row))) }:St)
         simp_all
        ·cases h0
       ·cases h0
      ·cases h
     ·cases h
    ·cases ht
   ·cases ht
 ·cases ht
theorem xJ[dp](hΘ:dR P Θ)(hY:eY P Y){ops:Array Oper}: ∀ (os:List Oper) (S:TS) (κ:TS->Option ρ) (r:ρ),(∀o∈os,fC P o=true)->S.ok->mY Θ Y ops.toList os S κ=some r->
  lV P ops os S.st (λS'=> ∃S1:TS,S'=S1.st/\S1.ok/\κ S1=some r):=by
 intro os
 induction os with
 |nil=>intro S κ r _ hS h;exact lV.nil ⟨S,rfl,hS,h⟩
 |cons o os ih=>
  intro S κ r hok hS h;unfold mY at h;cases hn:mz o with
  |some tx=>
   obtain⟨t,x⟩:=tx;rw[hn] at h;simp only at h;obtain⟨hs,h⟩:=dj h;obtain⟨⟨t',ho⟩,hg⟩:=pA hn;unfold AH at hs;split at hs
   ·rename_i ti hti;split at hs
    ·rename_i e he;obtain⟨el,hel,_⟩:=(hΘ t ti hti).el e he;split at h
     ·rename_i t1 l hx
      have way: ∀ (b:Bool),(gv S o.dst (qh b) λS3=>mY Θ Y ops.toList os S3 κ)=some r-> ∃S1,S.st.put o.dst (.sc (.bool b))=some S1/\lV P ops os S1 (λS'=> ∃S1:TS,S'=S1.st/\S1.ok/\κ S1=some r):=by intro b hb;obtain⟨S3,g5,g6,_,h⟩:=eF (v:=qh b) hS trivial hb;exact⟨S3.st,g5,ih S3 κ r (λx hx=>hok x (aE _ hx)) g6 h⟩
      have hxv:opd S.st x= .ro t1.width (l.map t1.row):=by rw[du,hx];rfl
      cases l with
      |nil=>
       obtain⟨a1,a2⟩:=vn (show xf _ _ none=some r from h)
       grind [lV.eqnil]
      |cons y l=>exact lV.eqnil hel ho hg hxv (λh=>by cases h) (way false h)
     ·cases h
    ·cases hs
   ·cases hs
  |none=>
  rw[hn] at h;simp only at h;cases hcl:pd S o with
  |some z=>grind [uv]
  |none=>
  rw[hcl] at h;simp only at h;obtain⟨b,S1,h1,h2,h3,h4,h⟩:=rN hS h;refine lV.cons (b:=b) h1 ?_;cases b with
  |true=>
   simp only[cond_true] at h;rw[if_pos rfl,<-h2];cases hh:nc Y S1 o with
   |some z=>obtain⟨k,g,caps,a,us,xs⟩:=z;rw[hh] at h;obtain⟨S3,g1,g2,g3⟩:=qK hΘ hY h3 hh h;exact⟨S3.st,(g1 0).op,ih S3 κ r (λx hx=>hok x (aE _ hx)) g2 g3⟩
   |none=>
   grind [jt,eF,vh.one,one]
  |false=>simp only[cond_false] at h;obtain⟨S3,g5,g6,_,h⟩:=eF (v:=.tup []) h3 (λx hx=>by cases hx) h;rw[if_neg (by simp)];exact⟨S3.st,by rw[<-h2];exact g5,ih S3 κ r (λx hx=>hok x (aE _ hx)) g6 h⟩
theorem yC{D D':gW}{X:St}{o:Oper}(h:D o.dst=D' o.dst):dk D P X o=dk D' P X o:=by simp_all [dk]
theorem ub{D D':gW}{X:St}{o:Oper}(h:D o.dst=D' o.dst):dM D P X o=dM D' P X o:=by simp_all [dM]
theorem AA{D D':gW}{ops:Array Oper}: ∀ (os:List Oper) (X:St),(∀o∈os,D o.dst=D' o.dst)->oa D P ops os X=oa D' P ops os X:=by
 intro os
 induction os with
 |nil=>intro X _;rfl
 |cons o os ih=>grind [oa,yC,ub]
theorem kN: ∀ (l m:List (Option dx)) (n:Nat),gone n l (l++m)= []
 | [],m,n=>by cases m<;>rfl
 |x::l,m,n=>by
  cases x with
  |none=>exact kN l m (n+1)
  |some y=>exact kN l m (n+1)
theorem nP(l:List dx):wS (l.map some)=l.map dx.tree:=by unfold wS;rw[aX];rfl
theorem tT(S:TS)(out:List dx):S.st.make ⟨S.st.ng,out.map dx.tree,[]⟩=({ S with gh:=S.gh++out.map some }:TS).st:=by
 rw[iW S .dead out];unfold St.make hO;simp only[aF]
 congr 1
theorem gC.make{S1:TS}{L:List Nat}(h:gC S S1 L)(x:dx):S.st.make ⟨S.st.ng,[x.tree],fo L⟩=({ S1 with gh:=S1.gh++ [some x] }:TS).st:=by
 rw[nL,h.st,h.len];unfold St.make dropL;simp only[cm,fu]
 congr 1
 funext r
 unfold dD;by_cases hr:r=S.gh.length
 ·simp_all [TS.st]
 ·rw[if_neg hr,if_neg (by show ¬ (S.gh.length<=r/\r<S.gh.length+1);omega)]
theorem tJ: ∀ (l m x:List (Option dx)) (n:Nat) (L:List Nat),m.length=l.length->(∀k,k<l.length->(((∃y,l[k]? =some (some y))/\m[k]? =some none)↔(n+k)∈L))->gone n l (m++x)=(List.range' n l.length).filter λr=>L.contains r
 | [],m,x,n,L,hl,_=>by have :m= [] :=aY hl;subst this;cases x<;>rfl
 |a::l,[],x,n,L,hl,_=>by cases hl
 |a::l,b::m,x,n,L,hl,h=>by
  have h0:=h 0 (Nat.zero_lt_succ _)
  have ih:=tJ l m x (n+1) L (by simpa using hl) (λk hk=>by
   have:=h (k+1) (by simpa using hk)
   grind)
  simp only[aG,ae,bF] at h0;rw[bA,cg,List.filter_cons];cases a with
  |none=>
   have : ¬n∈L:=λhn=>by grind
   rw[if_neg (by simpa using this),<-ih];cases b<;>rfl
  |some y=>
   cases b with
   |none=>have :n∈L:=h0.1 ⟨⟨y,rfl⟩,rfl⟩;rw[if_pos (by simpa using this),<-ih];rfl
   |some z=>
    have : ¬n∈L:=λhn=>by have:=(h0.2 hn).2;cases this
    rw[if_neg (by simpa using this),<-ih];rfl
theorem pe{L:List Nat}{N:Nat}(h: ∀r∈L,r<N):fo L=(List.range N).filter λr=>L.contains r:=by
 have top:pT L<=N:=by
  induction L with
  |nil=>exact bL _
  |cons a l ih=>grind [pT,List.mem_cons_self]
 unfold fo;obtain⟨k,rfl⟩: ∃k,N=pT L+k:=⟨N-pT L,by omega⟩
 rw[bQ,bQ,<-List.range'_append_1,List.filter_append]
 have : (List.range' (0+pT L) k).filter (λr=>L.contains r)= [] :=by rw[List.filter_eq_nil_iff];intro r hr hc;have h1:=pu (l:=L) (r:=r) (by simpa using hc);have h2:=(List.mem_range'_1.1 hr).1;omega
 rw[this,bM]
theorem gC.gone{S1:TS}{L:List Nat}(h:gC S S1 L)(x:List (Option dx)):gone 0 S.gh (S1.gh++x)=fo L:=by
 rw[pe (N:=S.gh.length) (λr hr=>by obtain⟨tr,ht⟩:=h.was r hr;exact iL ht),bQ]
 refine tJ _ _ _ _ _ h.len (λk hk=> ?_);rw[aM];have g:=h.gh k;unfold dJ at g;rw[dP,dP] at g;have hk1:k<S1.gh.length:=by rw[h.len];exact hk
 rw[ao hk,ao hk1] at g ⊢;simp only[aQ,ae] at g ⊢;constructor
 ·grind
 ·intro hL;obtain⟨tr,ht⟩:=h.was k hL
  simp_all [dJ,dP]
theorem jG{G:List (Option dx)}{r j:Nat}{c:Cl}(h:c.ok G)(hr:G.length<=r):gq r j c=c:=by
 have hb: ∀p:dA,p.r<G.length->Nat.beq p.r r=false:=λp hp=>by
  cases hx:Nat.beq p.r r with
  |false=>rfl
  |true=>have:=ak hx;omega
 cases c with
 |own p sz lo len w=>simp only[gq];rw[hb p h.1];split<;>rfl
 |ptrT p sz a b=>simp only[gq];rw[hb p h];split<;>rfl
 | _=>rfl
theorem gO{α:Type}{f:α->α}: ∀ {l:List α},(∀x∈l,f x=x)->l.map f=l
 | [],_=>rfl
 |a::l,h=>by rw[aL,h a aH,gO λx hx=>h x (aE _ hx)]
theorem qO(hS:S.ok){r j:Nat}(hr:S.gh.length<=r):S.kill r j=S:=by
 have v1: ∀v:V1,v.ok S.gh->ii r j v=v:=by
  intro v hv;cases v with
  |cl c=>simp only[ii];rw[jG hv hr]
  |agg cs=>simp only[ii];rw[gO λc hc=>jG (hv c hc) hr]
  |fn f cs=>simp only[ii];rw[gO λc hc=>jG (hv c hc) hr]
 have e1:S.env.map (λx=>(x.1,oG r j x.2))=S.env:=by
  refine gO (λx hx=> ?_);have hx:=hS.env x hx;obtain⟨t,v⟩:=x;cases v with
  |v x=>simp only[oG];rw[v1 x hx]
  |tup l=>simp only[oG];rw[gO λc hc=>v1 c (hx c hc)]
 have e2:S.bx.map (λcs=>cs.map (gq r j))=S.bx:=by exact gO (λcs hcs=>gO (λc hc=>jG (hS.bx cs hcs c hc) hr))
 unfold TS.kill;rw[e1,e2]
theorem yF(hS:S.ok){S1:TS}{no j:Nat}(hno:S.gh.length<=no){et:Option Ty}{c:Cl}{x:C}(hc:c.ok S.gh)(h:eA S no j et c=some (x,S1)):
  ∃L,gC S S1 L/\L.Nodup/\fq S.st (rO et) c.av=some (x.tree,L):=by
 have wp: ∀t:Ty,¬rO (some t)=0:=λt e=>by have:=t.width_pos;have e':t.width=0:=e;omega
 cases c with
 |c y=>
  cases y with
  |sc v=>
   cases et with
   |none=>simp only[eA,ae,ap] at h;obtain⟨rfl,rfl⟩:=h;exact⟨[],gC.refl _,c9,rfl⟩
   |some t=>simp[eA] at h
  |ls t l=>cases et<;>simp[eA] at h
 |em=>
  cases et with
  |none=>simp[eA] at h
  |some t=>simp only[eA,ae,ap] at h;obtain⟨rfl,rfl⟩:=h;rw[qO hS hno];refine⟨[],gC.refl _,c9,?_⟩;unfold fq;rw[if_neg (wp t)];rfl
 |own p sz lo len wh=>
  obtain⟨pr,pl⟩:=p;cases wh with
  |false=>cases et<;>simp[eA] at h
  |true=>
   cases et with
   |none=>simp[eA] at h
   |some t=>
    cases pl with
    |cons a l=>simp[eA] at h
    |nil=>
     simp only[eA] at h;obtain⟨h1,h⟩:=dj h;simp only[aj,bD] at h1;obtain⟨⟨h1,h2⟩,h3⟩:=h1;have h1:t.width=sz:=ak h1;have h2:S.fz<=pr:=ar h2;split at h
     ·rename_i tr htr;split at h
      ·rename_i hh;obtain⟨h4,h⟩:=dj h;have h4':tr.t.width=sz:=ak h4;simp only[ae,ap] at h;obtain⟨rfl,rfl⟩:=h;have hg:=dx.look htr;obtain⟨tt,l,hole⟩:=tr;simp only at hh h4';subst hh;obtain⟨e1,e2,e3⟩:=jv hc (λ_=>hg);have hd:=gC.one hg;rw[qO (hd.ok hS) (by rw[hd.len];exact hno)];refine⟨[pr],hd,by simp,?_⟩;unfold fq;rw[if_neg (wp t)];simp only[Cl.av]
       have hrows:S.st.rows ⟨pr,[]⟩ sz=some (l.map tt.row):=by rw[<-h4'];refine eO ?_;unfold St.look;show (match (dJ S.gh pr).map dx.tree with |some t=>t.go [] |none=> .dd)=_;rw[hg];rfl
       rw[if_pos ⟨trivial,h1.symm,e2,h2⟩,hrows]
       simp_all [bT,C.tree]
      ·cases h
     ·cases h
 |pro cs=>cases et<;>simp[eA] at h
 |ptrB n j=>cases et<;>simp[eA] at h
 |ptrT p sz a b=>cases et<;>simp[eA] at h
 |dead=>cases et<;>simp[eA] at h
theorem rZ{X Y:St}(hfz:Y.fz=X.fz)(hg: ∀r t,Y.gh r=some t->X.gh r=some t){s:Nat}{v:AV}{y:T×List Nat}(h:fq Y s v=some y):fq X s v=some y:=by
 unfold fq at h ⊢;split at h
 ·rename_i h0;rw[if_pos h0];exact h
 ·rename_i h0;rw[if_neg h0];split at h
  ·exact h
  ·rename_i q s' lo len;split at h
   ·rename_i hc;rw[hfz] at hc;rw[if_pos hc]
    grind [St.rows,St.look]
   ·cases h
  ·cases h
theorem jg{X Y:St}(hfz:Y.fz=X.fz)(hg: ∀r t,Y.gh r=some t->X.gh r=some t): ∀ {ss:List Nat} {vs:List AV} {y:List T×List Nat},eu Y ss vs=some y->eu X ss vs=some y
 |s::ss,v::vs,y,h=>by unfold eu at h ⊢;simp only[af,ai] at h ⊢;obtain⟨a,h1,b,h2,h3⟩:=h;exact⟨a,rZ hfz hg h1,b,jg hfz hg h2,h3⟩
 | [],[],_,h=>h
 | [],_::_,_,h=>h
 | _::_,[],_,h=>h
theorem l7{X Y:St}(hfz:Y.fz=X.fz)(hg: ∀r t,Y.gh r=some t->X.gh r=some t){ss:List Nat}: ∀ {vss:List (List AV)} {y:List (List T)×List Nat},eb Y ss vss=some y->eb X ss vss=some y
 | [],_,h=>h
 |vs::vss,y,h=>by unfold eb at h ⊢;simp only[af,ai] at h ⊢;obtain⟨a,h1,b,h2,h3⟩:=h;exact⟨a,jg hfz hg h1,b,l7 hfz hg h2,h3⟩
theorem gC.less{S1:TS}{L:List Nat}(h:gC S S1 L): ∀r t,S1.st.gh r=some t->S.st.gh r=some t:=by
 intro r t ht;rw[h.st] at ht
 grind [dropL]
theorem yG(no:Nat): ∀ (ets:List (Option Ty)) (cs:List Cl) (j:Nat) (S S1:TS) (xs:List C),S.ok->S.gh.length<=no->(∀c∈cs,c.ok S.gh)->gr no j S ets cs=some (xs,S1)->
  ∃L,gC S S1 L/\L.Nodup/\eu S.st (ets.map rO) (cs.map Cl.av)=some (xs.map C.tree,L):=by
 intro ets
 induction ets with
 |nil=>
  intro cs j S S1 xs hS hno hcs h;cases cs with
  |nil=>simp only[gr,ae,ap] at h;obtain⟨rfl,rfl⟩:=h;exact⟨[],gC.refl _,c9,rfl⟩
  |cons c cs=>simp[gr] at h
 |cons et ets ih=>
  intro cs j S S1 xs hS hno hcs h;cases cs with
  |nil=>simp[gr] at h
  |cons c cs=>
   simp only[gr] at h;split at h
   ·rename_i x S2 hx;obtain⟨L1,d1,n1,e1⟩:=yF hS hno (hcs c aH) hx;split at h
    ·rename_i xs' S3 hxs;simp only[ae,ap] at h;obtain⟨rfl,rfl⟩:=h;obtain⟨L2,d2,n2,e2⟩:=ih cs (j+1) S2 S3 xs' (d1.ok hS) (by rw[d1.len];exact hno) (λy hy=>Cl.ok_mono d1.le (hcs y (aE _ hy))) hxs;refine⟨L1++L2,d1.trans d2,d1.apart d2 n1 n2,?_⟩;simp only[aL,eu];rw[e1];simp only[an];rw[jg (X:=S.st) (Y:=S2.st) d1.fz d1.less e2];rfl
    ·cases h
   ·cases h
theorem wg(el:Ty): ∀ (vs:List V) (S S1:TS) (l:List el.D),S.ok->(∀v∈vs,v.ok S.gh)->im el S vs=some (l,S1)->
  ∃L,gC S S1 L/\L.Nodup/\eb S.st el.shs (vs.map λv=>v.av.cells)=some (l.map el.row,L)/\l.length=vs.length/\ ∀v∈vs,v.av.cells.length=el.width/\v.av.isDead=false:=by
 intro vs
 induction vs with
 |nil=>intro S S1 l hS hv h;simp only[im,ae,ap] at h;obtain⟨rfl,rfl⟩:=h;exact⟨[],gC.refl _,c9,rfl,rfl,λv hv=>by cases hv⟩
 |cons v vs ih=>
  intro S S1 l hS hv h;cases v with
  |tup x=>simp[im] at h
  |v x=>
   have hx:=hv (.v x) aH;simp only[im] at h;split at h
   ·rename_i ws S2 hw
    have hcells: ∀c∈x.cells,c.ok S.gh:=by
     intro c hc;cases x with
     |cl y=>rw[aI.1 hc];exact hx
     |agg cs=>exact hx c hc
     |fn f cs=>rw[aI.1 hc];trivial
    obtain⟨L1,d1,n1,e1⟩:=yG _ _ _ _ _ _ _ hS (aw _) hcells hw
    have hw':el.csh.length=x.cells.length/\ ∀c∈x.cells,c≠ .dead:=by obtain⟨_,m2,_,m4,_⟩:=nN S.gh.length 0 0 0 el.csh x.cells 0 S S2 ws [x.cells.map λc=>T.ofSc c.av] (x.cells.map λc=>T.ofSc c.av) hS hcells hw rfl (by simp) (λk c hk=>by grind);exact⟨m2,m4⟩
    split at h
    ·rename_i y ys S3 hy hys;simp only[ae,ap] at h;obtain⟨rfl,rfl⟩:=h;obtain⟨L2,d2,n2,e2,e3,e4⟩:=ih S2 S3 ys (d1.ok hS) (λu hu=>V.ok_mono d1.le (hv u (aE _ hu))) hys
     have hsh:el.shs=el.csh.map rO:=by unfold Ty.shs;refine aA λc _=> ?_;cases c<;>rfl
     have hav: (V.v x).av.cells=x.cells.map Cl.av:=by
      cases x with
      |cl c=>
       simp only[V.av,V1.av,V1.cells,aL,ch];cases c with
       |c y=>cases y<;>rfl
       | _=>rfl
      |agg cs=>rfl
      |fn f cs=>exact absurd rfl (hw'.2 .dead (aI.2 rfl))
     refine⟨L1++L2,d1.trans d2,d1.apart d2 n1 n2,?_,by simp[e3],λu hu=> ?_⟩
     ·simp only[aL,eb];rw[hav,hsh,e1];simp only[an];rw[<-hsh,l7 (X:=S.st) (Y:=S2.st) d1.fz d1.less e2];simp only[aB];rw[el.row_flat,el.unflat_some _ _ hy]
     ·rcases aW.1 hu with rfl|hu
      ·refine⟨?_,?_⟩
       ·grind [kA]
       ·cases x with
        |cl c=>
         have:=hw'.2 c (aI.2 rfl);cases c with
         |c y=>cases y<;>rfl
         |dead=>exact absurd rfl this
         | _=>rfl
        |agg cs=>rfl
        |fn f cs=>rfl
      ·exact e4 u hu
    ·cases h
   ·cases h
theorem sF(hΘ:dR P Θ){t:TypeId}(h:An Θ t=true): ∃ti el elT',eW Θ t=some ti/\ti.ty= .ls el/\iB P t=some elT'/\P.cellsOf elT'=el.width/\P.bytesOf elT'=ti.el/\0<ti.el/\fI P 9 elT'=el.shs/\k9 P elT'=some el.zvs:=by
 unfold An at h;split at h
 ·rename_i ti hti;split at h
  ·rename_i el he;obtain⟨elT',g⟩:=(hΘ _ _ hti).el el he;exact⟨ti,el,elT',hti,he,g⟩
  ·cases h
 ·cases h
theorem yA{el:Ty}{v:Cl}(hv:v.ok S.gh){κ:List el.D->TS->Option ρ}{r:ρ}(h:wL S el v κ=some r):
  ∃more L S1,gC S S1 L/\ei S.st el.width el.flatB v.av=some (more.map el.row,L)/\κ more S1=some r:=by
 unfold wL at h;split at h
 ·exact⟨[],[],S,gC.refl _,rfl,h⟩
 ·rename_i t l;obtain⟨h1,h⟩:=dj h;split at h
  ·rename_i l' hl;obtain⟨e,hl⟩:=dW hl;subst e;simp only at hl;subst hl;refine⟨l,[],S,gC.refl _,?_,h⟩;simp only[Cl.av,C.av,ei];rw[if_pos ⟨trivial,iv h1 l⟩]
  ·cases h
 ·rename_i p sz lo len w;obtain⟨h0,h⟩:=dj h;have h0:el.width=sz:=ak h0;cases hfl:el.flatB with
  |true=>
   rw[hfl] at h;simp only[cond_true] at h;obtain⟨t,l,h1,h2,h⟩:=dX h;split at h
   ·rename_i l' hl;obtain⟨e,hl⟩:=dW hl;subst e;simp only at hl;subst hl
    have src: ∀ (lo len:Nat),lo+len<=l.length->ei S.st t.width true (.own p sz lo len)=some (((l.drop lo).take len).map t.row,[]):=by intro lo len hle;simp only[ei];rw[if_pos h0.symm,eO h1];simp only[an,aF];rw[if_neg (by simp),if_pos ⟨hle,by grind [iv]⟩];simp[bZ,co]
    cases w with
    |true=>
     obtain⟨e1,e2,e3⟩:=jv hv h2;refine⟨l,[],S,gC.refl _,?_,h⟩
     grind [Cl.av]
    |false=>simp only[cond_false] at h;obtain⟨h3,h⟩:=dF h;exact⟨_,[],S,gC.refl _,src lo len h3,h⟩
   ·cases h
  |false=>
   rw[hfl] at h;simp only[cond_false] at h;split at h
   ·rename_i hpl;obtain⟨h1,h'⟩:=dj h;clear h;simp only[aj] at h1;obtain⟨rfl,hfz⟩:=h1;have hfz:S.fz<=p.r:=ar hfz;obtain⟨t,l,g1,g2,h⟩:=dX h';split at h
    ·rename_i l' hl;obtain⟨e,hl⟩:=dW hl;subst e;simp only at hl;subst hl;obtain⟨e1,e2,e3⟩:=jv hv g2;refine⟨l,[p.r],_,gC.one (g2 e1),?_,h⟩;simp only[Cl.av,ei];rw[if_pos h0.symm,eO g1];simp only[an,aF];rw[if_pos ⟨trivial,e1,e2,e3,hfz⟩]
    ·cases h
   ·cases h
 ·cases h
theorem vr{el:Ty}{v:Cl}(hv:v.ok S.gh)(hroot:t7 (.v (.cl v))=true){more:List el.D}{κ:List el.D->TS->Option ρ}{r:ρ}(h:qe S el v more κ=some r):
  ∃ (l0:List el.D) (cons:List Nat) (S':TS),fX S.st el.width v.av=some (l0.map el.row,cons)/\gC S S' cons/\κ (l0++more) S'=some r:=by
 unfold qe at h;split at h
 ·exact⟨[],[],S,rfl,gC.refl _,h⟩
 ·rename_i p sz lo len w;obtain⟨pr,pl⟩:=p;cases pl with
  |cons a l=>cases hroot
  |nil=>
   obtain⟨h0,h'⟩:=dj h;clear h;simp only[aj] at h0;have hfz:S.fz<=pr:=ar h0.1;have hsz:el.width=sz:=ak h0.2;simp only at h';obtain⟨t,l,h1,h2,h⟩:=dX h';split at h
   ·rename_i l' hl;obtain⟨e,hl⟩:=dW hl;subst e;simp only at hl;subst hl
    have base: ∀ (len:Nat),¬l.length<len->fX S.st t.width (.own ⟨pr,[]⟩ sz 0 len)=some ((l.take len).map t.row,[pr]):=by intro len hlen;simp only[fX];rw[if_pos ⟨hsz.symm,trivial,trivial,hfz⟩,eO h1];simp only[an,aF];rw[if_neg hlen,bZ]
    cases w with
    |true=>
     obtain⟨e1,e2,e3⟩:=jv hv h2;refine⟨l,[pr],_,?_,gC.one (h2 rfl),h⟩
     grind [Cl.av]
    |false=>
     simp only[cond_false] at h;obtain⟨h3,h⟩:=dF h;obtain⟨h4,h⟩:=lF h;refine⟨l.take len,[pr],_,?_,gC.one (h2 rfl),h⟩
     grind [Cl.av]
   ·cases h
 ·cases h
theorem tW[dp](hΘ:dR P Θ)(hY:eY P Y)(hS:S.ok){o:Oper}(hn:dT o=true)(hf:xO Θ o=true)(hb:th S o=true){κ:V->TS->Option ρ}{r:ρ}(h:i8 Θ Y S o κ=some r):
  ∃D v0 v adds cons S',eS P D/\dM D P S.st o=some (v0,adds,cons)/\shift S.st.ng v0=V.av v/\S.st.make ⟨S.st.ng,adds,cons⟩=TS.st S'/\kh S S'=⟨S.st.ng,adds,cons⟩/\S'.ok/\v.ok S'.gh/\κ v S'=some r:=by
 obtain⟨dst,op,ty,pos,aft,gd⟩:=o;cases op with
 |buildSlice t len parts=>
  obtain⟨ti,el,elT',hti,he,g1,g2,g3,g4,g5,g6⟩:=sF hΘ hf;unfold i8 at h;simp only[hti,he] at h;obtain⟨hb',h'⟩:=dj h;clear h
  have hnr: ((parts.toList.map λx=>S.opd x.2).any nh)=false:=by have hb: (!(parts.toList.map λx=>S.opd x.2).any nh)=true:=hb;simpa using hb
  rw[hnr] at h';simp only[cond_false] at h';split at h'
  ·rename_i l S1 hp
   have hvok: ∀v∈parts.toList.map (λx=>S.opd x.2),v.ok S.gh:=λv hv=>by obtain⟨y,_,rfl⟩:=aD.1 hv;exact fD hS _
   obtain⟨L,d,hnd,m1,m2,m3⟩:=wg el _ S S1 l hS hvok hp;simp only[aj] at hb';have hb1:len*el.width<=1048576:=ar hb'.1;have hb2:=mX hb'.2
   have hlen:l.length=len:=by rw[m2];have:=congrArg List.length hb2;simpa using this
   refine⟨pB,.own ⟨0,[]⟩ el.width 0 len,_,[.sl el.width (l.map el.row)],fo L,{ S1 with gh:=S1.gh++ [some ⟨el,l,none⟩] },ed,?_,?_,d.make ⟨el,l,none⟩,?_,TS.ok_gh (d.ok hS) (eg.app _ _),?_,h'⟩
   ·simp only[dM,g1,an]
    rw[if_pos ⟨by rw[g2];exact hb1,hb2,by rw[g2];exact el.width_pos,by rw[g6];rfl,by rw[au];intro y hy;obtain⟨q1,q2⟩:=m3 (S.opd y.2) (aD.2 ⟨y,hy,rfl⟩);simp only[du,q1,q2,g2];rfl⟩]
    have e: (parts.toList.map λx=>(opd S.st x.2).cells)=(parts.toList.map λx=>S.opd x.2).map λv=>v.av.cells:=by rw[aX];exact aA λx _=>by simp only[du,Function.comp]
    rw[e,g5,m1];simp only[an];rw[if_pos (my.2 hnd),g2]
   ·simp only[shift,eH,eP,V.av,V1.av,Cl.av,aM,hlen];rw[d.len];rfl
   ·unfold kh;simp only;rw[d.gone,cb (by rw[d.len];exact aw _),bS (by rw[d.len];exact aw _)];rfl
   ·refine⟨by simp,λ_=>⟨rfl,rfl,λtr htr=> ?_⟩⟩;rw[eT,if_pos rfl] at htr;cases htr;rfl
  ·cases h'
 |call c=>
  obtain⟨cl,as,ts⟩:=c;cases cl with
  |invoke a b=>cases hn
  |value f=>
   unfold i8 at h;simp only at h
   have fin: ∀ (g:FuncId) (caps:List AV) (vs:List V1),g<ey->callee S.st f=some (g,caps)->args P S.st ts as caps=vs.map V1.av->Y g vs ρ (λres out=>κ (gV S.gh.length res) { S with gh:=S.gh++out.map some })=some r->
     ∃D v0 v adds cons S',eS P D/\dM D P S.st ⟨dst,.call { callee:=.value f,args:=as,argTypes:=ts },ty,pos,aft,gd⟩=some (v0,adds,cons)/\shift S.st.ng v0=V.av v/\S.st.make ⟨S.st.ng,adds,cons⟩=TS.st S'/\kh S S'=⟨S.st.ng,adds,cons⟩/\S'.ok/\v.ok S'.gh/\κ v S'=some r:=by
    intro g caps vs hg h1 h2 h3;obtain⟨res,out,h4,h5,h6⟩:=hY _ _ _ _ _ h3;have h4:=h4.fn hg;refine⟨uP dst g (vs.map V1.av) (res.av,out.map dx.tree),res.av,_,out.map dx.tree,[],_,nv h4,?_,?_,tT S out,?_,TS.ok_gh hS (eg.apps _ _),jN h5,h6⟩
    ·simp_all [dM,tX]
    ·rw[jM];rfl
    ·unfold kh;simp only[kN,cb (aw _),List.drop_length,bC,nP];rfl
   unfold tu at h;split at h
   ·rename_i g x y hf';obtain⟨hg,h⟩:=dj h;have hg:g<ey:=ar hg;obtain⟨vs,h1,h⟩:=jd hΘ hS _ _ _ _ h;refine fin g [] vs hg ?_ ?_ h
    ·unfold callee;rw[du,hf'];rfl
    grind [args]
   ·rename_i g caps hf';obtain⟨hg,h⟩:=dj h;have hg:g<ey:=ar hg;obtain⟨vs,h1,h⟩:=jd hΘ hS _ _ _ _ h
    have hcaps: ∀c∈caps,c.ok S.gh:=by have:=fD hS f;rw[hf'] at this;exact this
    obtain⟨cs,h2,h⟩:=mT hS _ _ _ hcaps h;refine fin g (caps.map Cl.av) (vs++cs.map .cl) hg ?_ ?_ h
    ·unfold callee;rw[du,hf'];rfl
    ·unfold args;rw[h1,h2,bH,aX];rfl
   ·cases h
  |builtin b=>
   cases b with
   |append=>
    unfold i8 at h;simp only at h;split at h
    ·rename_i s x t t' e1 e2;have hbb: ((match ts.toList with | [t,t'] =>Nat.beq t t'| _=>true)&&(match as.toList with |s::_=>t7 (S.opd s)| [] =>true))=true:=hb;rw[e1,e2] at hbb;simp only[aj] at hbb;rw[hbb.1] at h;simp only[cond_true] at h;have h':=h;have ht:t=t':=ak hbb.1;clear h;have e1:as= #[s,x] :=by apply Array.ext';simpa using e1
     have e2:ts= #[t,t'] :=by apply Array.ext';simpa using e2
     subst e1 e2;subst ht;obtain⟨ti,el,elT',hti,he,g1,g2,g3,g4,g5,g6⟩:=sF hΘ hf;unfold xg at h';simp only[hti] at h';split at h'
     ·rename_i el' sv xv he' hs hx;rw[he] at he';cases he';have hsv:=fD hS s;rw[hs] at hsv;have hxv:=fD hS x;rw[hx] at hxv;obtain⟨more,L,S1,d1,q1,h⟩:=yA (show xv.ok S.gh from hxv) h';have hroot:t7 (.v (.cl sv))=true:=by rw[<-hs];exact hbb.2
      obtain⟨l0,cons,S2,q2,d2,h⟩:=vr (show sv.ok S1.gh from Cl.ok_mono d1.le hsv) hroot h;obtain⟨hbd,h⟩:=dF h;have hlen: (l0++more).length<=2 ^ 40:=aU (Nat.le_mul_of_pos_right _ g4) hbd;have hll: (l0++more).length=l0.length+more.length:=by simp
      have d:=d1.trans d2;refine⟨pB,.own ⟨0,[]⟩ el.width 0 (l0.length+more.length),_,[.sl el.width ((l0++more).map el.row)],fo (L++cons),{ S2 with gh:=S2.gh++ [some ⟨el,l0++more,none⟩] },ed,?_,?_,d.make ⟨el,l0++more,none⟩,?_,TS.ok_gh (d.ok hS) (eg.app _ _),?_,h⟩
      ·simp only[dM];rw[if_pos trivial,g1];simp only[an,g2,g5,jD,du,hs,hx];show (ei S.st el.width el.flatB xv.av).bind _=_;rw[q1];simp only[an];show (fX (dropL S.st L) el.width sv.av).bind _=_;rw[<-d1.st,q2];simp only[an,aF];rw[if_pos ⟨by rw[g3,<-hll];exact hbd,by rw[<-hll];exact hlen,el.width_pos,by rw[lf g2 g5 g6];rfl⟩,bH]
      ·simp only[shift,eH,eP,V.av,V1.av,Cl.av,aM,hll];rw[d.len];rfl
      ·unfold kh;simp only;rw[d.gone,cb (by rw[d.len];exact aw _),bS (by rw[d.len];exact aw _)];rfl
      ·refine⟨by simp,λ_=>⟨rfl,rfl,λtr htr=> ?_⟩⟩;rw[eT,if_pos rfl] at htr;cases htr;rfl
     ·cases h'
    ·cases h
   | _=>cases hn
 |makeSlice t l c=>
  unfold i8 at h;simp only at h;split at h
  ·rename_i ti hti;split at h
   ·rename_i el he;obtain⟨elT',g1,g2,g3,g4,g5,g6⟩:=(hΘ _ _ hti).el el he;obtain⟨n,h1,h⟩:=iM h;obtain⟨m,h2,h⟩:=iM h;split at h
    ·rename_i z hz;obtain⟨hb,h⟩:=dF h;have hz':=Ty.unflat_some _ _ _ hz
     have hzr:el.row z=List.zipWith zc el.shs el.zvs:=by rw[el.row_flat,hz',nV]
     refine⟨pB,.own ⟨0,[]⟩ el.width 0 n.toNat,_,[(⟨el,List.replicate n.toNat z,none⟩:dx)].map dx.tree,[],{ S with gh:=S.gh++ [(⟨el,List.replicate n.toNat z,none⟩:dx)].map some },ed,?_,?_,tT S _,?_,TS.ok_gh hS (eg.apps _ _),?_,h⟩
     ·simp only[dM,g1,an,du,h1,h2];rw[lf g2 g5 g6];simp only[an]
      have hn:n<=n*(ti.el:Int):=by
       have h1e: (1:Int)<=ti.el:=by omega
       have:=cB h1e hb.1
       rwa [Int.mul_one] at this
      rw[if_pos ⟨hb.1,hb.2.1,by rw[g3,Int.mul_comm];exact hb.2.2,Int.le_trans hn hb.2.2⟩,g2,<-hzr];simp[dx.tree]
     ·simp only[shift,eH,eP,V.av,V1.av,Cl.av,aM];rfl
     ·unfold kh;simp only[kN,cb (aw _),List.drop_length,bC,nP];rfl
     ·refine⟨by simp,λ_=>⟨rfl,by simp,λtr htr=> ?_⟩⟩;rw[show [(⟨el,List.replicate n.toNat z,none⟩:dx)].map some= [some ⟨el,List.replicate n.toNat z,none⟩] from rfl,eT,if_pos rfl] at htr;cases htr;simp
    ·cases h
   ·cases h
  ·cases h
 | _=>cases hn
end
end
section
open Go
section
variable {ρ:Type} {P:Program} {Θ:fw} {S:TS} {Y:kF}
open Classical in
noncomputable def kP(d:Option Tmp)(D1 D2:gW):gW:=λd'=>if d'=d then D1 d' else D2 d'
theorem qN[dp]{d:Option Tmp}{D1 D2:gW}(h1:eS P D1)(h2:eS P D2):eS P (kP d D1 D2):=by
 intro d' f args gs res out h;unfold kP at h;split at h
 ·exact h1 _ _ _ _ _ _ h
 ·exact h2 _ _ _ _ _ _ h
theorem vQ(d:Option Tmp)(D1 D2:gW):kP d D1 D2 d=D1 d:=by unfold kP;rw[if_pos rfl]
theorem vR{d d':Option Tmp}(D1 D2:gW)(h:d'≠d):kP d D1 D2 d'=D2 d':=by unfold kP;rw[if_neg h]
theorem xH[dp](hΘ:dR P Θ)(hY:eY P Y){ops:Array Oper}: ∀ (os:List Oper) (S:TS) (ms:List ek) (κ:TS->List ek->Option ρ) (r:ρ),S.ok->qz Θ Y ops.toList os S ms κ=some r->
  ∃D SV ms',eS P D/\oa D P ops os S.st=some (TS.st SV,ms')/\SV.ok/\κ SV (ms++ms')=some r:=by
 intro os
 induction os with
 |nil=>intro S ms κ r hS h;exact⟨pB,S,[],ed,rfl,hS,by rw[bM];exact h⟩
 |cons o os ih=>
  intro S ms κ r hS h;unfold qz at h;cases hst:dh o with
  |true=>
   rw[hst] at h;simp only[cond_true] at h;obtain⟨D,SV,ms',h1,h2,h3,h4⟩:=ih _ _ _ _ hS h;refine⟨D,SV,⟨S.gh.length,[],[]⟩::ms',h1,?_,h3,?_⟩
   ·simp only[oa,hst,if_true,h2,aB];rfl
   grind
  |false=>
   rw[hst] at h;simp only[cond_false] at h;cases hbo:dK o with
   |true=>
    rw[hbo] at h;simp only[cond_true] at h;cases hgn:o.guard.isNone with
    |false=>rw[hgn] at h;cases h
    |true=>
    rw[hgn] at h;simp only[cond_true] at h;obtain⟨S3,g5,g6,_,h⟩:=eF (v:=V.v (.cl (.ptrB (S.bx.length-1-dS os) 0))) hS trivial h;obtain⟨D,SV,ms',k1,k2,k3,k4⟩:=ih _ _ _ _ g6 h;refine⟨D,SV,⟨S.gh.length,[],[]⟩::ms',k1,?_,k3,?_⟩
    ·simp only[oa,hst,aN,if_false,hbo,if_true,hgn];rw[show S.st.put o.dst (.ptrB (S.st.nb-1-dS os) 0)=some S3.st from g5];simp only[an,k2,aB];rfl
    grind
   |false=>
   rw[hbo] at h;simp only[cond_false] at h;obtain⟨b,S1,h1,h2,h3,h4,h⟩:=rN hS h;have hng:S.st.ng=S1.st.ng:=by rw[h2]
   cases b with
   |false=>
    simp only[cond_false] at h;obtain⟨S3,g5,g6,_,h⟩:=eF (v:=.tup []) h3 (λx hx=>by cases hx) h;obtain⟨D,SV,ms',k1,k2,k3,k4⟩:=ih _ _ _ _ g6 h;refine⟨D,SV,⟨S1.gh.length,[],[]⟩::ms',k1,?_,k3,?_⟩
    ·simp only[oa,hst,hbo,aN,if_false,h1,an];rw[<-h2,show S1.st.put o.dst (.tup [])=some S3.st from g5];simp only[an,k2,aB];rfl
    grind
   |true=>
    simp only[cond_true] at h;cases hnw:dT o with
    |false=>
     rw[hnw] at h;simp only[cond_false] at h;obtain⟨v,S2,m1,m2,m3,m4,m5,h⟩:=lO (D:=pB) hΘ h3 h;obtain⟨S3,g5,g6,_,h⟩:=eF m3 (by rw[m4];exact m5) h;obtain⟨D,SV,ms',k1,k2,k3,k4⟩:=ih _ _ _ _ g6 h;refine⟨D,SV,⟨S1.gh.length,[],[]⟩::ms',k1,?_,k3,?_⟩
     ·have hV:dk D P S1.st o=some v.av:=by
       rw[<-m1]
       have : ∀D':gW,dk D P S1.st o=dk D' P S1.st o:=by
        intro D';obtain⟨dst,op,ty,pos,aft,gd⟩:=o;cases op with
        |call c=>
         obtain⟨cl,as,ts⟩:=c;cases cl with
         |value f=>cases hnw
         |invoke a b=>rfl
         |builtin b=>cases b<;>rfl
        |unOp op t x=>cases op<;>rfl
        |binOp op t x y t'=>cases op<;>rfl
        |makeFunc fn first caps=>cases fn<;>rfl
        |slice t x lo hi mx=>cases mx<;>rfl
        | _=>rfl
       exact this pB
      simp only[oa,hst,hbo,aN,if_false,h1,an,if_true,hnw];rw[<-h2,hV];simp only[an];rw[<-m2,g5];simp only[an,k2,aB];rw[m2];first |rfl|skip
     grind
    |true=>
     rw[hnw] at h;simp only[cond_true] at h;obtain⟨hc,h⟩:=dj h;simp only[aj] at hc;obtain⟨D1,v0,v,adds,cons,S2,m1,m2,m3,m4,m5,m6,m7,h⟩:=tW hΘ hY h3 hnw hc.1.2 hc.2 h;obtain⟨S3,g5,g6,_,h⟩:=eF m6 m7 h;obtain⟨D,SV,ms',k1,k2,k3,k4⟩:=ih _ _ _ _ g6 h;refine⟨kP o.dst D1 D,SV,⟨S1.st.ng,adds,cons⟩::ms',qN m1 k1,?_,k3,?_⟩
     ·have hN:dM (kP o.dst D1 D) P S1.st o=some (v0,adds,cons):=by
       rw[<-m2];exact ub (vQ _ _ _)
      have hrest:oa (kP o.dst D1 D) P ops os S3.st=some (SV.st,ms'):=by
       rw[<-k2];refine AA os _ (λo' ho'=>vR _ _ (λe=> ?_));have hl:=hc.1.1;unfold AO at hl;split at hl
       ·grind [yZ,Nat.beq_refl]
       ·cases hl
      simp_all [oa]
     grind
theorem xL[dp](hΘ:dR P Θ)(hY:eY P Y){ops:Array Oper}{D:gW}: ∀ (os:List Oper) (S:TS) (κ:TS->Option ρ) (r:ρ),S.ok->vE Θ Y os S κ=some r->
  ∃S',ob D P ops os S.st=some (TS.st S')/\S'.ok/\κ S'=some r:=by
 intro os
 induction os with
 |nil=>intro S κ r hS h;exact⟨S,rfl,hS,h⟩
 |cons o os ih=>
  intro S κ r hS h;unfold vE at h;cases hst:dh o with
  |false=>simp_all [ob]
  |true=>
   rw[hst] at h;simp only[cond_true] at h;obtain⟨hc,h⟩:=dj h;simp only[aj] at hc;obtain⟨D',v,S1,g1,g2,g3,g4,h⟩:=jt hΘ hY hS h;obtain⟨S',h1,h2,h3⟩:=ih S1 κ r g3 h;refine⟨S',?_,h2,h3⟩;have hd:o.dst=none:=cr.1 hc.2
   have hs:step D P S.st o=some (v.av,S1.st):=by
    rw[<-g2];obtain⟨dst,op,ty,pos,aft,gd⟩:=o;cases op with
    |store t a x=>rfl
    | _=>cases hst
   simp_all [one,St.put,ob]
theorem yn(hΘ:dR P Θ): ∀ (os:List Oper) (S:TS) (κ:TS->Option ρ) (r:ρ),S.ok->wj Θ os S κ=some r-> ∃S0,pH P os S.st=some (TS.st S0)/\S0.ok/\κ S0=some r:=by
 intro os
 induction os with
 |nil=>intro S κ r hS h;exact⟨S,rfl,hS,h⟩
 |cons o os ih=>
  intro S κ r hS h;unfold wj at h;unfold pH;split at h
  ·rename_i t hop;split at h
   ·rename_i ti hti
    obtain⟨S0,h1,h2,h3⟩:=ih { S with bx:=S.bx++ [ti.ty.zvs.map cC] } κ r ⟨hS.env,λcs hcs c hc=>by
     rcases bz.1 hcs with h1|h1
     ·exact hS.bx cs h1 c hc
     grind [wY]⟩ h
    refine⟨S0,?_,h2,h3⟩;rw[hop];simp only[(hΘ _ _ hti).ze,an];rw[<-h1]
    congr 1
    rw[sV,wX];rfl
   ·cases h
  grind
theorem sT{f g:TypeId->Bool}(h: ∀t,f t=true->g t=true){t:TypeId}{a:AV}(hs:kX f t a=true):kX g t a=true:=by cases a<;>simp only[kX] at hs ⊢<;>first |exact h t hs|exact hs
theorem qV{f g:TypeId->Bool}(h: ∀t,f t=true->g t=true){ops:List Oper}{B:List (List Nat)}{S SV:St}{i j:Nat}{oi oj:Oper}(hs:iP f ops B S SV i j oi oj=true):iP g ops B S SV i j oi oj=true:=by
 unfold iP at hs ⊢;split at hs
 ·simp only[aj] at hs ⊢;exact⟨sT h hs.1,hs.2⟩
 ·cases hs
theorem rf{ops:List Oper}{B:List (List Nat)}{f g:Nat->Nat->Oper->Oper->Bool}(h: ∀i j oi oj,f i j oi oj=true->g i j oi oj=true)(hs:ko ops B f=true):ko ops B g=true:=by
 unfold ko at hs ⊢
 grind
theorem uA{f g:TypeId->Bool}(h: ∀t,f t=true->g t=true){ops:List Oper}{B:List (List Nat)}{S SV:St}{ms:List ek}(hs:sk f ops B S ms SV=true):sk g ops B S ms SV=true:=by
 unfold sk at hs ⊢;simp only[aj,bo] at hs ⊢
 grind [rf,qV]
theorem tF(hΘ:dR P Θ)(t:TypeId)(h:tG Θ t=true):gZ P t=true:=by
 unfold tG at h;split at h
 ·rename_i ti hti;unfold gZ;rw[(hΘ t ti hti).sh];unfold Ty.flatB at h;unfold Ty.shs
  grind
 ·cases h
theorem wK(hΘ:dR P Θ){S:TS}{o:Oper}(h:wJ Θ S o=true): ∀t x v,o.op= .store t x v->kX (gZ P) t (opd S.st x)=true:=by
 intro t x v ho;unfold wJ at h;rw[ho] at h;simp only at h;rw[du];split at h
 ·rename_i e;rw[e];rfl
 ·rename_i e;rw[e];exact tF hΘ t h
 ·cases h
theorem uE(hΘ:dR P Θ){o:Oper}(h:pk Θ o=true):m0 P o=true:=by
 unfold m0;split
 ·rename_i t a b he;unfold pk at h;rw[he] at h;simp only at h;split at h
  ·rename_i ti hti;split at h
   ·rename_i el hel;have hl:An Θ t=true:=by unfold An;rw[hti];simp only[hel]
    grind [sF,gZ,jD]
   ·cases h
  ·cases h
 ·rfl
theorem vL{o:Oper}{κ:V->Option ρ}{r:ρ}(hΘ:dR P Θ)(h:vK Θ S o κ=some r): ∃ (el:Ty) (l:List el.D),yV P S.st o=some (V.v (.cl (.c (.ls el l)))).av/\κ (.v (.cl (.c (.ls el l))))=some r:=by
 unfold vK at h;split at h
 ·rename_i t len parts ho;split at h
  ·rename_i ti hti;split at h
   ·rename_i el he;obtain⟨elT',g1,g2,g3,g4,g5,g6⟩:=(hΘ _ _ hti).el el he;obtain⟨hb,h⟩:=dj h;simp only[aj] at hb;have hb1:len*el.width<=1048576:=ar hb.1;have hb2:=mX hb.2;split at h
    ·rename_i l hl;obtain⟨m1,m2,m3⟩:=jr el _ l hl;refine⟨el,l,?_,h⟩;simp only[yV,ho,g1,an]
     rw[if_pos ⟨by rw[g2];exact hb1,hb2,by rw[g2];exact el.width_pos,by rw[g6];rfl,by
      rw[au];intro y hy;obtain⟨q1,q2⟩:=m3 (S.opd y.2) (aD.2 ⟨y,hy,rfl⟩)
      simp_all [du]⟩]
     have e2: (parts.toList.map λx=>(opd S.st x.2).cells)=(parts.toList.map λx=>S.opd x.2).map λv=>v.av.cells:=by rw[aX];exact aA λx _=>by simp only[Function.comp,du]
     rw[e2,g5,m2,g2];rfl
    ·cases h
   ·cases h
  ·cases h
 ·cases h
theorem xI[dp](hΘ:dR P Θ)(hY:eY P Y){n0:Nat}{ops:List Oper}{B:List (List Nat)}: ∀ (os:List Oper) (k:Nat) (S:TS) (κ:TS->Option ρ) (r:ρ),(∀o∈os,fC P o=true)->(os≠ [] ->n0<=S.gh.length)->S.ok->ph Θ Y n0 ops B k os S κ=some r->
  ∃ (T:Nat->St) (S':TS),T k=S.st/\T (k+os.length)=S'.st/\S'.ok/\κ S'=some r/\ ∀i o,os[i]? =some o->ox P n0 ops B T (k+i) o\/(i+1=os.length/\dh o=true/\vh P (T (k+i)) o (T (k+i+1))/\ ∀j,j<k+i->j∈B.getD (k+i) []):=by
 intro os
 induction os with
 |nil=>intro k S κ r _ _ hS h;exact⟨λ_=>S.st,S,rfl,rfl,hS,h,λi o h=>by simp at h⟩
 |cons o os ih=>
  intro k S κ r hop hn0 hS h;have hop': ∀o∈os,fC P o=true:=λx hx=>hop x (aE _ hx);have hok:=hop o aH;have hn0:=hn0 (by simp)
  have glue: ∀ {S3:TS},(os≠ [] ->n0<=S3.gh.length)->S3.ok->ph Θ Y n0 ops B (k+1) os S3 κ=some r->((i9 o=true/\eR P n0 S.st o S3.st)\/vf P n0 (qL ops o) (wi S.st ops B k) S.st o S3.st\/(os= [] /\dh o=true/\vh P S.st o S3.st/\ ∀j,j<k->j∈B.getD k []))->
    ∃ (T:Nat->St) (S':TS),T k=S.st/\T (k+(o::os).length)=S'.st/\S'.ok/\κ S'=some r/\ ∀i o',(o::os)[i]? =some o'->ox P n0 ops B T (k+i) o'\/(i+1=(o::os).length/\dh o'=true/\vh P (T (k+i)) o' (T (k+i+1))/\ ∀j,j<k+i->j∈B.getD (k+i) []):=by
   intro S3 hn3 hS3 h3 hst;obtain⟨T,S',t1,t2,hS',hk,hT⟩:=ih (k+1) S3 κ r hop' hn3 hS3 h3
   let T':Nat->St:=λi=>if i=k then S.st else T i
   have e0:T' k=S.st:=if_pos rfl;have e1: ∀i,k<i->T' i=T i:=λi hi=>if_neg (by omega);refine⟨T',S',e0,?_,hS',hk,λi o' ho'=> ?_⟩
   ·grind
   ·cases i with
    |zero=>
     simp only[aG,ae] at ho';subst ho';have e2:T' (k+1)=S3.st:=by rw[e1 _ (by omega),t1]
     rcases hst with h|h| ⟨rfl,h1,h2,h3⟩
     ·left;left
      grind
     ·left;right
      grind
     grind
    |succ i=>grind [ox]
  unfold ph at h;cases hh:nc Y S o with
  |some z=>
   obtain⟨kd,g,caps,a,us,xs⟩:=z;rw[hh] at h;obtain⟨S3,g1,g2,g3⟩:=qK hΘ hY hS hh h
   have hv:i9 o=true:=by obtain⟨f,as,ts,x,t0,hop,_⟩:=ne hh;unfold i9 dT Ak;rw[hop];rfl
   exact glue (λ_=>aU hn0 (g1 0).ng) g2 g3 (.inl ⟨hv,g1 n0⟩)
  |none=>
  rw[hh] at h;simp only at h;cases hct:Ak o with
  |true=>
   rw[hct] at h;simp only[cond_true] at h;obtain⟨el,l,m1,h⟩:=vL hΘ h;obtain⟨S3,g5,g6,g7,h⟩:=eF (v:=V.v (.cl (.c (.ls el l)))) hS trivial h
   have hst:dh o=false:=by
    unfold Ak at hct;unfold dh;split at hct
    ·rename_i hop;rw[hop]
    ·cases hct
   exact glue (λ_=>by rw[g7];exact hn0) g6 h (.inr (.inl ⟨by simp[i9,hst,hct],_,.inr m1,g5⟩))
  |false=>
  rw[hct] at h;simp only[cond_false] at h;cases hs:dh o with
  |true=>
   rw[hs] at h;simp only[cond_true] at h;obtain⟨hc,h⟩:=dj h;obtain⟨D,v,S2,hD,g2,g3,g4,h⟩:=jt hΘ hY hS h;obtain⟨S3,g5,g6,g7,h⟩:=eF g3 g4 h;rcases Bool.or_eq_true_iff.1 hc with hc|hc
   ·have hst:=eR.store hD hok hs (wK hΘ hc) g2 g5 (n0:=n0);exact glue (λ_=>aU hn0 hst.ng) g6 h (.inl ⟨by simp[i9,hs],hst⟩)
   ·simp only[aj,cT,au,bq,bi] at hc;exact glue (λhne=>absurd hc.1 hne) g6 h (.inr (.inr ⟨hc.1,hs,vh.one hD hok (by unfold one;rw[g2];exact g5),hc.2⟩))
  |false=>
  rw[hs] at h;simp only[cond_false] at h;cases hn:dT o with
  |true=>
   rw[hn] at h;simp only[cond_true] at h;have hv:i9 o=true:=by simp[i9,hn,hct]
   cases hfl: !gJ o&&pk Θ o with
   |true=>simp only[hfl,Bool.true_or,cond_true] at h;simp only[aj,bD] at hfl;obtain⟨D,v,S2,hD,g2,g3,g4,h⟩:=jt hΘ hY hS h;obtain⟨S3,g5,g6,g7,h⟩:=eF g3 g4 h;have hst:=eR.flat hD hok hn hfl.1 (uE hΘ hfl.2) g2 g5 (n0:=n0) hn0;exact glue (λ_=>aU hn0 hst.ng) g6 h (.inl ⟨hv,hst⟩)
   |false=>
    simp only[hfl,bW] at h;cases hfb:xO Θ o&&th S o with
    |false=>
     obtain⟨D,v,S2,hD,g2,g3,g4,h⟩:=jt hΘ hY hS h
     grind
    |true=>
     have hfb':=hfb;simp only[aj] at hfb';obtain⟨D,v0,v,adds,cons,S2,hD,g2,g3,g4,g8,g9,g10,h⟩:=tW hΘ hY hS hn hfb'.1 hfb'.2 h;simp only[hfb,df] at h;obtain⟨hc,h⟩:=dj h;obtain⟨S3,g5,g6,g7,h⟩:=eF g9 g10 h
     have hst:eR P n0 S.st o S3.st:=eR.new hD hok hn g2 (by rw[g4,g3];exact g5) hn0 λha r hr=>by
      rw[ha,bW] at hc;have e:gone 0 S.gh S2.gh=cons:=congrArg ek.cons g8
      simp_all
     exact glue (λ_=>aU hn0 hst.ng) g6 h (.inl ⟨hv,hst⟩)
  |false=>rw[hn] at h;simp only[cond_false] at h;obtain⟨hp,h⟩:=dj h;obtain⟨v,S2,m1,m2,m3,m4,m5,h⟩:=lO (D:=xB) hΘ hS h;obtain⟨S3,g5,g6,g7,h⟩:=eF m3 (by rw[m4];exact m5) h;refine glue (λ_=>by rw[g7,m4];exact hn0) g6 h (.inr (.inl ⟨by simp[i9,hs,hn],v.av,.inl ⟨hn,hok,m1,hp⟩,by rw[<-m2];exact g5⟩))
theorem xK[dp](hΘ:dR P Θ)(hY:eY P Y)(hm:P.follows .mixedOrders=true){id:Nat}{ops:Array Oper}(hok:fe P (.region id ops true)=true)(hS:S.ok){κ:TS->Option ρ}{r:ρ}(h:zx Θ Y ops.toList S κ=some r):
  gk P (.region id ops true) S.st (λx S'=>x= .nor/\ ∃S1:TS,S'=S1.st/\S1.ok/\κ S1=some r):=by
 unfold zx at h;simp only[fe] at hok;cases hc:qp ops||(ops.toList.any (Bq Y)&&zd ops) with
 |true=>
  rw[show (qp ops.toList.toArray||(ops.toList.any (Bq Y)&&zd ops.toList.toArray))=true from hc] at h;simp only[cond_true] at h
  have hph:zd ops=true:=by
   unfold qp at hc;simp only[bo,aj] at hc;rcases hc with hc|hc
   ·exact hc.2
   ·exact hc.2
  obtain⟨T,S',t1,t2,h2,h3,hT⟩:=xI hΘ hY ops.toList 0 S κ r (λo ho=>au.1 hok o ho) (λ_=>aw _) hS h;have hsz:ops.toList.length=ops.size:=by simp
  rw[aM,hsz] at t2;have tl: ∀ {i:Nat} {o:Oper},ops[i]? =some o->ops.toList[i]? =some o:=by intro i o h;simpa using h
  by_cases hl: ∃o,ops[ops.size-1]? =some o/\ ¬ox P S.st.ng ops.toList (dN ops.toList) T (ops.size-1) o
  ·obtain⟨o,ho,hnp⟩:=hl;have hlt:=(az.1 ho).1;refine gk.phase hm (rh hph) T t1 (m:=ops.size-1) (.inr ⟨by omega,o,ho,?_⟩) (λi o hi ho=> ?_) ⟨rfl,S',t2,h2,h3⟩
   ·have:=hT _ o (tl ho);rw[aM] at this;rcases this with h|h
    ·exact absurd h hnp
    ·exact⟨h.2.1,h.2.2.1,h.2.2.2⟩
   ·have:=hT _ o (tl ho);rw[aM] at this;rcases this with h|h
    ·exact h
    ·omega
  ·refine gk.phase hm (rh hph) T t1 (m:=ops.size) (.inl rfl) (λi o hi ho=> ?_) ⟨rfl,S',t2,h2,h3⟩;have:=hT _ o (tl ho);rw[aM] at this;rcases this with h|h
   ·exact h
   grind
 |false=>
 rw[show (qp ops.toList.toArray||(ops.toList.any (Bq Y)&&zd ops.toList.toArray))=false from hc] at h;simp only[cond_false] at h;obtain⟨hd,h⟩:=dj h;have hd:tA ops=true:=hd;obtain⟨S0,h0,hS0,h⟩:=yn hΘ _ _ _ _ hS h;obtain⟨D,SV,ms,h1,h2,h3,h4⟩:=xH hΘ hY _ _ _ _ _ hS0 h;obtain⟨h5,h6⟩:=dj h4;rw[bC] at h5;obtain⟨S',h7,h8,h9⟩:=xL (D:=D) (ops:=ops) hΘ hY _ _ _ _ h3 h6;exact gk.draw h1 hm (by unfold mW;rw[hd,hok];rfl) h0 h2 (uA (tF hΘ) h5) h7 ⟨rfl,S',rfl,h8,h9⟩
def dL:Code->List Code
 | .seq a b=>dL a++dL b
 | .cond _ a b=>dL a++dL b
 | .block _ c=>dL c
 | .loop c=> [c]
 | _=> []
def eh[dp](P:Program)(Λ:fL)(cs:List Code):Prop:=∀c∈cs,∀ (S:TS) (ρ:Type) (κ:X->TS->Option ρ) (r:ρ),S.ok->Λ (eX c) S ρ κ=some r->gk P (.loop c) S.st (λx S'=> ∃S1:TS,S'=S1.st/\S1.ok/\κ x S1=some r)
theorem pg[dp](hΘ:dR P Θ)(hY:eY P Y)(hm:P.follows .mixedOrders=true){Λ:fL}: ∀ (c:Code) (S:TS) (κ:X->TS->Option ρ) (r:ρ),fe P c=true->eh P Λ (dL c)->S.ok->lr Θ Y Λ c S κ=some r->
  gk P c S.st (λx S'=> ∃S1:TS,S'=S1.st/\S1.ok/\κ x S1=some r):=by
 intro c
 induction c with
 |skip=>intro S κ r _ _ hS h;exact gk.skip ⟨S,rfl,hS,h⟩
 |exit i=>intro S κ r _ _ hS h;exact gk.exit ⟨S,rfl,hS,h⟩
 |ret=>intro S κ r _ _ hS h;exact gk.ret ⟨S,rfl,hS,h⟩
 |region id ops dr=>
  intro S κ r hok _ hS h;cases dr with
  |false=>exact gk.region (xJ hΘ hY _ _ _ _ (λo ho=>au.1 hok o ho) hS h)
  |true=>refine (xK hΘ hY hm hok hS h).mono (λx S' hx=> ?_);obtain⟨rfl,hx⟩:=hx;exact⟨S',gb.refl,hx⟩
 |seq a b iha ihb=>
  intro S κ r hok hL hS h;simp only[fe,aj] at hok;have hLa:eh P Λ (dL a):=λc hc=>hL c (bO _ hc);have hLb:eh P Λ (dL b):=λc hc=>hL c (List.mem_append_right _ hc);unfold lr at h;refine gk.seq ((iha S _ r hok.1 hLa hS h).mono (λx S' hx=>⟨S',gb.refl,?_⟩))
  grind
 |cond t a b iha ihb=>
  intro S κ r hok hL hS h;simp only[fe,aj] at hok
  grind [eh,dL,lr,mN,gk.cond]
 |block i c ih=>
  intro S κ r hok hL hS h;unfold lr at h;refine gk.block ((ih S _ r hok hL hS h).mono (λx S' hx=>⟨S',gb.refl,?_⟩));obtain⟨S1,rfl,h1,h2⟩:=hx;cases x with
  |nor=>exact⟨S1,rfl,h1,h2⟩
  |ret=>exact⟨S1,rfl,h1,h2⟩
  |ext j=>
   simp only at h2 ⊢;cases hb:Nat.beq j i with
   |true=>rw[hb] at h2;rw[if_pos (ak hb)];exact⟨S1,rfl,h1,h2⟩
   |false=>rw[hb] at h2;rw[if_neg (by grind [Nat.beq_refl])];exact⟨S1,rfl,h1,h2⟩
 |loop c ih=>intro S κ r hok hL hS h;exact hL c (aI.2 rfl) S ρ κ r hS h
 | _=>intro S κ r hok;cases hok
end
end
section
open Go
section
variable {ρ:Type} {P:Program} {Θ:fw} {S:TS} {Y:kF}
theorem pj(hS:S.ok){gs:List dx}{et:Option Ty}{c:Cl}(hc:c.ok S.gh){κ:Cl->List dx->TS->Option ρ}{r:ρ}(h:vF S gs et c κ=some r):
  ∃c' gs' S',j8 S.st (gs.map dx.tree) (rO et) c.av=some (Cl.av c',gs'.map dx.tree,TS.st S')/\S'.ok/\eg S.gh S'.gh/\eg (gs.map some) (gs'.map some)/\c'.ok (gs'.map some)/\κ c' gs' S'=some r:=by
 have new: ∀ (t:Ty) (l:List t.D) (n:Nat),n=l.length->(Cl.own ⟨gs.length,[]⟩ t.width 0 n true).ok ((gs++ [(⟨t,l,none⟩:dx)]).map some):=by intro t l n hn;refine⟨by simp,λ_=>⟨rfl,rfl,λtr htr=> ?_⟩⟩;rw[bH] at htr;have e:=eT (G:=gs.map some) (x:=some (⟨t,l,none⟩:dx)) gs.length;simp only[aF,if_true] at e;have htr':dJ (gs.map some++ [some (⟨t,l,none⟩:dx)]) gs.length=some tr:=htr;rw[e] at htr';cases htr';exact hn
 have grow: ∀ (x:dx),eg (gs.map some) ((gs++ [x]).map some):=λx=>by rw[bH];exact eg.app _ _
 unfold vF at h;split at h
 ·refine⟨_,_,_,rfl,hS,eg.refl _,eg.refl _,?_,h⟩;trivial
 ·rename_i t;refine⟨_,_,S,?_,hS,eg.refl _,grow _,new t [] 0 rfl,h⟩;simp only[Cl.av,j8,rO,aF,bH,aL,ch];rfl
 ·rename_i p sz lo len w t';obtain⟨pr,pl⟩:=p;cases pl with
  |cons a l=>cases h
  |nil=>
   simp only at h;obtain⟨h1,h'⟩:=dj h;clear h;simp only[aj] at h1;have h2:S.fz<=pr:=ar h1.1;have h3:t'.width=sz:=ak h1.2;obtain⟨t,l,k1,k2,h⟩:=dX h';obtain⟨k3,h⟩:=dj h;have k3:t.width=sz:=ak k3
   have fin0: ∀ (lo len:Nat),lo+len<=l.length->(lo=0\/sz<=3/\t.flatB=true)->j8 S.st (gs.map dx.tree) (rO (some t')) (.own ⟨pr,[]⟩ sz lo len)=some (.own ⟨gs.length,[]⟩ sz 0 len,(gs++ [(⟨t,(l.drop lo).take len,none⟩:dx)]).map dx.tree,({ S with gh:=dI S.gh pr none }:TS).st):=by
    intro lo len hlen hoff;simp only[j8];have hrows:S.st.rows ⟨pr,[]⟩ sz=some (l.map t.row):=by rw[<-k3];exact eO k1
    rw[if_pos ⟨trivial,by show sz=t'.width;exact h3.symm,h2⟩,hrows];simp only[an,aF];rw[if_pos ⟨hlen,hoff.imp id λh=>⟨h.1,iv h.2 l⟩⟩,kZ];simp only[rO,h3,bH,aL,ch,dx.tree,bZ,co,k3]
   have fin: ∀ (len:Nat),len<=l.length->j8 S.st (gs.map dx.tree) (rO (some t')) (.own ⟨pr,[]⟩ sz 0 len)=some (.own ⟨gs.length,[]⟩ sz 0 len,(gs++ [(⟨t,l.take len,none⟩:dx)]).map dx.tree,({ S with gh:=dI S.gh pr none }:TS).st):=λlen hlen=>by
    have:=fin0 0 len (by omega) (.inl rfl)
    rwa [ct] at this
   cases w with
   |true=>
    obtain⟨e1,e2,e3⟩:=jv hc k2;refine⟨_,_,_,?_,TS.ok_gh hS (eg.gone _ _),eg.gone _ _,grow _,by rw[<-k3];exact new t l _ rfl,h⟩
    simp_all [Cl.av]
   |false=>
    simp only[cond_false] at h;rcases ya h with ⟨h4,h⟩| ⟨_,h⟩
    case inr=>
     obtain⟨hz,h⟩:=dj h;simp only[aj] at hz;obtain⟨h4,h⟩:=dF h;refine⟨_,_,_,?_,TS.ok_gh hS (eg.gone _ _),eg.gone _ _,grow _,by rw[<-k3];exact new t ((l.drop lo).take len) _ rfl,h⟩;have:=fin0 lo len h4 (.inr ⟨ar hz.2,hz.1⟩);have hl: ((l.drop lo).take len).length=len:=by simp;omega
     simp only[Cl.av];rw[hl];exact this
    case inl=>
     refine⟨_,_,_,?_,TS.ok_gh hS (eg.gone _ _),eg.gone _ _,grow _,by rw[<-k3];exact new t (l.take len) _ rfl,h⟩
     grind [Cl.av]
 ·rename_i p sz i j;obtain⟨pr,pl⟩:=p;cases pl with
  |cons a l=>cases h
  |nil=>
   simp only at h;obtain⟨h1,h'⟩:=dj h;clear h;obtain⟨t,l,k1,k2,h⟩:=dX h';obtain⟨k3,h⟩:=dj h;have k3:t.width=sz:=ak k3;have hrows:S.st.rows ⟨pr,[]⟩ sz=some (l.map t.row):=by rw[<-k3];exact eO k1
   refine⟨_,_,_,?_,TS.ok_gh hS (eg.gone _ _),eg.gone _ _,grow _,?_,h⟩
   ·simp only[Cl.av,j8];rw[if_pos ⟨trivial,ar h1⟩,hrows];simp only[an,kZ,aF,bH,aL,ch,dx.tree,k3]
   ·show gs.length< ((gs++ [(⟨t,l,none⟩:dx)]).map some).length;simp
 ·cases h
theorem vG: ∀ (ets:List (Option Ty)) (cs:List Cl) (S:TS) (gs:List dx) (κ:List Cl->List dx->TS->Option ρ) (r:ρ),S.ok->(∀c∈cs,c.ok S.gh)->tC S gs ets cs κ=some r->
  ∃cs' gs' S',iJ S.st (gs.map dx.tree) (ets.map rO) (cs.map Cl.av)=some (cs'.map Cl.av,gs'.map dx.tree,TS.st S')/\S'.ok/\eg S.gh S'.gh/\eg (gs.map some) (gs'.map some)/\(∀c∈cs',c.ok (gs'.map some))/\κ cs' gs' S'=some r:=by
 intro ets
 induction ets with
 |nil=>
  intro cs S gs κ r hS hcs h;cases cs with
  |nil=>exact⟨[],gs,S,rfl,hS,eg.refl _,eg.refl _,(λc hc=>by cases hc),h⟩
  |cons c cs=>cases h
 |cons et ets ih=>
  intro cs S gs κ r hS hcs h;cases cs with
  |nil=>cases h
  |cons c cs=>
   unfold tC at h;obtain⟨c',g1,S1,h1,h2,h3,h4,h5,h⟩:=pj hS (hcs c aH) h;obtain⟨cs',g2,S2,k1,k2,k3,k4,k5,h⟩:=ih cs S1 g1 _ r h2 (λx hx=>Cl.ok_mono h3 (hcs x (aE _ hx))) h;refine⟨c'::cs',g2,S2,?_,k2,h3.trans k3,h4.trans k4,λx hx=> ?_,h⟩
   ·simp only[aL,iJ,h1,an,k1,aB]
   ·rcases aW.1 hx with rfl|hx
    all_goals grind [Cl.ok_mono]
theorem xM(hΘ:dR P Θ)(hS:S.ok){gs:List dx}{t:TypeId}{v:V}(hv:v.ok S.gh){κ:V1->List dx->TS->Option ρ}{r:ρ}(h:zy Θ S gs t v κ=some r):
  ∃v' gs' S',uB P S.st (gs.map dx.tree) t v.av=some (V1.av v',gs'.map dx.tree,TS.st S')/\S'.ok/\eg S.gh S'.gh/\eg (gs.map some) (gs'.map some)/\v'.ok (gs'.map some)/\κ v' gs' S'=some r:=by
 unfold zy at h;split at h
 ·rename_i p sz i j;obtain⟨c',g1,S1,h1,h2,h3,h4,h5,h⟩:=pj hS (show Cl.ok S.gh (.ptrT p sz i j) from hv) h;exact⟨.cl c',g1,S1,h1,h2,h3,h4,h5,h⟩
 split at h
 ·cases h
 ·rename_i ti hti;have hsh:=(hΘ _ _ hti).sh;split at h
  ·rename_i cs _;obtain⟨cs',g1,S1,h1,h2,h3,h4,h5,h⟩:=vG _ _ _ _ _ _ hS hv h;refine⟨.agg cs',g1,S1,?_,h2,h3,h4,h5,h⟩;simp only[V.av,V1.av,uB,hsh];rw[show ti.ty.shs=ti.ty.csh.map rO from rfl,h1];rfl
  ·rename_i c _;obtain⟨c',g1,S1,h1,h2,h3,h4,h5,h⟩:=pj hS hv h;refine⟨.cl c',g1,S1,?_,h2,h3,h4,h5,h⟩
   have e:uB P S.st (gs.map dx.tree) t (V.v (.cl c)).av=j8 S.st (gs.map dx.tree) ((fI P 9 t).headD 0) c.av:=by
    cases c with
    |c x=>cases x<;>rfl
    | _=>rfl
   rw[e,hsh]
   have e2:ti.ty.shs.headD 0=rO (ti.ty.csh.headD none):=by
    unfold Ty.shs;cases ti.ty.csh with
    |nil=>rfl
    |cons a l=>cases a<;>rfl
   rw[e2];exact h1
  ·cases h
theorem vH(hΘ:dR P Θ): ∀ (rs:List (TypeId×V)) (S:TS) (gs:List dx) (κ:List V1->List dx->Option ρ) (r:ρ),S.ok->(∀x∈rs,x.2.ok S.gh)->qB Θ S gs rs κ=some r->
  ∃vs gs',sn P S.st (gs.map dx.tree) (rs.map λx=>(x.1,x.2.av))=some (vs.map V1.av,gs'.map dx.tree)/\eg (gs.map some) (gs'.map some)/\(∀v∈vs,v.ok (gs'.map some))/\vs.length=rs.length/\κ vs gs'=some r:=by
 intro rs
 induction rs with
 |nil=>intro S gs κ r hS hrs h;exact⟨[],gs,rfl,eg.refl _,(λv hv=>by cases hv),rfl,h⟩
 |cons x rs ih=>
  intro S gs κ r hS hrs h;obtain⟨t,v⟩:=x;unfold qB at h;obtain⟨v',g1,S1,h1,h2,h3,h4,h5,h⟩:=xM hΘ hS (hrs _ aH) h;obtain⟨vs,g2,k1,k2,k3,k4,h⟩:=ih S1 g1 _ r h2 (λx hx=>V.ok_mono h3 (hrs x (aE _ hx))) h;refine⟨v'::vs,g2,?_,h4.trans k2,λy hy=> ?_,by simp[k4],h⟩
  ·simp only[aL,sn,h1,an,k1,aB]
  ·rcases aW.1 hy with rfl|hy
   all_goals grind [V1.ok_mono]
theorem yu(hΘ:dR P Θ)(hS:S.ok): ∀ (rs:List ResultVar) (ts:List TypeId) (κ:List (TypeId×V)->Option ρ) (r:ρ),sJ Θ S rs ts κ=some r->
  ∃l:List (TypeId×V),rs.mapM (l9 P S.st)=some (l.map λx=>x.2.av)/\l.map (·.1)=ts/\(∀x∈l,x.2.ok S.gh)/\κ l=some r:=by
 intro rs
 induction rs with
 |nil=>
  intro ts κ r h;cases ts with
  |nil=>exact⟨[],rfl,rfl,(λx hx=>by cases hx),h⟩
  |cons t ts=>cases h
 |cons a rs ih=>
  intro ts κ r h;cases ts with
  |nil=>cases a<;>cases h
  |cons t ts=>
   cases a with
   |tmp a=>
    unfold sJ at h;obtain⟨l,h1,h2,h3,h⟩:=ih ts _ r h;refine⟨(t,ew S.env a)::l,?_,by simp[h2],λx hx=> ?_,h⟩
    ·simp only[cu,h1,l9];rfl
    ·rcases aW.1 hx with rfl|hx
     all_goals grind [mt]
   |cell a t'=>
    unfold sJ at h
    have hw:0<P.cellsOf t':=by
     have h':=h;unfold qS at h';split at h'
     ·rename_i ti hti;rw[(hΘ _ _ hti).cells];exact Ty.width_pos _
     ·cases h'
    obtain⟨u,g1,g2,h⟩:=qT hΘ hS (mt hS a) h;obtain⟨l,h1,h2,h3,h⟩:=ih ts _ r h;refine⟨(t,u)::l,?_,by simp[h2],λx hx=> ?_,h⟩
    ·simp only[cu,h1,l9];rw[if_pos hw];have :load P S.st t' (S.st.env a)=some u.av:=g1;rw[this];rfl
    grind
theorem yK{α β γ:Type}(f:α×β->γ): ∀l:List (α×β),(l.map (·.1)).zip (l.map f)=l.map λx=>(x.1,f x)
 | [] =>rfl
 |a::l=>by grind
theorem yk(vs:List V1): (pG vs).av=AQ (vs.map V1.av):=by
 match vs with
 | [] =>rfl
 | [v] =>rfl
 |v::u::vs=>rfl
theorem nr: ∀ (args:List V1) (n t:Nat),(ew (gP n args) (n+t)).av=(args.map V1.av).getD t .dead
 | [],n,t=>by simp[gP,ew];rfl
 |a::l,n,0=>by simp[gP,ew];rfl
 |a::l,n,t+1=>by
  have :Nat.beq n (n+(t+1))=false:=by
   cases h:Nat.beq n (n+(t+1)) with
   |false=>rfl
   |true=>have:=ak h;omega
  simp only[gP,ew,this,cond_false];rw[show n+(t+1)=(n+1)+t by omega,nr l (n+1) t];simp
theorem nu: ∀ (args:List V1) (n:Nat) (x:Nat×V),x∈gP n args-> ∃a∈args,x.2= .v a
 | [],n,x,h=>by cases h
 |a::l,n,x,h=>by
  simp only[gP,aW] at h;rcases h with rfl|h
  ·exact⟨a,aH,rfl⟩
  ·obtain⟨b,hb,he⟩:=nu l (n+1) x h;exact⟨b,aE _ hb,he⟩
theorem rd(a:List V1)(t:Nat): (ew (gP 0 a) t).av=(a.map V1.av).getD t .dead:=by
 have:=nr a 0 t
 rwa [aM] at this
theorem sY(_P:Program)(S:TS): ∀ (n r:Nat) (gs:List dx),jP S r n=some gs->((List.range' r n).map λr=>(S.st.gh r).getD .dd)=gs.map dx.tree:=by
 intro n
 induction n with
 |zero=>simp_all [jP]
 |succ n ih=>
  intro r gs h;simp only[jP] at h;split at h
  ·rename_i t l hg;split at h
   ·rename_i ts hts;simp only[ae] at h;subst h;rw[cg,aL,aL,ih _ _ hts]
    congr 1
    show ((dJ S.gh r).map dx.tree).getD .dd=_;rw[hg];rfl
   ·cases h
  ·cases h
theorem sq[dp](hΘ:dR P Θ)(hY:eY P Y)(hm:P.follows .mixedOrders=true){Λ:fL}{f:FuncId}{fn:Func}(hf:pY P f=some fn)(hL: ∀c,fn.body=some c->eh P Λ (dL c)){args:List V1}{G:List dx}{m:Nat}(hmG:m<=G.length)(ha: ∀a∈args,a.ok (G.map some)){res:V}{out:List dx}
  (h:AE Θ Y Λ fn args G m (λv g=>some (v,g))=some (res,out)):eB P f (args.map V1.av) (G.map dx.tree) m res.av (out.map dx.tree):=by
 unfold AE at h;split at h
 ·cases h
 ·rename_i c hc
  have hcok:fe P c=true:=by
   unfold pY at hf;simp only[af] at hf;obtain⟨fn',g1,g2⟩:=hf;split at g2
   ·cases g2
   ·grind
  have hS0: ({ env:=gP 0 args,bx:=[],gh:=G.map some,fz:=m,nt:=args.length+(fn.ntmps-args.length) }:TS).ok:=
   ⟨λx hx=>by obtain⟨a,h1,h2⟩:=nu _ _ _ hx;rw[h2];exact ha a h1,λcs hcs=>by cases hcs⟩
  have hbeg: ({ env:=gP 0 args,bx:=[],gh:=G.map some,fz:=m,nt:=args.length+(fn.ntmps-args.length) }:TS).st=ul fn.ntmps (args.map V1.av) (G.map dx.tree) m:=by
   unfold TS.st ul zq;simp only[aF,bR]
   congr 1
   ·funext t
    exact rd _ t
   ·funext r
    show (dJ (G.map some) r).map dx.tree=(G.map dx.tree)[r]?;unfold dJ;rw[dP,aq,aq];cases G[r]?<;>rfl
  have hW:=pg hΘ hY hm c _ _ _ hcok (hL c hc) hS0 h;rw[hbeg] at hW
  have main: ∀ (S1:TS),S1.ok->(sJ Θ S1 fn.results.toList fn.resultTypes.toList λrs=>match jP S1 0 m with
    |some gs=>qB Θ S1 gs rs λvs gs'=>some (pG vs,gs')
    |none=>none)=some (res,out)->vA P fn.results.toList fn.resultTypes.toList m S1.st=some (res.av,out.map dx.tree):=by
   intro S1 hS1 h0;obtain⟨l,h1,h2,h3,h⟩:=yu (P:=P) hΘ hS1 _ _ _ _ h0;clear h0;split at h
   ·rename_i gs hgs;have hgs:=sY P S1 m 0 gs hgs;obtain⟨vs,gs',k1,k2,k3,k4,h⟩:=vH (P:=P) hΘ _ _ _ _ _ hS1 h3 h;simp only[ae,ap] at h;obtain⟨rfl,rfl⟩:=h;unfold vA;rw[h1];simp only[an,aF]
    have hz: (fn.resultTypes.toList.zip (l.map λx=>x.2.av))=l.map λx=>(x.1,x.2.av):=by rw[<-h2];exact yK _ l
    rw[if_pos (by rw[<-h2];simp),hz,bQ,hgs,k1];simp only[aB,yk]
   ·cases h
  refine qf hf hc (by simpa using hmG) (hW.mono (λx S' hx=>⟨S',gb.refl,?_⟩))
  grind
theorem wc{G:List (Option dx)}{a:V1}(h:a.ok []):a.ok G:=V1.ok_mono (G:=[]) ⟨bL _,λr tr hr=>by cases hr⟩ h
theorem zA[dp](hΘ:dR P Θ)(hY:eY P Y)(hm:P.follows .mixedOrders=true){Λ:fL}{f:FuncId}{fn:Func}(hf:pY P f=some fn)(hL: ∀c,fn.body=some c->eh P Λ (dL c)){args:List V1}(ha: ∀a∈args,a.ok []){res:V}{out:List dx}
  (h:Bl Θ Y Λ fn args (λv g=>some (v,g))=some (res,out)):gD P f (args.map V1.av) [] res.av (out.map dx.tree):=sq hΘ hY hm hf hL (bL 0) ha h
theorem tH[dp](hΘ:dR P Θ)(hY:eY P Y)(hm:P.follows .mixedOrders=true){Λ:fL}{f:FuncId}{fn:Func}(hf:pY P f=some fn)(hL: ∀c,fn.body=some c->eh P Λ (dL c)){m:Nat}(hm1:m<=1){el:Ty}{l:List el.D}{args:List V1}(ha: ∀a∈args,a.ok []){res:V}{out:List dx}
  (h:vJ Θ Y Λ fn m el l args (λv g=>some (v,g))=some (res,out)):eB P f (.own ⟨0,[]⟩ el.width 0 l.length::args.map V1.av) [.sl el.width (l.map el.row)] m res.av (out.map dx.tree):=
 sq hΘ hY hm hf hL (args:=.cl (.own ⟨0,[]⟩ el.width 0 l.length true)::args) (G:=[⟨el,l,none⟩]) hm1 (List.forall_mem_cons.2 ⟨⟨cn,λ_=>⟨rfl,rfl,λtr htr=>by have htr:some (⟨el,l,none⟩:dx)=some tr:=htr;cases htr;rfl⟩⟩,λa h=>wc (ha a h)⟩) h
theorem xR[dp](hΘ:dR P Θ)(hY:eY P Y)(hm:P.follows .mixedOrders=true){Λ:fL}{f:FuncId}{fn:Func}(hf:pY P f=some fn)(hL: ∀c,fn.body=some c->eh P Λ (dL c)){el:Ty}{l:List el.D}{args:List V1}(ha: ∀a∈args,a.ok []){res:V}{out:List dx}
  (h:zB Θ Y Λ fn el l args (λv g=>some (v,g))=some (res,out)):eB P f (.ptrT ⟨0,[]⟩ el.width 0 0::args.map V1.av) [.sl el.width (l.map el.row)] 1 res.av (out.map dx.tree):=
 sq hΘ hY hm hf hL (args:=.cl (.ptrT ⟨0,[]⟩ el.width 0 0)::args) (G:=[⟨el,l,none⟩]) (aw 1) (List.forall_mem_cons.2 ⟨cn,λa h=>wc (ha a h)⟩) h
end
end
section
open Go
def mn:List Nat->Nat->Nat->Option Nat
 | [],_,_=>none
 |a::l,x,n=>bif Nat.beq a x then some n else mn l x (n+1)
def ku(bs ls:List Nat):Cl->Cl
 | .own p sz lo len w=>match mn ls p.r 0 with |some k=> .own ⟨k,p.l⟩ sz lo len w|none=> .dead
 | .ptrT p sz i j=>match mn ls p.r 0 with |some k=> .ptrT ⟨k,p.l⟩ sz i j|none=> .dead
 | .ptrB n j=>match mn bs n 0 with |some k=> .ptrB k j|none=> .dead
 |c=>c
def wx(bs ls:List Nat):V1->V1
 | .cl c=> .cl (ku bs ls c)
 | .agg cs=> .agg (cs.map (ku bs ls))
 | .fn f cs=> .fn f (cs.map (ku bs ls))
def ww(bs ls:List Nat):V->V
 | .v x=> .v (wx bs ls x)
 | .tup _=>V.dead
def tw:List Nat->List Nat->List Nat
 | [],acc=>acc
 |a::l,acc=>match mn acc a 0 with |some _=>tw l acc|none=>tw l (acc++ [a])
def nq:List Nat->Bool
 | [] =>true
 |a::l=>(match mn l a 0 with |some _=>false|none=>true)&&nq l
def BA:Cl->List Nat| .ptrB n _=> [n] | _=> []
def AM:Cl->List Nat| .own p _ _ _ _=> [p.r] | .ptrT p _ _ _=> [p.r] | _=> []
def V1.all:V1->List Cl| .cl c=> [c] | .agg cs=>cs| .fn _ cs=>cs
def V.all:V->List Cl| .v x=>x.all| .tup _=> []
def tN(S:TS)(keep:List Nat):List Nat:=tw (keep.flatMap λt=>(ew S.env t).all.flatMap BA) []
def yY(S:TS)(keep bs:List Nat):List Nat:=tw (List.range S.fz++(keep.flatMap λt=>(ew S.env t).all.flatMap AM)++bs.flatMap λb=>((fU S.bx b).getD []).flatMap AM) []
def eC(S:TS)(keep bs ls:List Nat):TS where
 env:=keep.map λt=>(t,ww bs ls (ew S.env t))
 bx:=bs.map λb=>((fU S.bx b).getD []).map (ku bs ls)
 gh:=ls.map λr=>dJ S.gh r
 fz:=S.fz
 nt:=S.nt
def pb(S:TS)(bs ls:List Nat):Bool:=nq bs&&nq ls&&bs.all (λb=>Nat.blt b S.bx.length)&&Am (ls.take S.fz) (List.range S.fz)&&ls.all (λr=>Nat.blt r S.gh.length)
def uC(G:List (Option dx)):Cl->Cl
 | .own p sz lo len true=> .own p sz lo (match fU G p.r with |some (some tr)=>tr.l.length| _=>len) true
 |c=>c
def vI(G:List (Option dx)):V1->V1
 | .cl c=> .cl (uC G c)
 | .agg cs=> .agg (cs.map (uC G))
 | .fn f cs=> .fn f (cs.map (uC G))
def AD(G:List (Option dx)):V->V
 | .v x=> .v (vI G x)
 | .tup l=> .tup (l.map (vI G))
def zz(S:TS):TS:={ S with env:=S.env.map (λx=>(x.1,AD S.gh x.2)),bx:=S.bx.map (λcs=>cs.map (uC S.gh)) }
def lp{ρ:Type}(keep:List Nat)(S:TS)(κ:TS->Option ρ):Option ρ:=bif pb S (tN S keep) (yY S keep (tN S keep)) then κ (zz (eC S keep (tN S keep) (yY S keep (tN S keep)))) else none
theorem lH: ∀ {l:List Nat} {x n k:Nat},mn l x n=some k->n<=k/\l[k-n]? =some x
 | [],x,n,k,h=>by cases h
 |a::l,x,n,k,h=>by
  simp only[mn] at h;cases hb:Nat.beq a x with
  |true=>simp_all
  |false=>
   rw[hb] at h;obtain⟨h1,h2⟩:=lH (l:=l) h
   grind
theorem oS: ∀ {l:List Nat} {x n:Nat},mn l x n=none->x∉l
 | [],x,n,_=>by simp
 |a::l,x,n,h=>by
  simp only[mn] at h;cases hb:Nat.beq a x with
  |true=>rw[hb] at h;cases h
  |false=>
   rw[hb] at h;have:=oS (l:=l) h;intro hm
   simp_all
theorem km: ∀ {l:List Nat},nq l=true-> ∀ (i j x:Nat),l[i]? =some x->l[j]? =some x->i=j
 | [],_,i,j,x,hi,_=>by simp at hi
 |a::l,h,i,j,x,hi,hj=>by
  simp only[nq,aj] at h
  have hna:a∉l:=by
   have h1:=h.1;split at h1
   ·cases h1
   ·rename_i hp;exact oS hp
  cases i with
  |zero=>
   simp only[aG,ae] at hi;subst hi;cases j with
   |zero=>rfl
   |succ j=>simp only[cc] at hj;exact absurd (ax hj) hna
  |succ i=>
   simp only[cc] at hi;cases j with
   |zero=>simp only[aG,ae] at hj;subst hj;exact absurd (ax hi) hna
   |succ j=>simp only[cc] at hj;rw[km h.2 i j x hi hj]
def Bt.ren(bt:Bt)(bs ls:List Nat):Bt where
 β:=λp=>bt.β ⟨ls.getD p.r 0,p.l⟩
 κ:=λp=>bt.κ ⟨ls.getD p.r 0,p.l⟩
 bb:=λn=>bt.bb (bs.getD n 0)
 nb:=bs.length
 ng:=ls.length
 A:=bt.A
theorem pJ{w:World}{bt:Bt}{bs ls:List Nat}{c:Cl}{u:Value}(h:VR w bt c.av u):VR w (bt.ren bs ls) (ku bs ls c).av u:=by
 have lt: ∀ {l:List Nat} {x k:Nat},mn l x 0=some k->k<l.length/\l.getD k 0=x:=by intro l x k hk;obtain⟨_,h2⟩:=lH hk;rw[Nat.sub_zero] at h2;exact⟨(ah.1 h2).1,by simp[ay,h2]⟩
 cases c with
 |c x=>
  cases x with
  |sc v=>cases h with |sc h=>exact .sc h
  |ls t l=>cases h with |ro h=>exact .ro h
 |em=>cases h with |em a=>exact .em a
 |own p sz lo len wh=>
  simp only[ku];split
  ·rename_i k hk;obtain⟨h1,h2⟩:=lt hk;have hp: (⟨ls.getD k 0,p.l⟩:dA)=p:=by rw[h2]
   have e1: (bt.ren bs ls).κ ⟨k,p.l⟩=bt.κ p:=by have e: (bt.ren bs ls).κ ⟨k,p.l⟩=bt.κ (dA.mk (ls.getD k 0) p.l):=rfl;rw[e,hp]
   have e2: (bt.ren bs ls).β ⟨k,p.l⟩=bt.β p:=by have e: (bt.ren bs ls).β ⟨k,p.l⟩=bt.β (dA.mk (ls.getD k 0) p.l):=rfl;rw[e,hp]
   cases h with
   |own hp' hc hkk ha=>exact .own h1 hc (by rw[e1];exact hkk) (by rw[e2];exact ha)
  ·exact .dead _
 |pro cs=>cases h with |pro cs hs hA hr ht=>exact .pro cs hs hA hr ht
 |ptrB n j=>
  simp only[ku];split
  ·rename_i k hk;obtain⟨h1,h2⟩:=lt hk;cases h with
   |ptrB j hn=>
    have :bt.bb n=(bt.ren bs ls).bb k:=by show bt.bb n=bt.bb (bs.getD k 0);rw[h2]
    rw[this];exact .ptrB j h1
  ·exact .dead _
 |ptrT p sz i j=>
  simp only[ku];split
  ·rename_i k hk;obtain⟨h1,h2⟩:=lt hk;have hp: (⟨ls.getD k 0,p.l⟩:dA)=p:=by rw[h2]
   cases h with
   |ptrT sz i j hp' hkk=>
    have e1:bt.β p=(bt.ren bs ls).β ⟨k,p.l⟩:=by show bt.β p=bt.β ⟨ls.getD k 0,p.l⟩;rw[hp]
    rw[e1];exact .ptrT sz i j h1 (by show _<bt.κ ⟨ls.getD k 0,p.l⟩;rw[hp];exact hkk)
  ·exact .dead _
 |dead=>exact .dead _
theorem wy{w:World}{bt:Bt}{bs ls:List Nat}{v:V1}{u:Value}(h:VR w bt v.av u):VR w (bt.ren bs ls) (wx bs ls v).av u:=by
 have cells: ∀ (cs:List Cl) (us:List Value),us.length=cs.length->(∀ (k:Nat) (c:AV) (u:Value),(cs.map Cl.av)[k]? =some c->us[k]? =some u->VR w bt c u)-> ∀ (k:Nat) (c:AV) (u:Value),((cs.map (ku bs ls)).map Cl.av)[k]? =some c->us[k]? =some u->VR w (bt.ren bs ls) c u:=by intro cs us _ hr k c u hk hu;rw[aq,aq] at hk;simp only[ai] at hk;obtain⟨c1,⟨c0,hc0,rfl⟩,rfl⟩:=hk;exact pJ (hr k c0.av u (by rw[aq,hc0];rfl) hu)
 cases v with
 |cl c=>exact pJ h
 |agg cs=>
  simp only[V1.av] at h;cases h with
  |agg hl ho hr=>exact .agg (by simpa using hl) ho (cells cs _ (by simpa using hl) hr)
 |fn f cs=>
  simp only[V1.av] at h;cases h with
  |fn f hl hr=>exact .fn f (by simpa using hl) (cells cs _ (by simpa using hl) hr)
theorem yr{w:World}{bt:Bt}{bs ls:List Nat}{v:V}{u:Value}(h:VR w bt v.av u):VR w (bt.ren bs ls) (ww bs ls v).av u:=by
 cases v with
 |v x=>exact wy h
 |tup l=>exact .dead _
theorem oD(S:TS)(f:V->V): ∀ (keep:List Nat) (t:Nat),ew (keep.map λt=>(t,f (ew S.env t))) t=V.dead\/ew (keep.map λt=>(t,f (ew S.env t))) t=f (ew S.env t)
 | [],t=> .inl rfl
 |u::l,t=>by
  simp only[aL,ew];cases hb:Nat.beq u t with
  |true=>simp_all
  |false=>exact oD S f l t
theorem jJ(S:TS)(keep bs ls:List Nat)(r:Nat):dJ (eC S keep bs ls).gh r=(ls[r]?).bind λq=>dJ S.gh q:=by show (fU (ls.map λr=>dJ S.gh r) r).getD none=_;rw[dP,aq];cases ls[r]?<;>rfl
theorem rp[dp]{S:TS}{keep bs ls:List Nat}(h:pb S bs ls=true):gb S.st (eC S keep bs ls).st:=by
 unfold pb at h;simp only[aj] at h;obtain⟨⟨⟨⟨hnb,hnl⟩,hbs⟩,hfz⟩,hlt⟩:=h;have hfz:=mX hfz;intro w0 W btI SI bt a w hl;have inv:=hl.inv
 have hls: ∀ (k:Nat),k<S.fz->ls[k]? =some k:=by
  intro k hk;have : (ls.take S.fz)[k]? =(List.range S.fz)[k]? :=by rw[hfz]
  rw[bg,if_pos hk,List.getElem?_range hk] at this;exact this
 have look: ∀p s rs,(eC S keep bs ls).st.look p= .sl s rs-> ∃q,ls[p.r]? =some q/\S.st.look ⟨q,p.l⟩= .sl s rs/\ls.getD p.r 0=q:=by
  intro p s rs hp;unfold St.look at hp
  have e: (eC S keep bs ls).st.gh p.r=((ls[p.r]?).bind λq=>dJ S.gh q).map dx.tree:=by show (dJ _ _).map dx.tree=_;rw[jJ]
  rw[e] at hp;cases hq:ls[p.r]? with
  |none=>rw[hq] at hp;cases hp
  |some q=>refine⟨q,rfl,?_,by simp[ay,hq]⟩;rw[hq] at hp;exact hp
 have box: ∀n cells,(eC S keep bs ls).st.bx n=some cells-> ∃b cs,bs[n]? =some b/\S.bx[b]? =some cs/\cells=(cs.map (ku bs ls)).map Cl.av/\bs.getD n 0=b:=by intro n cells hn;have hn': (fU (bs.map λb=>((fU S.bx b).getD []).map (ku bs ls)) n).map (λcs=>cs.map Cl.av)=some cells:=hn;rw[dP,aq] at hn';simp only[ai] at hn';obtain⟨x,⟨b,hb,rfl⟩,rfl⟩:=hn';have hlt':b<S.bx.length:=ar (au.1 hbs b (ax hb));refine⟨b,S.bx[b],hb,ao hlt',?_,by simp[ay,hb]⟩;rw[dP,ao hlt'];rfl
 have bxS: ∀ {b:Nat} {cs:List Cl},S.bx[b]? =some cs->S.st.bx b=some (cs.map Cl.av):=by intro b cs hb;show (fU S.bx b).map _=_;rw[dP,hb];rfl
 refine⟨bt.ren bs ls,?_⟩
 refine⟨{ good:=inv.good,os:=inv.os,tape:=inv.tape,output:=inv.output,size:=inv.size,keep:=inv.keep
          nb:=by show bs.length=_;simp[TS.st,eC]
          ng:=by show ls.length=_;simp[TS.st,eC]
          bx:=λn cells hn=> ?_
          gh:=λr t hr=> ?_
          tr:=λp sz rows hp=> ?_
          inj:=λp q s rs s' rs' hp hq hk hk' he=> ?_
          bbinj:=λn m cs cs' hn hm he=> ?_
          bbtr:=λn cs p s rs hn hp hk=> ?_
          alt:=inv.alt
          atr:=λp s rs hp hk=> ?_
          abb:=λn cs hn=> ?_ },⟨hl.er.1,λt=> ?_⟩,hl.defers,hl.fz,?_,λp hp=> ?_,λr hr hn=> ?_⟩
 ·obtain⟨b,cs,h1,h2,rfl,h4⟩:=box n cells hn;obtain⟨g1,g2,arr,e,g3,g4,g5⟩:=inv.bx b _ (bxS h2);refine⟨by grind [TS.st,eC],by show _<=bt.bb (bs.getD n 0);rw[h4];exact g2,arr,e,by show w.heap[bt.bb (bs.getD n 0)]? =_;rw[h4];exact g3,by simpa using g4,λj v hj=> ?_⟩;rw[aq,aq] at hj;simp only[ai] at hj;obtain⟨c1,⟨c0,hc0,rfl⟩,rfl⟩:=hj;obtain⟨c,k1,k2,k3⟩:=g5 j c0.av (by rw[aq,hc0];rfl);exact⟨c,k1,pJ k2,k3⟩
 ·grind [eC,jJ,TS.st]
 ·obtain⟨q,h1,h2,h3⟩:=look p sz rows hp;obtain⟨g1,g2⟩:=inv.tr _ _ _ h2;have eκ: (bt.ren bs ls).κ p=bt.κ ⟨q,p.l⟩:=by show bt.κ ⟨ls.getD p.r 0,p.l⟩=_;rw[h3]
  have eβ: (bt.ren bs ls).β p=bt.β ⟨q,p.l⟩:=by show bt.β ⟨ls.getD p.r 0,p.l⟩=_;rw[h3]
  rw[eκ,eβ];refine⟨g1,λhk=>⟨(g2 hk).1,?_⟩⟩;obtain⟨_,cs,e,k1,k2,k3,k4⟩:=g2 hk;refine⟨cs,e,by rw[eβ];exact k1,by rw[eβ,eκ];exact k2,k3,λi r hi=> ?_⟩;obtain⟨m1,m2⟩:=k4 i r hi;refine⟨m1,λj x hj=> ?_⟩;obtain⟨c,n1,n2⟩:=m2 j x hj;refine⟨c,by rw[eβ];exact n1,?_⟩;have f1: (bt.ren bs ls).κ (p.sub i j)=bt.κ (dA.sub ⟨q,p.l⟩ i j):=by show bt.κ ⟨ls.getD p.r 0,p.l++ [(i,j)]⟩=bt.κ ⟨q,p.l++ [(i,j)]⟩;rw[h3]
  have f2: (bt.ren bs ls).β (p.sub i j)=bt.β (dA.sub ⟨q,p.l⟩ i j):=by show bt.β ⟨ls.getD p.r 0,p.l++ [(i,j)]⟩=bt.β ⟨q,p.l++ [(i,j)]⟩;rw[h3]
  cases n2 with
  |sc h=>exact .sc h
  |dd u=>exact .dd _
  |sl q1 q2 q3=>exact .sl q1 (by rw[f1];exact q2) (by rw[f2];exact q3)
 ·obtain⟨p',h1,h2,h3⟩:=look p s rs hp;obtain⟨q',g1,g2,g3⟩:=look q s' rs' hq;have:=inv.inj ⟨p',p.l⟩ ⟨q',q.l⟩ _ _ _ _ h2 g2 (by rw[<-h3];exact hk) (by rw[<-g3];exact hk') (by rw[<-h3,<-g3];exact he);simp only[dA.mk.injEq] at this;obtain⟨e1,e2⟩:=this;subst e1;have e3:=km hnl _ _ _ h1 g1;cases p<;>simp_all
 ·obtain⟨b,c,h1,h2,_,h4⟩:=box n cs hn;obtain⟨b',c',g1,g2,_,g4⟩:=box m cs' hm
  have:=inv.bbinj b b' _ _ (bxS h2) (bxS g2) (by have he':bt.bb (bs.getD n 0)=bt.bb (bs.getD m 0):=he;rw[h4,g4] at he';exact he')
  grind [km]
 ·obtain⟨b,c,h1,h2,_,h4⟩:=box n cs hn;obtain⟨q,g1,g2,g3⟩:=look p s rs hp;have hk':0<bt.κ ⟨ls.getD p.r 0,p.l⟩:=hk;rw[g3] at hk';show bt.bb (bs.getD n 0)≠(bt.β ⟨ls.getD p.r 0,p.l⟩).1;rw[h4,g3];exact inv.bbtr _ _ _ _ _ (bxS h2) g2 hk'
 ·obtain⟨q,g1,g2,g3⟩:=look p s rs hp;have hk':0<bt.κ ⟨ls.getD p.r 0,p.l⟩:=hk;rw[g3] at hk';show ¬bt.A (bt.β ⟨ls.getD p.r 0,p.l⟩).1;rw[g3];exact inv.atr _ _ _ g2 hk'
 ·obtain⟨b,c,h1,h2,_,h4⟩:=box n cs hn;show ¬bt.A (bt.bb (bs.getD n 0));rw[h4];exact inv.abb _ _ (bxS h2)
 ·show VR w _ (ew (eC S keep bs ls).env t).av _;rcases oD S (ww bs ls) keep t with h1|h1
  ·have :ew (eC S keep bs ls).env t=V.dead:=h1;rw[this];exact .dead _
  ·have :ew (eC S keep bs ls).env t=ww bs ls (ew S.env t):=h1;rw[this];exact yr (hl.er.2 t)
 ·show S.fz<=(eC S keep bs ls).gh.length
  grind [eC]
 ·have hp':p.r<S.fz:=by have:=hl.fz;have e:S.st.fz=S.fz:=rfl;omega
  have h3:ls.getD p.r 0=p.r:=by simp[ay,hls p.r hp']
  have:=hl.keep p hp;show bt.β ⟨ls.getD p.r 0,p.l⟩=_/\bt.κ ⟨ls.getD p.r 0,p.l⟩=_;rw[h3];exact this
 ·have hr':r<S.fz:=by have:=hl.fz;have e:S.st.fz=S.fz:=rfl;omega
  refine hl.gone r hr ?_;have hn': (dJ (eC S keep bs ls).gh r).map dx.tree=none:=hn;rw[jJ,hls r hr'] at hn';exact hn'
theorem mB{S:TS}{bs ls:List Nat}{keep:List Nat}{c:Cl}(h:c.ok S.gh): (ku bs ls c).ok (eC S keep bs ls).gh:=by
 have lt: ∀ {x k:Nat},mn ls x 0=some k->k< (eC S keep bs ls).gh.length/\ls[k]? =some x:=by intro x k hk;obtain⟨_,h2⟩:=lH hk;rw[Nat.sub_zero] at h2;exact⟨by grind [eC],h2⟩
 cases c with
 |own p sz lo len w=>
  simp only[ku];split
  ·rename_i k hk;obtain⟨h1,h2⟩:=lt hk;refine⟨h1,λhw=> ?_⟩;obtain⟨a,b,c⟩:=h.2 hw
   grind [jJ]
  ·trivial
 |ptrT p sz i j=>
  simp only[ku];split
  ·rename_i k hk;exact (lt hk).1
  ·trivial
 |ptrB n j=>simp only[ku];split<;>trivial
 | _=>trivial
theorem yt{S:TS}{bs ls:List Nat}{keep:List Nat}{v:V}(h:v.ok S.gh): (ww bs ls v).ok (eC S keep bs ls).gh:=by
 have one: ∀ {v:V1},v.ok S.gh->(wx bs ls v).ok (eC S keep bs ls).gh:=by
  intro v h;cases v with
  |cl c=>exact mB h
  |agg cs=>intro c hc;obtain⟨x,hx,rfl⟩:=aD.1 hc;exact mB (h x hx)
  |fn f cs=>intro c hc;obtain⟨x,hx,rfl⟩:=aD.1 hc;exact mB (h x hx)
 cases v with
 |v x=>exact one h
 |tup l=>trivial
theorem uW{S:TS}(hS:S.ok)(keep bs ls:List Nat): (eC S keep bs ls).ok:=by
 refine⟨λx hx=> ?_,λcs hcs c hc=> ?_⟩
 ·obtain⟨t,_,rfl⟩:=aD.1 hx;exact yt (mt hS t)
 ·obtain⟨b,_,rfl⟩:=aD.1 hcs;obtain⟨x,hx,rfl⟩:=aD.1 hc;cases hb:fU S.bx b with
  |none=>rw[hb] at hx;cases hx
  |some cs=>rw[hb] at hx;rw[dP] at hb;exact mB (hS.bx cs (ax hb) x hx)
theorem mr{G:List (Option dx)}{c:Cl}(h:c.ok G):uC G c=c:=by
 unfold uC;split
 ·rename_i p sz lo len;split
  ·rename_i tr htr;rw[(h.2 rfl).2.2 tr (by unfold dJ;rw[htr];rfl)]
  ·rfl
 ·rfl
theorem qE{G:List (Option dx)}{v:V1}(h:v.ok G):vI G v=v:=by
 cases v with
 |cl c=>exact congrArg V1.cl (mr h)
 |agg cs=>exact congrArg V1.agg ((aA λc hc=>mr (h c hc)).trans (List.map_id' cs))
 |fn f cs=>exact congrArg (V1.fn f) ((aA λc hc=>mr (h c hc)).trans (List.map_id' cs))
theorem xQ{G:List (Option dx)}{v:V}(h:v.ok G):AD G v=v:=by
 cases v with
 |v x=>exact congrArg V.v (qE h)
 |tup l=>exact congrArg V.tup ((aA λc hc=>qE (h c hc)).trans (List.map_id' l))
theorem xP{S:TS}(h:S.ok):zz S=S:=by unfold zz;rw[aA (g:=id) (λx hx=>by rw[xQ (h.env x hx)];rfl),aA (g:=id) (l:=S.bx) (λcs hcs=>(aA λc hc=>mr (h.bx cs hcs c hc)).trans (List.map_id' cs)),List.map_id,List.map_id]
theorem it[dp]{ρ:Type}{S:TS}(hS:S.ok){keep:List Nat}{κ:TS->Option ρ}{r:ρ}(h:lp keep S κ=some r): ∃S1:TS,gb S.st S1.st/\S1.ok/\κ S1=some r:=by
 unfold lp at h;obtain⟨h1,h⟩:=dj h
 grind [xP,uW,rp]
end
end Go.Proofs.YtkghndikalnipaaGreat.En
