import Derived.Test.YtkghndikalnipaaGreatZX7
set_option linter.unusedSimpArgs false
set_option linter.unusedVariables false
namespace Go.Proofs.YtkghndikalnipaaGreat.En
section
open Go
section
variable {ρ:Type} {P:Program} {Θ:gq} {S:TS} {Y:kZ}
theorem uz(hS:S.ok){ops:Array Oper}{o:Oper}{κ:Bool->TS->Option ρ}{r:ρ}(h:wB S ops.toList o κ=some r): ∃b S1,gR S.st ops o=some b/\S1.st=S.st/\S1.ok/\S1.gh=S.gh/\κ b S1=some r:=by
 unfold wB at h;split at h
 ·rename_i hg;exact⟨true,S,by unfold gR;rw[hg],rfl,hS,rfl,h⟩
 ·rename_i j want hg;split at h
  ·rename_i oj hj;split at h
   ·rename_i d hd;rw[eE,bG] at hj;split at h
    ·rename_i he;refine⟨_,S,?_,rfl,hS,rfl,h⟩;unfold gR;rw[hg];simp only[hj,ak,hd];have :S.st.env d= .tup [] :=by show (fh S.env d).av=_;rw[he];rfl
     rw[this]
    ·obtain⟨b,S1,h1,h2,h3,h4,h5⟩:=oz hS h;refine⟨_,S1,?_,h2,h3,h4,h5⟩;unfold gR;rw[hg];simp only[hj,ak,hd];have :S.st.env d= .sc (.bool b):=h1;rw[this]
   ·cases h
  ·cases h
theorem fw(hS:S.ok){d:Option Tmp}{v:V}(hv:v.ok S.gh){κ:TS->Option ρ}{r:ρ}(h:iQ S d v κ=some r): ∃S1,S.st.put d v.av=some (TS.st S1)/\S1.ok/\S1.gh=S.gh/\κ S1=some r:=by
 unfold iQ at h;split at h
 ·rename_i t;obtain⟨h1,h⟩:=dK h;have h1:t<S.nt:=ax h1;refine⟨{ S with env:=(t,v)::S.env },?_,⟨λx hx=> ?_,hS.bx⟩,rfl,h⟩
  ·simp only[St.put];rw[if_pos (show t<S.st.nt from h1)]
   congr 1
   unfold TS.st
   congr 1
   funext u
   unfold ed;simp only[fh];cases hb:Nat.beq t u with
   |true=>simp_all
   |false=>
    have : ¬u=t:=by intro e;subst e;rw[cJ] at hb;cases hb
    rw[if_neg this];rfl
  ·rcases aX.1 hx with rfl|hx
   ·exact hv
   ·exact hS.env x hx
 ·exact⟨S,rfl,hS,rfl,h⟩
theorem xG{α:Type}{x y:Option α}{r:α}(h:zK x y none=some r):x=some r/\y=some r:=by grind [zK]
theorem xF{α:Type}(x z:α):zK x x z=x:=by unfold zK;rw[if_pos rfl]
theorem rA{o:Oper}{t:TypeId}{x:Operand}(h:oa o=some (t,x)): (∃t',o.op= .binOp .eql t x (.const (.slice none 0 0)) t')/\o.guard=none:=by
 unfold oa at h
 grind
theorem oT{o:Oper}{k:Nat}{g:FuncId}{caps:List Cl}{a:qP}{us:List TypeId}{xs:List Operand}(h:oS Y S o=some (k,g,caps,a,us,xs)):
  ∃f as ts x t,o.op= .call { callee:=.value f,args:=as,argTypes:=ts } /\as.toList=x::xs/\ts.toList=t::us/\mO (S.opd x)=some a/\g<fi/\
   ((∃a b,S.opd f= .v (.cl (.c (.sc (.func (.func g) a b))))/\caps= [])\/S.opd f= .v (.fn g caps)):=by
 unfold oS at h;split at h
 ·rename_i f as ts hop;split at h
  ·rename_i x xs' t us' e1 e2;split at h
   ·rename_i a' hx;split at h
    ·rename_i g' a b hf;obtain⟨h2,h⟩:=dK h;simp only[ao] at h2;simp only[af,au] at h;obtain⟨rfl,rfl,rfl,rfl,rfl,rfl⟩:=h;exact⟨f,as,ts,x,t,hop,e1,e2,hx,ax h2.1,.inl ⟨a,b,hf,rfl⟩⟩
    ·rename_i g' caps' hf;obtain⟨h2,h⟩:=dK h;simp only[ao] at h2;simp only[af,au] at h;obtain⟨rfl,rfl,rfl,rfl,rfl,rfl⟩:=h;exact⟨f,as,ts,x,t,hop,e1,e2,hx,ax h2.1,.inr hf⟩
    ·cases h
   ·cases h
  ·cases h
 ·cases h
theorem vZ(c:Cl): (nV c).av=mX 1 c.av:=by
 cases c with
 |c x=>cases x<;>rfl
 |own p sz lo len w=>
  cases h:Nat.ble 1 p.r with
  |true=>simp only[nV,h,cond_true,Cl.av,mX];rw[if_pos (ax h)]
  |false=>simp only[nV,h,cond_false,Cl.av,mX];rw[if_neg λe=>by rw[cR e] at h;cases h]
 |ptrT p sz i j=>
  cases h:Nat.ble 1 p.r with
  |true=>simp only[nV,h,cond_true,Cl.av,mX];rw[if_pos (ax h)]
  |false=>simp only[nV,h,cond_false,Cl.av,mX];rw[if_neg λe=>by rw[cR e] at h;cases h]
 | _=>rfl
theorem AH(c:Cl):tI 1 c.av=mX 1 c.av:=by
 cases c with
 |c x=>cases x<;>rfl
 | _=>rfl
theorem tK(v:V1): (tJ v).av=tI 1 v.av:=by
 cases v with
 |cl c=>exact (vZ c).trans (AH c).symm
 |agg cs=>simp_all [tJ,V1.av,tI,vZ]
 |fn f cs=>rfl
theorem AI(v:V): (yt v).av=yr 1 v.av:=by
 cases v with
 |v x=>
  refine (tK x).trans ?_;cases x with
  |cl c=>cases c with
   |c x=>cases x<;>rfl
   | _=>rfl
  | _=>rfl
 |tup l=>simp_all [yt,V.av,yr,tK]
theorem v5{x:dS}{G:List dS}{c:Cl}(h:c.ok ((x::G).map some)): (nV c).ok (G.map some):=by
 cases c with
 |own p sz lo len w=>
  cases hb:Nat.ble 1 p.r with
  |true=>
   have h1:=ax hb;simp only[nV,hb,cond_true];obtain⟨h2,h3⟩:=h;refine⟨by simp at h2 ⊢;omega,λhw=> ?_⟩
   grind [eA,eE]
  |false=>simp only[nV,hb,cond_false];trivial
 |ptrT p sz i j=>
  cases hb:Nat.ble 1 p.r with
  |true=>have h1:=ax hb;simp only[nV,hb,cond_true];have h:p.r< ((x::G).map some).length:=h;show p.r-1< (G.map some).length;simp at h ⊢;omega
  |false=>simp only[nV,hb,cond_false];trivial
 |c x=>cases x<;>trivial
 | _=>trivial
theorem tL{x:dS}{G:List dS}{v:V1}(h:v.ok ((x::G).map some)): (tJ v).ok (G.map some):=by
 cases v with
 |cl c=>exact v5 h
 |agg cs=>intro c hc;obtain⟨y,hy,rfl⟩:=aI.1 hc;exact v5 (h y hy)
 |fn f cs=>trivial
theorem AJ{x:dS}{G:List dS}{v:V}(h:v.ok ((x::G).map some)): (yt v).ok (G.map some):=by
 cases v with
 |v x=>exact tL h
 |tup l=>intro c hc;obtain⟨y,hy,rfl⟩:=aI.1 hc;exact tL (h y hy)
theorem qn(hΘ:eB P Θ)(hS:S.ok): ∀ (ts:List TypeId) (as:List Operand) (κ:List V1->Option ρ) (r:ρ),lc Θ S ts as κ=some r->ts.length=as.length
 | [],[],_,_,_=>rfl
 | [],_::_,_,_,h=>by simp[lc] at h
 | _::_,[],_,_,h=>by simp[lc] at h
 |t::ts,a::as,κ,r,h=>by unfold lc at h;obtain⟨v,_,h⟩:=yN hΘ hS (gD hS a) h;rw[bD,bD,qn hΘ hS ts as _ r h]
structure iB (S S1:TS) (L:List Nat):Prop where
 env:S1.env=S.env
 bx:S1.bx=S.bx
 fz:S1.fz=S.fz
 nt:S1.nt=S.nt
 len:S1.gh.length=S.gh.length
 gh: ∀r,eA S1.gh r=if L.contains r then none else eA S.gh r
 was: ∀q∈L,∃tr,eA S.gh q=some tr
theorem iB.refl(S:TS):iB S S [] :=⟨rfl,rfl,rfl,rfl,rfl,λ_=>by simp,λ_ h=>by cases h⟩
theorem iB.one{q:Nat}{tr:dS}(h:eA S.gh q=some tr):iB S { S with gh:=ey S.gh q none } [q] :=
 ⟨rfl,rfl,rfl,rfl,by simp[eO],λr=>by
  show eA (ey S.gh q none) r=_
  simp_all [hU],λr hr=>by grind⟩
theorem iB.trans{S1 S2:TS}{L L':List Nat}(h:iB S S1 L)(k:iB S1 S2 L'):iB S S2 (L++L'):=
 ⟨k.env.trans h.env,k.bx.trans h.bx,k.fz.trans h.fz,k.nt.trans h.nt,k.len.trans h.len,λr=>by
  rw[k.gh,h.gh]
  grind,λq hq=>by
  rcases bi.1 hq with hq|hq
  ·exact h.was q hq
  ·obtain⟨tr,ht⟩:=k.was q hq;rw[h.gh] at ht
   grind⟩
theorem iB.apart{S1 S2:TS}{L L':List Nat}(h:iB S S1 L)(k:iB S1 S2 L')(h1:L.Nodup)(h2:L'.Nodup): (L++L').Nodup:=by rw[List.nodup_append];refine⟨h1,h2,λa ha b hb e=> ?_⟩;subst e;obtain⟨tr,ht⟩:=k.was a hb;rw[h.gh,if_pos (by simpa using ha)] at ht;cases ht
theorem iB.le{S1:TS}{L:List Nat}(h:iB S S1 L):eY S.gh S1.gh:=⟨by rw[h.len];exact az _,λr tr _ ht=>by
 rw[h.gh] at ht
 grind⟩
theorem iB.ok{S1:TS}{L:List Nat}(h:iB S S1 L)(hS:S.ok):S1.ok:=
 ⟨λx hx=>V.ok_mono h.le (hS.env x (by rw[<-h.env];exact hx)),λcs hcs c hc=>Cl.ok_mono h.le (hS.bx cs (by rw[<-h.bx];exact hcs) c hc)⟩
theorem iB.st{S1:TS}{L:List Nat}(h:iB S S1 L):S1.st=dropL S.st L:=by
 unfold TS.st dropL;rw[h.env,h.bx,h.fz,h.nt,h.len];simp only
 congr 1
 funext r
 rw[h.gh];cases L.contains r<;>rfl
theorem qs: ∀ (L:List Nat) (S:TS),L.Nodup->(∀r∈L,∃tr,eA S.gh r=some tr)->iB S { S with gh:=Bn S.gh L } L
 | [],S,_,_=>iB.refl S
 |r::L,S,hnd,h=>by
  obtain⟨tr,htr⟩:=h r aG;rw[List.nodup_cons] at hnd;have h1:=iB.one htr
  have h2:=qs L { S with gh:=ey S.gh r none } hnd.2 (λr' hr'=>by
   obtain⟨tr',htr'⟩:=h r' (aK _ hr');refine⟨tr',?_⟩;rw[h1.gh,if_neg]
   ·exact htr'
   ·intro hc;rw[bB,aJ] at hc;subst hc;exact hnd.1 hr')
  exact h1.trans h2
theorem lp: ∀ (cs:List Cl) (ys:List C) (L:List Nat),kH S cs=some (ys,L)->(∀c∈cs,c.ok S.gh)->ys.length=cs.length/\(fV ys).length=L.length/\
  (∀ (k r:Nat),L[k]? =some r-> ∃el l,(fV ys)[k]? =some ⟨el,l,none⟩/\eA S.gh r=some ⟨el,l,none⟩)/\
  ∀ (w:World) (bt bt':Bt) (m:Nat),(∀ (k r:Nat),L[k]? =some r->bt'.β ⟨m+k,[]⟩=bt.β ⟨r,[]⟩/\bt'.κ ⟨m+k,[]⟩=bt.κ ⟨r,[]⟩/\m+k<bt'.ng)->
    ∀ (j:Nat) (c c':Cl) (u:Value),cs[j]? =some c->(jU ys m)[j]? =some c'->VR w bt c.av u->VR w bt' c'.av u
 | [],ys,L,h,_=>by simp only[kH,af,au] at h;obtain⟨rfl,rfl⟩:=h;exact⟨rfl,rfl,λk r hk=>by simp at hk,λw bt bt' m _ j c c' u hj=>by simp at hj⟩
 |c0::cs,ys,L,h,hok=>by
  unfold kH at h;split at h
  ·cases ‹_= []›
  ·rename_i v cs' e;simp only[bA] at e;obtain⟨rfl,rfl⟩:=e;split at h
   ·rename_i ys' L' hr;simp only[af,au] at h;obtain⟨rfl,rfl⟩:=h;obtain⟨h1,h2,h3,h4⟩:=lp cs ys' L' hr (λc hc=>hok c (aK _ hc));refine⟨by simp[h1],h2,h3,λw bt bt' m hm j c c' u hj hj' hv=> ?_⟩;cases j with
    |zero=>
     simp only[jU,aL,af] at hj hj';subst hj hj';cases hv with
     |sc h=>exact .sc h
    |succ j=>exact h4 w bt bt' m hm j c c' u (by simpa using hj) (by simpa [jU] using hj') hv
   ·cases h
  ·rename_i r sz lo len cs' e;simp only[bA] at e;obtain⟨rfl,rfl⟩:=e;split at h
   ·rename_i el l hg;obtain⟨hsz,h0⟩:=dK h;have hsz:sz=el.width:=aq hsz;clear h;split at h0
    ·rename_i ys' L' hr;simp only[af,au] at h0;obtain⟨rfl,rfl⟩:=h0;obtain⟨h1,h2,h3,h4⟩:=lp cs ys' L' hr (λc hc=>hok c (aK _ hc));obtain⟨_,hlo⟩:=hok (.own ⟨r,[]⟩ sz lo len true) aG;obtain⟨_,hlo,hln⟩:=hlo rfl;have hln:=hln _ hg;simp only at hln;refine⟨by simp[h1],by simp[fV,h2],λk r' hk=> ?_,λw bt bt' m hm j c c' u hj hj' hv=> ?_⟩
     ·cases k with
      |zero=>simp only[aL,af] at hk;subst hk;exact⟨el,l,rfl,hg⟩
      |succ k=>exact h3 k r' (by simpa using hk)
     ·cases j with
      |zero=>
       simp only[jU,aL,af] at hj hj';subst hj hj' hsz hlo hln;obtain⟨e1,e2,e3⟩:=hm 0 r rfl;rw[bL] at e1 e2 e3;cases hv with
       |own hp hc hk ha=>exact .own e3 hc (by rw[e2];exact hk) (by rw[e1];exact ha)
      |succ j=>exact h4 w bt bt' (m+1) (λk r' hk=>by
        have:=hm (k+1) r' (by simpa using hk)
        rwa [show m+(k+1)=m+1+k by omega] at this) j c c' u (by simpa using hj) (by simpa [jU] using hj') hv
    ·cases h0
   ·cases h
  ·cases h
theorem i6: ∀ (ys:List C) (m:Nat),(jU ys m).length=ys.length
 | [],_=>rfl
 | .sc v::r,m=>by simp[jU,i6 r m]
 | .ls t l::r,m=>by simp[jU,i6 r (m+1)]
theorem sn: ∀ (L:List Nat) (S:TS) (out:List dS) (κ:TS->Option ρ) (r:ρ),L.Nodup->ow S L out κ=some r->
  ∃Sp:TS,Sp.env=S.env/\Sp.bx=S.bx/\Sp.fz=S.fz/\Sp.nt=S.nt/\Sp.gh.length=S.gh.length/\out.length=L.length/\(∀ (k q:Nat),L[k]? =some q->eA Sp.gh q=out[k]?)/\(∀q,q∉L->eA Sp.gh q=eA S.gh q)/\eY S.gh Sp.gh/\κ Sp=some r
 | [],S,out,κ,r,_,h=>by
   cases out with
   |nil=>exact⟨S,rfl,rfl,rfl,rfl,rfl,rfl,λk q hk=>by simp at hk,λ_ _=>rfl,eY.refl _,h⟩
   |cons x out=>simp[ow] at h
 |q::L,S,out,κ,r,hnd,h=>by
  rw[List.nodup_cons] at hnd;cases out with
  |nil=>simp[ow] at h
  |cons x out=>
   obtain⟨t,l',hole⟩:=x;cases hole with
   |some y=>simp[ow] at h
   |none=>
    simp only[ow] at h;split at h
    ·rename_i el l hg;obtain⟨ht,h⟩:=dK h;have ht:t=el:=by simpa using ht
     subst ht;obtain⟨hl,h⟩:=dZ h;obtain⟨Sp,a1,a2,a3,a4,a5,a6,a7,a8,a9,h⟩:=sn L { S with gh:=ey S.gh q (some ⟨t,l',none⟩) } out κ r hnd.2 h;have hql:=iY hg;have hG:eY S.gh (ey S.gh q (some ⟨t,l',none⟩)):=eY.put hg hl;refine⟨Sp,a1,a2,a3,a4,by rw[a5];simp[eO],by simp[a6],λk q' hk=> ?_,λq' hq'=> ?_,hG.trans a9,h⟩
     ·cases k with
      |zero=>
       simp only[aL,af] at hk;subst hk;rw[a8 q hnd.1];show eA (ey S.gh q _) q=_
       simp_all [hU]
      |succ k=>grind
     ·rw[a8 q' (λhm=>hq' (aK _ hm))];show eA (ey S.gh q _) q'=_
      simp_all [hU]
    ·cases h
theorem o7{res:V}(h:AK res=true):res.av.plain=true/\ ∀G,res.ok G:=by
 unfold AK at h;split at h
 ·exact⟨rfl,λ_=>trivial⟩
 ·exact⟨rfl,λ_ x hx=>by cases hx⟩
 ·cases h
theorem th[dL](hΘ:eB P Θ)(hY:fB P Y)(hS:S.ok){o:Oper}{k:Nat}{g:FuncId}{caps:List Cl}{a:qP}{us:List TypeId}{xs:List Operand}(ht:oS Y S o=some (k,g,caps,a,us,xs)){κ:TS->Option ρ}{r:ρ}
  (h:oQ Θ Y S k g caps a us xs o.dst κ=some r): ∃S3:TS,(∀n0,fL P n0 S.st o S3.st)/\S3.ok/\κ S3=some r:=by
 obtain⟨f,as,ts,x,t0,hop,has,hts,hx,hgk,hf⟩:=oT ht
 have hcal:callee S.st f=some (g,caps.map Cl.av):=by unfold callee;rw[dP];rcases hf with ⟨_,_,hf,rfl⟩|hf<;>(rw[hf];rfl)
 have others: ∀ {S0:TS} (hS0:S0.ok) (hG:eY S.gh S0.gh) {K:List V1->Option ρ},mg Θ S0 us xs caps K=some r->
   ∃vs,us.length=xs.length/\jO P S0.st us xs (caps.map Cl.av)=vs.map V1.av/\K vs=some r:=by
  intro S0 hS0 hG K h;have hlen:=qn hΘ hS0 _ _ _ _ h;obtain⟨vs,h1,h⟩:=jY hΘ hS0 _ _ _ _ h
  have hcaps: ∀c∈caps,c.ok S0.gh:=by
   intro c hc;rcases hf with ⟨_,_,_,rfl⟩|hf
   ·cases hc
   ·have:=gD hS f;rw[hf] at this;exact Cl.ok_mono hG (this c hc)
  obtain⟨ks,h2,h⟩:=oF hS0 _ _ _ hcaps h;refine⟨_,hlen,?_,h⟩;unfold jO;rw[h1,h2,bO,bq];rfl
 have stays: ∀ {q:Nat} {el:Ty} {l:List el.D} {vs:List V1} {av0:AV} {res:V} {out:List dS},eA S.gh q=some ⟨el,l,none⟩->us.length=xs.length->jO P ({ S with gh:=ey S.gh q none }:TS).st us xs (caps.map Cl.av)=vs.map V1.av->
   (∀ (w:World) (bt:Bt) (u:Value),VR w bt (opd S.st x) u->VR w (handG bt S.st w [⟨q,[]⟩]) av0 u)->eT P g (av0::vs.map V1.av) [.sl el.width (l.map el.row)] 1 res.av (out.map dS.tree)->res.ok (out.map some)->wo S q el l res out o.dst κ=some r-> ∃S3:TS,(∀n0,fL P n0 S.st o S3.st)/\S3.ok/\κ S3=some r:=by
  intro q el l vs av0 res out hq hlen hargs hx hSK hro h;unfold wo at h;split at h
  ·rename_i t' l' more;obtain⟨hc,h⟩:=dK h;have hc:=of_decide_eq_true hc;subst hc;obtain⟨hll,h⟩:=dZ h;have hd:=iB.one hq;have hG:eY S.gh (ey S.gh q (some ⟨t',l',none⟩)):=eY.put hq hll;have hl0: (ey S.gh q (some ⟨t',l',none⟩)).length=S.gh.length:=by rw[eO];simp
   have hrk: (iT S.gh.length (yt res)).ok (ey S.gh q (some ⟨t',l',none⟩)++more.map some):=by
    have:=kR (G:=ey S.gh q (some ⟨t',l',none⟩)) (AJ hro)
    rwa [hl0] at this
   obtain⟨S3,k1,k2,_,h⟩:=fw (S:={ S with gh:=ey S.gh q (some ⟨t',l',none⟩)++more.map some }) (TS.ok_gh hS (hG.trans (eY.apps _ _))) hrk h;rw[show ({ S with gh:=ey S.gh q (some ⟨t',l',none⟩)++more.map some }:TS).st=_ from jL { S with gh:=ey S.gh q (some ⟨t',l',none⟩) } res.av more,kQ,AI] at k1
   have htr:S.st.gh q=some (.sl t'.width (l.map t'.row)):=by show (eA S.gh q).map dS.tree=_;rw[hq];rfl
   have hql:=iY hq
   have hGave:nS S.st ([q].map λr=>⟨r,[]⟩) [.sl t'.width (l.map t'.row)] :=lq rfl (by simp) (λk r hk=>by grind)
   refine⟨S3,λn0=>fL.handG hop has hlen hcal (jK [q]) (λw0 W bt w hI=>hI.dropL [q]) hGave hx (m:=1) (res:=res.av) (out:=dS.tree ⟨t',l',none⟩::more.map dS.tree) (by rw[<-hd.st,hargs];exact hSK)
    (ox (Sp:=({ S with gh:=ey S.gh q (some ⟨t',l',none⟩) }:TS).st) hGave (by simp) rfl rfl rfl hl0 rfl rfl (λk r hk=> ?_) (λr hr=> ?_)) k1,k2,h⟩
   ·cases k with
    |zero=>simp_all [lQ,ed]
    |succ k=>simp at hk
   simp_all [lQ,ed]
  ·cases h
 have hxo:=gD hS x;cases a with
 |own q sz=>
  obtain⟨lo,len,hxv⟩: ∃lo len,S.opd x= .v (.cl (.own ⟨q,[]⟩ sz lo len true)):=by
   unfold mO at hx
   grind
  rw[hxv] at hxo;unfold oQ at h;simp only at h;split at h
  ·rename_i el l hq;obtain⟨hsz,h0⟩:=dK h;have hsz:sz=el.width:=aq hsz;clear h;subst hsz;have hd:=iB.one hq;obtain⟨vs,hlen,hargs,h⟩:=others (hd.ok hS) hd.le h0;obtain⟨_,hlo,hln⟩:=hxo.2 rfl;have hln:=hln _ hq;subst hlo hln
   have hav: ∀ (w:World) (bt:Bt) (u:Value),VR w bt (opd S.st x) u->VR w (handG bt S.st w [⟨q,[]⟩]) (.own ⟨0,[]⟩ el.width 0 l.length) u:=λw bt u hv=>by
    rw[dP,hxv] at hv;have hv:VR w bt (.own ⟨q,[]⟩ el.width 0 l.length) u:=hv;cases hv with
    |own hp hc hk ha=>exact .own cA hc hk ha
   cases hk:Nat.beq k 1 with
   |true=>rw[hk] at h;simp only[cond_true] at h;obtain⟨res,out,g1,g2,h⟩:=hY _ _ _ _ _ h;exact stays hq hlen hargs hav (g1.io g rfl hgk).get g2 h
   |false=>
    rw[hk] at h;simp only[cond_false] at h;obtain⟨hfz0,h⟩:=dK h;have hfz:S.st.fz<=q:=ax hfz0;obtain⟨res,out,g1,g2,h⟩:=hY _ _ _ _ _ h;have g1:=(g1.mv g rfl hgk).get;have hl0: (ey S.gh q none).length=S.gh.length:=by rw[eO];simp
    have hro: (iT S.gh.length res).ok (ey S.gh q none++out.map some):=by
     have:=kR (G:=ey S.gh q none) g2
     rwa [hl0] at this
    obtain⟨S3,k1,k2,_,h⟩:=fw (S:={ S with gh:=ey S.gh q none++out.map some }) (TS.ok_gh (hd.ok hS) (eY.apps _ _)) hro h;rw[show ({ S with gh:=ey S.gh q none++out.map some }:TS).st=_ from jL { S with gh:=ey S.gh q none } res.av out,hd.st,kQ,<-uZ] at k1
    have htr:S.st.gh q=some (.sl el.width (l.map el.row)):=by show (eA S.gh q).map dS.tree=_;rw[hq];rfl
    exact⟨S3,λn0=>fL.handG hop has hlen hcal (jK [q]) (λw0 W bt w hI=>hI.dropL [q]) (lq (ts:=[.sl el.width (l.map el.row)]) rfl (by simp) (λk r hk=>by grind)) hav (m:=0) (by rw[<-hd.st,hargs];exact g1) (wD λr hr=>by rw[aJ.1 hr];exact hfz) k1,k2,h⟩
  ·cases h
 |pt q sz=>
  have hxv:S.opd x= .v (.cl (.ptrT ⟨q,[]⟩ sz 0 0)):=by
   unfold mO at hx;split at hx<;>simp only[af,qP.pt.injEq,reduceCtorEq] at hx;obtain⟨rfl,rfl⟩:=hx
   assumption
  unfold oQ at h;simp only at h;split at h
  ·rename_i el l hq;obtain⟨hsz,h0⟩:=dK h;have hsz:sz=el.width:=aq hsz;clear h;subst hsz;have hd:=iB.one hq;obtain⟨vs,hlen,hargs,h⟩:=others (hd.ok hS) hd.le h0;obtain⟨res,out,g1,g2,h⟩:=hY _ _ _ _ _ h;refine stays hq hlen hargs (λw bt u hv=> ?_) (g1.pt g rfl hgk).get g2 h;rw[dP,hxv] at hv;have hv:VR w bt (.ptrT ⟨q,[]⟩ el.width 0 0) u:=hv;cases hv with
   |ptrT _ _ _ hp hk=>exact .ptrT (p:=⟨0,[]⟩) _ 0 0 cA hk
  ·cases h
 |agg cs=>
  have hxv:S.opd x= .v (.agg cs):=by
   unfold mO at hx;split at hx<;>simp only[af,qP.agg.injEq,reduceCtorEq] at hx;subst hx
   assumption
  rw[hxv] at hxo;unfold oQ at h;simp only at h;split at h
  ·rename_i ys L hga;obtain⟨hnd,h0⟩:=dK h;clear h;have hnd:L.Nodup:=n9.1 hnd;obtain⟨g1,g2,g3,g4⟩:=lp cs ys L hga hxo
   have hd:=qs L S hnd (λq hq=>by obtain⟨k,hk,hkq⟩:=aQ hq;obtain⟨el,l,_,e⟩:=g3 k q (by grind);exact⟨_,e⟩)
   obtain⟨vs,hlen,hargs,h⟩:=others (hd.ok hS) hd.le h0;obtain⟨res,out,k1,k2,h⟩:=hY _ _ _ _ _ h;have k1:=(k1.io g rfl hgk).getA;obtain⟨hns,h⟩:=dK h;obtain⟨hpl,hrok⟩:=o7 hns;obtain⟨Sp,a1,a2,a3,a4,a5,a6,a7,a8,a9,h⟩:=sn L S out _ r hnd h;have hSp:Sp.ok:=⟨λx hx=>V.ok_mono a9 (hS.env x (by rw[<-a1];exact hx)),λcs hcs c hc=>Cl.ok_mono a9 (hS.bx cs (by rw[<-a2];exact hcs) c hc)⟩
   obtain⟨S3,m1,m2,_,h⟩:=fw hSp (hrok _) h
   have hGave:nS S.st (L.map λr=>⟨r,[]⟩) ((fV ys).map dS.tree):=lq (by simp[g2]) hnd (λk q hk=>by obtain⟨el,l,e1,e2⟩:=g3 k q hk;refine⟨el.width,l.map el.row,by rw[aw,e1];rfl,?_⟩;show (eA S.gh q).map dS.tree=_;rw[e2];rfl)
   have hps: (L.map λr=>(⟨r,[]⟩:dW)).length=(fV ys).length:=by rw[aE,g2]
   have hout: (out.map dS.tree).length=L.length:=by rw[aE,a6]
   refine⟨S3,λn0=>fL.handG hop has hlen hcal (jK L) (λw0 W bt w hI=>hI.dropL L) hGave (av0:=.agg ((jU ys 0).map Cl.av)) (λw bt u hv=> ?_) (res:=res.av) (out:=out.map dS.tree) (m:=L.length) (by rw[<-hd.st,hargs,<-g2];exact k1)
    (ox (Sp:=Sp.st) hGave (Nat.le_of_eq hout.symm) (by unfold TS.st;simp only[a1]) (by unfold TS.st;simp only[a2]) (by unfold TS.st;simp only[a2]) (by unfold TS.st;simp only[a5]) a3 a4 (λk q hk=>by
      show (eA Sp.gh q).map dS.tree=_;rw[a7 k q hk,aw]) (λq hq=>by
      show (eA Sp.gh q).map dS.tree=(eA S.gh q).map dS.tree;rw[a8 q hq])) (by grind [qD,vD]),m2,h⟩
   rw[dP,hxv] at hv;have hv:VR w bt (.agg (cs.map Cl.av)) u:=hv;cases hv with
   |agg hl ho hr=>
    rename_i us0;refine .agg (by grind [i6]) ho (λk c u hk hu=> ?_);rw[aw] at hk;simp only[aj] at hk;obtain⟨c',hc',rfl⟩:=hk
    have hkl:k<cs.length:=by have:=(ai.1 hc').1;rw[i6,g1] at this;exact this
    refine g4 w bt _ 0 (λi q hi=> ?_) k cs[k] c' u (an hkl) hc' (hr k _ u (by grind) hu)
    have hpi: (L.map λr=>(⟨r,[]⟩:dW))[(⟨0+i,[]⟩:dW).r]? =some ⟨q,[]⟩:=by rw[aw];show (L[0+i]?).map _=_;rw[aM,hi];rfl
    have hpl2:=lI hpi;refine⟨?_,?_,?_⟩
    ·show bt.β (qE _ _)=_;rw[hpl2];rfl
    ·show bt.κ (qE _ _)=_;rw[hpl2];rfl
    ·show 0+i< (L.map λr=>(⟨r,[]⟩:dW)).length
     grind
  ·cases h
 |nest q i j sz lo len=>
  obtain⟨w0,hxv⟩: ∃w,S.opd x= .v (.cl (.own ⟨q,[(i,j)]⟩ sz lo len w)):=by
   unfold mO at hx
   grind
  rw[hxv] at hxo;unfold oQ at h;simp only at h;split at h
  ·rename_i t l hq;obtain⟨y,hy,h⟩:=ah.1 h;split at h
   ·rename_i el v hv;obtain⟨hsz,h0⟩:=dK h;have hsz:sz=el.width:=aq hsz;clear h;subst hsz;obtain⟨hll,h1⟩:=dZ h0;clear h0;obtain⟨rfl,rfl⟩:=hll;have hql:=iY hq;have hhole:eY S.gh (ey S.gh q (some ⟨t,l,some (i,j)⟩)):=eY.put hq rfl;obtain⟨vs,hlen,hargs,h⟩:=others (S0:={ S with gh:=ey S.gh q (some ⟨t,l,some (i,j)⟩) }) (TS.ok_gh hS hhole) hhole h1;clear h1;obtain⟨res,out,k1,k2,h⟩:=hY _ _ _ _ _ h;have k1:=(k1.io g rfl hgk).get;split at h
    ·rename_i t' v' _;obtain⟨hc,h⟩:=dK h;simp only[ao,decide_eq_true_eq] at hc;obtain⟨rfl,hns⟩:=hc;obtain⟨hpl,hrok⟩:=o7 hns;obtain⟨hvl,h⟩:=dZ h;split at h
     ·rename_i z hz;have hG:eY S.gh (ey S.gh q (some ⟨t,l.set i z,none⟩)):=eY.put hq (by simp);obtain⟨S3,m1,m2,_,h⟩:=fw (S:={ S with gh:=ey S.gh q (some ⟨t,l.set i z,none⟩) }) (TS.ok_gh hS hG) (hrok _) h
      have hrowy: (l.map t.row)[i]? =some ((t.flat y).map C.tree):=by rw[aw,hy];simp only[aF,t.row_flat]
      have hcell: ((t.flat y).map C.tree)[j]? =some (.sl t'.width (v.map t'.row)):=by rw[eE] at hv;rw[aw,hv];rfl
      have hgq:S.st.gh q=some (.sl t.width (l.map t.row)):=by show (eA S.gh q).map dS.tree=_;rw[hq];rfl
      have hlook:S.st.look ⟨q,[(i,j)]⟩= .sl t'.width (v.map t'.row):=by unfold St.look;simp only[hgq,T.go,T.cell,aB,hrowy,aZ,hcell]
      have hforget: ∀ (w0:World) (W:Nat->Prop) (bt:Bt) (w:World),eG w0 W bt S.st w->_:=λw0 W bt w hI=>hI.forget hlook
      have hSm: ({ S with gh:=ey S.gh q (some ⟨t,l,some (i,j)⟩) }:TS).st=S.st.setAt ⟨q,[(i,j)]⟩ .dd:=by rw[lQ S _ hql];unfold St.setAt;simp only[hgq,aF];rfl
      have hSp: ({ S with gh:=ey S.gh q (some ⟨t,l.set i z,none⟩) }:TS).st=S.st.setAt ⟨q,[(i,j)]⟩ (.sl t'.width (v'.map t'.row)):=by
       rw[lQ S _ hql];unfold St.setAt;simp only[hgq,aF,T.put]
       congr 3
       show T.sl t.width ((l.set i z).map t.row)=_;rw[List.map_set,t.row_flat z,t.unflat_some _ _ hz,eO,List.map_set];simp only[aB,hrowy,aZ];rfl
      rw[hSp] at m1;refine⟨S3,λn0=>fL.handG hop has hlen hcal (Sm:=S.st.setAt ⟨q,[(i,j)]⟩ .dd) (ps:=[⟨q,[(i,j)]⟩]) ?_ (λw0 W bt w hI=>(hforget w0 W bt w hI).1) (yc hlook) (av0:=.own ⟨0,[]⟩ t'.width 0 v.length) (λw bt u hv=> ?_) (res:=res.av) (out:=[.sl t'.width (v'.map t'.row)]) (m:=1) (by rw[<-hSm,hargs];exact k1) (xI hlook (by simpa using hvl)) (by rw[qD hpl,List.drop_succ_cons,List.drop_nil,vD];exact m1),m2,h⟩
      ·refine⟨rfl,rfl,rfl,λp s rs hp=> ?_⟩;rw[iK] at hp;by_cases hpr:p.r=q
       ·rw[if_pos hpr,hgq] at hp;simp only at hp
        rcases T.put_spec .dd [(i,j)] (.sl t.width (l.map t.row)) (.inl (by grind [St.look])) p.l s rs hp with ⟨m',hm,hgo⟩| ⟨rs0,e1,e2,e3,e4⟩
        ·rw[T.dd_go] at hgo;cases hgo
        ·refine⟨λp' hp' hu=> ?_,rs0,by unfold St.look;rw[hpr,hgq];exact e1⟩;rw[aJ.1 hp'] at hu;obtain⟨_,m,b⟩:=hu;exact e3 m b.symm
       ·rw[if_neg hpr] at hp;refine⟨λp' hp' hu=> ?_,rs,hp⟩;rw[aJ.1 hp'] at hu;exact hpr hu.1
      ·rw[dP,hxv] at hv;have hv:VR w bt (.own ⟨q,[(i,j)]⟩ t'.width 0 v.length) u:=hv;cases hv with
       |own hp hc hk ha=>exact .own cA hc hk ha
     ·cases h
    ·cases h
   ·cases h
  ·cases h
theorem zA{el:Ty}(hw:el.width=1)(hf:el.flatB=true){z:el.D}(hz:el.unflat el.zcs=some z): ∃zv,el.zvs= [zv] /\gQ zv=true/\el.row z= [.sc zv] :=by
 have hr:el.row z=el.zcs.map C.tree:=by rw[el.row_flat,el.unflat_some _ _ hz]
 rw[hr];clear hr hz z;cases el with
 |i k=>exact⟨_,rfl,rfl,rfl⟩
 |b=>exact⟨_,rfl,rfl,rfl⟩
 |s=>exact⟨_,rfl,rfl,rfl⟩
 |h=>exact⟨_,rfl,rfl,rfl⟩
 |st n=>cases n<;>first |exact⟨_,rfl,rfl,rfl⟩| (exfalso;revert hw;decide)| (exfalso;revert hf;decide)
 |ls t=>cases hf
theorem wK[dL](hΘ:eB P Θ)(hS:S.ok){ops:Array Oper}{o:Oper}{os:List Oper}{Post:St->Prop}{t:TypeId}{q sz lo len:Nat}(ht:q9 S o=some (t,q,sz,lo,len)){κ:TS->Option ρ}{r:ρ}
  (ih: ∀S3:TS,S3.ok->κ S3=some r->nx P ops os S3.st Post) (h:uN Θ S t q sz lo len o.dst κ=some r):nx P ops (o::os) S.st Post:=by
 unfold q9 at ht;split at ht
 ·rename_i as ts hop;split at ht
  ·cases ht
  ·rename_i hgd;split at ht
   ·rename_i x t' e1 e2;split at ht
    ·rename_i r' sz' lo' len' w hx;simp only[af,au] at ht;obtain⟨rfl,rfl,rfl,rfl,rfl⟩:=ht;have e1:as= #[x] :=by apply Array.ext';simpa using e1
     have e2:ts= #[t'] :=by apply Array.ext';simpa using e2
     subst e1 e2;unfold uN at h;split at h
     ·rename_i ti hti;split at h
      ·rename_i el l hq;obtain⟨hc,h0⟩:=dK h;simp only[ao,decide_eq_true_eq] at hc;obtain⟨⟨⟨hty,hw⟩,hsz⟩,hfl⟩:=hc;have hw:el.width=1:=aq hw;have hsz:sz'=1:=aq hsz;split at h0
       ·rename_i z hz;unfold iteP at h0;split at h0
        ·rename_i hle;obtain⟨elT',g1,g2,g3,g4,g5,g6⟩:=(hΘ _ _ hti).el el hty
         have hql:r'<S.gh.length:=by
          rcases cU r' S.gh.length with h'|h'
          ·exact h'
          ·rw[mL h'] at hq;cases hq
         have hG:eY S.gh (ey S.gh r' (some ⟨el,l.take lo'++List.replicate len' z++l.drop (lo'+len'),none⟩)):=eY.put hq (by simp;omega);obtain⟨S3,k1,k2,_,h⟩:=fw (v:=.tup []) (TS.ok_gh hS hG) (λx hx=>by cases hx) h0;rw[lQ S _ hql] at k1;obtain⟨zv,hzv,hsc,hrow⟩:=zA hw hfl hz
         have htr:S.st.gh r'=some (.sl 1 (l.map el.row)):=by show (eA S.gh r').map dS.tree=_;rw[hq];show some (T.sl el.width (l.map el.row))=_;rw[hw]
         have hxv:opd S.st x= .own ⟨r',[]⟩ 1 lo' len':=by rw[dP,hx,<-hsz];rfl
         refine nx.clear hop hgd g1 (by rw[g6,hzv]) hsc hxv htr (by simpa using hle) ⟨S3.st,?_,ih S3 k2 h⟩;rw[<-k1]
         congr 1
         show _=({ S.st with gh:=ed S.st.gh r' (some (T.sl el.width ((l.take lo'++List.replicate len' z++l.drop (lo'+len')).map el.row))) }:St)
         simp_all
        ·cases h0
       ·cases h0
      ·cases h
     ·cases h
    ·cases ht
   ·cases ht
 ·cases ht
theorem Ah[dL](hΘ:eB P Θ)(hY:fB P Y){ops:Array Oper}: ∀ (os:List Oper) (S:TS) (κ:TS->Option ρ) (r:ρ),(∀o∈os,gC P o=true)->S.ok->oJ Θ Y ops.toList os S κ=some r->
  nx P ops os S.st (λS'=> ∃S1:TS,S'=S1.st/\S1.ok/\κ S1=some r):=by
 intro os
 induction os with
 |nil=>intro S κ r _ hS h;exact nx.nil ⟨S,rfl,hS,h⟩
 |cons o os ih=>
  intro S κ r hok hS h;unfold oJ at h;cases hn:oa o with
  |some tx=>
   obtain⟨t,x⟩:=tx;rw[hn] at h;simp only at h;obtain⟨hs,h⟩:=dK h;obtain⟨⟨t',ho⟩,hg⟩:=rA hn;unfold C7 at hs;split at hs
   ·rename_i ti hti;split at hs
    ·rename_i e he;obtain⟨el,hel,_⟩:=(hΘ t ti hti).el e he;split at h
     ·rename_i t1 l hx
      have way: ∀ (b:Bool),(iQ S o.dst (sA b) λS3=>oJ Θ Y ops.toList os S3 κ)=some r-> ∃S1,S.st.put o.dst (.sc (.bool b))=some S1/\nx P ops os S1 (λS'=> ∃S1:TS,S'=S1.st/\S1.ok/\κ S1=some r):=by intro b hb;obtain⟨S3,g5,g6,_,h⟩:=fw (v:=sA b) hS trivial hb;exact⟨S3.st,g5,ih S3 κ r (λx hx=>hok x (aK _ hx)) g6 h⟩
      have hxv:opd S.st x= .ro t1.width (l.map t1.row):=by rw[dP,hx];rfl
      cases l with
      |nil=>
       obtain⟨a1,a2⟩:=xG (show zK _ _ none=some r from h)
       grind [nx.eqnil]
      |cons y l=>exact nx.eqnil hel ho hg hxv (λh=>by cases h) (way false h)
     ·cases h
    ·cases hs
   ·cases hs
  |none=>
  rw[hn] at h;simp only at h;cases hcl:q9 S o with
  |some z=>grind [wK]
  |none=>
  rw[hcl] at h;simp only at h;obtain⟨b,S1,h1,h2,h3,h4,h⟩:=uz hS h;refine nx.cons (b:=b) h1 ?_;cases b with
  |true=>
   simp only[cond_true] at h;rw[if_pos rfl,<-h2];cases hh:oS Y S1 o with
   |some z=>obtain⟨k,g,caps,a,us,xs⟩:=z;rw[hh] at h;obtain⟨S3,g1,g2,g3⟩:=th hΘ hY h3 hh h;exact⟨S3.st,(g1 0).op,ih S3 κ r (λx hx=>hok x (aK _ hx)) g2 g3⟩
   |none=>
   grind [ky,fw,xA.one,one]
  |false=>simp only[cond_false] at h;obtain⟨S3,g5,g6,_,h⟩:=fw (v:=.tup []) h3 (λx hx=>by cases hx) h;rw[if_neg (by simp)];exact⟨S3.st,by rw[<-h2];exact g5,ih S3 κ r (λx hx=>hok x (aK _ hx)) g6 h⟩
theorem A7{D D':iU}{X:St}{o:Oper}(h:D o.dst=D' o.dst):dM D P X o=dM D' P X o:=by simp_all [dM]
theorem wq{D D':iU}{X:St}{o:Oper}(h:D o.dst=D' o.dst):eD D P X o=eD D' P X o:=by simp_all [eD]
theorem C2{D D':iU}{ops:Array Oper}: ∀ (os:List Oper) (X:St),(∀o∈os,D o.dst=D' o.dst)->pV D P ops os X=pV D' P ops os X:=by
 intro os
 induction os with
 |nil=>intro X _;rfl
 |cons o os ih=>grind [pV,A7,wq]
theorem l5: ∀ (l m:List (Option dS)) (n:Nat),gone n l (l++m)= []
 | [],m,n=>by cases m<;>rfl
 |x::l,m,n=>by
  cases x with
  |none=>exact l5 l m (n+1)
  |some y=>exact l5 l m (n+1)
theorem pF(l:List dS):zt (l.map some)=l.map dS.tree:=by unfold zt;rw[bq];rfl
theorem v6(S:TS)(out:List dS):S.st.make ⟨S.st.ng,out.map dS.tree,[]⟩=({ S with gh:=S.gh++out.map some }:TS).st:=by
 rw[jL S .dead out];unfold St.make install;simp only[aE]
 congr 1
theorem iB.make{S1:TS}{L:List Nat}(h:iB S S1 L)(x:dS):S.st.make ⟨S.st.ng,[x.tree],gm L⟩=({ S1 with gh:=S1.gh++ [some x] }:TS).st:=by
 rw[pD,h.st,h.len];unfold St.make dropL;simp only[cn,gv]
 congr 1
 funext r
 unfold ed;by_cases hr:r=S.gh.length
 ·simp_all [TS.st]
 ·rw[if_neg hr,if_neg (by show ¬ (S.gh.length<=r/\r<S.gh.length+1);omega)]
theorem vS: ∀ (l m x:List (Option dS)) (n:Nat) (L:List Nat),m.length=l.length->(∀k,k<l.length->(((∃y,l[k]? =some (some y))/\m[k]? =some none)↔(n+k)∈L))->gone n l (m++x)=(List.range' n l.length).filter λr=>L.contains r
 | [],m,x,n,L,hl,_=>by have :m= [] :=bh hl;subst this;cases x<;>rfl
 |a::l,[],x,n,L,hl,_=>by cases hl
 |a::l,b::m,x,n,L,hl,h=>by
  have h0:=h 0 (Nat.zero_lt_succ _)
  have ih:=vS l m x (n+1) L (by simpa using hl) (λk hk=>by
   have:=h (k+1) (by simpa using hk)
   grind)
  simp only[aL,af,bL] at h0;rw[bD,cx,List.filter_cons];cases a with
  |none=>
   have : ¬n∈L:=λhn=>by grind
   rw[if_neg (by simpa using this),<-ih];cases b<;>rfl
  |some y=>
   cases b with
   |none=>have :n∈L:=h0.1 ⟨⟨y,rfl⟩,rfl⟩;rw[if_pos (by simpa using this),<-ih];rfl
   |some z=>
    have : ¬n∈L:=λhn=>by have:=(h0.2 hn).2;cases this
    rw[if_neg (by simpa using this),<-ih];rfl
theorem rc{L:List Nat}{N:Nat}(h: ∀r∈L,r<N):gm L=(List.range N).filter λr=>L.contains r:=by
 have top:rT L<=N:=by
  induction L with
  |nil=>exact bH _
  |cons a l ih=>grind [rT,List.mem_cons_self]
 unfold gm;obtain⟨k,rfl⟩: ∃k,N=rT L+k:=⟨N-rT L,by omega⟩
 rw[bW,bW,<-List.range'_append_1,List.filter_append]
 have : (List.range' (0+rT L) k).filter (λr=>L.contains r)= [] :=by rw[List.filter_eq_nil_iff];intro r hr hc;have h1:=rx (l:=L) (r:=r) (by simpa using hc);have h2:=(List.mem_range'_1.1 hr).1;omega
 rw[this,bI]
theorem iB.gone{S1:TS}{L:List Nat}(h:iB S S1 L)(x:List (Option dS)):gone 0 S.gh (S1.gh++x)=gm L:=by
 rw[rc (N:=S.gh.length) (λr hr=>by obtain⟨tr,ht⟩:=h.was r hr;exact iY ht),bW]
 refine vS _ _ _ _ _ h.len (λk hk=> ?_);rw[aM];have g:=h.gh k;unfold eA at g;rw[eE,eE] at g;have hk1:k<S1.gh.length:=by rw[h.len];exact hk
 rw[an hk,an hk1] at g ⊢;simp only[aZ,af] at g ⊢;constructor
 ·grind
 ·intro hL;obtain⟨tr,ht⟩:=h.was k hL
  simp_all [eA,eE]
theorem kK{G:List (Option dS)}{r j:Nat}{c:Cl}(h:c.ok G)(hr:G.length<=r):ir r j c=c:=by
 have hb: ∀p:dW,p.r<G.length->Nat.beq p.r r=false:=λp hp=>by
  cases hx:Nat.beq p.r r with
  |false=>rfl
  |true=>have:=aq hx;omega
 cases c with
 |own p sz lo len w=>simp only[ir];rw[hb p h.1];split<;>rfl
 |ptrT p sz a b=>simp only[ir];rw[hb p h];split<;>rfl
 | _=>rfl
theorem iL{α:Type}{f:α->α}: ∀ {l:List α},(∀x∈l,f x=x)->l.map f=l
 | [],_=>rfl
 |a::l,h=>by rw[aO,h a aG,iL λx hx=>h x (aK _ hx)]
theorem tw(hS:S.ok){r j:Nat}(hr:S.gh.length<=r):S.kill r j=S:=by
 have v1: ∀v:V1,v.ok S.gh->je r j v=v:=by
  intro v hv;cases v with
  |cl c=>simp only[je];rw[kK hv hr]
  |agg cs=>simp only[je];rw[iL λc hc=>kK (hv c hc) hr]
  |fn f cs=>simp only[je];rw[iL λc hc=>kK (hv c hc) hr]
 have e1:S.env.map (λx=>(x.1,qx r j x.2))=S.env:=by
  refine iL (λx hx=> ?_);have hx:=hS.env x hx;obtain⟨t,v⟩:=x;cases v with
  |v x=>simp only[qx];rw[v1 x hx]
  |tup l=>simp only[qx];rw[iL λc hc=>v1 c (hx c hc)]
 have e2:S.bx.map (λcs=>cs.map (ir r j))=S.bx:=by exact iL (λcs hcs=>iL (λc hc=>kK (hS.bx cs hcs c hc) hr))
 unfold TS.kill;rw[e1,e2]
theorem Ba(hS:S.ok){S1:TS}{no j:Nat}(hno:S.gh.length<=no){et:Option Ty}{c:Cl}{x:C}(hc:c.ok S.gh)(h:fj S no j et c=some (x,S1)):
  ∃L,iB S S1 L/\L.Nodup/\gr S.st (uA et) c.av=some (x.tree,L):=by
 have wp: ∀t:Ty,¬uA (some t)=0:=λt e=>by have:=t.width_pos;have e':t.width=0:=e;omega
 cases c with
 |c y=>
  cases y with
  |sc v=>
   cases et with
   |none=>simp only[fj,af,au] at h;obtain⟨rfl,rfl⟩:=h;exact⟨[],iB.refl _,dD,rfl⟩
   |some t=>simp[fj] at h
  |ls t l=>cases et<;>simp[fj] at h
 |em=>
  cases et with
  |none=>simp[fj] at h
  |some t=>simp only[fj,af,au] at h;obtain⟨rfl,rfl⟩:=h;rw[tw hS hno];refine⟨[],iB.refl _,dD,?_⟩;unfold gr;rw[if_neg (wp t)];rfl
 |own p sz lo len wh=>
  obtain⟨pr,pl⟩:=p;cases wh with
  |false=>cases et<;>simp[fj] at h
  |true=>
   cases et with
   |none=>simp[fj] at h
   |some t=>
    cases pl with
    |cons a l=>simp[fj] at h
    |nil=>
     simp only[fj] at h;obtain⟨h1,h⟩:=dK h;simp only[ao,bT] at h1;obtain⟨⟨h1,h2⟩,h3⟩:=h1;have h1:t.width=sz:=aq h1;have h2:S.fz<=pr:=ax h2;split at h
     ·rename_i tr htr;split at h
      ·rename_i hh;obtain⟨h4,h⟩:=dK h;have h4':tr.t.width=sz:=aq h4;simp only[af,au] at h;obtain⟨rfl,rfl⟩:=h;have hg:=dS.look htr;obtain⟨tt,l,hole⟩:=tr;simp only at hh h4';subst hh;obtain⟨e1,e2,e3⟩:=kA hc (λ_=>hg);have hd:=iB.one hg;rw[tw (hd.ok hS) (by rw[hd.len];exact hno)];refine⟨[pr],hd,by simp,?_⟩;unfold gr;rw[if_neg (wp t)];simp only[Cl.av]
       have hrows:S.st.rows ⟨pr,[]⟩ sz=some (l.map tt.row):=by rw[<-h4'];refine fJ ?_;unfold St.look;show (match (eA S.gh pr).map dS.tree with |some t=>t.go [] |none=> .dd)=_;rw[hg];rfl
       rw[if_pos ⟨trivial,h1.symm,e2,h2⟩,hrows]
       simp_all [bS,C.tree]
      ·cases h
     ·cases h
 |pro cs=>cases et<;>simp[fj] at h
 |ptrB n j=>cases et<;>simp[fj] at h
 |ptrT p sz a b=>cases et<;>simp[fj] at h
 |dead=>cases et<;>simp[fj] at h
theorem uK{X Y:St}(hfz:Y.fz=X.fz)(hg: ∀r t,Y.gh r=some t->X.gh r=some t){s:Nat}{v:AV}{y:T×List Nat}(h:gr Y s v=some y):gr X s v=some y:=by
 unfold gr at h ⊢;split at h
 ·rename_i h0;rw[if_pos h0];exact h
 ·rename_i h0;rw[if_neg h0];split at h
  ·exact h
  ·rename_i q s' lo len;split at h
   ·rename_i hc;rw[hfz] at hc;rw[if_pos hc]
    grind [St.rows,St.look]
   ·cases h
  ·cases h
theorem ka{X Y:St}(hfz:Y.fz=X.fz)(hg: ∀r t,Y.gh r=some t->X.gh r=some t): ∀ {ss:List Nat} {vs:List AV} {y:List T×List Nat},fg Y ss vs=some y->fg X ss vs=some y
 |s::ss,v::vs,y,h=>by unfold fg at h ⊢;simp only[ah,aj] at h ⊢;obtain⟨a,h1,b,h2,h3⟩:=h;exact⟨a,uK hfz hg h1,b,ka hfz hg h2,h3⟩
 | [],[],_,h=>h
 | [],_::_,_,h=>h
 | _::_,[],_,h=>h
theorem nG{X Y:St}(hfz:Y.fz=X.fz)(hg: ∀r t,Y.gh r=some t->X.gh r=some t){ss:List Nat}: ∀ {vss:List (List AV)} {y:List (List T)×List Nat},eR Y ss vss=some y->eR X ss vss=some y
 | [],_,h=>h
 |vs::vss,y,h=>by unfold eR at h ⊢;simp only[ah,aj] at h ⊢;obtain⟨a,h1,b,h2,h3⟩:=h;exact⟨a,ka hfz hg h1,b,nG hfz hg h2,h3⟩
theorem iB.less{S1:TS}{L:List Nat}(h:iB S S1 L): ∀r t,S1.st.gh r=some t->S.st.gh r=some t:=by
 intro r t ht;rw[h.st] at ht
 grind [dropL]
theorem Bb(no:Nat): ∀ (ets:List (Option Ty)) (cs:List Cl) (j:Nat) (S S1:TS) (xs:List C),S.ok->S.gh.length<=no->(∀c∈cs,c.ok S.gh)->it no j S ets cs=some (xs,S1)->
  ∃L,iB S S1 L/\L.Nodup/\fg S.st (ets.map uA) (cs.map Cl.av)=some (xs.map C.tree,L):=by
 intro ets
 induction ets with
 |nil=>
  intro cs j S S1 xs hS hno hcs h;cases cs with
  |nil=>simp only[it,af,au] at h;obtain⟨rfl,rfl⟩:=h;exact⟨[],iB.refl _,dD,rfl⟩
  |cons c cs=>simp[it] at h
 |cons et ets ih=>
  intro cs j S S1 xs hS hno hcs h;cases cs with
  |nil=>simp[it] at h
  |cons c cs=>
   simp only[it] at h;split at h
   ·rename_i x S2 hx;obtain⟨L1,d1,n1,e1⟩:=Ba hS hno (hcs c aG) hx;split at h
    ·rename_i xs' S3 hxs;simp only[af,au] at h;obtain⟨rfl,rfl⟩:=h;obtain⟨L2,d2,n2,e2⟩:=ih cs (j+1) S2 S3 xs' (d1.ok hS) (by rw[d1.len];exact hno) (λy hy=>Cl.ok_mono d1.le (hcs y (aK _ hy))) hxs;refine⟨L1++L2,d1.trans d2,d1.apart d2 n1 n2,?_⟩;simp only[aO,fg];rw[e1];simp only[ak];rw[ka (X:=S.st) (Y:=S2.st) d1.fz d1.less e2];rfl
    ·cases h
   ·cases h
theorem yF(el:Ty): ∀ (vs:List V) (S S1:TS) (l:List el.D),S.ok->(∀v∈vs,v.ok S.gh)->jh el S vs=some (l,S1)->
  ∃L,iB S S1 L/\L.Nodup/\eR S.st el.shs (vs.map λv=>v.av.cells)=some (l.map el.row,L)/\l.length=vs.length/\ ∀v∈vs,v.av.cells.length=el.width/\v.av.isDead=false:=by
 intro vs
 induction vs with
 |nil=>intro S S1 l hS hv h;simp only[jh,af,au] at h;obtain⟨rfl,rfl⟩:=h;exact⟨[],iB.refl _,dD,rfl,rfl,λv hv=>by cases hv⟩
 |cons v vs ih=>
  intro S S1 l hS hv h;cases v with
  |tup x=>simp[jh] at h
  |v x=>
   have hx:=hv (.v x) aG;simp only[jh] at h;split at h
   ·rename_i ws S2 hw
    have hcells: ∀c∈x.cells,c.ok S.gh:=by
     intro c hc;cases x with
     |cl y=>rw[aJ.1 hc];exact hx
     |agg cs=>exact hx c hc
     |fn f cs=>rw[aJ.1 hc];trivial
    obtain⟨L1,d1,n1,e1⟩:=Bb _ _ _ _ _ _ _ hS (az _) hcells hw
    have hw':el.csh.length=x.cells.length/\ ∀c∈x.cells,c≠ .dead:=by obtain⟨_,m2,_,m4,_⟩:=pE S.gh.length 0 0 0 el.csh x.cells 0 S S2 ws [x.cells.map λc=>T.ofSc c.av] (x.cells.map λc=>T.ofSc c.av) hS hcells hw rfl (by simp) (λk c hk=>by grind);exact⟨m2,m4⟩
    split at h
    ·rename_i y ys S3 hy hys;simp only[af,au] at h;obtain⟨rfl,rfl⟩:=h;obtain⟨L2,d2,n2,e2,e3,e4⟩:=ih S2 S3 ys (d1.ok hS) (λu hu=>V.ok_mono d1.le (hv u (aK _ hu))) hys
     have hsh:el.shs=el.csh.map uA:=by unfold Ty.shs;refine aH λc _=> ?_;cases c<;>rfl
     have hav: (V.v x).av.cells=x.cells.map Cl.av:=by
      cases x with
      |cl c=>
       simp only[V.av,V1.av,V1.cells,aO,b7];cases c with
       |c y=>cases y<;>rfl
       | _=>rfl
      |agg cs=>rfl
      |fn f cs=>exact absurd rfl (hw'.2 .dead (aJ.2 rfl))
     refine⟨L1++L2,d1.trans d2,d1.apart d2 n1 n2,?_,by simp[e3],λu hu=> ?_⟩
     ·simp only[aO,eR];rw[hav,hsh,e1];simp only[ak];rw[<-hsh,nG (X:=S.st) (Y:=S2.st) d1.fz d1.less e2];simp only[aF];rw[el.row_flat,el.unflat_some _ _ hy]
     ·rcases aX.1 hu with rfl|hu
      ·refine⟨?_,?_⟩
       ·grind [lP]
       ·cases x with
        |cl c=>
         have:=hw'.2 c (aJ.2 rfl);cases c with
         |c y=>cases y<;>rfl
         |dead=>exact absurd rfl this
         | _=>rfl
        |agg cs=>rfl
        |fn f cs=>rfl
      ·exact e4 u hu
    ·cases h
   ·cases h
theorem u9(hΘ:eB P Θ){t:TypeId}(h:CP Θ t=true): ∃ti el elT',fU Θ t=some ti/\ti.ty= .ls el/\jz P t=some elT'/\P.cellsOf elT'=el.width/\P.bytesOf elT'=ti.el/\0<ti.el/\gJ P 9 elT'=el.shs/\mw P elT'=some el.zvs:=by
 unfold CP at h;split at h
 ·rename_i ti hti;split at h
  ·rename_i el he;obtain⟨elT',g⟩:=(hΘ _ _ hti).el el he;exact⟨ti,el,elT',hti,he,g⟩
  ·cases h
 ·cases h
theorem A5{el:Ty}{v:Cl}(hv:v.ok S.gh){κ:List el.D->TS->Option ρ}{r:ρ}(h:zh S el v κ=some r):
  ∃more L S1,iB S S1 L/\eZ S.st el.width el.flatB v.av=some (more.map el.row,L)/\κ more S1=some r:=by
 unfold zh at h;split at h
 ·exact⟨[],[],S,iB.refl _,rfl,h⟩
 ·rename_i t l;obtain⟨h1,h⟩:=dK h;split at h
  ·rename_i l' hl;obtain⟨e,hl⟩:=eI hl;subst e;simp only at hl;subst hl;refine⟨l,[],S,iB.refl _,?_,h⟩;simp only[Cl.av,C.av,eZ];rw[if_pos ⟨trivial,jn h1 l⟩]
  ·cases h
 ·rename_i p sz lo len w;obtain⟨h0,h⟩:=dK h;have h0:el.width=sz:=aq h0;cases hfl:el.flatB with
  |true=>
   rw[hfl] at h;simp only[cond_true] at h;obtain⟨t,l,h1,h2,h⟩:=eM h;split at h
   ·rename_i l' hl;obtain⟨e,hl⟩:=eI hl;subst e;simp only at hl;subst hl
    have src: ∀ (lo len:Nat),lo+len<=l.length->eZ S.st t.width true (.own p sz lo len)=some (((l.drop lo).take len).map t.row,[]):=by intro lo len hle;simp only[eZ];rw[if_pos h0.symm,fJ h1];simp only[ak,aE];rw[if_neg (by simp),if_pos ⟨hle,by grind [jn]⟩];simp[cg,cB]
    cases w with
    |true=>
     obtain⟨e1,e2,e3⟩:=kA hv h2;refine⟨l,[],S,iB.refl _,?_,h⟩
     grind [Cl.av]
    |false=>simp only[cond_false] at h;obtain⟨h3,h⟩:=dZ h;exact⟨_,[],S,iB.refl _,src lo len h3,h⟩
   ·cases h
  |false=>
   rw[hfl] at h;simp only[cond_false] at h;split at h
   ·rename_i hpl;obtain⟨h1,h'⟩:=dK h;clear h;simp only[ao] at h1;obtain⟨rfl,hfz⟩:=h1;have hfz:S.fz<=p.r:=ax hfz;obtain⟨t,l,g1,g2,h⟩:=eM h';split at h
    ·rename_i l' hl;obtain⟨e,hl⟩:=eI hl;subst e;simp only at hl;subst hl;obtain⟨e1,e2,e3⟩:=kA hv g2;refine⟨l,[p.r],_,iB.one (g2 e1),?_,h⟩;simp only[Cl.av,eZ];rw[if_pos h0.symm,fJ g1];simp only[ak,aE];rw[if_pos ⟨trivial,e1,e2,e3,hfz⟩]
    ·cases h
   ·cases h
 ·cases h
theorem xK{el:Ty}{v:Cl}(hv:v.ok S.gh)(hroot:wk (.v (.cl v))=true){more:List el.D}{κ:List el.D->TS->Option ρ}{r:ρ}(h:sq S el v more κ=some r):
  ∃ (l0:List el.D) (cons:List Nat) (S':TS),gU S.st el.width v.av=some (l0.map el.row,cons)/\iB S S' cons/\κ (l0++more) S'=some r:=by
 unfold sq at h;split at h
 ·exact⟨[],[],S,rfl,iB.refl _,h⟩
 ·rename_i p sz lo len w;obtain⟨pr,pl⟩:=p;cases pl with
  |cons a l=>cases hroot
  |nil=>
   obtain⟨h0,h'⟩:=dK h;clear h;simp only[ao] at h0;have hfz:S.fz<=pr:=ax h0.1;have hsz:el.width=sz:=aq h0.2;simp only at h';obtain⟨t,l,h1,h2,h⟩:=eM h';split at h
   ·rename_i l' hl;obtain⟨e,hl⟩:=eI hl;subst e;simp only at hl;subst hl
    have base: ∀ (len:Nat),¬l.length<len->gU S.st t.width (.own ⟨pr,[]⟩ sz 0 len)=some ((l.take len).map t.row,[pr]):=by intro len hlen;simp only[gU];rw[if_pos ⟨hsz.symm,trivial,trivial,hfz⟩,fJ h1];simp only[ak,aE];rw[if_neg hlen,cg]
    cases w with
    |true=>
     obtain⟨e1,e2,e3⟩:=kA hv h2;refine⟨l,[pr],_,?_,iB.one (h2 rfl),h⟩
     grind [Cl.av]
    |false=>
     simp only[cond_false] at h;obtain⟨h3,h⟩:=dZ h;obtain⟨h4,h⟩:=mU h;refine⟨l.take len,[pr],_,?_,iB.one (h2 rfl),h⟩
     grind [Cl.av]
   ·cases h
 ·cases h
theorem v9[dL](hΘ:eB P Θ)(hY:fB P Y)(hS:S.ok){o:Oper}(hn:eL o=true)(hf:Am Θ o=true)(hb:vE S o=true){κ:V->TS->Option ρ}{r:ρ}(h:jT Θ Y S o κ=some r):
  ∃D v0 v adds cons S',fM P D/\eD D P S.st o=some (v0,adds,cons)/\shift S.st.ng v0=V.av v/\S.st.make ⟨S.st.ng,adds,cons⟩=TS.st S'/\lC S S'=⟨S.st.ng,adds,cons⟩/\S'.ok/\v.ok S'.gh/\κ v S'=some r:=by
 obtain⟨dst,op,ty,pos,aft,gd⟩:=o;cases op with
 |buildSlice t len parts=>
  obtain⟨ti,el,elT',hti,he,g1,g2,g3,g4,g5,g6⟩:=u9 hΘ hf;unfold jT at h;simp only[hti,he] at h;obtain⟨hb',h'⟩:=dK h;clear h
  have hnr: ((parts.toList.map λx=>S.opd x.2).any oU)=false:=by have hb: (!(parts.toList.map λx=>S.opd x.2).any oU)=true:=hb;simpa using hb
  rw[hnr] at h';simp only[cond_false] at h';split at h'
  ·rename_i l S1 hp
   have hvok: ∀v∈parts.toList.map (λx=>S.opd x.2),v.ok S.gh:=λv hv=>by obtain⟨y,_,rfl⟩:=aI.1 hv;exact gD hS _
   obtain⟨L,d,hnd,m1,m2,m3⟩:=yF el _ S S1 l hS hvok hp;simp only[ao] at hb';have hb1:len*el.width<=1048576:=ax hb'.1;have hb2:=rd hb'.2
   have hlen:l.length=len:=by rw[m2];have:=congrArg List.length hb2;simpa using this
   refine⟨rB,.own ⟨0,[]⟩ el.width 0 len,_,[.sl el.width (l.map el.row)],gm L,{ S1 with gh:=S1.gh++ [some ⟨el,l,none⟩] },eW,?_,?_,d.make ⟨el,l,none⟩,?_,TS.ok_gh (d.ok hS) (eY.app _ _),?_,h'⟩
   ·simp only[eD,g1,ak]
    rw[if_pos ⟨by rw[g2];exact hb1,hb2,by rw[g2];exact el.width_pos,by rw[g6];rfl,by rw[aA];intro y hy;obtain⟨q1,q2⟩:=m3 (S.opd y.2) (aI.2 ⟨y,hy,rfl⟩);simp only[dP,q1,q2,g2];rfl⟩]
    have e: (parts.toList.map λx=>(opd S.st x.2).cells)=(parts.toList.map λx=>S.opd x.2).map λv=>v.av.cells:=by rw[bq];exact aH λx _=>by simp only[dP,Function.comp]
    rw[e,g5,m1];simp only[ak];rw[if_pos (n9.2 hnd),g2]
   ·simp only[shift,ft,fK,V.av,V1.av,Cl.av,aM,hlen];rw[d.len];rfl
   ·unfold lC;simp only;rw[d.gone,ct (by rw[d.len];exact az _),bZ (by rw[d.len];exact az _)];rfl
   ·refine⟨by simp,λ_=>⟨rfl,rfl,λtr htr=> ?_⟩⟩;rw[fO,if_pos rfl] at htr;cases htr;rfl
  ·cases h'
 |call c=>
  obtain⟨cl,as,ts⟩:=c;cases cl with
  |invoke a b=>cases hn
  |value f=>
   unfold jT at h;simp only at h
   have fin: ∀ (g:FuncId) (caps:List AV) (vs:List V1),g<fi->callee S.st f=some (g,caps)->args P S.st ts as caps=vs.map V1.av->Y g vs ρ (λres out=>κ (iT S.gh.length res) { S with gh:=S.gh++out.map some })=some r->
     ∃D v0 v adds cons S',fM P D/\eD D P S.st ⟨dst,.call { callee:=.value f,args:=as,argTypes:=ts },ty,pos,aft,gd⟩=some (v0,adds,cons)/\shift S.st.ng v0=V.av v/\S.st.make ⟨S.st.ng,adds,cons⟩=TS.st S'/\lC S S'=⟨S.st.ng,adds,cons⟩/\S'.ok/\v.ok S'.gh/\κ v S'=some r:=by
    intro g caps vs hg h1 h2 h3;obtain⟨res,out,h4,h5,h6⟩:=hY _ _ _ _ _ h3;have h4:=h4.fn hg;refine⟨xb dst g (vs.map V1.av) (res.av,out.map dS.tree),res.av,_,out.map dS.tree,[],_,pb h4,?_,?_,v6 S out,?_,TS.ok_gh hS (eY.apps _ _),kR h5,h6⟩
    ·simp_all [eD,we]
    ·rw[kQ];rfl
    ·unfold lC;simp only[l5,ct (az _),dp,bK,pF];rfl
   unfold vH at h;split at h
   ·rename_i g x y hf';obtain⟨hg,h⟩:=dK h;have hg:g<fi:=ax hg;obtain⟨vs,h1,h⟩:=jY hΘ hS _ _ _ _ h;refine fin g [] vs hg ?_ ?_ h
    ·unfold callee;rw[dP,hf'];rfl
    grind [args]
   ·rename_i g caps hf';obtain⟨hg,h⟩:=dK h;have hg:g<fi:=ax hg;obtain⟨vs,h1,h⟩:=jY hΘ hS _ _ _ _ h
    have hcaps: ∀c∈caps,c.ok S.gh:=by have:=gD hS f;rw[hf'] at this;exact this
    obtain⟨cs,h2,h⟩:=oF hS _ _ _ hcaps h;refine fin g (caps.map Cl.av) (vs++cs.map .cl) hg ?_ ?_ h
    ·unfold callee;rw[dP,hf'];rfl
    ·unfold args;rw[h1,h2,bO,bq];rfl
   ·cases h
  |builtin b=>
   cases b with
   |append=>
    unfold jT at h;simp only at h;split at h
    ·rename_i s x t t' e1 e2;have hbb: ((match ts.toList with | [t,t'] =>Nat.beq t t'| _=>true)&&(match as.toList with |s::_=>wk (S.opd s)| [] =>true))=true:=hb;rw[e1,e2] at hbb;simp only[ao] at hbb;rw[hbb.1] at h;simp only[cond_true] at h;have h':=h;have ht:t=t':=aq hbb.1;clear h;have e1:as= #[s,x] :=by apply Array.ext';simpa using e1
     have e2:ts= #[t,t'] :=by apply Array.ext';simpa using e2
     subst e1 e2;subst ht;obtain⟨ti,el,elT',hti,he,g1,g2,g3,g4,g5,g6⟩:=u9 hΘ hf;unfold zL at h';simp only[hti] at h';split at h'
     ·rename_i el' sv xv he' hs hx;rw[he] at he';cases he';have hsv:=gD hS s;rw[hs] at hsv;have hxv:=gD hS x;rw[hx] at hxv;obtain⟨more,L,S1,d1,q1,h⟩:=A5 (show xv.ok S.gh from hxv) h';have hroot:wk (.v (.cl sv))=true:=by rw[<-hs];exact hbb.2
      obtain⟨l0,cons,S2,q2,d2,h⟩:=xK (show sv.ok S1.gh from Cl.ok_mono d1.le hsv) hroot h;obtain⟨hbd,h⟩:=dZ h;have hlen: (l0++more).length<=2 ^ 40:=ba (dh _ g4) hbd;have hll: (l0++more).length=l0.length+more.length:=by simp
      have d:=d1.trans d2;refine⟨rB,.own ⟨0,[]⟩ el.width 0 (l0.length+more.length),_,[.sl el.width ((l0++more).map el.row)],gm (L++cons),{ S2 with gh:=S2.gh++ [some ⟨el,l0++more,none⟩] },eW,?_,?_,d.make ⟨el,l0++more,none⟩,?_,TS.ok_gh (d.ok hS) (eY.app _ _),?_,h⟩
      ·simp only[eD];rw[if_pos trivial,g1];simp only[ak,g2,g5,kG,dP,hs,hx];show (eZ S.st el.width el.flatB xv.av).bind _=_;rw[q1];simp only[ak];show (gU (dropL S.st L) el.width sv.av).bind _=_;rw[<-d1.st,q2];simp only[ak,aE];rw[if_pos ⟨by rw[g3,<-hll];exact hbd,by rw[<-hll];exact hlen,el.width_pos,by rw[mt g2 g5 g6];rfl⟩,bO]
      ·simp only[shift,ft,fK,V.av,V1.av,Cl.av,aM,hll];rw[d.len];rfl
      ·unfold lC;simp only;rw[d.gone,ct (by rw[d.len];exact az _),bZ (by rw[d.len];exact az _)];rfl
      ·refine⟨by simp,λ_=>⟨rfl,rfl,λtr htr=> ?_⟩⟩;rw[fO,if_pos rfl] at htr;cases htr;rfl
     ·cases h'
    ·cases h
   | _=>cases hn
 |makeSlice t l c=>
  unfold jT at h;simp only at h;split at h
  ·rename_i ti hti;split at h
   ·rename_i el he;obtain⟨elT',g1,g2,g3,g4,g5,g6⟩:=(hΘ _ _ hti).el el he;obtain⟨n,h1,h⟩:=jD h;obtain⟨m,h2,h⟩:=jD h;split at h
    ·rename_i z hz;obtain⟨hb,h⟩:=dZ h;have hz':=Ty.unflat_some _ _ _ hz
     have hzr:el.row z=List.zipWith zc el.shs el.zvs:=by rw[el.row_flat,hz',pL]
     refine⟨rB,.own ⟨0,[]⟩ el.width 0 n.toNat,_,[(⟨el,List.replicate n.toNat z,none⟩:dS)].map dS.tree,[],{ S with gh:=S.gh++ [(⟨el,List.replicate n.toNat z,none⟩:dS)].map some },eW,?_,?_,v6 S _,?_,TS.ok_gh hS (eY.apps _ _),?_,h⟩
     ·simp only[eD,g1,ak,dP,h1,h2];rw[mt g2 g5 g6];simp only[ak]
      have hn:n<=n*(ti.el:Int):=by
       have h1e: (1:Int)<=ti.el:=by omega
       have:=cN h1e hb.1
       rwa [Int.mul_one] at this
      rw[if_pos ⟨hb.1,hb.2.1,by rw[g3,Int.mul_comm];exact hb.2.2,Int.le_trans hn hb.2.2⟩,g2,<-hzr];simp[dS.tree]
     ·simp only[shift,ft,fK,V.av,V1.av,Cl.av,aM];rfl
     ·unfold lC;simp only[l5,ct (az _),dp,bK,pF];rfl
     ·refine⟨by simp,λ_=>⟨rfl,by simp,λtr htr=> ?_⟩⟩;rw[show [(⟨el,List.replicate n.toNat z,none⟩:dS)].map some= [some ⟨el,List.replicate n.toNat z,none⟩] from rfl,fO,if_pos rfl] at htr;cases htr;simp
    ·cases h
   ·cases h
  ·cases h
 | _=>cases hn
end
end
section
open Go
section
variable {ρ:Type} {P:Program} {Θ:gq} {S:TS} {Y:kZ}
open Classical in
noncomputable def l9(d:Option Tmp)(D1 D2:iU):iU:=λd'=>if d'=d then D1 d' else D2 d'
theorem tu[dL]{d:Option Tmp}{D1 D2:iU}(h1:fM P D1)(h2:fM P D2):fM P (l9 d D1 D2):=by
 intro d' f args gs res out h;unfold l9 at h;split at h
 ·exact h1 _ _ _ _ _ _ h
 ·exact h2 _ _ _ _ _ _ h
theorem yg(d:Option Tmp)(D1 D2:iU):l9 d D1 D2 d=D1 d:=by unfold l9;rw[if_pos rfl]
theorem yh{d d':Option Tmp}(D1 D2:iU)(h:d'≠d):l9 d D1 D2 d'=D2 d':=by unfold l9;rw[if_neg h]
theorem Af[dL](hΘ:eB P Θ)(hY:fB P Y){ops:Array Oper}: ∀ (os:List Oper) (S:TS) (ms:List ff) (κ:TS->List ff->Option ρ) (r:ρ),S.ok->sU Θ Y ops.toList os S ms κ=some r->
  ∃D SV ms',fM P D/\pV D P ops os S.st=some (TS.st SV,ms')/\SV.ok/\κ SV (ms++ms')=some r:=by
 intro os
 induction os with
 |nil=>intro S ms κ r hS h;exact⟨rB,S,[],eW,rfl,hS,by rw[bI];exact h⟩
 |cons o os ih=>
  intro S ms κ r hS h;unfold sU at h;cases hst:dJ o with
  |true=>
   rw[hst] at h;simp only[cond_true] at h;obtain⟨D,SV,ms',h1,h2,h3,h4⟩:=ih _ _ _ _ hS h;refine⟨D,SV,⟨S.gh.length,[],[]⟩::ms',h1,?_,h3,?_⟩
   ·simp only[pV,hst,if_true,h2,aF];rfl
   grind
  |false=>
   rw[hst] at h;simp only[cond_false] at h;cases hbo:eC o with
   |true=>
    rw[hbo] at h;simp only[cond_true] at h;cases hgn:o.guard.isNone with
    |false=>rw[hgn] at h;cases h
    |true=>
    rw[hgn] at h;simp only[cond_true] at h;obtain⟨S3,g5,g6,_,h⟩:=fw (v:=V.v (.cl (.ptrB (S.bx.length-1-eH os) 0))) hS trivial h;obtain⟨D,SV,ms',k1,k2,k3,k4⟩:=ih _ _ _ _ g6 h;refine⟨D,SV,⟨S.gh.length,[],[]⟩::ms',k1,?_,k3,?_⟩
    ·simp only[pV,hst,aR,if_false,hbo,if_true,hgn];rw[show S.st.put o.dst (.ptrB (S.st.nb-1-eH os) 0)=some S3.st from g5];simp only[ak,k2,aF];rfl
    grind
   |false=>
   rw[hbo] at h;simp only[cond_false] at h;obtain⟨b,S1,h1,h2,h3,h4,h⟩:=uz hS h;have hng:S.st.ng=S1.st.ng:=by rw[h2]
   cases b with
   |false=>
    simp only[cond_false] at h;obtain⟨S3,g5,g6,_,h⟩:=fw (v:=.tup []) h3 (λx hx=>by cases hx) h;obtain⟨D,SV,ms',k1,k2,k3,k4⟩:=ih _ _ _ _ g6 h;refine⟨D,SV,⟨S1.gh.length,[],[]⟩::ms',k1,?_,k3,?_⟩
    ·simp only[pV,hst,hbo,aR,if_false,h1,ak];rw[<-h2,show S1.st.put o.dst (.tup [])=some S3.st from g5];simp only[ak,k2,aF];rfl
    grind
   |true=>
    simp only[cond_true] at h;cases hnw:eL o with
    |false=>
     rw[hnw] at h;simp only[cond_false] at h;obtain⟨v,S2,m1,m2,m3,m4,m5,h⟩:=nh (D:=rB) hΘ h3 h;obtain⟨S3,g5,g6,_,h⟩:=fw m3 (by rw[m4];exact m5) h;obtain⟨D,SV,ms',k1,k2,k3,k4⟩:=ih _ _ _ _ g6 h;refine⟨D,SV,⟨S1.gh.length,[],[]⟩::ms',k1,?_,k3,?_⟩
     ·have hV:dM D P S1.st o=some v.av:=by
       rw[<-m1]
       have : ∀D':iU,dM D P S1.st o=dM D' P S1.st o:=by
        intro D';obtain⟨dst,op,ty,pos,aft,gd⟩:=o;cases op with
        |call c=>
         obtain⟨cl,as,ts⟩:=c;cases cl with
         |value f=>cases hnw
         |invoke a b=>rfl
         |builtin b=>cases b<;>rfl
        |unOp op t x=>cases op<;>rfl
        |binOp op t x y t'=>cases op<;>rfl
        |makeFunc fn first caps=>cases fn<;>rfl
        |slice t x lo hi mx=>cases mx<;>rfl
        | _=>rfl
       exact this rB
      simp only[pV,hst,hbo,aR,if_false,h1,ak,if_true,hnw];rw[<-h2,hV];simp only[ak];rw[<-m2,g5];simp only[ak,k2,aF];rw[m2];first |rfl|skip
     grind
    |true=>
     rw[hnw] at h;simp only[cond_true] at h;obtain⟨hc,h⟩:=dK h;simp only[ao] at hc;obtain⟨D1,v0,v,adds,cons,S2,m1,m2,m3,m4,m5,m6,m7,h⟩:=v9 hΘ hY h3 hnw hc.1.2 hc.2 h;obtain⟨S3,g5,g6,_,h⟩:=fw m6 m7 h;obtain⟨D,SV,ms',k1,k2,k3,k4⟩:=ih _ _ _ _ g6 h;refine⟨l9 o.dst D1 D,SV,⟨S1.st.ng,adds,cons⟩::ms',tu m1 k1,?_,k3,?_⟩
     ·have hN:eD (l9 o.dst D1 D) P S1.st o=some (v0,adds,cons):=by
       rw[<-m2];exact wq (yg _ _ _)
      have hrest:pV (l9 o.dst D1 D) P ops os S3.st=some (SV.st,ms'):=by
       rw[<-k2];refine C2 os _ (λo' ho'=>yh _ _ (λe=> ?_));have hl:=hc.1.1;unfold Dc at hl;split at hl
       ·grind [Bx,Nat.beq_refl]
       ·cases hl
      simp_all [pV]
     grind
theorem Aj[dL](hΘ:eB P Θ)(hY:fB P Y){ops:Array Oper}{D:iU}: ∀ (os:List Oper) (S:TS) (κ:TS->Option ρ) (r:ρ),S.ok->xW Θ Y os S κ=some r->
  ∃S',pW D P ops os S.st=some (TS.st S')/\S'.ok/\κ S'=some r:=by
 intro os
 induction os with
 |nil=>intro S κ r hS h;exact⟨S,rfl,hS,h⟩
 |cons o os ih=>
  intro S κ r hS h;unfold xW at h;cases hst:dJ o with
  |false=>simp_all [pW]
  |true=>
   rw[hst] at h;simp only[cond_true] at h;obtain⟨hc,h⟩:=dK h;simp only[ao] at hc;obtain⟨D',v,S1,g1,g2,g3,g4,h⟩:=ky hΘ hY hS h;obtain⟨S',h1,h2,h3⟩:=ih S1 κ r g3 h;refine⟨S',?_,h2,h3⟩;have hd:o.dst=none:=cE.1 hc.2
   have hs:step D P S.st o=some (v.av,S1.st):=by
    rw[<-g2];obtain⟨dst,op,ty,pos,aft,gd⟩:=o;cases op with
    |store t a x=>rfl
    | _=>cases hst
   simp_all [one,St.put,pW]
theorem AR(hΘ:eB P Θ): ∀ (os:List Oper) (S:TS) (κ:TS->Option ρ) (r:ρ),S.ok->yH Θ os S κ=some r-> ∃S0,rG P os S.st=some (TS.st S0)/\S0.ok/\κ S0=some r:=by
 intro os
 induction os with
 |nil=>intro S κ r hS h;exact⟨S,rfl,hS,h⟩
 |cons o os ih=>
  intro S κ r hS h;unfold yH at h;unfold rG;split at h
  ·rename_i t hop;split at h
   ·rename_i ti hti
    obtain⟨S0,h1,h2,h3⟩:=ih { S with bx:=S.bx++ [ti.ty.zvs.map cC] } κ r ⟨hS.env,λcs hcs c hc=>by
     rcases bi.1 hcs with h1|h1
     ·exact hS.bx cs h1 c hc
     grind [zC]⟩ h
    refine⟨S0,?_,h2,h3⟩;rw[hop];simp only[(hΘ _ _ hti).ze,ak];rw[<-h1]
    congr 1
    rw[vq,zB];rfl
   ·cases h
  grind
theorem vo{f g:TypeId->Bool}(h: ∀t,f t=true->g t=true){t:TypeId}{a:AV}(hs:mn f t a=true):mn g t a=true:=by cases a<;>simp only[mn] at hs ⊢<;>first |exact h t hs|exact hs
theorem tH{f g:TypeId->Bool}(h: ∀t,f t=true->g t=true){ops:List Oper}{B:List (List Nat)}{S SV:St}{i j:Nat}{oi oj:Oper}(hs:jF f ops B S SV i j oi oj=true):jF g ops B S SV i j oi oj=true:=by
 unfold jF at hs ⊢;split at hs
 ·simp only[ao] at hs ⊢;exact⟨vo h hs.1,hs.2⟩
 ·cases hs
theorem tT{ops:List Oper}{B:List (List Nat)}{f g:Nat->Nat->Oper->Oper->Bool}(h: ∀i j oi oj,f i j oi oj=true->g i j oi oj=true)(hs:lG ops B f=true):lG ops B g=true:=by
 unfold lG at hs ⊢
 grind
theorem wP{f g:TypeId->Bool}(h: ∀t,f t=true->g t=true){ops:List Oper}{B:List (List Nat)}{S SV:St}{ms:List ff}(hs:uQ f ops B S ms SV=true):uQ g ops B S ms SV=true:=by
 unfold uQ at hs ⊢;simp only[ao,bF] at hs ⊢
 grind [tT,tH]
theorem vO(hΘ:eB P Θ)(t:TypeId)(h:vP Θ t=true):iX P t=true:=by
 unfold vP at h;split at h
 ·rename_i ti hti;unfold iX;rw[(hΘ t ti hti).sh];unfold Ty.flatB at h;unfold Ty.shs
  grind
 ·cases h
theorem zg(hΘ:eB P Θ){S:TS}{o:Oper}(h:zf Θ S o=true): ∀t x v,o.op= .store t x v->mn (iX P) t (opd S.st x)=true:=by
 intro t x v ho;unfold zf at h;rw[ho] at h;simp only at h;rw[dP];split at h
 ·rename_i e;rw[e];rfl
 ·rename_i e;rw[e];exact vO hΘ t h
 ·cases h
theorem wU(hΘ:eB P Θ){o:Oper}(h:rj Θ o=true):oM P o=true:=by
 unfold oM;split
 ·rename_i t a b he;unfold rj at h;rw[he] at h;simp only at h;split at h
  ·rename_i ti hti;split at h
   ·rename_i el hel;have hl:CP Θ t=true:=by unfold CP;rw[hti];simp only[hel]
    grind [u9,iX,kG]
   ·cases h
  ·cases h
 ·rfl
theorem Ag[dL](hΘ:eB P Θ)(hY:fB P Y){n0:Nat}{ops:List Oper}{B:List (List Nat)}: ∀ (os:List Oper) (k:Nat) (S:TS) (κ:TS->Option ρ) (r:ρ),(∀o∈os,gC P o=true)->(os≠ [] ->n0<=S.gh.length)->S.ok->sV Θ Y n0 ops B k os S κ=some r->
  ∃ (T:Nat->St) (S':TS),T k=S.st/\T (k+os.length)=S'.st/\S'.ok/\κ S'=some r/\ ∀i o,os[i]? =some o->qm P n0 ops B T (k+i) o\/(i+1=os.length/\dJ o=true/\xA P (T (k+i)) o (T (k+i+1))/\ ∀j,j<k+i->j∈B.getD (k+i) []):=by
 intro os
 induction os with
 |nil=>intro k S κ r _ _ hS h;exact⟨λ_=>S.st,S,rfl,rfl,hS,h,λi o h=>by simp at h⟩
 |cons o os ih=>
  intro k S κ r hop hn0 hS h;have hop': ∀o∈os,gC P o=true:=λx hx=>hop x (aK _ hx);have hok:=hop o aG;have hn0:=hn0 (by simp)
  have glue: ∀ {S3:TS},(os≠ [] ->n0<=S3.gh.length)->S3.ok->sV Θ Y n0 ops B (k+1) os S3 κ=some r->((kg o=true/\fL P n0 S.st o S3.st)\/xy P n0 (yG ops B k) S.st o S3.st\/(os= [] /\dJ o=true/\xA P S.st o S3.st/\ ∀j,j<k->j∈B.getD k []))->
    ∃ (T:Nat->St) (S':TS),T k=S.st/\T (k+(o::os).length)=S'.st/\S'.ok/\κ S'=some r/\ ∀i o',(o::os)[i]? =some o'->qm P n0 ops B T (k+i) o'\/(i+1=(o::os).length/\dJ o'=true/\xA P (T (k+i)) o' (T (k+i+1))/\ ∀j,j<k+i->j∈B.getD (k+i) []):=by
   intro S3 hn3 hS3 h3 hst;obtain⟨T,S',t1,t2,hS',hk,hT⟩:=ih (k+1) S3 κ r hop' hn3 hS3 h3
   let T':Nat->St:=λi=>if i=k then S.st else T i
   have e0:T' k=S.st:=if_pos rfl;have e1: ∀i,k<i->T' i=T i:=λi hi=>if_neg (by omega);refine⟨T',S',e0,?_,hS',hk,λi o' ho'=> ?_⟩
   ·grind
   ·cases i with
    |zero=>
     simp only[aL,af] at ho';subst ho';have e2:T' (k+1)=S3.st:=by rw[e1 _ (by omega),t1]
     rcases hst with h|h| ⟨rfl,h1,h2,h3⟩
     ·left;left
      grind
     ·left;right
      grind
     grind
    |succ i=>grind [qm]
  unfold sV at h;cases hh:oS Y S o with
  |some z=>
   obtain⟨kd,g,caps,a,us,xs⟩:=z;rw[hh] at h;obtain⟨S3,g1,g2,g3⟩:=th hΘ hY hS hh h
   have hv:kg o=true:=by obtain⟨f,as,ts,x,t0,hop,_⟩:=oT hh;unfold kg eL;rw[hop];rfl
   exact glue (λ_=>ba hn0 (g1 0).ng) g2 g3 (.inl ⟨hv,g1 n0⟩)
  |none=>
  rw[hh] at h;simp only at h;cases hs:dJ o with
  |true=>
   rw[hs] at h;simp only[cond_true] at h;obtain⟨hc,h⟩:=dK h;obtain⟨D,v,S2,hD,g2,g3,g4,h⟩:=ky hΘ hY hS h;obtain⟨S3,g5,g6,g7,h⟩:=fw g3 g4 h;rcases Bool.or_eq_true_iff.1 hc with hc|hc
   ·have hst:=fL.store hD hok hs (zg hΘ hc) g2 g5 (n0:=n0);exact glue (λ_=>ba hn0 hst.ng) g6 h (.inl ⟨by simp[kg,hs],hst⟩)
   ·simp only[ao,du,aA,bC,bB] at hc;exact glue (λhne=>absurd hc.1 hne) g6 h (.inr (.inr ⟨hc.1,hs,xA.one hD hok (by unfold one;rw[g2];exact g5),hc.2⟩))
  |false=>
  rw[hs] at h;simp only[cond_false] at h;cases hn:eL o with
  |true=>
   rw[hn] at h;simp only[cond_true] at h;have hv:kg o=true:=by simp[kg,hn]
   cases hfl: !iI o&&rj Θ o with
   |true=>simp only[hfl,Bool.true_or,cond_true] at h;simp only[ao,bT] at hfl;obtain⟨D,v,S2,hD,g2,g3,g4,h⟩:=ky hΘ hY hS h;obtain⟨S3,g5,g6,g7,h⟩:=fw g3 g4 h;have hst:=fL.flat hD hok hn hfl.1 (wU hΘ hfl.2) g2 g5 (n0:=n0) hn0;exact glue (λ_=>ba hn0 hst.ng) g6 h (.inl ⟨hv,hst⟩)
   |false=>
    simp only[hfl,cd] at h;cases hfb:Am Θ o&&vE S o with
    |false=>
     obtain⟨D,v,S2,hD,g2,g3,g4,h⟩:=ky hΘ hY hS h
     grind
    |true=>
     have hfb':=hfb;simp only[ao] at hfb';obtain⟨D,v0,v,adds,cons,S2,hD,g2,g3,g4,g8,g9,g10,h⟩:=v9 hΘ hY hS hn hfb'.1 hfb'.2 h;simp only[hfb,dH] at h;obtain⟨hc,h⟩:=dK h;obtain⟨S3,g5,g6,g7,h⟩:=fw g9 g10 h
     have hst:fL P n0 S.st o S3.st:=fL.new hD hok hn g2 (by rw[g4,g3];exact g5) hn0 λha r hr=>by
      rw[ha,cd] at hc;have e:gone 0 S.gh S2.gh=cons:=congrArg ff.cons g8
      simp_all
     exact glue (λ_=>ba hn0 hst.ng) g6 h (.inl ⟨hv,hst⟩)
  |false=>rw[hn] at h;simp only[cond_false] at h;obtain⟨hp,h⟩:=dK h;obtain⟨v,S2,m1,m2,m3,m4,m5,h⟩:=nh (D:=z6) hΘ hS h;obtain⟨S3,g5,g6,g7,h⟩:=fw m3 (by rw[m4];exact m5) h;refine glue (λ_=>by rw[g7,m4];exact hn0) g6 h (.inr (.inl ⟨by simp[kg,hs,hn],hok,v.av,m1,hp,by rw[<-m2];exact g5⟩))
theorem Ai[dL](hΘ:eB P Θ)(hY:fB P Y)(hm:P.follows .mixedOrders=true){id:Nat}{ops:Array Oper}(hok:fX P (.region id ops true)=true)(hS:S.ok){κ:TS->Option ρ}{r:ρ}(h:BS Θ Y ops.toList S κ=some r):
  ig P (.region id ops true) S.st (λx S'=>x= .nor/\ ∃S1:TS,S'=S1.st/\S1.ok/\κ S1=some r):=by
 unfold BS at h;simp only[fX] at hok;cases hc:sI ops||(ops.toList.any (DL Y)&&BB ops) with
 |true=>
  rw[show (sI ops.toList.toArray||(ops.toList.any (DL Y)&&BB ops.toList.toArray))=true from hc] at h;simp only[cond_true] at h
  have hph:BB ops=true:=by
   unfold sI at hc;simp only[bF,ao] at hc;rcases hc with hc|hc
   ·exact hc.2
   ·exact hc.2
  obtain⟨T,S',t1,t2,h2,h3,hT⟩:=Ag hΘ hY ops.toList 0 S κ r (λo ho=>aA.1 hok o ho) (λ_=>az _) hS h;have hsz:ops.toList.length=ops.size:=by simp
  rw[aM,hsz] at t2;have tl: ∀ {i:Nat} {o:Oper},ops[i]? =some o->ops.toList[i]? =some o:=by intro i o h;simpa using h
  by_cases hl: ∃o,ops[ops.size-1]? =some o/\ ¬qm P S.st.ng ops.toList (eF ops.toList) T (ops.size-1) o
  ·obtain⟨o,ho,hnp⟩:=hl;have hlt:=(aD.1 ho).1;refine ig.phase hm (tV hph) T t1 (m:=ops.size-1) (.inr ⟨by omega,o,ho,?_⟩) (λi o hi ho=> ?_) ⟨rfl,S',t2,h2,h3⟩
   ·have:=hT _ o (tl ho);rw[aM] at this;rcases this with h|h
    ·exact absurd h hnp
    ·exact⟨h.2.1,h.2.2.1,h.2.2.2⟩
   ·have:=hT _ o (tl ho);rw[aM] at this;rcases this with h|h
    ·exact h
    ·omega
  ·refine ig.phase hm (tV hph) T t1 (m:=ops.size) (.inl rfl) (λi o hi ho=> ?_) ⟨rfl,S',t2,h2,h3⟩;have:=hT _ o (tl ho);rw[aM] at this;rcases this with h|h
   ·exact h
   grind
 |false=>
 rw[show (sI ops.toList.toArray||(ops.toList.any (DL Y)&&BB ops.toList.toArray))=false from hc] at h;simp only[cond_false] at h;obtain⟨hd,h⟩:=dK h;have hd:vJ ops=true:=hd;obtain⟨S0,h0,hS0,h⟩:=AR hΘ _ _ _ _ hS h;obtain⟨D,SV,ms,h1,h2,h3,h4⟩:=Af hΘ hY _ _ _ _ _ hS0 h;obtain⟨h5,h6⟩:=dK h4;rw[bK] at h5;obtain⟨S',h7,h8,h9⟩:=Aj (D:=D) (ops:=ops) hΘ hY _ _ _ _ h3 h6;exact ig.draw h1 hm (by unfold oH;rw[hd,hok];rfl) h0 h2 (wP (vO hΘ) h5) h7 ⟨rfl,S',rfl,h8,h9⟩
def eg:Code->List Code
 | .seq a b=>eg a++eg b
 | .cond _ a b=>eg a++eg b
 | .block _ c=>eg c
 | .loop c=> [c]
 | _=> []
def eS[dL](P:Program)(Λ:fW)(cs:List Code):Prop:=∀c∈cs,∀ (S:TS) (ρ:Type) (κ:X->TS->Option ρ) (r:ρ),S.ok->Λ (fm c) S ρ κ=some r->ig P (.loop c) S.st (λx S'=> ∃S1:TS,S'=S1.st/\S1.ok/\κ x S1=some r)
theorem rg[dL](hΘ:eB P Θ)(hY:fB P Y)(hm:P.follows .mixedOrders=true){Λ:fW}: ∀ (c:Code) (S:TS) (κ:X->TS->Option ρ) (r:ρ),fX P c=true->eS P Λ (eg c)->S.ok->mF Θ Y Λ c S κ=some r->
  ig P c S.st (λx S'=> ∃S1:TS,S'=S1.st/\S1.ok/\κ x S1=some r):=by
 intro c
 induction c with
 |skip=>intro S κ r _ _ hS h;exact ig.skip ⟨S,rfl,hS,h⟩
 |exit i=>intro S κ r _ _ hS h;exact ig.exit ⟨S,rfl,hS,h⟩
 |ret=>intro S κ r _ _ hS h;exact ig.ret ⟨S,rfl,hS,h⟩
 |region id ops dr=>
  intro S κ r hok _ hS h;cases dr with
  |false=>exact ig.region (Ah hΘ hY _ _ _ _ (λo ho=>aA.1 hok o ho) hS h)
  |true=>refine (Ai hΘ hY hm hok hS h).mono (λx S' hx=> ?_);obtain⟨rfl,hx⟩:=hx;exact⟨S',hO.refl,hx⟩
 |seq a b iha ihb=>
  intro S κ r hok hL hS h;simp only[fX,ao] at hok;have hLa:eS P Λ (eg a):=λc hc=>hL c (bV _ hc);have hLb:eS P Λ (eg b):=λc hc=>hL c (List.mem_append_right _ hc);unfold mF at h;refine ig.seq ((iha S _ r hok.1 hLa hS h).mono (λx S' hx=>⟨S',hO.refl,?_⟩))
  grind
 |cond t a b iha ihb=>
  intro S κ r hok hL hS h;simp only[fX,ao] at hok
  grind [eS,eg,mF,oz,ig.cond]
 |block i c ih=>
  intro S κ r hok hL hS h;unfold mF at h;refine ig.block ((ih S _ r hok hL hS h).mono (λx S' hx=>⟨S',hO.refl,?_⟩));obtain⟨S1,rfl,h1,h2⟩:=hx;cases x with
  |nor=>exact⟨S1,rfl,h1,h2⟩
  |ret=>exact⟨S1,rfl,h1,h2⟩
  |ext j=>
   simp only at h2 ⊢;cases hb:Nat.beq j i with
   |true=>rw[hb] at h2;rw[if_pos (aq hb)];exact⟨S1,rfl,h1,h2⟩
   |false=>rw[hb] at h2;rw[if_neg (by grind [Nat.beq_refl])];exact⟨S1,rfl,h1,h2⟩
 |loop c ih=>intro S κ r hok hL hS h;exact hL c (aJ.2 rfl) S ρ κ r hS h
 | _=>intro S κ r hok;cases hok
end
end
section
open Go
section
variable {ρ:Type} {P:Program} {Θ:gq} {S:TS} {Y:kZ}
theorem ri(hS:S.ok){gs:List dS}{et:Option Ty}{c:Cl}(hc:c.ok S.gh){κ:Cl->List dS->TS->Option ρ}{r:ρ}(h:xX S gs et c κ=some r):
  ∃c' gs' S',ll S.st (gs.map dS.tree) (uA et) c.av=some (Cl.av c',gs'.map dS.tree,TS.st S')/\S'.ok/\eY S.gh S'.gh/\eY (gs.map some) (gs'.map some)/\c'.ok (gs'.map some)/\κ c' gs' S'=some r:=by
 have new: ∀ (t:Ty) (l:List t.D) (n:Nat),n=l.length->(Cl.own ⟨gs.length,[]⟩ t.width 0 n true).ok ((gs++ [(⟨t,l,none⟩:dS)]).map some):=by intro t l n hn;refine⟨by simp,λ_=>⟨rfl,rfl,λtr htr=> ?_⟩⟩;rw[bO] at htr;have e:=fO (G:=gs.map some) (x:=some (⟨t,l,none⟩:dS)) gs.length;simp only[aE,if_true] at e;have htr':eA (gs.map some++ [some (⟨t,l,none⟩:dS)]) gs.length=some tr:=htr;rw[e] at htr';cases htr';exact hn
 have grow: ∀ (x:dS),eY (gs.map some) ((gs++ [x]).map some):=λx=>by rw[bO];exact eY.app _ _
 unfold xX at h;split at h
 ·refine⟨_,_,_,rfl,hS,eY.refl _,eY.refl _,?_,h⟩;trivial
 ·rename_i t;refine⟨_,_,S,?_,hS,eY.refl _,grow _,new t [] 0 rfl,h⟩;simp only[Cl.av,ll,uA,aE,bO,aO,b7];rfl
 ·rename_i p sz lo len w t';obtain⟨pr,pl⟩:=p;cases pl with
  |cons a l=>cases h
  |nil=>
   simp only at h;obtain⟨h1,h'⟩:=dK h;clear h;simp only[ao] at h1;have h2:S.fz<=pr:=ax h1.1;have h3:t'.width=sz:=aq h1.2;obtain⟨t,l,k1,k2,h⟩:=eM h';obtain⟨k3,h⟩:=dK h;have k3:t.width=sz:=aq k3
   have fin0: ∀ (lo len:Nat),lo+len<=l.length->(lo=0\/sz<=3/\t.flatB=true)->ll S.st (gs.map dS.tree) (uA (some t')) (.own ⟨pr,[]⟩ sz lo len)=some (.own ⟨gs.length,[]⟩ sz 0 len,(gs++ [(⟨t,(l.drop lo).take len,none⟩:dS)]).map dS.tree,({ S with gh:=ey S.gh pr none }:TS).st):=by
    intro lo len hlen hoff;simp only[ll];have hrows:S.st.rows ⟨pr,[]⟩ sz=some (l.map t.row):=by rw[<-k3];exact fJ k1
    rw[if_pos ⟨trivial,by show sz=t'.width;exact h3.symm,h2⟩,hrows];simp only[ak,aE];rw[if_pos ⟨hlen,hoff.imp id λh=>⟨h.1,jn h.2 l⟩⟩,mq];simp only[uA,h3,bO,aO,b7,dS.tree,cg,cB,k3]
   have fin: ∀ (len:Nat),len<=l.length->ll S.st (gs.map dS.tree) (uA (some t')) (.own ⟨pr,[]⟩ sz 0 len)=some (.own ⟨gs.length,[]⟩ sz 0 len,(gs++ [(⟨t,l.take len,none⟩:dS)]).map dS.tree,({ S with gh:=ey S.gh pr none }:TS).st):=λlen hlen=>by
    have:=fin0 0 len (by omega) (.inl rfl)
    rwa [cF] at this
   cases w with
   |true=>
    obtain⟨e1,e2,e3⟩:=kA hc k2;refine⟨_,_,_,?_,TS.ok_gh hS (eY.gone _ _),eY.gone _ _,grow _,by rw[<-k3];exact new t l _ rfl,h⟩
    simp_all [Cl.av]
   |false=>
    simp only[cond_false] at h;rcases AD h with ⟨h4,h⟩| ⟨_,h⟩
    case inr=>
     obtain⟨hz,h⟩:=dK h;simp only[ao] at hz;obtain⟨h4,h⟩:=dZ h;refine⟨_,_,_,?_,TS.ok_gh hS (eY.gone _ _),eY.gone _ _,grow _,by rw[<-k3];exact new t ((l.drop lo).take len) _ rfl,h⟩;have:=fin0 lo len h4 (.inr ⟨ax hz.2,hz.1⟩);have hl: ((l.drop lo).take len).length=len:=by simp;omega
     simp only[Cl.av];rw[hl];exact this
    case inl=>
     refine⟨_,_,_,?_,TS.ok_gh hS (eY.gone _ _),eY.gone _ _,grow _,by rw[<-k3];exact new t (l.take len) _ rfl,h⟩
     grind [Cl.av]
 ·rename_i p sz i j;obtain⟨pr,pl⟩:=p;cases pl with
  |cons a l=>cases h
  |nil=>
   simp only at h;obtain⟨h1,h'⟩:=dK h;clear h;obtain⟨t,l,k1,k2,h⟩:=eM h';obtain⟨k3,h⟩:=dK h;have k3:t.width=sz:=aq k3;have hrows:S.st.rows ⟨pr,[]⟩ sz=some (l.map t.row):=by rw[<-k3];exact fJ k1
   refine⟨_,_,_,?_,TS.ok_gh hS (eY.gone _ _),eY.gone _ _,grow _,?_,h⟩
   ·simp only[Cl.av,ll];rw[if_pos ⟨trivial,ax h1⟩,hrows];simp only[ak,mq,aE,bO,aO,b7,dS.tree,k3]
   ·show gs.length< ((gs++ [(⟨t,l,none⟩:dS)]).map some).length;simp
 ·cases h
theorem xY: ∀ (ets:List (Option Ty)) (cs:List Cl) (S:TS) (gs:List dS) (κ:List Cl->List dS->TS->Option ρ) (r:ρ),S.ok->(∀c∈cs,c.ok S.gh)->vL S gs ets cs κ=some r->
  ∃cs' gs' S',jA S.st (gs.map dS.tree) (ets.map uA) (cs.map Cl.av)=some (cs'.map Cl.av,gs'.map dS.tree,TS.st S')/\S'.ok/\eY S.gh S'.gh/\eY (gs.map some) (gs'.map some)/\(∀c∈cs',c.ok (gs'.map some))/\κ cs' gs' S'=some r:=by
 intro ets
 induction ets with
 |nil=>
  intro cs S gs κ r hS hcs h;cases cs with
  |nil=>exact⟨[],gs,S,rfl,hS,eY.refl _,eY.refl _,(λc hc=>by cases hc),h⟩
  |cons c cs=>cases h
 |cons et ets ih=>
  intro cs S gs κ r hS hcs h;cases cs with
  |nil=>cases h
  |cons c cs=>
   unfold vL at h;obtain⟨c',g1,S1,h1,h2,h3,h4,h5,h⟩:=ri hS (hcs c aG) h;obtain⟨cs',g2,S2,k1,k2,k3,k4,k5,h⟩:=ih cs S1 g1 _ r h2 (λx hx=>Cl.ok_mono h3 (hcs x (aK _ hx))) h;refine⟨c'::cs',g2,S2,?_,k2,h3.trans k3,h4.trans k4,λx hx=> ?_,h⟩
   ·simp only[aO,jA,h1,ak,k1,aF]
   ·rcases aX.1 hx with rfl|hx
    all_goals grind [Cl.ok_mono]
theorem Ak(hΘ:eB P Θ)(hS:S.ok){gs:List dS}{t:TypeId}{v:V}(hv:v.ok S.gh){κ:V1->List dS->TS->Option ρ}{r:ρ}(h:BT Θ S gs t v κ=some r):
  ∃v' gs' S',wQ P S.st (gs.map dS.tree) t v.av=some (V1.av v',gs'.map dS.tree,TS.st S')/\S'.ok/\eY S.gh S'.gh/\eY (gs.map some) (gs'.map some)/\v'.ok (gs'.map some)/\κ v' gs' S'=some r:=by
 unfold BT at h;split at h
 ·rename_i p sz i j;obtain⟨c',g1,S1,h1,h2,h3,h4,h5,h⟩:=ri hS (show Cl.ok S.gh (.ptrT p sz i j) from hv) h;exact⟨.cl c',g1,S1,h1,h2,h3,h4,h5,h⟩
 split at h
 ·cases h
 ·rename_i ti hti;have hsh:=(hΘ _ _ hti).sh;split at h
  ·rename_i cs _;obtain⟨cs',g1,S1,h1,h2,h3,h4,h5,h⟩:=xY _ _ _ _ _ _ hS hv h;refine⟨.agg cs',g1,S1,?_,h2,h3,h4,h5,h⟩;simp only[V.av,V1.av,wQ,hsh];rw[show ti.ty.shs=ti.ty.csh.map uA from rfl,h1];rfl
  ·rename_i c _;obtain⟨c',g1,S1,h1,h2,h3,h4,h5,h⟩:=ri hS hv h;refine⟨.cl c',g1,S1,?_,h2,h3,h4,h5,h⟩
   have e:wQ P S.st (gs.map dS.tree) t (V.v (.cl c)).av=ll S.st (gs.map dS.tree) ((gJ P 9 t).headD 0) c.av:=by
    cases c with
    |c x=>cases x<;>rfl
    | _=>rfl
   rw[e,hsh]
   have e2:ti.ty.shs.headD 0=uA (ti.ty.csh.headD none):=by
    unfold Ty.shs;cases ti.ty.csh with
    |nil=>rfl
    |cons a l=>cases a<;>rfl
   rw[e2];exact h1
  ·cases h
theorem xZ(hΘ:eB P Θ): ∀ (rs:List (TypeId×V)) (S:TS) (gs:List dS) (κ:List V1->List dS->Option ρ) (r:ρ),S.ok->(∀x∈rs,x.2.ok S.gh)->sX Θ S gs rs κ=some r->
  ∃vs gs',uS P S.st (gs.map dS.tree) (rs.map λx=>(x.1,x.2.av))=some (vs.map V1.av,gs'.map dS.tree)/\eY (gs.map some) (gs'.map some)/\(∀v∈vs,v.ok (gs'.map some))/\vs.length=rs.length/\κ vs gs'=some r:=by
 intro rs
 induction rs with
 |nil=>intro S gs κ r hS hrs h;exact⟨[],gs,rfl,eY.refl _,(λv hv=>by cases hv),rfl,h⟩
 |cons x rs ih=>
  intro S gs κ r hS hrs h;obtain⟨t,v⟩:=x;unfold sX at h;obtain⟨v',g1,S1,h1,h2,h3,h4,h5,h⟩:=Ak hΘ hS (hrs _ aG) h;obtain⟨vs,g2,k1,k2,k3,k4,h⟩:=ih S1 g1 _ r h2 (λx hx=>V.ok_mono h3 (hrs x (aK _ hx))) h;refine⟨v'::vs,g2,?_,h4.trans k2,λy hy=> ?_,by simp[k4],h⟩
  ·simp only[aO,uS,h1,ak,k1,aF]
  ·rcases aX.1 hy with rfl|hy
   all_goals grind [V1.ok_mono]
theorem AZ(hΘ:eB P Θ)(hS:S.ok): ∀ (rs:List ResultVar) (ts:List TypeId) (κ:List (TypeId×V)->Option ρ) (r:ρ),vf Θ S rs ts κ=some r->
  ∃l:List (TypeId×V),rs.mapM (nI P S.st)=some (l.map λx=>x.2.av)/\l.map (·.1)=ts/\(∀x∈l,x.2.ok S.gh)/\κ l=some r:=by
 intro rs
 induction rs with
 |nil=>
  intro ts κ r h;cases ts with
  |nil=>exact⟨[],rfl,rfl,(λx hx=>by cases hx),h⟩
  |cons t ts=>cases h
 |cons a rs ih=>
  intro ts κ r h;cases ts with
  |nil=>cases a<;>cases h
  |cons t ts=>
   cases a with
   |tmp a=>
    unfold vf at h;obtain⟨l,h1,h2,h3,h⟩:=ih ts _ r h;refine⟨(t,fh S.env a)::l,?_,by simp[h2],λx hx=> ?_,h⟩
    ·simp only[cG,h1,nI];rfl
    ·rcases aX.1 hx with rfl|hx
     all_goals grind [n7]
   |cell a t'=>
    unfold vf at h
    have hw:0<P.cellsOf t':=by
     have h':=h;unfold tE at h';split at h'
     ·rename_i ti hti;rw[(hΘ _ _ hti).cells];exact Ty.width_pos _
     ·cases h'
    obtain⟨u,g1,g2,h⟩:=tF hΘ hS (n7 hS a) h;obtain⟨l,h1,h2,h3,h⟩:=ih ts _ r h;refine⟨(t,u)::l,?_,by simp[h2],λx hx=> ?_,h⟩
    ·simp only[cG,h1,nI];rw[if_pos hw];have :load P S.st t' (S.st.env a)=some u.av:=g1;rw[this];rfl
    grind
theorem Bg{α β γ:Type}(f:α×β->γ): ∀l:List (α×β),(l.map (·.1)).zip (l.map f)=l.map λx=>(x.1,f x)
 | [] =>rfl
 |a::l=>by grind
theorem AO(vs:List V1): (p9 vs).av=De (vs.map V1.av):=by
 match vs with
 | [] =>rfl
 | [v] =>rfl
 |v::u::vs=>rfl
theorem o9: ∀ (args:List V1) (n t:Nat),(fh (iM n args) (n+t)).av=(args.map V1.av).getD t .dead
 | [],n,t=>by simp[iM,fh];rfl
 |a::l,n,0=>by simp[iM,fh];rfl
 |a::l,n,t+1=>by
  have :Nat.beq n (n+(t+1))=false:=by
   cases h:Nat.beq n (n+(t+1)) with
   |false=>rfl
   |true=>have:=aq h;omega
  simp only[iM,fh,this,cond_false];rw[show n+(t+1)=(n+1)+t by omega,o9 l (n+1) t];simp
theorem pa: ∀ (args:List V1) (n:Nat) (x:Nat×V),x∈iM n args-> ∃a∈args,x.2= .v a
 | [],n,x,h=>by cases h
 |a::l,n,x,h=>by
  simp only[iM,aX] at h;rcases h with rfl|h
  ·exact⟨a,aG,rfl⟩
  ·obtain⟨b,hb,he⟩:=pa l (n+1) x h;exact⟨b,aK _ hb,he⟩
theorem tQ(a:List V1)(t:Nat): (fh (iM 0 a) t).av=(a.map V1.av).getD t .dead:=by
 have:=o9 a 0 t
 rwa [aM] at this
theorem vw(_P:Program)(S:TS): ∀ (n r:Nat) (gs:List dS),kU S r n=some gs->((List.range' r n).map λr=>(S.st.gh r).getD .dd)=gs.map dS.tree:=by
 intro n
 induction n with
 |zero=>simp_all [kU]
 |succ n ih=>
  intro r gs h;simp only[kU] at h;split at h
  ·rename_i t l hg;split at h
   ·rename_i ts hts;simp only[af] at h;subst h;rw[cx,aO,aO,ih _ _ hts]
    congr 1
    show ((eA S.gh r).map dS.tree).getD .dd=_;rw[hg];rfl
   ·cases h
  ·cases h
theorem mi: ∀ (cs:List C) (n:Nat) (G:List (Option dS)),(∀k t,(fV cs)[k]? =some t->eA G (n+k)=some t)-> ∀c∈jU cs n,c.ok G
 | [],n,G,h,c,hc=>by cases hc
 | .sc v::r,n,G,h,c,hc=>by
   simp only[jU,aX] at hc;rcases hc with rfl|hc
   ·trivial
   ·exact mi r n G h c hc
 | .ls t l::r,n,G,h,c,hc=>by
   simp only[jU,aX] at hc;have h0:=h 0 ⟨t,l,none⟩ rfl;rw[bL] at h0;rcases hc with rfl|hc
   ·refine⟨iY h0,λ_=>⟨rfl,rfl,λtr htr=> ?_⟩⟩
    grind
   ·exact mi r (n+1) G (λk t' hk=>by
     have:=h (k+1) t' (by simpa [fV] using hk)
     grind) c hc
theorem rk[dL](hΘ:eB P Θ)(hY:fB P Y)(hm:P.follows .mixedOrders=true){Λ:fW}{f:FuncId}{fn:Func}(hf:oO P f=some fn)(hL: ∀c,fn.body=some c->eS P Λ (eg c)){args:List V1}{G:List dS}{m:Nat}(hmG:m<=G.length)(ha: ∀a∈args,a.ok (G.map some)){res:V}{out:List dS}
  (h:CM Θ Y Λ fn args G m (λv g=>some (v,g))=some (res,out)):eT P f (args.map V1.av) (G.map dS.tree) m res.av (out.map dS.tree):=by
 unfold CM at h;split at h
 ·cases h
 ·rename_i c hc
  have hcok:fX P c=true:=by
   unfold oO at hf;simp only[ah] at hf;obtain⟨fn',g1,g2⟩:=hf;split at g2
   ·cases g2
   ·grind
  have hS0: ({ env:=iM 0 args,bx:=[],gh:=G.map some,fz:=m,nt:=args.length+(fn.ntmps-args.length) }:TS).ok:=
   ⟨λx hx=>by obtain⟨a,h1,h2⟩:=pa _ _ _ hx;rw[h2];exact ha a h1,λcs hcs=>by cases hcs⟩
  have hbeg: ({ env:=iM 0 args,bx:=[],gh:=G.map some,fz:=m,nt:=args.length+(fn.ntmps-args.length) }:TS).st=wE fn.ntmps (args.map V1.av) (G.map dS.tree) m:=by
   unfold TS.st wE BN;simp only[aE,bX]
   congr 1
   ·funext t
    exact tQ _ t
   ·funext r
    show (eA (G.map some) r).map dS.tree=(G.map dS.tree)[r]?;unfold eA;rw[eE,aw,aw];cases G[r]?<;>rfl
  have hW:=rg hΘ hY hm c _ _ _ hcok (hL c hc) hS0 h;rw[hbeg] at hW
  have main: ∀ (S1:TS),S1.ok->(vf Θ S1 fn.results.toList fn.resultTypes.toList λrs=>match kU S1 0 m with
    |some gs=>sX Θ S1 gs rs λvs gs'=>some (p9 vs,gs')
    |none=>none)=some (res,out)->xQ P fn.results.toList fn.resultTypes.toList m S1.st=some (res.av,out.map dS.tree):=by
   intro S1 hS1 h0;obtain⟨l,h1,h2,h3,h⟩:=AZ (P:=P) hΘ hS1 _ _ _ _ h0;clear h0;split at h
   ·rename_i gs hgs;have hgs:=vw P S1 m 0 gs hgs;obtain⟨vs,gs',k1,k2,k3,k4,h⟩:=xZ (P:=P) hΘ _ _ _ _ _ hS1 h3 h;simp only[af,au] at h;obtain⟨rfl,rfl⟩:=h;unfold xQ;rw[h1];simp only[ak,aE]
    have hz: (fn.resultTypes.toList.zip (l.map λx=>x.2.av))=l.map λx=>(x.1,x.2.av):=by rw[<-h2];exact Bg _ l
    rw[if_pos (by rw[<-h2];simp),hz,bW,hgs,k1];simp only[aF,AO]
   ·cases h
  refine sr hf hc (by simpa using hmG) (hW.mono (λx S' hx=>⟨S',hO.refl,?_⟩))
  grind
theorem vb{G:List (Option dS)}{a:V1}(h:a.ok []):a.ok G:=V1.ok_mono (G:=[]) ⟨bH _,λr tr hr=>by cases hr⟩ h
theorem yb[dL](hΘ:eB P Θ)(hY:fB P Y)(hm:P.follows .mixedOrders=true){Λ:fW}{f:FuncId}{fn:Func}(hf:oO P f=some fn)(hL: ∀c,fn.body=some c->eS P Λ (eg c)){args:List V1}(ha: ∀a∈args,a.ok []){res:V}{out:List dS}
  (h:CN Θ Y Λ fn args (λv g=>some (v,g))=some (res,out)):ic P f (args.map V1.av) [] res.av (out.map dS.tree):=rk hΘ hY hm hf hL (bH 0) ha h
theorem vQ[dL](hΘ:eB P Θ)(hY:fB P Y)(hm:P.follows .mixedOrders=true){Λ:fW}{f:FuncId}{fn:Func}(hf:oO P f=some fn)(hL: ∀c,fn.body=some c->eS P Λ (eg c)){m:Nat}(hm1:m<=1){el:Ty}{l:List el.D}{args:List V1}(ha: ∀a∈args,a.ok []){res:V}{out:List dS}
  (h:ya Θ Y Λ fn m el l args (λv g=>some (v,g))=some (res,out)):eT P f (.own ⟨0,[]⟩ el.width 0 l.length::args.map V1.av) [.sl el.width (l.map el.row)] m res.av (out.map dS.tree):=
 rk hΘ hY hm hf hL (args:=.cl (.own ⟨0,[]⟩ el.width 0 l.length true)::args) (G:=[⟨el,l,none⟩]) hm1 (cW.2 ⟨⟨cA,λ_=>⟨rfl,rfl,λtr htr=>by have htr:some (⟨el,l,none⟩:dS)=some tr:=htr;cases htr;rfl⟩⟩,λa h=>vb (ha a h)⟩) h
theorem Aq[dL](hΘ:eB P Θ)(hY:fB P Y)(hm:P.follows .mixedOrders=true){Λ:fW}{f:FuncId}{fn:Func}(hf:oO P f=some fn)(hL: ∀c,fn.body=some c->eS P Λ (eg c)){el:Ty}{l:List el.D}{args:List V1}(ha: ∀a∈args,a.ok []){res:V}{out:List dS}
  (h:BW Θ Y Λ fn el l args (λv g=>some (v,g))=some (res,out)):eT P f (.ptrT ⟨0,[]⟩ el.width 0 0::args.map V1.av) [.sl el.width (l.map el.row)] 1 res.av (out.map dS.tree):=
 rk hΘ hY hm hf hL (args:=.cl (.ptrT ⟨0,[]⟩ el.width 0 0)::args) (G:=[⟨el,l,none⟩]) (az 1) (cW.2 ⟨cA,λa h=>vb (ha a h)⟩) h
theorem Ap[dL](hΘ:eB P Θ)(hY:fB P Y)(hm:P.follows .mixedOrders=true){Λ:fW}{f:FuncId}{fn:Func}(hf:oO P f=some fn)(hL: ∀c,fn.body=some c->eS P Λ (eg c)){t:Ty}{x:t.D}{args:List V1}(ha: ∀a∈args,a.ok []){res:V}{out:List dS}
  (h:BV Θ Y Λ fn t x args (λv g=>some (v,g))=some (res,out)):eT P f ((qd t x 0).av::args.map V1.av) ((fV (t.flat x)).map dS.tree) (bif true then (fV (t.flat x)).length else 0) res.av (out.map dS.tree):=by
 refine rk hΘ hY hm hf hL (args:=qd t x 0::args) (az _) (cW.2 ⟨?_,λa h=>vb (ha a h)⟩) h
 have hgh0: ∀k t',(fV (t.flat x))[k]? =some t'->eA ((fV (t.flat x)).map some) (0+k)=some t':=by intro k t' hk;unfold eA;rw[eE,aM,aw,hk];rfl
 unfold qd;cases t.ag with
 |true=>intro c hc;exact mi (t.flat x) 0 _ hgh0 c hc
 |false=>
  simp only[cond_false];split
  ·rename_i c hc;exact mi (t.flat x) 0 _ hgh0 c (by rw[hc];exact aJ.2 rfl)
  ·trivial
end
end
section
open Go
def nW:List Nat->Nat->Nat->Option Nat
 | [],_,_=>none
 |a::l,x,n=>bif Nat.beq a x then some n else nW l x (n+1)
def lK(bs ls:List Nat):Cl->Cl
 | .own p sz lo len w=>match nW ls p.r 0 with |some k=> .own ⟨k,p.l⟩ sz lo len w|none=> .dead
 | .ptrT p sz i j=>match nW ls p.r 0 with |some k=> .ptrT ⟨k,p.l⟩ sz i j|none=> .dead
 | .ptrB n j=>match nW bs n 0 with |some k=> .ptrB k j|none=> .dead
 |c=>c
def yR(bs ls:List Nat):V1->V1
 | .cl c=> .cl (lK bs ls c)
 | .agg cs=> .agg (cs.map (lK bs ls))
 | .fn f cs=> .fn f (cs.map (lK bs ls))
def yQ(bs ls:List Nat):V->V
 | .v x=> .v (yR bs ls x)
 | .tup _=>V.dead
def vI:List Nat->List Nat->List Nat
 | [],acc=>acc
 |a::l,acc=>match nW acc a 0 with |some _=>vI l acc|none=>vI l (acc++ [a])
def o8:List Nat->Bool
 | [] =>true
 |a::l=>(match nW l a 0 with |some _=>false|none=>true)&&o8 l
def DZ:Cl->List Nat| .ptrB n _=> [n] | _=> []
def Db:Cl->List Nat| .own p _ _ _ _=> [p.r] | .ptrT p _ _ _=> [p.r] | _=> []
def V1.all:V1->List Cl| .cl c=> [c] | .agg cs=>cs| .fn _ cs=>cs
def V.all:V->List Cl| .v x=>x.all| .tup _=> []
def vV(S:TS)(keep:List Nat):List Nat:=vI (keep.flatMap λt=>(fh S.env t).all.flatMap DZ) []
def Bw(S:TS)(keep bs:List Nat):List Nat:=vI (List.range S.fz++(keep.flatMap λt=>(fh S.env t).all.flatMap Db)++bs.flatMap λb=>((gT S.bx b).getD []).flatMap Db) []
def fk(S:TS)(keep bs ls:List Nat):TS where
 env:=keep.map λt=>(t,yQ bs ls (fh S.env t))
 bx:=bs.map λb=>((gT S.bx b).getD []).map (lK bs ls)
 gh:=ls.map λr=>eA S.gh r
 fz:=S.fz
 nt:=S.nt
def qZ(S:TS)(bs ls:List Nat):Bool:=o8 bs&&o8 ls&&bs.all (λb=>Nat.blt b S.bx.length)&&CZ (ls.take S.fz) (List.range S.fz)&&ls.all (λr=>Nat.blt r S.gh.length)
def wR(G:List (Option dS)):Cl->Cl
 | .own p sz lo len true=> .own p sz lo (match gT G p.r with |some (some tr)=>tr.l.length| _=>len) true
 |c=>c
def x0(G:List (Option dS)):V1->V1
 | .cl c=> .cl (wR G c)
 | .agg cs=> .agg (cs.map (wR G))
 | .fn f cs=> .fn f (cs.map (wR G))
def C4(G:List (Option dS)):V->V
 | .v x=> .v (x0 G x)
 | .tup l=> .tup (l.map (x0 G))
def BU(S:TS):TS:={ S with env:=S.env.map (λx=>(x.1,C4 S.gh x.2)),bx:=S.bx.map (λcs=>cs.map (wR S.gh)) }
def mB{ρ:Type}(keep:List Nat)(S:TS)(κ:TS->Option ρ):Option ρ:=bif qZ S (vV S keep) (Bw S keep (vV S keep)) then κ (BU (fk S keep (vV S keep) (Bw S keep (vV S keep)))) else none
theorem mY: ∀ {l:List Nat} {x n k:Nat},nW l x n=some k->n<=k/\l[k-n]? =some x
 | [],x,n,k,h=>by cases h
 |a::l,x,n,k,h=>by
  simp only[nW] at h;cases hb:Nat.beq a x with
  |true=>simp_all
  |false=>
   rw[hb] at h;obtain⟨h1,h2⟩:=mY (l:=l) h
   grind
theorem qF: ∀ {l:List Nat} {x n:Nat},nW l x n=none->x∉l
 | [],x,n,_=>by simp
 |a::l,x,n,h=>by
  simp only[nW] at h;cases hb:Nat.beq a x with
  |true=>rw[hb] at h;cases h
  |false=>
   rw[hb] at h;have:=qF (l:=l) h;intro hm
   simp_all
theorem lF: ∀ {l:List Nat},o8 l=true-> ∀ (i j x:Nat),l[i]? =some x->l[j]? =some x->i=j
 | [],_,i,j,x,hi,_=>by simp at hi
 |a::l,h,i,j,x,hi,hj=>by
  simp only[o8,ao] at h
  have hna:a∉l:=by
   have h1:=h.1;split at h1
   ·cases h1
   ·rename_i hp;exact qF hp
  cases i with
  |zero=>
   simp only[aL,af] at hi;subst hi;cases j with
   |zero=>rfl
   |succ j=>simp only[cu] at hj;exact absurd (ay hj) hna
  |succ i=>
   simp only[cu] at hi;cases j with
   |zero=>simp only[aL,af] at hj;subst hj;exact absurd (ay hi) hna
   |succ j=>simp only[cu] at hj;rw[lF h.2 i j x hi hj]
def Bt.ren(bt:Bt)(bs ls:List Nat):Bt where
 β:=λp=>bt.β ⟨ls.getD p.r 0,p.l⟩
 κ:=λp=>bt.κ ⟨ls.getD p.r 0,p.l⟩
 bb:=λn=>bt.bb (bs.getD n 0)
 nb:=bs.length
 ng:=ls.length
 A:=bt.A
theorem rI{w:World}{bt:Bt}{bs ls:List Nat}{c:Cl}{u:Value}(h:VR w bt c.av u):VR w (bt.ren bs ls) (lK bs ls c).av u:=by
 have lt: ∀ {l:List Nat} {x k:Nat},nW l x 0=some k->k<l.length/\l.getD k 0=x:=by intro l x k hk;obtain⟨_,h2⟩:=mY hk;rw[Nat.sub_zero] at h2;exact⟨(ai.1 h2).1,by simp[aB,h2]⟩
 cases c with
 |c x=>
  cases x with
  |sc v=>cases h with |sc h=>exact .sc h
  |ls t l=>cases h with |ro h=>exact .ro h
 |em=>cases h with |em a=>exact .em a
 |own p sz lo len wh=>
  simp only[lK];split
  ·rename_i k hk;obtain⟨h1,h2⟩:=lt hk;have hp: (⟨ls.getD k 0,p.l⟩:dW)=p:=by rw[h2]
   have e1: (bt.ren bs ls).κ ⟨k,p.l⟩=bt.κ p:=by have e: (bt.ren bs ls).κ ⟨k,p.l⟩=bt.κ (dW.mk (ls.getD k 0) p.l):=rfl;rw[e,hp]
   have e2: (bt.ren bs ls).β ⟨k,p.l⟩=bt.β p:=by have e: (bt.ren bs ls).β ⟨k,p.l⟩=bt.β (dW.mk (ls.getD k 0) p.l):=rfl;rw[e,hp]
   cases h with
   |own hp' hc hkk ha=>exact .own h1 hc (by rw[e1];exact hkk) (by rw[e2];exact ha)
  ·exact .dead _
 |pro cs=>cases h with |pro cs hs hA hr ht=>exact .pro cs hs hA hr ht
 |ptrB n j=>
  simp only[lK];split
  ·rename_i k hk;obtain⟨h1,h2⟩:=lt hk;cases h with
   |ptrB j hn=>
    have :bt.bb n=(bt.ren bs ls).bb k:=by show bt.bb n=bt.bb (bs.getD k 0);rw[h2]
    rw[this];exact .ptrB j h1
  ·exact .dead _
 |ptrT p sz i j=>
  simp only[lK];split
  ·rename_i k hk;obtain⟨h1,h2⟩:=lt hk;have hp: (⟨ls.getD k 0,p.l⟩:dW)=p:=by rw[h2]
   cases h with
   |ptrT sz i j hp' hkk=>
    have e1:bt.β p=(bt.ren bs ls).β ⟨k,p.l⟩:=by show bt.β p=bt.β ⟨ls.getD k 0,p.l⟩;rw[hp]
    rw[e1];exact .ptrT sz i j h1 (by show _<bt.κ ⟨ls.getD k 0,p.l⟩;rw[hp];exact hkk)
  ·exact .dead _
 |dead=>exact .dead _
theorem yS{w:World}{bt:Bt}{bs ls:List Nat}{v:V1}{u:Value}(h:VR w bt v.av u):VR w (bt.ren bs ls) (yR bs ls v).av u:=by
 have cells: ∀ (cs:List Cl) (us:List Value),us.length=cs.length->(∀ (k:Nat) (c:AV) (u:Value),(cs.map Cl.av)[k]? =some c->us[k]? =some u->VR w bt c u)-> ∀ (k:Nat) (c:AV) (u:Value),((cs.map (lK bs ls)).map Cl.av)[k]? =some c->us[k]? =some u->VR w (bt.ren bs ls) c u:=by intro cs us _ hr k c u hk hu;rw[aw,aw] at hk;simp only[aj] at hk;obtain⟨c1,⟨c0,hc0,rfl⟩,rfl⟩:=hk;exact rI (hr k c0.av u (by rw[aw,hc0];rfl) hu)
 cases v with
 |cl c=>exact rI h
 |agg cs=>
  simp only[V1.av] at h;cases h with
  |agg hl ho hr=>exact .agg (by simpa using hl) ho (cells cs _ (by simpa using hl) hr)
 |fn f cs=>
  simp only[V1.av] at h;cases h with
  |fn f hl hr=>exact .fn f (by simpa using hl) (cells cs _ (by simpa using hl) hr)
theorem AX{w:World}{bt:Bt}{bs ls:List Nat}{v:V}{u:Value}(h:VR w bt v.av u):VR w (bt.ren bs ls) (yQ bs ls v).av u:=by
 cases v with
 |v x=>exact yS h
 |tup l=>exact .dead _
theorem qt(S:TS)(f:V->V): ∀ (keep:List Nat) (t:Nat),fh (keep.map λt=>(t,f (fh S.env t))) t=V.dead\/fh (keep.map λt=>(t,f (fh S.env t))) t=f (fh S.env t)
 | [],t=> .inl rfl
 |u::l,t=>by
  simp only[aO,fh];cases hb:Nat.beq u t with
  |true=>simp_all
  |false=>exact qt S f l t
theorem kN(S:TS)(keep bs ls:List Nat)(r:Nat):eA (fk S keep bs ls).gh r=(ls[r]?).bind λq=>eA S.gh q:=by show (gT (ls.map λr=>eA S.gh r) r).getD none=_;rw[eE,aw];cases ls[r]?<;>rfl
theorem t9[dL]{S:TS}{keep bs ls:List Nat}(h:qZ S bs ls=true):hO S.st (fk S keep bs ls).st:=by
 unfold qZ at h;simp only[ao] at h;obtain⟨⟨⟨⟨hnb,hnl⟩,hbs⟩,hfz⟩,hlt⟩:=h;have hfz:=rd hfz;intro w0 W btI SI bt a w hl;have inv:=hl.inv
 have hls: ∀ (k:Nat),k<S.fz->ls[k]? =some k:=by
  intro k hk;have : (ls.take S.fz)[k]? =(List.range S.fz)[k]? :=by rw[hfz]
  rw[bz,if_pos hk,List.getElem?_range hk] at this;exact this
 have look: ∀p s rs,(fk S keep bs ls).st.look p= .sl s rs-> ∃q,ls[p.r]? =some q/\S.st.look ⟨q,p.l⟩= .sl s rs/\ls.getD p.r 0=q:=by
  intro p s rs hp;unfold St.look at hp
  have e: (fk S keep bs ls).st.gh p.r=((ls[p.r]?).bind λq=>eA S.gh q).map dS.tree:=by show (eA _ _).map dS.tree=_;rw[kN]
  rw[e] at hp;cases hq:ls[p.r]? with
  |none=>rw[hq] at hp;cases hp
  |some q=>refine⟨q,rfl,?_,by simp[aB,hq]⟩;rw[hq] at hp;exact hp
 have box: ∀n cells,(fk S keep bs ls).st.bx n=some cells-> ∃b cs,bs[n]? =some b/\S.bx[b]? =some cs/\cells=(cs.map (lK bs ls)).map Cl.av/\bs.getD n 0=b:=by intro n cells hn;have hn': (gT (bs.map λb=>((gT S.bx b).getD []).map (lK bs ls)) n).map (λcs=>cs.map Cl.av)=some cells:=hn;rw[eE,aw] at hn';simp only[aj] at hn';obtain⟨x,⟨b,hb,rfl⟩,rfl⟩:=hn';have hlt':b<S.bx.length:=ax (aA.1 hbs b (ay hb));refine⟨b,S.bx[b],hb,an hlt',?_,by simp[aB,hb]⟩;rw[eE,an hlt'];rfl
 have bxS: ∀ {b:Nat} {cs:List Cl},S.bx[b]? =some cs->S.st.bx b=some (cs.map Cl.av):=by intro b cs hb;show (gT S.bx b).map _=_;rw[eE,hb];rfl
 refine⟨bt.ren bs ls,?_⟩
 refine⟨{ good:=inv.good,os:=inv.os,tape:=inv.tape,output:=inv.output,size:=inv.size,keep:=inv.keep
          nb:=by show bs.length=_;simp[TS.st,fk]
          ng:=by show ls.length=_;simp[TS.st,fk]
          bx:=λn cells hn=> ?_
          gh:=λr t hr=> ?_
          tr:=λp sz rows hp=> ?_
          inj:=λp q s rs s' rs' hp hq hk hk' he=> ?_
          bbinj:=λn m cs cs' hn hm he=> ?_
          bbtr:=λn cs p s rs hn hp hk=> ?_
          alt:=inv.alt
          atr:=λp s rs hp hk=> ?_
          abb:=λn cs hn=> ?_ },⟨hl.er.1,λt=> ?_⟩,hl.defers,hl.fz,?_,λp hp=> ?_,λr hr hn=> ?_⟩
 ·obtain⟨b,cs,h1,h2,rfl,h4⟩:=box n cells hn;obtain⟨g1,g2,arr,e,g3,g4,g5⟩:=inv.bx b _ (bxS h2);refine⟨by grind [TS.st,fk],by show _<=bt.bb (bs.getD n 0);rw[h4];exact g2,arr,e,by show w.heap[bt.bb (bs.getD n 0)]? =_;rw[h4];exact g3,by simpa using g4,λj v hj=> ?_⟩;rw[aw,aw] at hj;simp only[aj] at hj;obtain⟨c1,⟨c0,hc0,rfl⟩,rfl⟩:=hj;obtain⟨c,k1,k2,k3⟩:=g5 j c0.av (by rw[aw,hc0];rfl);exact⟨c,k1,rI k2,k3⟩
 ·grind [fk,kN,TS.st]
 ·obtain⟨q,h1,h2,h3⟩:=look p sz rows hp;obtain⟨g1,g2⟩:=inv.tr _ _ _ h2;have eκ: (bt.ren bs ls).κ p=bt.κ ⟨q,p.l⟩:=by show bt.κ ⟨ls.getD p.r 0,p.l⟩=_;rw[h3]
  have eβ: (bt.ren bs ls).β p=bt.β ⟨q,p.l⟩:=by show bt.β ⟨ls.getD p.r 0,p.l⟩=_;rw[h3]
  rw[eκ,eβ];refine⟨g1,λhk=>⟨(g2 hk).1,?_⟩⟩;obtain⟨_,cs,e,k1,k2,k3,k4⟩:=g2 hk;refine⟨cs,e,by rw[eβ];exact k1,by rw[eβ,eκ];exact k2,k3,λi r hi=> ?_⟩;obtain⟨m1,m2⟩:=k4 i r hi;refine⟨m1,λj x hj=> ?_⟩;obtain⟨c,n1,n2⟩:=m2 j x hj;refine⟨c,by rw[eβ];exact n1,?_⟩;have f1: (bt.ren bs ls).κ (p.sub i j)=bt.κ (dW.sub ⟨q,p.l⟩ i j):=by show bt.κ ⟨ls.getD p.r 0,p.l++ [(i,j)]⟩=bt.κ ⟨q,p.l++ [(i,j)]⟩;rw[h3]
  have f2: (bt.ren bs ls).β (p.sub i j)=bt.β (dW.sub ⟨q,p.l⟩ i j):=by show bt.β ⟨ls.getD p.r 0,p.l++ [(i,j)]⟩=bt.β ⟨q,p.l++ [(i,j)]⟩;rw[h3]
  cases n2 with
  |sc h=>exact .sc h
  |dd u=>exact .dd _
  |sl q1 q2 q3=>exact .sl q1 (by rw[f1];exact q2) (by rw[f2];exact q3)
 ·obtain⟨p',h1,h2,h3⟩:=look p s rs hp;obtain⟨q',g1,g2,g3⟩:=look q s' rs' hq;have:=inv.inj ⟨p',p.l⟩ ⟨q',q.l⟩ _ _ _ _ h2 g2 (by rw[<-h3];exact hk) (by rw[<-g3];exact hk') (by rw[<-h3,<-g3];exact he);simp only[dW.mk.injEq] at this;obtain⟨e1,e2⟩:=this;subst e1;have e3:=lF hnl _ _ _ h1 g1;cases p<;>simp_all
 ·obtain⟨b,c,h1,h2,_,h4⟩:=box n cs hn;obtain⟨b',c',g1,g2,_,g4⟩:=box m cs' hm
  have:=inv.bbinj b b' _ _ (bxS h2) (bxS g2) (by have he':bt.bb (bs.getD n 0)=bt.bb (bs.getD m 0):=he;rw[h4,g4] at he';exact he')
  grind [lF]
 ·obtain⟨b,c,h1,h2,_,h4⟩:=box n cs hn;obtain⟨q,g1,g2,g3⟩:=look p s rs hp;have hk':0<bt.κ ⟨ls.getD p.r 0,p.l⟩:=hk;rw[g3] at hk';show bt.bb (bs.getD n 0)≠(bt.β ⟨ls.getD p.r 0,p.l⟩).1;rw[h4,g3];exact inv.bbtr _ _ _ _ _ (bxS h2) g2 hk'
 ·obtain⟨q,g1,g2,g3⟩:=look p s rs hp;have hk':0<bt.κ ⟨ls.getD p.r 0,p.l⟩:=hk;rw[g3] at hk';show ¬bt.A (bt.β ⟨ls.getD p.r 0,p.l⟩).1;rw[g3];exact inv.atr _ _ _ g2 hk'
 ·obtain⟨b,c,h1,h2,_,h4⟩:=box n cs hn;show ¬bt.A (bt.bb (bs.getD n 0));rw[h4];exact inv.abb _ _ (bxS h2)
 ·show VR w _ (fh (fk S keep bs ls).env t).av _;rcases qt S (yQ bs ls) keep t with h1|h1
  ·have :fh (fk S keep bs ls).env t=V.dead:=h1;rw[this];exact .dead _
  ·have :fh (fk S keep bs ls).env t=yQ bs ls (fh S.env t):=h1;rw[this];exact AX (hl.er.2 t)
 ·show S.fz<=(fk S keep bs ls).gh.length
  grind [fk]
 ·have hp':p.r<S.fz:=by have:=hl.fz;have e:S.st.fz=S.fz:=rfl;omega
  have h3:ls.getD p.r 0=p.r:=by simp[aB,hls p.r hp']
  have:=hl.keep p hp;show bt.β ⟨ls.getD p.r 0,p.l⟩=_/\bt.κ ⟨ls.getD p.r 0,p.l⟩=_;rw[h3];exact this
 ·have hr':r<S.fz:=by have:=hl.fz;have e:S.st.fz=S.fz:=rfl;omega
  refine hl.gone r hr ?_;have hn': (eA (fk S keep bs ls).gh r).map dS.tree=none:=hn;rw[kN,hls r hr'] at hn';exact hn'
theorem od{S:TS}{bs ls:List Nat}{keep:List Nat}{c:Cl}(h:c.ok S.gh): (lK bs ls c).ok (fk S keep bs ls).gh:=by
 have lt: ∀ {x k:Nat},nW ls x 0=some k->k< (fk S keep bs ls).gh.length/\ls[k]? =some x:=by intro x k hk;obtain⟨_,h2⟩:=mY hk;rw[Nat.sub_zero] at h2;exact⟨by grind [fk],h2⟩
 cases c with
 |own p sz lo len w=>
  simp only[lK];split
  ·rename_i k hk;obtain⟨h1,h2⟩:=lt hk;refine⟨h1,λhw=> ?_⟩;obtain⟨a,b,c⟩:=h.2 hw
   grind [kN]
  ·trivial
 |ptrT p sz i j=>
  simp only[lK];split
  ·rename_i k hk;exact (lt hk).1
  ·trivial
 |ptrB n j=>simp only[lK];split<;>trivial
 | _=>trivial
theorem AY{S:TS}{bs ls:List Nat}{keep:List Nat}{v:V}(h:v.ok S.gh): (yQ bs ls v).ok (fk S keep bs ls).gh:=by
 have one: ∀ {v:V1},v.ok S.gh->(yR bs ls v).ok (fk S keep bs ls).gh:=by
  intro v h;cases v with
  |cl c=>exact od h
  |agg cs=>intro c hc;obtain⟨x,hx,rfl⟩:=aI.1 hc;exact od (h x hx)
  |fn f cs=>intro c hc;obtain⟨x,hx,rfl⟩:=aI.1 hc;exact od (h x hx)
 cases v with
 |v x=>exact one h
 |tup l=>trivial
theorem xi{S:TS}(hS:S.ok)(keep bs ls:List Nat): (fk S keep bs ls).ok:=by
 refine⟨λx hx=> ?_,λcs hcs c hc=> ?_⟩
 ·obtain⟨t,_,rfl⟩:=aI.1 hx;exact AY (n7 hS t)
 ·obtain⟨b,_,rfl⟩:=aI.1 hcs;obtain⟨x,hx,rfl⟩:=aI.1 hc;cases hb:gT S.bx b with
  |none=>rw[hb] at hx;cases hx
  |some cs=>rw[hb] at hx;rw[eE] at hb;exact od (hS.bx cs (ay hb) x hx)
theorem nZ{G:List (Option dS)}{c:Cl}(h:c.ok G):wR G c=c:=by
 unfold wR;split
 ·rename_i p sz lo len;split
  ·rename_i tr htr;rw[(h.2 rfl).2.2 tr (by unfold eA;rw[htr];rfl)]
  ·rfl
 ·rfl
theorem s8{G:List (Option dS)}{v:V1}(h:v.ok G):x0 G v=v:=by
 cases v with
 |cl c=>exact congrArg V1.cl (nZ h)
 |agg cs=>exact congrArg V1.agg ((aH λc hc=>nZ (h c hc)).trans (List.map_id' cs))
 |fn f cs=>exact congrArg (V1.fn f) ((aH λc hc=>nZ (h c hc)).trans (List.map_id' cs))
theorem Ao{G:List (Option dS)}{v:V}(h:v.ok G):C4 G v=v:=by
 cases v with
 |v x=>exact congrArg V.v (s8 h)
 |tup l=>exact congrArg V.tup ((aH λc hc=>s8 (h c hc)).trans (List.map_id' l))
theorem An{S:TS}(h:S.ok):BU S=S:=by unfold BU;rw[aH (g:=id) (λx hx=>by rw[Ao (h.env x hx)];rfl),aH (g:=id) (l:=S.bx) (λcs hcs=>(aH λc hc=>nZ (h.bx cs hcs c hc)).trans (List.map_id' cs)),List.map_id,List.map_id]
theorem jl[dL]{ρ:Type}{S:TS}(hS:S.ok){keep:List Nat}{κ:TS->Option ρ}{r:ρ}(h:mB keep S κ=some r): ∃S1:TS,hO S.st S1.st/\S1.ok/\κ S1=some r:=by
 unfold mB at h;obtain⟨h1,h⟩:=dK h
 grind [An,xi,t9]
end
end Go.Proofs.YtkghndikalnipaaGreat.En
