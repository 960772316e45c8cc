import Derived.Test.YtkghndikalnipaaGreatZX7
set_option linter.unusedSimpArgs false
set_option linter.unusedVariables false
namespace Go.Proofs.YtkghndikalnipaaGreat.En
section
open Go
section
variable {ρ:Type} {P:Program} {Θ:n8} {S:TS} {Y:zh}
theorem JZ(hS:S.ok){ops:Array Oper}{o:Oper}{κ:Bool->TS->Option ρ}{r:ρ}(h:Ng S ops.toList o κ=some r): ∃b S1,oM S.st ops o=some b/\S1.st=S.st/\S1.ok/\S1.gh=S.gh/\κ b S1=some r:=by
 unfold Ng at h;split at h
 ·rename_i hg;exact⟨true,S,by unfold oM;rw[hg],rfl,hS,rfl,h⟩
 ·rename_i j want hg;split at h
  ·rename_i oj hj;split at h
   ·rename_i d hd;rw[gy,bX] at hj;split at h
    ·rename_i he;refine⟨_,S,?_,rfl,hS,rfl,h⟩;unfold oM;rw[hg];simp only[hj,ae,hd];have :S.st.env d= .tup [] :=by show (jE S.env d).av=_;rw[he];rfl
     rw[this]
    ·obtain⟨b,S1,h1,h2,h3,h4,h5⟩:=DT hS h;refine⟨_,S1,?_,h2,h3,h4,h5⟩;unfold oM;rw[hg];simp only[hj,ae,hd];have :S.st.env d= .sc (.bool b):=h1;rw[this]
   ·cases h
  ·cases h
theorem kL(hS:S.ok){d:Option Tmp}{v:V}(hv:v.ok S.gh){κ:TS->Option ρ}{r:ρ}(h:rZ S d v κ=some r): ∃S1,S.st.put d v.av=some (TS.st S1)/\S1.ok/\S1.gh=S.gh/\κ S1=some r:=by
 unfold rZ at h;split at h
 ·rename_i t;obtain⟨h1,h⟩:=eB h;have h1:t<S.nt:=ar h1;refine⟨{ S with env:=(t,v)::S.env },?_,⟨λx hx=> ?_,hS.bx⟩,rfl,h⟩
  ·simp only[St.put];rw[if_pos (show t<S.st.nt from h1)]
   congr 1
   unfold TS.st
   congr 1
   funext u
   unfold fD;simp only[jE];cases hb:Nat.beq t u with
   |true=>simp_all
   |false=>
    have : ¬u=t:=by intro e;subst e;rw[de] at hb;cases hb
    rw[if_neg this];rfl
  ·rcases aV.1 hx with rfl|hx
   ·exact hv
   ·exact hS.env x hx
 ·exact⟨S,rfl,hS,rfl,h⟩
theorem QO{α:Type}{x y:Option α}{r:α}(h:Tf x y none=some r):x=some r/\y=some r:=by grind [Tf]
theorem QP{α:Type}(x z:α):Tf x x z=x:=by unfold Tf;rw[if_pos rfl]
theorem HF{o:Oper}{t:TypeId}{x:Operand}(h:C7 o=some (t,x)): (∃t',o.op= .binOp .eql t x (.const (.slice none 0 0)) t')/\o.guard=none:=by
 unfold C7 at h
 grind
theorem D8{o:Oper}{k:Nat}{g:FuncId}{caps:List Cl}{a:Hx}{us:List TypeId}{xs:List Operand}(h:DN Y S o=some (k,g,caps,a,us,xs)):
  ∃f as ts x t,o.op= .call { callee:=.value f,args:=as,argTypes:=ts } /\as.toList=x::xs/\ts.toList=t::us/\A9 (S.opd x)=some a/\g<jF/\
   ((∃a b,S.opd f= .v (.cl (.c (.sc (.func (.func g) a b))))/\caps= [])\/S.opd f= .v (.fn g caps)):=by
 unfold DN at h;split at h
 ·rename_i f as ts hop;split at h
  ·rename_i x xs' t us' e1 e2;split at h
   ·rename_i a' hx;split at h
    ·rename_i g' a b hf;obtain⟨h2,h⟩:=eB h;simp only[al] at h2;simp only[af,ao] at h;obtain⟨rfl,rfl,rfl,rfl,rfl,rfl⟩:=h;exact⟨f,as,ts,x,t,hop,e1,e2,hx,ar h2.1,.inl ⟨a,b,hf,rfl⟩⟩
    ·rename_i g' caps' hf;obtain⟨h2,h⟩:=eB h;simp only[al] at h2;simp only[af,ao] at h;obtain⟨rfl,rfl,rfl,rfl,rfl,rfl⟩:=h;exact⟨f,as,ts,x,t,hop,e1,e2,hx,ar h2.1,.inr hf⟩
    ·cases h
   ·cases h
  ·cases h
 ·cases h
theorem Nx(c:Cl): (CF c).av=A6 1 c.av:=by
 cases c with
 |c x=>cases x<;>rfl
 |own p sz lo len w=>
  cases h:Nat.ble 1 p.r with
  |true=>simp only[CF,h,cond_true,Cl.av,A6];rw[if_pos (ar h)]
  |false=>simp only[CF,h,cond_false,Cl.av,A6];rw[if_neg λe=>by rw[dt e] at h;cases h]
 |ptrT p sz i j=>
  cases h:Nat.ble 1 p.r with
  |true=>simp only[CF,h,cond_true,Cl.av,A6];rw[if_pos (ar h)]
  |false=>simp only[CF,h,cond_false,Cl.av,A6];rw[if_neg λe=>by rw[dt e] at h;cases h]
 | _=>rfl
theorem TB(c:Cl):Jy 1 c.av=A6 1 c.av:=by
 cases c with
 |c x=>cases x<;>rfl
 | _=>rfl
theorem J0(v:V1): (JI v).av=Jy 1 v.av:=by
 cases v with
 |cl c=>exact (Nx c).trans (TB c).symm
 |agg cs=>simp_all [JI,V1.av,Jy,Nx]
 |fn f cs=>rfl
theorem TC(v:V): (Qn v).av=Qc 1 v.av:=by
 cases v with
 |v x=>
  refine (J0 x).trans ?_;cases x with
  |cl c=>cases c with
   |c x=>cases x<;>rfl
   | _=>rfl
  | _=>rfl
 |tup l=>simp_all [Qn,V.av,Qc,J0]
theorem Ny{x:eU}{G:List eU}{c:Cl}(h:c.ok ((x::G).map some)): (CF c).ok (G.map some):=by
 cases c with
 |own p sz lo len w=>
  cases hb:Nat.ble 1 p.r with
  |true=>
   have h1:=ar hb;simp only[CF,hb,cond_true];obtain⟨h2,h3⟩:=h;refine⟨by simp at h2 ⊢;omega,λhw=> ?_⟩
   grind [f9,gy]
  |false=>simp only[CF,hb,cond_false];trivial
 |ptrT p sz i j=>
  cases hb:Nat.ble 1 p.r with
  |true=>have h1:=ar hb;simp only[CF,hb,cond_true];have h:p.r< ((x::G).map some).length:=h;show p.r-1< (G.map some).length;simp at h ⊢;omega
  |false=>simp only[CF,hb,cond_false];trivial
 |c x=>cases x<;>trivial
 | _=>trivial
theorem J1{x:eU}{G:List eU}{v:V1}(h:v.ok ((x::G).map some)): (JI v).ok (G.map some):=by
 cases v with
 |cl c=>exact Ny h
 |agg cs=>intro c hc;obtain⟨y,hy,rfl⟩:=aN.1 hc;exact Ny (h y hy)
 |fn f cs=>trivial
theorem TD{x:eU}{G:List eU}{v:V}(h:v.ok ((x::G).map some)): (Qn v).ok (G.map some):=by
 cases v with
 |v x=>exact J1 h
 |tup l=>intro c hc;obtain⟨y,hy,rfl⟩:=aN.1 hc;exact J1 (h y hy)
theorem GD(hΘ:gz P Θ)(hS:S.ok): ∀ (ts:List TypeId) (as:List Operand) (κ:List V1->Option ρ) (r:ρ),ym Θ S ts as κ=some r->ts.length=as.length
 | [],[],_,_,_=>rfl
 | [],_::_,_,_,h=>by simp[ym] at h
 | _::_,[],_,_,h=>by simp[ym] at h
 |t::ts,a::as,κ,r,h=>by unfold ym at h;obtain⟨v,_,h⟩:=QC hΘ hS (n9 hS a) h;rw[bo,bo,GD hΘ hS ts as _ r h]
structure sg (S S1:TS) (L:List Nat):Prop where
 env:S1.env=S.env
 bx:S1.bx=S.bx
 fz:S1.fz=S.fz
 nt:S1.nt=S.nt
 len:S1.gh.length=S.gh.length
 gh: ∀r,f9 S1.gh r=if L.contains r then none else f9 S.gh r
 was: ∀q∈L,∃tr,f9 S.gh q=some tr
theorem sg.refl(S:TS):sg S S [] :=⟨rfl,rfl,rfl,rfl,rfl,λ_=>by simp,λ_ h=>by cases h⟩
theorem sg.one{q:Nat}{tr:eU}(h:f9 S.gh q=some tr):sg S { S with gh:=fR S.gh q none } [q] :=
 ⟨rfl,rfl,rfl,rfl,by simp[ir],λr=>by
  show f9 (fR S.gh q none) r=_
  simp_all [qA],λr hr=>by grind⟩
theorem sg.trans{S1 S2:TS}{L L':List Nat}(h:sg S S1 L)(k:sg S1 S2 L'):sg S S2 (L++L'):=
 ⟨k.env.trans h.env,k.bx.trans h.bx,k.fz.trans h.fz,k.nt.trans h.nt,k.len.trans h.len,λr=>by
  rw[k.gh,h.gh]
  grind,λq hq=>by
  rcases aW.1 hq with hq|hq
  ·exact h.was q hq
  ·obtain⟨tr,ht⟩:=k.was q hq;rw[h.gh] at ht
   grind⟩
theorem sg.apart{S1 S2:TS}{L L':List Nat}(h:sg S S1 L)(k:sg S1 S2 L')(h1:L.Nodup)(h2:L'.Nodup): (L++L').Nodup:=by rw[List.nodup_append];refine⟨h1,h2,λa ha b hb e=> ?_⟩;subst e;obtain⟨tr,ht⟩:=k.was a hb;rw[h.gh,if_pos (by simpa using ha)] at ht;cases ht
theorem sg.le{S1:TS}{L:List Nat}(h:sg S S1 L):ji S.gh S1.gh:=⟨by rw[h.len];exact au _,λr tr _ ht=>by
 rw[h.gh] at ht
 grind⟩
theorem sg.ok{S1:TS}{L:List Nat}(h:sg S S1 L)(hS:S.ok):S1.ok:=
 ⟨λx hx=>V.ok_mono h.le (hS.env x (by rw[<-h.env];exact hx)),λcs hcs c hc=>Cl.ok_mono h.le (hS.bx cs (by rw[<-h.bx];exact hcs) c hc)⟩
theorem sg.st{S1:TS}{L:List Nat}(h:sg S S1 L):S1.st=dropL S.st L:=by
 unfold TS.st dropL;rw[h.env,h.bx,h.fz,h.nt,h.len];simp only
 congr 1
 funext r
 rw[h.gh];cases L.contains r<;>rfl
theorem GF: ∀ (L:List Nat) (S:TS),L.Nodup->(∀r∈L,∃tr,f9 S.gh r=some tr)->sg S { S with gh:=U3 S.gh L } L
 | [],S,_,_=>sg.refl S
 |r::L,S,hnd,h=>by
  obtain⟨tr,htr⟩:=h r aF;rw[List.nodup_cons] at hnd;have h1:=sg.one htr
  have h2:=GF L { S with gh:=fR S.gh r none } hnd.2 (λr' hr'=>by
   obtain⟨tr',htr'⟩:=h r' (aO _ hr');refine⟨tr',?_⟩;rw[h1.gh,if_neg]
   ·exact htr'
   ·intro hc;rw[bT,aD] at hc;subst hc;exact hnd.1 hr')
  exact h1.trans h2
theorem zm: ∀ (cs:List Cl) (ys:List C) (L:List Nat),xG S cs=some (ys,L)->(∀c∈cs,c.ok S.gh)->ys.length=cs.length/\(rt ys).length=L.length/\
  (∀ (k r:Nat),L[k]? =some r-> ∃el l,(rt ys)[k]? =some ⟨el,l,none⟩/\f9 S.gh r=some ⟨el,l,none⟩)/\
  ∀ (w:World) (bt bt':Bt) (m:Nat),(∀ (k r:Nat),L[k]? =some r->bt'.β ⟨m+k,[]⟩=bt.β ⟨r,[]⟩/\bt'.κ ⟨m+k,[]⟩=bt.κ ⟨r,[]⟩/\m+k<bt'.ng)->
    ∀ (j:Nat) (c c':Cl) (u:Value),cs[j]? =some c->(zj ys m)[j]? =some c'->VR w bt c.av u->VR w bt' c'.av u
 | [],ys,L,h,_=>by simp only[xG,af,ao] at h;obtain⟨rfl,rfl⟩:=h;exact⟨rfl,rfl,λk r hk=>by simp at hk,λw bt bt' m _ j c c' u hj=>by simp at hj⟩
 |c0::cs,ys,L,h,hok=>by
  unfold xG at h;split at h
  ·cases ‹_= []›
  ·rename_i v cs' e;simp only[bR] at e;obtain⟨rfl,rfl⟩:=e;split at h
   ·rename_i ys' L' hr;simp only[af,ao] at h;obtain⟨rfl,rfl⟩:=h;obtain⟨h1,h2,h3,h4⟩:=zm cs ys' L' hr (λc hc=>hok c (aO _ hc));refine⟨by simp[h1],h2,h3,λw bt bt' m hm j c c' u hj hj' hv=> ?_⟩;cases j with
    |zero=>
     simp only[zj,aQ,af] at hj hj';subst hj hj';cases hv with
     |sc h=>exact .sc h
    |succ j=>exact h4 w bt bt' m hm j c c' u (by simpa using hj) (by simpa [zj] using hj') hv
   ·cases h
  ·rename_i r sz lo len cs' e;simp only[bR] at e;obtain⟨rfl,rfl⟩:=e;split at h
   ·rename_i el l hg;obtain⟨hsz,h0⟩:=eB h;have hsz:sz=el.width:=an hsz;clear h;split at h0
    ·rename_i ys' L' hr;simp only[af,ao] at h0;obtain⟨rfl,rfl⟩:=h0;obtain⟨h1,h2,h3,h4⟩:=zm cs ys' L' hr (λc hc=>hok c (aO _ hc));obtain⟨_,hlo⟩:=hok (.own ⟨r,[]⟩ sz lo len true) aF;obtain⟨_,hlo,hln⟩:=hlo rfl;have hln:=hln _ hg;simp only at hln;refine⟨by simp[h1],by simp[rt,h2],λk r' hk=> ?_,λw bt bt' m hm j c c' u hj hj' hv=> ?_⟩
     ·cases k with
      |zero=>simp only[aQ,af] at hk;subst hk;exact⟨el,l,rfl,hg⟩
      |succ k=>exact h3 k r' (by simpa using hk)
     ·cases j with
      |zero=>
       simp only[zj,aQ,af] at hj hj';subst hj hj' hsz hlo hln;obtain⟨e1,e2,e3⟩:=hm 0 r rfl;rw[b7] at e1 e2 e3;cases hv with
       |own hp hc hk ha=>exact .own e3 hc (by rw[e2];exact hk) (by rw[e1];exact ha)
      |succ j=>exact h4 w bt bt' (m+1) (λk r' hk=>by
        have:=hm (k+1) r' (by simpa using hk)
        rwa [show m+(k+1)=m+1+k by omega] at this) j c c' u (by simpa using hj) (by simpa [zj] using hj') hv
    ·cases h0
   ·cases h
  ·cases h
theorem tB: ∀ (ys:List C) (m:Nat),(zj ys m).length=ys.length
 | [],_=>rfl
 | .sc v::r,m=>by simp[zj,tB r m]
 | .ls t l::r,m=>by simp[zj,tB r (m+1)]
theorem J2: ∀ (L:List Nat) (S:TS) (out:List eU) (κ:TS->Option ρ) (r:ρ),L.Nodup->DP S L out κ=some r->
  ∃Sp:TS,Sp.env=S.env/\Sp.bx=S.bx/\Sp.fz=S.fz/\Sp.nt=S.nt/\Sp.gh.length=S.gh.length/\out.length=L.length/\(∀ (k q:Nat),L[k]? =some q->f9 Sp.gh q=out[k]?)/\(∀q,q∉L->f9 Sp.gh q=f9 S.gh q)/\ji S.gh Sp.gh/\κ Sp=some r
 | [],S,out,κ,r,_,h=>by
   cases out with
   |nil=>exact⟨S,rfl,rfl,rfl,rfl,rfl,rfl,λk q hk=>by simp at hk,λ_ _=>rfl,ji.refl _,h⟩
   |cons x out=>simp[DP] at h
 |q::L,S,out,κ,r,hnd,h=>by
  rw[List.nodup_cons] at hnd;cases out with
  |nil=>simp[DP] at h
  |cons x out=>
   obtain⟨t,l',hole⟩:=x;cases hole with
   |some y=>simp[DP] at h
   |none=>
    simp only[DP] at h;split at h
    ·rename_i el l hg;obtain⟨ht,h⟩:=eB h;have ht:t=el:=by simpa using ht
     subst ht;obtain⟨hl,h⟩:=fy h;obtain⟨Sp,a1,a2,a3,a4,a5,a6,a7,a8,a9,h⟩:=J2 L { S with gh:=fR S.gh q (some ⟨t,l',none⟩) } out κ r hnd.2 h;have hql:=vq hg;have hG:ji S.gh (fR S.gh q (some ⟨t,l',none⟩)):=ji.put hg hl;refine⟨Sp,a1,a2,a3,a4,by rw[a5];simp[ir],by simp[a6],λk q' hk=> ?_,λq' hq'=> ?_,hG.trans a9,h⟩
     ·cases k with
      |zero=>
       simp only[aQ,af] at hk;subst hk;rw[a8 q hnd.1];show f9 (fR S.gh q _) q=_
       simp_all [qA]
      |succ k=>grind
     ·rw[a8 q' (λhm=>hq' (aO _ hm))];show f9 (fR S.gh q _) q'=_
      simp_all [qA]
    ·cases h
theorem D9{res:V}(h:Tg res=true):res.av.plain=true/\ ∀G,res.ok G:=by
 unfold Tg at h;split at h
 ·exact⟨rfl,λ_=>trivial⟩
 ·exact⟨rfl,λ_ x hx=>by cases hx⟩
 ·cases h
theorem J3[eg](hΘ:gz P Θ)(hY:lM P Y)(hS:S.ok){o:Oper}{k:Nat}{g:FuncId}{caps:List Cl}{a:Hx}{us:List TypeId}{xs:List Operand}(ht:DN Y S o=some (k,g,caps,a,us,xs)){κ:TS->Option ρ}{r:ρ}
  (h:DQ Θ Y S k g caps a us xs o.dst κ=some r): ∃S3:TS,(∀n0,lK P n0 S.st o S3.st)/\S3.ok/\κ S3=some r:=by
 obtain⟨f,as,ts,x,t0,hop,has,hts,hx,hgk,hf⟩:=D8 ht
 have hcal:callee S.st f=some (g,caps.map Cl.av):=by unfold callee;rw[eH];rcases hf with ⟨_,_,hf,rfl⟩|hf<;>(rw[hf];rfl)
 have others: ∀ {S0:TS} (hS0:S0.ok) (hG:ji S.gh S0.gh) {K:List V1->Option ρ},zZ Θ S0 us xs caps K=some r->
   ∃vs,us.length=xs.length/\vQ P S0.st us xs (caps.map Cl.av)=vs.map V1.av/\K vs=some r:=by
  intro S0 hS0 hG K h;have hlen:=GD hΘ hS0 _ _ _ _ h;obtain⟨vs,h1,h⟩:=wE hΘ hS0 _ _ _ _ h
  have hcaps: ∀c∈caps,c.ok S0.gh:=by
   intro c hc;rcases hf with ⟨_,_,_,rfl⟩|hf
   ·cases hc
   ·have:=n9 hS f;rw[hf] at this;exact Cl.ok_mono hG (this c hc)
  obtain⟨ks,h2,h⟩:=DZ hS0 _ _ _ hcaps h;refine⟨_,hlen,?_,h⟩;unfold vQ;rw[h1,h2,ce,bL];rfl
 have stays: ∀ {q:Nat} {el:Ty} {l:List el.D} {vs:List V1} {av0:AV} {res:V} {out:List eU},f9 S.gh q=some ⟨el,l,none⟩->us.length=xs.length->vQ P ({ S with gh:=fR S.gh q none }:TS).st us xs (caps.map Cl.av)=vs.map V1.av->
   (∀ (w:World) (bt:Bt) (u:Value),VR w bt (opd S.st x) u->VR w (handG bt S.st w [⟨q,[]⟩]) av0 u)->jk P g (av0::vs.map V1.av) [.sl el.width (l.map el.row)] 1 res.av (out.map eU.tree)->res.ok (out.map some)->Nh S q el l res out o.dst κ=some r-> ∃S3:TS,(∀n0,lK P n0 S.st o S3.st)/\S3.ok/\κ S3=some r:=by
  intro q el l vs av0 res out hq hlen hargs hx hSK hro h;unfold Nh at h;split at h
  ·rename_i t' l' more;obtain⟨hc,h⟩:=eB h;have hc:=of_decide_eq_true hc;subst hc;obtain⟨hll,h⟩:=fy h;have hd:=sg.one hq;have hG:ji S.gh (fR S.gh q (some ⟨t',l',none⟩)):=ji.put hq hll;have hl0: (fR S.gh q (some ⟨t',l',none⟩)).length=S.gh.length:=by rw[ir];simp
   have hrk: (rY S.gh.length (Qn res)).ok (fR S.gh q (some ⟨t',l',none⟩)++more.map some):=by
    have:=xK (G:=fR S.gh q (some ⟨t',l',none⟩)) (TD hro)
    rwa [hl0] at this
   obtain⟨S3,k1,k2,_,h⟩:=kL (S:={ S with gh:=fR S.gh q (some ⟨t',l',none⟩)++more.map some }) (TS.ok_gh hS (hG.trans (ji.apps _ _))) hrk h;rw[show ({ S with gh:=fR S.gh q (some ⟨t',l',none⟩)++more.map some }:TS).st=_ from vr { S with gh:=fR S.gh q (some ⟨t',l',none⟩) } res.av more,xJ,TC] at k1
   have htr:S.st.gh q=some (.sl t'.width (l.map t'.row)):=by show (f9 S.gh q).map eU.tree=_;rw[hq];rfl
   have hql:=vq hq
   have hGave:CD S.st ([q].map λr=>⟨r,[]⟩) [.sl t'.width (l.map t'.row)] :=zd rfl (by simp) (λk r hk=>by grind)
   refine⟨S3,λn0=>lK.handG hop has hlen hcal (vn [q]) (λw0 W bt w hI=>hI.dropL [q]) hGave hx (m:=1) (res:=res.av) (out:=eU.tree ⟨t',l',none⟩::more.map eU.tree) (by rw[<-hd.st,hargs];exact hSK)
    (DG (Sp:=({ S with gh:=fR S.gh q (some ⟨t',l',none⟩) }:TS).st) hGave (by simp) rfl rfl rfl hl0 rfl rfl (λk r hk=> ?_) (λr hr=> ?_)) k1,k2,h⟩
   ·cases k with
    |zero=>simp_all [zk,fD]
    |succ k=>simp at hk
   simp_all [zk,fD]
  ·cases h
 have hxo:=n9 hS x;cases a with
 |own q sz=>
  obtain⟨lo,len,hxv⟩: ∃lo len,S.opd x= .v (.cl (.own ⟨q,[]⟩ sz lo len true)):=by
   unfold A9 at hx
   grind
  rw[hxv] at hxo;unfold DQ at h;simp only at h;split at h
  ·rename_i el l hq;obtain⟨hsz,h0⟩:=eB h;have hsz:sz=el.width:=an hsz;clear h;subst hsz;have hd:=sg.one hq;obtain⟨vs,hlen,hargs,h⟩:=others (hd.ok hS) hd.le h0;obtain⟨_,hlo,hln⟩:=hxo.2 rfl;have hln:=hln _ hq;subst hlo hln
   have hav: ∀ (w:World) (bt:Bt) (u:Value),VR w bt (opd S.st x) u->VR w (handG bt S.st w [⟨q,[]⟩]) (.own ⟨0,[]⟩ el.width 0 l.length) u:=λw bt u hv=>by
    rw[eH,hxv] at hv;have hv:VR w bt (.own ⟨q,[]⟩ el.width 0 l.length) u:=hv;cases hv with
    |own hp hc hk ha=>exact .own cR hc hk ha
   cases hk:Nat.beq k 1 with
   |true=>rw[hk] at h;simp only[cond_true] at h;obtain⟨res,out,g1,g2,h⟩:=hY _ _ _ _ _ h;exact stays hq hlen hargs hav (g1.io g rfl hgk).get g2 h
   |false=>
    rw[hk] at h;simp only[cond_false] at h;obtain⟨hfz0,h⟩:=eB h;have hfz:S.st.fz<=q:=ar hfz0;obtain⟨res,out,g1,g2,h⟩:=hY _ _ _ _ _ h;have g1:=(g1.mv g rfl hgk).get;have hl0: (fR S.gh q none).length=S.gh.length:=by rw[ir];simp
    have hro: (rY S.gh.length res).ok (fR S.gh q none++out.map some):=by
     have:=xK (G:=fR S.gh q none) g2
     rwa [hl0] at this
    obtain⟨S3,k1,k2,_,h⟩:=kL (S:={ S with gh:=fR S.gh q none++out.map some }) (TS.ok_gh (hd.ok hS) (ji.apps _ _)) hro h;rw[show ({ S with gh:=fR S.gh q none++out.map some }:TS).st=_ from vr { S with gh:=fR S.gh q none } res.av out,hd.st,xJ,<-LL] at k1
    have htr:S.st.gh q=some (.sl el.width (l.map el.row)):=by show (f9 S.gh q).map eU.tree=_;rw[hq];rfl
    exact⟨S3,λn0=>lK.handG hop has hlen hcal (vn [q]) (λw0 W bt w hI=>hI.dropL [q]) (zd (ts:=[.sl el.width (l.map el.row)]) rfl (by simp) (λk r hk=>by grind)) hav (m:=0) (by rw[<-hd.st,hargs];exact g1) (OO λr hr=>by rw[aD.1 hr];exact hfz) k1,k2,h⟩
  ·cases h
 |pt q sz=>
  have hxv:S.opd x= .v (.cl (.ptrT ⟨q,[]⟩ sz 0 0)):=by
   unfold A9 at hx;split at hx<;>simp only[af,Hx.pt.injEq,reduceCtorEq] at hx;obtain⟨rfl,rfl⟩:=hx
   assumption
  unfold DQ at h;simp only at h;split at h
  ·rename_i el l hq;obtain⟨hsz,h0⟩:=eB h;have hsz:sz=el.width:=an hsz;clear h;subst hsz;have hd:=sg.one hq;obtain⟨vs,hlen,hargs,h⟩:=others (hd.ok hS) hd.le h0;obtain⟨res,out,g1,g2,h⟩:=hY _ _ _ _ _ h;refine stays hq hlen hargs (λw bt u hv=> ?_) (g1.pt g rfl hgk).get g2 h;rw[eH,hxv] at hv;have hv:VR w bt (.ptrT ⟨q,[]⟩ el.width 0 0) u:=hv;cases hv with
   |ptrT _ _ _ hp hk=>exact .ptrT (p:=⟨0,[]⟩) _ 0 0 cR hk
  ·cases h
 |agg cs=>
  have hxv:S.opd x= .v (.agg cs):=by
   unfold A9 at hx;split at hx<;>simp only[af,Hx.agg.injEq,reduceCtorEq] at hx;subst hx
   assumption
  rw[hxv] at hxo;unfold DQ at h;simp only at h;split at h
  ·rename_i ys L hga;obtain⟨hnd,h0⟩:=eB h;clear h;have hnd:L.Nodup:=C5.1 hnd;obtain⟨g1,g2,g3,g4⟩:=zm cs ys L hga hxo
   have hd:=GF L S hnd (λq hq=>by obtain⟨k,hk,hkq⟩:=aL hq;obtain⟨el,l,_,e⟩:=g3 k q (by grind);exact⟨_,e⟩)
   obtain⟨vs,hlen,hargs,h⟩:=others (hd.ok hS) hd.le h0;obtain⟨res,out,k1,k2,h⟩:=hY _ _ _ _ _ h;have k1:=(k1.io g rfl hgk).getA;obtain⟨hns,h⟩:=eB h;obtain⟨hpl,hrok⟩:=D9 hns;obtain⟨Sp,a1,a2,a3,a4,a5,a6,a7,a8,a9,h⟩:=J2 L S out _ r hnd h;have hSp:Sp.ok:=⟨λx hx=>V.ok_mono a9 (hS.env x (by rw[<-a1];exact hx)),λcs hcs c hc=>Cl.ok_mono a9 (hS.bx cs (by rw[<-a2];exact hcs) c hc)⟩
   obtain⟨S3,m1,m2,_,h⟩:=kL hSp (hrok _) h
   have hGave:CD S.st (L.map λr=>⟨r,[]⟩) ((rt ys).map eU.tree):=zd (by simp[g2]) hnd (λk q hk=>by obtain⟨el,l,e1,e2⟩:=g3 k q hk;refine⟨el.width,l.map el.row,by rw[aq,e1];rfl,?_⟩;show (f9 S.gh q).map eU.tree=_;rw[e2];rfl)
   have hps: (L.map λr=>(⟨r,[]⟩:fo)).length=(rt ys).length:=by rw[aJ,g2]
   have hout: (out.map eU.tree).length=L.length:=by rw[aJ,a6]
   refine⟨S3,λn0=>lK.handG hop has hlen hcal (vn L) (λw0 W bt w hI=>hI.dropL L) hGave (av0:=.agg ((zj ys 0).map Cl.av)) (λw bt u hv=> ?_) (res:=res.av) (out:=out.map eU.tree) (m:=L.length) (by rw[<-hd.st,hargs,<-g2];exact k1)
    (DG (Sp:=Sp.st) hGave (cP hout.symm) (by unfold TS.st;simp only[a1]) (by unfold TS.st;simp only[a2]) (by unfold TS.st;simp only[a2]) (by unfold TS.st;simp only[a5]) a3 a4 (λk q hk=>by
      show (f9 Sp.gh q).map eU.tree=_;rw[a7 k q hk,aq]) (λq hq=>by
      show (f9 Sp.gh q).map eU.tree=(f9 S.gh q).map eU.tree;rw[a8 q hq])) (by grind [Gu,Nb]),m2,h⟩
   rw[eH,hxv] at hv;have hv:VR w bt (.agg (cs.map Cl.av)) u:=hv;cases hv with
   |agg hl ho hr=>
    rename_i us0;refine .agg (by grind [tB]) ho (λk c u hk hu=> ?_);rw[aq] at hk;simp only[ak] at hk;obtain⟨c',hc',rfl⟩:=hk
    have hkl:k<cs.length:=by have:=(aj.1 hc').1;rw[tB,g1] at this;exact this
    refine g4 w bt _ 0 (λi q hi=> ?_) k cs[k] c' u (ah hkl) hc' (hr k _ u (by grind) hu)
    have hpi: (L.map λr=>(⟨r,[]⟩:fo))[(⟨0+i,[]⟩:fo).r]? =some ⟨q,[]⟩:=by rw[aq];show (L[0+i]?).map _=_;rw[aK,hi];rfl
    have hpl2:=zb hpi;refine⟨?_,?_,?_⟩
    ·show bt.β (Gt _ _)=_;rw[hpl2];rfl
    ·show bt.κ (Gt _ _)=_;rw[hpl2];rfl
    ·show 0+i< (L.map λr=>(⟨r,[]⟩:fo)).length
     grind
  ·cases h
 |nest q i j sz lo len=>
  obtain⟨w0,hxv⟩: ∃w,S.opd x= .v (.cl (.own ⟨q,[(i,j)]⟩ sz lo len w)):=by
   unfold A9 at hx
   grind
  rw[hxv] at hxo;unfold DQ at h;simp only at h;split at h
  ·rename_i t l hq;obtain⟨y,hy,h⟩:=ai.1 h;split at h
   ·rename_i el v hv;obtain⟨hsz,h0⟩:=eB h;have hsz:sz=el.width:=an hsz;clear h;subst hsz;obtain⟨hll,h1⟩:=fy h0;clear h0;obtain⟨rfl,rfl⟩:=hll;have hql:=vq hq;have hhole:ji S.gh (fR S.gh q (some ⟨t,l,some (i,j)⟩)):=ji.put hq rfl;obtain⟨vs,hlen,hargs,h⟩:=others (S0:={ S with gh:=fR S.gh q (some ⟨t,l,some (i,j)⟩) }) (TS.ok_gh hS hhole) hhole h1;clear h1;obtain⟨res,out,k1,k2,h⟩:=hY _ _ _ _ _ h;have k1:=(k1.io g rfl hgk).get;split at h
    ·rename_i t' v' _;obtain⟨hc,h⟩:=eB h;simp only[al,decide_eq_true_eq] at hc;obtain⟨rfl,hns⟩:=hc;obtain⟨hpl,hrok⟩:=D9 hns;obtain⟨hvl,h⟩:=fy h;split at h
     ·rename_i z hz;have hG:ji S.gh (fR S.gh q (some ⟨t,l.set i z,none⟩)):=ji.put hq (by simp);obtain⟨S3,m1,m2,_,h⟩:=kL (S:={ S with gh:=fR S.gh q (some ⟨t,l.set i z,none⟩) }) (TS.ok_gh hS hG) (hrok _) h
      have hrowy: (l.map t.row)[i]? =some ((t.flat y).map C.tree):=by rw[aq,hy];simp only[aI,t.row_flat]
      have hcell: ((t.flat y).map C.tree)[j]? =some (.sl t'.width (v.map t'.row)):=by rw[gy] at hv;rw[aq,hv];rfl
      have hgq:S.st.gh q=some (.sl t.width (l.map t.row)):=by show (f9 S.gh q).map eU.tree=_;rw[hq];rfl
      have hlook:S.st.look ⟨q,[(i,j)]⟩= .sl t'.width (v.map t'.row):=by unfold St.look;simp only[hgq,T.go,T.cell,aE,hrowy,bw,hcell]
      have hforget: ∀ (w0:World) (W:Nat->Prop) (bt:Bt) (w:World),gx w0 W bt S.st w->_:=λw0 W bt w hI=>hI.forget hlook
      have hSm: ({ S with gh:=fR S.gh q (some ⟨t,l,some (i,j)⟩) }:TS).st=S.st.setAt ⟨q,[(i,j)]⟩ .dd:=by rw[zk S _ hql];unfold St.setAt;simp only[hgq,aI];rfl
      have hSp: ({ S with gh:=fR S.gh q (some ⟨t,l.set i z,none⟩) }:TS).st=S.st.setAt ⟨q,[(i,j)]⟩ (.sl t'.width (v'.map t'.row)):=by
       rw[zk S _ hql];unfold St.setAt;simp only[hgq,aI,T.put]
       congr 3
       show T.sl t.width ((l.set i z).map t.row)=_;rw[List.map_set,t.row_flat z,t.unflat_some _ _ hz,ir,List.map_set];simp only[aE,hrowy,bw];rfl
      rw[hSp] at m1;refine⟨S3,λn0=>lK.handG hop has hlen hcal (Sm:=S.st.setAt ⟨q,[(i,j)]⟩ .dd) (ps:=[⟨q,[(i,j)]⟩]) ?_ (λw0 W bt w hI=>(hforget w0 W bt w hI).1) (Qd hlook) (av0:=.own ⟨0,[]⟩ t'.width 0 v.length) (λw bt u hv=> ?_) (res:=res.av) (out:=[.sl t'.width (v'.map t'.row)]) (m:=1) (by rw[<-hSm,hargs];exact k1) (Qe hlook (by simpa using hvl)) (by rw[Gu hpl,List.drop_succ_cons,List.drop_nil,Nb];exact m1),m2,h⟩
      ·refine⟨rfl,rfl,rfl,λp s rs hp=> ?_⟩;rw[rS] at hp;by_cases hpr:p.r=q
       ·rw[if_pos hpr,hgq] at hp;simp only at hp
        rcases T.put_spec .dd [(i,j)] (.sl t.width (l.map t.row)) (.inl (by grind [St.look])) p.l s rs hp with ⟨m',hm,hgo⟩| ⟨rs0,e1,e2,e3,e4⟩
        ·rw[T.dd_go] at hgo;cases hgo
        ·refine⟨λp' hp' hu=> ?_,rs0,by unfold St.look;rw[hpr,hgq];exact e1⟩;rw[aD.1 hp'] at hu;obtain⟨_,m,b⟩:=hu;exact e3 m b.symm
       ·rw[if_neg hpr] at hp;refine⟨λp' hp' hu=> ?_,rs,hp⟩;rw[aD.1 hp'] at hu;exact hpr hu.1
      ·rw[eH,hxv] at hv;have hv:VR w bt (.own ⟨q,[(i,j)]⟩ t'.width 0 v.length) u:=hv;cases hv with
       |own hp hc hk ha=>exact .own cR hc hk ha
     ·cases h
    ·cases h
   ·cases h
  ·cases h
theorem QQ{el:Ty}(hw:el.width=1)(hf:el.flatB=true){z:el.D}(hz:el.unflat el.zcs=some z): ∃zv,el.zvs= [zv] /\oK zv=true/\el.row z= [.sc zv] :=by
 have hr:el.row z=el.zcs.map C.tree:=by rw[el.row_flat,el.unflat_some _ _ hz]
 rw[hr];clear hr hz z;cases el with
 |i k=>exact⟨_,rfl,rfl,rfl⟩
 |b=>exact⟨_,rfl,rfl,rfl⟩
 |s=>exact⟨_,rfl,rfl,rfl⟩
 |h=>exact⟨_,rfl,rfl,rfl⟩
 |st n=>cases n<;>first |exact⟨_,rfl,rfl,rfl⟩| (exfalso;revert hw;decide)| (exfalso;revert hf;decide)
 |ls t=>cases hf
theorem O0[eg](hΘ:gz P Θ)(hS:S.ok){ops:Array Oper}{o:Oper}{os:List Oper}{Post:St->Prop}{t:TypeId}{q sz lo len:Nat}(ht:Hy S o=some (t,q,sz,lo,len)){κ:TS->Option ρ}{r:ρ}
  (ih: ∀S3:TS,S3.ok->κ S3=some r->B6 P ops os S3.st Post) (h:LV Θ S t q sz lo len o.dst κ=some r):B6 P ops (o::os) S.st Post:=by
 unfold Hy at ht;split at ht
 ·rename_i as ts hop;split at ht
  ·cases ht
  ·rename_i hgd;split at ht
   ·rename_i x t' e1 e2;split at ht
    ·rename_i r' sz' lo' len' w hx;simp only[af,ao] at ht;obtain⟨rfl,rfl,rfl,rfl,rfl⟩:=ht;have e1:as= #[x] :=by apply Array.ext';simpa using e1
     have e2:ts= #[t'] :=by apply Array.ext';simpa using e2
     subst e1 e2;unfold LV at h;split at h
     ·rename_i ti hti;split at h
      ·rename_i el l hq;obtain⟨hc,h0⟩:=eB h;simp only[al,decide_eq_true_eq] at hc;obtain⟨⟨⟨hty,hw⟩,hsz⟩,hfl⟩:=hc;have hw:el.width=1:=an hw;have hsz:sz'=1:=an hsz;split at h0
       ·rename_i z hz;unfold iteP at h0;split at h0
        ·rename_i hle;obtain⟨elT',g1,g2,g3,g4,g5,g6⟩:=(hΘ _ _ hti).el el hty
         have hql:r'<S.gh.length:=by
          rcases cM r' S.gh.length with h'|h'
          ·exact h'
          ·rw[Bf h'] at hq;cases hq
         have hG:ji S.gh (fR S.gh r' (some ⟨el,l.take lo'++List.replicate len' z++l.drop (lo'+len'),none⟩)):=ji.put hq (by simp;omega);obtain⟨S3,k1,k2,_,h⟩:=kL (v:=.tup []) (TS.ok_gh hS hG) (λx hx=>by cases hx) h0;rw[zk S _ hql] at k1;obtain⟨zv,hzv,hsc,hrow⟩:=QQ hw hfl hz
         have htr:S.st.gh r'=some (.sl 1 (l.map el.row)):=by show (f9 S.gh r').map eU.tree=_;rw[hq];show some (T.sl el.width (l.map el.row))=_;rw[hw]
         have hxv:opd S.st x= .own ⟨r',[]⟩ 1 lo' len':=by rw[eH,hx,<-hsz];rfl
         refine B6.clear hop hgd g1 (by rw[g6,hzv]) hsc hxv htr (by simpa using hle) ⟨S3.st,?_,ih S3 k2 h⟩;rw[<-k1]
         congr 1
         show _=({ S.st with gh:=fD S.st.gh r' (some (T.sl el.width ((l.take lo'++List.replicate len' z++l.drop (lo'+len')).map el.row))) }:St)
         simp_all
        ·cases h0
       ·cases h0
      ·cases h
     ·cases h
    ·cases ht
   ·cases ht
 ·cases ht
theorem TE[eg](hΘ:gz P Θ)(hY:lM P Y){ops:Array Oper}: ∀ (os:List Oper) (S:TS) (κ:TS->Option ρ) (r:ρ),(∀o∈os,n6 P o=true)->S.ok->DR Θ Y ops.toList os S κ=some r->
  B6 P ops os S.st (λS'=> ∃S1:TS,S'=S1.st/\S1.ok/\κ S1=some r):=by
 intro os
 induction os with
 |nil=>intro S κ r _ hS h;exact B6.nil ⟨S,rfl,hS,h⟩
 |cons o os ih=>
  intro S κ r hok hS h;unfold DR at h;cases hn:C7 o with
  |some tx=>
   obtain⟨t,x⟩:=tx;rw[hn] at h;simp only at h;obtain⟨hs,h⟩:=eB h;obtain⟨⟨t',ho⟩,hg⟩:=HF hn;unfold Xr at hs;split at hs
   ·rename_i ti hti;split at hs
    ·rename_i e he;obtain⟨el,hel,_⟩:=(hΘ t ti hti).el e he;split at h
     ·rename_i t1 l hx
      have way: ∀ (b:Bool),(rZ S o.dst (JL b) λS3=>DR Θ Y ops.toList os S3 κ)=some r-> ∃S1,S.st.put o.dst (.sc (.bool b))=some S1/\B6 P ops os S1 (λS'=> ∃S1:TS,S'=S1.st/\S1.ok/\κ S1=some r):=by intro b hb;obtain⟨S3,g5,g6,_,h⟩:=kL (v:=JL b) hS trivial hb;exact⟨S3.st,g5,ih S3 κ r (λx hx=>hok x (aO _ hx)) g6 h⟩
      have hxv:opd S.st x= .ro t1.width (l.map t1.row):=by rw[eH,hx];rfl
      cases l with
      |nil=>
       obtain⟨a1,a2⟩:=QO (show Tf _ _ none=some r from h)
       grind [B6.eqnil]
      |cons y l=>exact B6.eqnil hel ho hg hxv (λh=>by cases h) (way false h)
     ·cases h
    ·cases hs
   ·cases hs
  |none=>
  rw[hn] at h;simp only at h;cases hcl:Hy S o with
  |some z=>grind [O0]
  |none=>
  rw[hcl] at h;simp only at h;obtain⟨b,S1,h1,h2,h3,h4,h⟩:=JZ hS h;refine B6.cons (b:=b) h1 ?_;cases b with
  |true=>
   simp only[cond_true] at h;rw[if_pos rfl,<-h2];cases hh:DN Y S1 o with
   |some z=>obtain⟨k,g,caps,a,us,xs⟩:=z;rw[hh] at h;obtain⟨S3,g1,g2,g3⟩:=J3 hΘ hY h3 hh h;exact⟨S3.st,(g1 0).op,ih S3 κ r (λx hx=>hok x (aO _ hx)) g2 g3⟩
   |none=>
   grind [wG,kL,P8.one,one]
  |false=>simp only[cond_false] at h;obtain⟨S3,g5,g6,_,h⟩:=kL (v:=.tup []) h3 (λx hx=>by cases hx) h;rw[if_neg (by simp)];exact⟨S3.st,by rw[<-h2];exact g5,ih S3 κ r (λx hx=>hok x (aO _ hx)) g6 h⟩
theorem TF{D D':s9}{X:St}{o:Oper}(h:D o.dst=D' o.dst):eD D P X o=eD D' P X o:=by simp_all [eD]
theorem Nz{D D':s9}{X:St}{o:Oper}(h:D o.dst=D' o.dst):gn D P X o=gn D' P X o:=by simp_all [gn]
theorem Xx{D D':s9}{ops:Array Oper}: ∀ (os:List Oper) (X:St),(∀o∈os,D o.dst=D' o.dst)->Fr D P ops os X=Fr D' P ops os X:=by
 intro os
 induction os with
 |nil=>intro X _;rfl
 |cons o os ih=>grind [Fr,TF,Nz]
theorem z8: ∀ (l m:List (Option eU)) (n:Nat),gone n l (l++m)= []
 | [],m,n=>by cases m<;>rfl
 |x::l,m,n=>by
  cases x with
  |none=>exact z8 l m (n+1)
  |some y=>exact z8 l m (n+1)
theorem Ea(l:List eU):Qp (l.map some)=l.map eU.tree:=by unfold Qp;rw[bL];rfl
theorem NA(S:TS)(out:List eU):S.st.make ⟨S.st.ng,out.map eU.tree,[]⟩=({ S with gh:=S.gh++out.map some }:TS).st:=by
 rw[vr S .dead out];unfold St.make tj;simp only[aJ]
 congr 1
theorem sg.make{S1:TS}{L:List Nat}(h:sg S S1 L)(x:eU):S.st.make ⟨S.st.ng,[x.tree],nr L⟩=({ S1 with gh:=S1.gh++ [some x] }:TS).st:=by
 rw[DU,h.st,h.len];unfold St.make dropL;simp only[az,nR]
 congr 1
 funext r
 unfold fD;by_cases hr:r=S.gh.length
 ·simp_all [TS.st]
 ·rw[if_neg hr,if_neg (by show ¬ (S.gh.length<=r/\r<S.gh.length+1);omega)]
theorem NB: ∀ (l m x:List (Option eU)) (n:Nat) (L:List Nat),m.length=l.length->(∀k,k<l.length->(((∃y,l[k]? =some (some y))/\m[k]? =some none)↔(n+k)∈L))->gone n l (m++x)=(List.range' n l.length).filter λr=>L.contains r
 | [],m,x,n,L,hl,_=>by have :m= [] :=bD hl;subst this;cases x<;>rfl
 |a::l,[],x,n,L,hl,_=>by cases hl
 |a::l,b::m,x,n,L,hl,h=>by
  have h0:=h 0 (Nat.zero_lt_succ _)
  have ih:=NB l m x (n+1) L (by simpa using hl) (λk hk=>by
   have:=h (k+1) (by simpa using hk)
   grind)
  simp only[aQ,af,b7] at h0;rw[bo,cL,List.filter_cons];cases a with
  |none=>
   have : ¬n∈L:=λhn=>by grind
   rw[if_neg (by simpa using this),<-ih];cases b<;>rfl
  |some y=>
   cases b with
   |none=>have :n∈L:=h0.1 ⟨⟨y,rfl⟩,rfl⟩;rw[if_pos (by simpa using this),<-ih];rfl
   |some z=>
    have : ¬n∈L:=λhn=>by have:=(h0.2 hn).2;cases this
    rw[if_neg (by simpa using this),<-ih];rfl
theorem HG{L:List Nat}{N:Nat}(h: ∀r∈L,r<N):nr L=(List.range N).filter λr=>L.contains r:=by
 have top:G4 L<=N:=by
  induction L with
  |nil=>exact aB _
  |cons a l ih=>grind [G4,List.mem_cons_self]
 unfold nr;obtain⟨k,rfl⟩: ∃k,N=G4 L+k:=⟨N-G4 L,by omega⟩
 rw[ct,ct,<-List.range'_append_1,cm]
 have : (List.range' (0+G4 L) k).filter (λr=>L.contains r)= [] :=by rw[List.filter_eq_nil_iff];intro r hr hc;have h1:=Hf (l:=L) (r:=r) (by simpa using hc);have h2:=(List.mem_range'_1.1 hr).1;omega
 rw[this,bS]
theorem sg.gone{S1:TS}{L:List Nat}(h:sg S S1 L)(x:List (Option eU)):gone 0 S.gh (S1.gh++x)=nr L:=by
 rw[HG (N:=S.gh.length) (λr hr=>by obtain⟨tr,ht⟩:=h.was r hr;exact vq ht),ct]
 refine NB _ _ _ _ _ h.len (λk hk=> ?_);rw[aK];have g:=h.gh k;unfold f9 at g;rw[gy,gy] at g;have hk1:k<S1.gh.length:=by rw[h.len];exact hk
 rw[ah hk,ah hk1] at g ⊢;simp only[bw,af] at g ⊢;constructor
 ·grind
 ·intro hL;obtain⟨tr,ht⟩:=h.was k hL
  simp_all [f9,gy]
theorem xM{G:List (Option eU)}{r j:Nat}{c:Cl}(h:c.ok G)(hr:G.length<=r):rh r j c=c:=by
 have hb: ∀p:fo,p.r<G.length->Nat.beq p.r r=false:=λp hp=>by
  cases hx:Nat.beq p.r r with
  |false=>rfl
  |true=>have:=an hx;omega
 cases c with
 |own p sz lo len w=>simp only[rh];rw[hb p h.1];split<;>rfl
 |ptrT p sz a b=>simp only[rh];rw[hb p h];split<;>rfl
 | _=>rfl
theorem sj{α:Type}{f:α->α}: ∀ {l:List α},(∀x∈l,f x=x)->l.map f=l
 | [],_=>rfl
 |a::l,h=>by rw[aY,h a aF,sj λx hx=>h x (aO _ hx)]
theorem J4(hS:S.ok){r j:Nat}(hr:S.gh.length<=r):S.kill r j=S:=by
 have v1: ∀v:V1,v.ok S.gh->tT r j v=v:=by
  intro v hv;cases v with
  |cl c=>simp only[tT];rw[xM hv hr]
  |agg cs=>simp only[tT];rw[sj λc hc=>xM (hv c hc) hr]
  |fn f cs=>simp only[tT];rw[sj λc hc=>xM (hv c hc) hr]
 have e1:S.env.map (λx=>(x.1,Gx r j x.2))=S.env:=by
  refine sj (λx hx=> ?_);have hx:=hS.env x hx;obtain⟨t,v⟩:=x;cases v with
  |v x=>simp only[Gx];rw[v1 x hx]
  |tup l=>simp only[Gx];rw[sj λc hc=>v1 c (hx c hc)]
 have e2:S.bx.map (λcs=>cs.map (rh r j))=S.bx:=by exact sj (λcs hcs=>sj (λc hc=>xM (hS.bx cs hcs c hc) hr))
 unfold TS.kill;rw[e1,e2]
theorem TG(hS:S.ok){S1:TS}{no j:Nat}(hno:S.gh.length<=no){et:Option Ty}{c:Cl}{x:C}(hc:c.ok S.gh)(h:jS S no j et c=some (x,S1)):
  ∃L,sg S S1 L/\L.Nodup/\nx S.st (JW et) c.av=some (x.tree,L):=by
 have wp: ∀t:Ty,¬JW (some t)=0:=λt e=>by have:=t.width_pos;have e':t.width=0:=e;omega
 cases c with
 |c y=>
  cases y with
  |sc v=>
   cases et with
   |none=>simp only[jS,af,ao] at h;obtain⟨rfl,rfl⟩:=h;exact⟨[],sg.refl _,dZ,rfl⟩
   |some t=>simp[jS] at h
  |ls t l=>cases et<;>simp[jS] at h
 |em=>
  cases et with
  |none=>simp[jS] at h
  |some t=>simp only[jS,af,ao] at h;obtain⟨rfl,rfl⟩:=h;rw[J4 hS hno];refine⟨[],sg.refl _,dZ,?_⟩;unfold nx;rw[if_neg (wp t)];rfl
 |own p sz lo len wh=>
  obtain⟨pr,pl⟩:=p;cases wh with
  |false=>cases et<;>simp[jS] at h
  |true=>
   cases et with
   |none=>simp[jS] at h
   |some t=>
    cases pl with
    |cons a l=>simp[jS] at h
    |nil=>
     simp only[jS] at h;obtain⟨h1,h⟩:=eB h;simp only[al,b6] at h1;obtain⟨⟨h1,h2⟩,h3⟩:=h1;have h1:t.width=sz:=an h1;have h2:S.fz<=pr:=ar h2;split at h
     ·rename_i tr htr;split at h
      ·rename_i hh;obtain⟨h4,h⟩:=eB h;have h4':tr.t.width=sz:=an h4;simp only[af,ao] at h;obtain⟨rfl,rfl⟩:=h;have hg:=eU.look htr;obtain⟨tt,l,hole⟩:=tr;simp only at hh h4';subst hh;obtain⟨e1,e2,e3⟩:=wD hc (λ_=>hg);have hd:=sg.one hg;rw[J4 (hd.ok hS) (by rw[hd.len];exact hno)];refine⟨[pr],hd,by simp,?_⟩;unfold nx;rw[if_neg (wp t)];simp only[Cl.av]
       have hrows:S.st.rows ⟨pr,[]⟩ sz=some (l.map tt.row):=by rw[<-h4'];refine lB ?_;unfold St.look;show (match (f9 S.gh pr).map eU.tree with |some t=>t.go [] |none=> .dd)=_;rw[hg];rfl
       rw[if_pos ⟨trivial,h1.symm,e2,h2⟩,hrows]
       simp_all [bG,C.tree]
      ·cases h
     ·cases h
 |pro cs=>cases et<;>simp[jS] at h
 |ptrB n j=>cases et<;>simp[jS] at h
 |ptrT p sz a b=>cases et<;>simp[jS] at h
 |dead=>cases et<;>simp[jS] at h
theorem L3{X Y:St}(hfz:Y.fz=X.fz)(hg: ∀r t,Y.gh r=some t->X.gh r=some t){s:Nat}{v:AV}{y:T×List Nat}(h:nx Y s v=some y):nx X s v=some y:=by
 unfold nx at h ⊢;split at h
 ·rename_i h0;rw[if_pos h0];exact h
 ·rename_i h0;rw[if_neg h0];split at h
  ·exact h
  ·rename_i q s' lo len;split at h
   ·rename_i hc;rw[hfz] at hc;rw[if_pos hc]
    grind [St.rows,St.look]
   ·cases h
  ·cases h
theorem wH{X Y:St}(hfz:Y.fz=X.fz)(hg: ∀r t,Y.gh r=some t->X.gh r=some t): ∀ {ss:List Nat} {vs:List AV} {y:List T×List Nat},jD Y ss vs=some y->jD X ss vs=some y
 |s::ss,v::vs,y,h=>by unfold jD at h ⊢;simp only[ai,ak] at h ⊢;obtain⟨a,h1,b,h2,h3⟩:=h;exact⟨a,L3 hfz hg h1,b,wH hfz hg h2,h3⟩
 | [],[],_,h=>h
 | [],_::_,_,h=>h
 | _::_,[],_,h=>h
theorem B9{X Y:St}(hfz:Y.fz=X.fz)(hg: ∀r t,Y.gh r=some t->X.gh r=some t){ss:List Nat}: ∀ {vss:List (List AV)} {y:List (List T)×List Nat},iJ Y ss vss=some y->iJ X ss vss=some y
 | [],_,h=>h
 |vs::vss,y,h=>by unfold iJ at h ⊢;simp only[ai,ak] at h ⊢;obtain⟨a,h1,b,h2,h3⟩:=h;exact⟨a,wH hfz hg h1,b,B9 hfz hg h2,h3⟩
theorem sg.less{S1:TS}{L:List Nat}(h:sg S S1 L): ∀r t,S1.st.gh r=some t->S.st.gh r=some t:=by
 intro r t ht;rw[h.st] at ht
 grind [dropL]
theorem TH(no:Nat): ∀ (ets:List (Option Ty)) (cs:List Cl) (j:Nat) (S S1:TS) (xs:List C),S.ok->S.gh.length<=no->(∀c∈cs,c.ok S.gh)->ri no j S ets cs=some (xs,S1)->
  ∃L,sg S S1 L/\L.Nodup/\jD S.st (ets.map JW) (cs.map Cl.av)=some (xs.map C.tree,L):=by
 intro ets
 induction ets with
 |nil=>
  intro cs j S S1 xs hS hno hcs h;cases cs with
  |nil=>simp only[ri,af,ao] at h;obtain⟨rfl,rfl⟩:=h;exact⟨[],sg.refl _,dZ,rfl⟩
  |cons c cs=>simp[ri] at h
 |cons et ets ih=>
  intro cs j S S1 xs hS hno hcs h;cases cs with
  |nil=>simp[ri] at h
  |cons c cs=>
   simp only[ri] at h;split at h
   ·rename_i x S2 hx;obtain⟨L1,d1,n1,e1⟩:=TG hS hno (hcs c aF) hx;split at h
    ·rename_i xs' S3 hxs;simp only[af,ao] at h;obtain⟨rfl,rfl⟩:=h;obtain⟨L2,d2,n2,e2⟩:=ih cs (j+1) S2 S3 xs' (d1.ok hS) (by rw[d1.len];exact hno) (λy hy=>Cl.ok_mono d1.le (hcs y (aO _ hy))) hxs;refine⟨L1++L2,d1.trans d2,d1.apart d2 n1 n2,?_⟩;simp only[aY,jD];rw[e1];simp only[ae];rw[wH (X:=S.st) (Y:=S2.st) d1.fz d1.less e2];rfl
    ·cases h
   ·cases h
theorem QR(el:Ty): ∀ (vs:List V) (S S1:TS) (l:List el.D),S.ok->(∀v∈vs,v.ok S.gh)->tU el S vs=some (l,S1)->
  ∃L,sg S S1 L/\L.Nodup/\iJ S.st el.shs (vs.map λv=>v.av.cells)=some (l.map el.row,L)/\l.length=vs.length/\ ∀v∈vs,v.av.cells.length=el.width/\v.av.isDead=false:=by
 intro vs
 induction vs with
 |nil=>intro S S1 l hS hv h;simp only[tU,af,ao] at h;obtain⟨rfl,rfl⟩:=h;exact⟨[],sg.refl _,dZ,rfl,rfl,λv hv=>by cases hv⟩
 |cons v vs ih=>
  intro S S1 l hS hv h;cases v with
  |tup x=>simp[tU] at h
  |v x=>
   have hx:=hv (.v x) aF;simp only[tU] at h;split at h
   ·rename_i ws S2 hw
    have hcells: ∀c∈x.cells,c.ok S.gh:=by
     intro c hc;cases x with
     |cl y=>rw[aD.1 hc];exact hx
     |agg cs=>exact hx c hc
     |fn f cs=>rw[aD.1 hc];trivial
    obtain⟨L1,d1,n1,e1⟩:=TH _ _ _ _ _ _ _ hS (au _) hcells hw
    have hw':el.csh.length=x.cells.length/\ ∀c∈x.cells,c≠ .dead:=by obtain⟨_,m2,_,m4,_⟩:=D4 S.gh.length 0 0 0 el.csh x.cells 0 S S2 ws [x.cells.map λc=>T.ofSc c.av] (x.cells.map λc=>T.ofSc c.av) hS hcells hw rfl (by simp) (λk c hk=>by grind);exact⟨m2,m4⟩
    split at h
    ·rename_i y ys S3 hy hys;simp only[af,ao] at h;obtain⟨rfl,rfl⟩:=h;obtain⟨L2,d2,n2,e2,e3,e4⟩:=ih S2 S3 ys (d1.ok hS) (λu hu=>V.ok_mono d1.le (hv u (aO _ hu))) hys
     have hsh:el.shs=el.csh.map JW:=by unfold Ty.shs;refine aM λc _=> ?_;cases c<;>rfl
     have hav: (V.v x).av.cells=x.cells.map Cl.av:=by
      cases x with
      |cl c=>
       simp only[V.av,V1.av,V1.cells,aY,cF];cases c with
       |c y=>cases y<;>rfl
       | _=>rfl
      |agg cs=>rfl
      |fn f cs=>exact absurd rfl (hw'.2 .dead (aD.2 rfl))
     refine⟨L1++L2,d1.trans d2,d1.apart d2 n1 n2,?_,by simp[e3],λu hu=> ?_⟩
     ·simp only[aY,iJ];rw[hav,hsh,e1];simp only[ae];rw[<-hsh,B9 (X:=S.st) (Y:=S2.st) d1.fz d1.less e2];simp only[aI];rw[el.row_flat,el.unflat_some _ _ hy]
     ·rcases aV.1 hu with rfl|hu
      ·refine⟨?_,?_⟩
       ·grind [zl]
       ·cases x with
        |cl c=>
         have:=hw'.2 c (aD.2 rfl);cases c with
         |c y=>cases y<;>rfl
         |dead=>exact absurd rfl this
         | _=>rfl
        |agg cs=>rfl
        |fn f cs=>rfl
      ·exact e4 u hu
    ·cases h
   ·cases h
theorem L4(hΘ:gz P Θ){t:TypeId}(h:Xg Θ t=true): ∃ti el elT',mt Θ t=some ti/\ti.ty= .ls el/\vb P t=some elT'/\P.cellsOf elT'=el.width/\P.bytesOf elT'=ti.el/\0<ti.el/\oH P 9 elT'=el.shs/\AO P elT'=some el.zvs:=by
 unfold Xg at h;split at h
 ·rename_i ti hti;split at h
  ·rename_i el he;obtain⟨elT',g⟩:=(hΘ _ _ hti).el el he;exact⟨ti,el,elT',hti,he,g⟩
  ·cases h
 ·cases h
theorem TJ{el:Ty}{v:Cl}(hv:v.ok S.gh){κ:List el.D->TS->Option ρ}{r:ρ}(h:Qo S el v κ=some r):
  ∃more L S1,sg S S1 L/\jj S.st el.width el.flatB v.av=some (more.map el.row,L)/\κ more S1=some r:=by
 unfold Qo at h;split at h
 ·exact⟨[],[],S,sg.refl _,rfl,h⟩
 ·rename_i t l;obtain⟨h1,h⟩:=eB h;split at h
  ·rename_i l' hl;obtain⟨e,hl⟩:=gR hl;subst e;simp only at hl;subst hl;refine⟨l,[],S,sg.refl _,?_,h⟩;simp only[Cl.av,C.av,jj];rw[if_pos ⟨trivial,uk h1 l⟩]
  ·cases h
 ·rename_i p sz lo len w;obtain⟨h0,h⟩:=eB h;have h0:el.width=sz:=an h0;cases hfl:el.flatB with
  |true=>
   rw[hfl] at h;simp only[cond_true] at h;obtain⟨t,l,h1,h2,h⟩:=ij h;split at h
   ·rename_i l' hl;obtain⟨e,hl⟩:=gR hl;subst e;simp only at hl;subst hl
    have src: ∀ (lo len:Nat),lo+len<=l.length->jj S.st t.width true (.own p sz lo len)=some (((l.drop lo).take len).map t.row,[]):=by intro lo len hle;simp only[jj];rw[if_pos h0.symm,lB h1];simp only[ae,aJ];rw[if_neg (by simp),if_pos ⟨hle,by grind [uk]⟩];simp[cB,cX]
    cases w with
    |true=>
     obtain⟨e1,e2,e3⟩:=wD hv h2;refine⟨l,[],S,sg.refl _,?_,h⟩
     grind [Cl.av]
    |false=>simp only[cond_false] at h;obtain⟨h3,h⟩:=fy h;exact⟨_,[],S,sg.refl _,src lo len h3,h⟩
   ·cases h
  |false=>
   rw[hfl] at h;simp only[cond_false] at h;split at h
   ·rename_i hpl;obtain⟨h1,h'⟩:=eB h;clear h;simp only[al] at h1;obtain⟨rfl,hfz⟩:=h1;have hfz:S.fz<=p.r:=ar hfz;obtain⟨t,l,g1,g2,h⟩:=ij h';split at h
    ·rename_i l' hl;obtain⟨e,hl⟩:=gR hl;subst e;simp only at hl;subst hl;obtain⟨e1,e2,e3⟩:=wD hv g2;refine⟨l,[p.r],_,sg.one (g2 e1),?_,h⟩;simp only[Cl.av,jj];rw[if_pos h0.symm,lB g1];simp only[ae,aJ];rw[if_pos ⟨trivial,e1,e2,e3,hfz⟩]
    ·cases h
   ·cases h
 ·cases h
theorem QS{el:Ty}{v:Cl}(hv:v.ok S.gh)(hroot:Ni (.v (.cl v))=true){more:List el.D}{κ:List el.D->TS->Option ρ}{r:ρ}(h:JK S el v more κ=some r):
  ∃ (l0:List el.D) (cons:List Nat) (S':TS),pL S.st el.width v.av=some (l0.map el.row,cons)/\sg S S' cons/\κ (l0++more) S'=some r:=by
 unfold JK at h;split at h
 ·exact⟨[],[],S,rfl,sg.refl _,h⟩
 ·rename_i p sz lo len w;obtain⟨pr,pl⟩:=p;cases pl with
  |cons a l=>cases hroot
  |nil=>
   obtain⟨h0,h'⟩:=eB h;clear h;simp only[al] at h0;have hfz:S.fz<=pr:=ar h0.1;have hsz:el.width=sz:=an h0.2;simp only at h';obtain⟨t,l,h1,h2,h⟩:=ij h';split at h
   ·rename_i l' hl;obtain⟨e,hl⟩:=gR hl;subst e;simp only at hl;subst hl
    have base: ∀ (len:Nat),¬l.length<len->pL S.st t.width (.own ⟨pr,[]⟩ sz 0 len)=some ((l.take len).map t.row,[pr]):=by intro len hlen;simp only[pL];rw[if_pos ⟨hsz.symm,trivial,trivial,hfz⟩,lB h1];simp only[ae,aJ];rw[if_neg hlen,cB]
    cases w with
    |true=>
     obtain⟨e1,e2,e3⟩:=wD hv h2;refine⟨l,[pr],_,?_,sg.one (h2 rfl),h⟩
     grind [Cl.av]
    |false=>
     simp only[cond_false] at h;obtain⟨h3,h⟩:=fy h;obtain⟨h4,h⟩:=Bb h;refine⟨l.take len,[pr],_,?_,sg.one (h2 rfl),h⟩
     grind [Cl.av]
   ·cases h
 ·cases h
theorem NC[eg](hΘ:gz P Θ)(hY:lM P Y)(hS:S.ok){o:Oper}(hn:ib o=true)(hf:Th Θ o=true)(hb:Nj S o=true){κ:V->TS->Option ρ}{r:ρ}(h:vR Θ Y S o κ=some r):
  ∃D v0 v adds cons S',lJ P D/\gn D P S.st o=some (v0,adds,cons)/\shift S.st.ng v0=V.av v/\S.st.make ⟨S.st.ng,adds,cons⟩=TS.st S'/\zi S S'=⟨S.st.ng,adds,cons⟩/\S'.ok/\v.ok S'.gh/\κ v S'=some r:=by
 obtain⟨dst,op,ty,pos,aft,gd⟩:=o;cases op with
 |buildSlice t len parts=>
  obtain⟨ti,el,elT',hti,he,g1,g2,g3,g4,g5,g6⟩:=L4 hΘ hf;unfold vR at h;simp only[hti,he] at h;obtain⟨hb',h'⟩:=eB h;clear h
  have hnr: ((parts.toList.map λx=>S.opd x.2).any DM)=false:=by have hb: (!(parts.toList.map λx=>S.opd x.2).any DM)=true:=hb;simpa using hb
  rw[hnr] at h';simp only[cond_false] at h';split at h'
  ·rename_i l S1 hp
   have hvok: ∀v∈parts.toList.map (λx=>S.opd x.2),v.ok S.gh:=λv hv=>by obtain⟨y,_,rfl⟩:=aN.1 hv;exact n9 hS _
   obtain⟨L,d,hnd,m1,m2,m3⟩:=QR el _ S S1 l hS hvok hp;simp only[al] at hb';have hb1:len*el.width<=1048576:=ar hb'.1;have hb2:=HD hb'.2
   have hlen:l.length=len:=by rw[m2];have:=congrArg List.length hb2;simpa using this
   refine⟨HC,.own ⟨0,[]⟩ el.width 0 len,_,[.sl el.width (l.map el.row)],nr L,{ S1 with gh:=S1.gh++ [some ⟨el,l,none⟩] },i4,?_,?_,d.make ⟨el,l,none⟩,?_,TS.ok_gh (d.ok hS) (ji.app _ _),?_,h'⟩
   ·simp only[gn,g1,ae]
    rw[if_pos ⟨by rw[g2];exact hb1,hb2,by rw[g2];exact el.width_pos,by rw[g6];rfl,by rw[aA];intro y hy;obtain⟨q1,q2⟩:=m3 (S.opd y.2) (aN.2 ⟨y,hy,rfl⟩);simp only[eH,q1,q2,g2];rfl⟩]
    have e: (parts.toList.map λx=>(opd S.st x.2).cells)=(parts.toList.map λx=>S.opd x.2).map λv=>v.av.cells:=by rw[bL];exact aM λx _=>by simp only[eH,Function.comp]
    rw[e,g5,m1];simp only[ae];rw[if_pos (C5.2 hnd),g2]
   ·simp only[shift,kz,lz,V.av,V1.av,Cl.av,aK,hlen];rw[d.len];rfl
   ·unfold zi;simp only;rw[d.gone,cI (by rw[d.len];exact au _),cy (by rw[d.len];exact au _)];rfl
   ·refine⟨by simp,λ_=>⟨rfl,rfl,λtr htr=> ?_⟩⟩;rw[lL,if_pos rfl] at htr;cases htr;rfl
  ·cases h'
 |call c=>
  obtain⟨cl,as,ts⟩:=c;cases cl with
  |invoke a b=>cases hn
  |value f=>
   unfold vR at h;simp only at h
   have fin: ∀ (g:FuncId) (caps:List AV) (vs:List V1),g<jF->callee S.st f=some (g,caps)->args P S.st ts as caps=vs.map V1.av->Y g vs ρ (λres out=>κ (rY S.gh.length res) { S with gh:=S.gh++out.map some })=some r->
     ∃D v0 v adds cons S',lJ P D/\gn D P S.st ⟨dst,.call { callee:=.value f,args:=as,argTypes:=ts },ty,pos,aft,gd⟩=some (v0,adds,cons)/\shift S.st.ng v0=V.av v/\S.st.make ⟨S.st.ng,adds,cons⟩=TS.st S'/\zi S S'=⟨S.st.ng,adds,cons⟩/\S'.ok/\v.ok S'.gh/\κ v S'=some r:=by
    intro g caps vs hg h1 h2 h3;obtain⟨res,out,h4,h5,h6⟩:=hY _ _ _ _ _ h3;have h4:=h4.fn hg;refine⟨OW dst g (vs.map V1.av) (res.av,out.map eU.tree),res.av,_,out.map eU.tree,[],_,DW h4,?_,?_,NA S out,?_,TS.ok_gh hS (ji.apps _ _),xK h5,h6⟩
    ·simp_all [gn,Nt]
    ·rw[xJ];rfl
    ·unfold zi;simp only[z8,cI (au _),dK,be,Ea];rfl
   unfold Nf at h;split at h
   ·rename_i g x y hf';obtain⟨hg,h⟩:=eB h;have hg:g<jF:=ar hg;obtain⟨vs,h1,h⟩:=wE hΘ hS _ _ _ _ h;refine fin g [] vs hg ?_ ?_ h
    ·unfold callee;rw[eH,hf'];rfl
    grind [args]
   ·rename_i g caps hf';obtain⟨hg,h⟩:=eB h;have hg:g<jF:=ar hg;obtain⟨vs,h1,h⟩:=wE hΘ hS _ _ _ _ h
    have hcaps: ∀c∈caps,c.ok S.gh:=by have:=n9 hS f;rw[hf'] at this;exact this
    obtain⟨cs,h2,h⟩:=DZ hS _ _ _ hcaps h;refine fin g (caps.map Cl.av) (vs++cs.map .cl) hg ?_ ?_ h
    ·unfold callee;rw[eH,hf'];rfl
    ·unfold args;rw[h1,h2,ce,bL];rfl
   ·cases h
  |builtin b=>
   cases b with
   |append=>
    unfold vR at h;simp only at h;split at h
    ·rename_i s x t t' e1 e2;have hbb: ((match ts.toList with | [t,t'] =>Nat.beq t t'| _=>true)&&(match as.toList with |s::_=>Ni (S.opd s)| [] =>true))=true:=hb;rw[e1,e2] at hbb;simp only[al] at hbb;rw[hbb.1] at h;simp only[cond_true] at h;have h':=h;have ht:t=t':=an hbb.1;clear h;have e1:as= #[s,x] :=by apply Array.ext';simpa using e1
     have e2:ts= #[t,t'] :=by apply Array.ext';simpa using e2
     subst e1 e2;subst ht;obtain⟨ti,el,elT',hti,he,g1,g2,g3,g4,g5,g6⟩:=L4 hΘ hf;unfold Te at h';simp only[hti] at h';split at h'
     ·rename_i el' sv xv he' hs hx;rw[he] at he';cases he';have hsv:=n9 hS s;rw[hs] at hsv;have hxv:=n9 hS x;rw[hx] at hxv;obtain⟨more,L,S1,d1,q1,h⟩:=TJ (show xv.ok S.gh from hxv) h';have hroot:Ni (.v (.cl sv))=true:=by rw[<-hs];exact hbb.2
      obtain⟨l0,cons,S2,q2,d2,h⟩:=QS (show sv.ok S1.gh from Cl.ok_mono d1.le hsv) hroot h;obtain⟨hbd,h⟩:=fy h;have hlen: (l0++more).length<=2 ^ 40:=aP (dE _ g4) hbd;have hll: (l0++more).length=l0.length+more.length:=by simp
      have d:=d1.trans d2;refine⟨HC,.own ⟨0,[]⟩ el.width 0 (l0.length+more.length),_,[.sl el.width ((l0++more).map el.row)],nr (L++cons),{ S2 with gh:=S2.gh++ [some ⟨el,l0++more,none⟩] },i4,?_,?_,d.make ⟨el,l0++more,none⟩,?_,TS.ok_gh (d.ok hS) (ji.app _ _),?_,h⟩
      ·simp only[gn];rw[if_pos trivial,g1];simp only[ae,g2,g5,xL,eH,hs,hx];show (jj S.st el.width el.flatB xv.av).bind _=_;rw[q1];simp only[ae];show (pL (dropL S.st L) el.width sv.av).bind _=_;rw[<-d1.st,q2];simp only[ae,aJ];rw[if_pos ⟨by rw[g3,<-hll];exact hbd,by rw[<-hll];exact hlen,el.width_pos,by rw[z5 g2 g5 g6];rfl⟩,ce]
      ·simp only[shift,kz,lz,V.av,V1.av,Cl.av,aK,hll];rw[d.len];rfl
      ·unfold zi;simp only;rw[d.gone,cI (by rw[d.len];exact au _),cy (by rw[d.len];exact au _)];rfl
      ·refine⟨by simp,λ_=>⟨rfl,rfl,λtr htr=> ?_⟩⟩;rw[lL,if_pos rfl] at htr;cases htr;rfl
     ·cases h'
    ·cases h
   | _=>cases hn
 |makeSlice t l c=>
  unfold vR at h;simp only at h;split at h
  ·rename_i ti hti;split at h
   ·rename_i el he;obtain⟨elT',g1,g2,g3,g4,g5,g6⟩:=(hΘ _ _ hti).el el he;obtain⟨n,h1,h⟩:=vp h;obtain⟨m,h2,h⟩:=vp h;split at h
    ·rename_i z hz;obtain⟨hb,h⟩:=fy h;have hz':=Ty.unflat_some _ _ _ hz
     have hzr:el.row z=List.zipWith zc el.shs el.zvs:=by rw[el.row_flat,hz',D6]
     refine⟨HC,.own ⟨0,[]⟩ el.width 0 n.toNat,_,[(⟨el,List.replicate n.toNat z,none⟩:eU)].map eU.tree,[],{ S with gh:=S.gh++ [(⟨el,List.replicate n.toNat z,none⟩:eU)].map some },i4,?_,?_,NA S _,?_,TS.ok_gh hS (ji.apps _ _),?_,h⟩
     ·simp only[gn,g1,ae,eH,h1,h2];rw[z5 g2 g5 g6];simp only[ae]
      have hn:n<=n*(ti.el:Int):=by
       have h1e: (1:Int)<=ti.el:=by omega
       have:=dj h1e hb.1
       rwa [Int.mul_one] at this
      rw[if_pos ⟨hb.1,hb.2.1,by rw[g3,Int.mul_comm];exact hb.2.2,Int.le_trans hn hb.2.2⟩,g2,<-hzr];simp[eU.tree]
     ·simp only[shift,kz,lz,V.av,V1.av,Cl.av,aK];rfl
     ·unfold zi;simp only[z8,cI (au _),dK,be,Ea];rfl
     ·refine⟨by simp,λ_=>⟨rfl,by simp,λtr htr=> ?_⟩⟩;rw[show [(⟨el,List.replicate n.toNat z,none⟩:eU)].map some= [some ⟨el,List.replicate n.toNat z,none⟩] from rfl,lL,if_pos rfl] at htr;cases htr;simp
    ·cases h
   ·cases h
  ·cases h
 | _=>cases hn
end
end
section
open Go
section
variable {ρ:Type} {P:Program} {Θ:n8} {S:TS} {Y:zh}
open Classical in
noncomputable def z9(d:Option Tmp)(D1 D2:s9):s9:=λd'=>if d'=d then D1 d' else D2 d'
theorem J5[eg]{d:Option Tmp}{D1 D2:s9}(h1:lJ P D1)(h2:lJ P D2):lJ P (z9 d D1 D2):=by
 intro d' f args gs res out h;unfold z9 at h;split at h
 ·exact h1 _ _ _ _ _ _ h
 ·exact h2 _ _ _ _ _ _ h
theorem QT(d:Option Tmp)(D1 D2:s9):z9 d D1 D2 d=D1 d:=by unfold z9;rw[if_pos rfl]
theorem QU{d d':Option Tmp}(D1 D2:s9)(h:d'≠d):z9 d D1 D2 d'=D2 d':=by unfold z9;rw[if_neg h]
theorem TK[eg](hΘ:gz P Θ)(hY:lM P Y){ops:Array Oper}: ∀ (os:List Oper) (S:TS) (ms:List jv) (κ:TS->List jv->Option ρ) (r:ρ),S.ok->JM Θ Y ops.toList os S ms κ=some r->
  ∃D SV ms',lJ P D/\Fr D P ops os S.st=some (TS.st SV,ms')/\SV.ok/\κ SV (ms++ms')=some r:=by
 intro os
 induction os with
 |nil=>intro S ms κ r hS h;exact⟨HC,S,[],i4,rfl,hS,by rw[bS];exact h⟩
 |cons o os ih=>
  intro S ms κ r hS h;unfold JM at h;cases hst:ek o with
  |true=>
   rw[hst] at h;simp only[cond_true] at h;obtain⟨D,SV,ms',h1,h2,h3,h4⟩:=ih _ _ _ _ hS h;refine⟨D,SV,⟨S.gh.length,[],[]⟩::ms',h1,?_,h3,?_⟩
   ·simp only[Fr,hst,if_true,h2,aI];rfl
   grind
  |false=>
   rw[hst] at h;simp only[cond_false] at h;cases hbo:ga o with
   |true=>
    rw[hbo] at h;simp only[cond_true] at h;cases hgn:o.guard.isNone with
    |false=>rw[hgn] at h;cases h
    |true=>
    rw[hgn] at h;simp only[cond_true] at h;obtain⟨S3,g5,g6,_,h⟩:=kL (v:=V.v (.cl (.ptrB (S.bx.length-1-gJ os) 0))) hS trivial h;obtain⟨D,SV,ms',k1,k2,k3,k4⟩:=ih _ _ _ _ g6 h;refine⟨D,SV,⟨S.gh.length,[],[]⟩::ms',k1,?_,k3,?_⟩
    ·simp only[Fr,hst,bh,if_false,hbo,if_true,hgn];rw[show S.st.put o.dst (.ptrB (S.st.nb-1-gJ os) 0)=some S3.st from g5];simp only[ae,k2,aI];rfl
    grind
   |false=>
   rw[hbo] at h;simp only[cond_false] at h;obtain⟨b,S1,h1,h2,h3,h4,h⟩:=JZ hS h;have hng:S.st.ng=S1.st.ng:=by rw[h2]
   cases b with
   |false=>
    simp only[cond_false] at h;obtain⟨S3,g5,g6,_,h⟩:=kL (v:=.tup []) h3 (λx hx=>by cases hx) h;obtain⟨D,SV,ms',k1,k2,k3,k4⟩:=ih _ _ _ _ g6 h;refine⟨D,SV,⟨S1.gh.length,[],[]⟩::ms',k1,?_,k3,?_⟩
    ·simp only[Fr,hst,hbo,bh,if_false,h1,ae];rw[<-h2,show S1.st.put o.dst (.tup [])=some S3.st from g5];simp only[ae,k2,aI];rfl
    grind
   |true=>
    simp only[cond_true] at h;cases hnw:ib o with
    |false=>
     rw[hnw] at h;simp only[cond_false] at h;obtain⟨v,S2,m1,m2,m3,m4,m5,h⟩:=Bd (D:=HC) hΘ h3 h;obtain⟨S3,g5,g6,_,h⟩:=kL m3 (by rw[m4];exact m5) h;obtain⟨D,SV,ms',k1,k2,k3,k4⟩:=ih _ _ _ _ g6 h;refine⟨D,SV,⟨S1.gh.length,[],[]⟩::ms',k1,?_,k3,?_⟩
     ·have hV:eD D P S1.st o=some v.av:=by
       rw[<-m1]
       have : ∀D':s9,eD D P S1.st o=eD D' P S1.st o:=by
        intro D';obtain⟨dst,op,ty,pos,aft,gd⟩:=o;cases op with
        |call c=>
         obtain⟨cl,as,ts⟩:=c;cases cl with
         |value f=>cases hnw
         |invoke a b=>rfl
         |builtin b=>cases b<;>rfl
        |unOp op t x=>cases op<;>rfl
        |binOp op t x y t'=>cases op<;>rfl
        |makeFunc fn first caps=>cases fn<;>rfl
        |slice t x lo hi mx=>cases mx<;>rfl
        | _=>rfl
       exact this HC
      simp only[Fr,hst,hbo,bh,if_false,h1,ae,if_true,hnw];rw[<-h2,hV];simp only[ae];rw[<-m2,g5];simp only[ae,k2,aI];rw[m2];first |rfl|skip
     grind
    |true=>
     rw[hnw] at h;simp only[cond_true] at h;obtain⟨hc,h⟩:=eB h;simp only[al] at hc;obtain⟨D1,v0,v,adds,cons,S2,m1,m2,m3,m4,m5,m6,m7,h⟩:=NC hΘ hY h3 hnw hc.1.2 hc.2 h;obtain⟨S3,g5,g6,_,h⟩:=kL m6 m7 h;obtain⟨D,SV,ms',k1,k2,k3,k4⟩:=ih _ _ _ _ g6 h;refine⟨z9 o.dst D1 D,SV,⟨S1.st.ng,adds,cons⟩::ms',J5 m1 k1,?_,k3,?_⟩
     ·have hN:gn (z9 o.dst D1 D) P S1.st o=some (v0,adds,cons):=by
       rw[<-m2];exact Nz (QT _ _ _)
      have hrest:Fr (z9 o.dst D1 D) P ops os S3.st=some (SV.st,ms'):=by
       rw[<-k2];refine Xx os _ (λo' ho'=>QU _ _ (λe=> ?_));have hl:=hc.1.1;unfold Xt at hl;split at hl
       ·grind [U4,Nat.beq_refl]
       ·cases hl
      simp_all [Fr]
     grind
theorem TL[eg](hΘ:gz P Θ)(hY:lM P Y){ops:Array Oper}{D:s9}: ∀ (os:List Oper) (S:TS) (κ:TS->Option ρ) (r:ρ),S.ok->Qr Θ Y os S κ=some r->
  ∃S',Fs D P ops os S.st=some (TS.st S')/\S'.ok/\κ S'=some r:=by
 intro os
 induction os with
 |nil=>intro S κ r hS h;exact⟨S,rfl,hS,h⟩
 |cons o os ih=>
  intro S κ r hS h;unfold Qr at h;cases hst:ek o with
  |false=>simp_all [Fs]
  |true=>
   rw[hst] at h;simp only[cond_true] at h;obtain⟨hc,h⟩:=eB h;simp only[al] at hc;obtain⟨D',v,S1,g1,g2,g3,g4,h⟩:=wG hΘ hY hS h;obtain⟨S',h1,h2,h3⟩:=ih S1 κ r g3 h;refine⟨S',?_,h2,h3⟩;have hd:o.dst=none:=cZ.1 hc.2
   have hs:step D P S.st o=some (v.av,S1.st):=by
    rw[<-g2];obtain⟨dst,op,ty,pos,aft,gd⟩:=o;cases op with
    |store t a x=>rfl
    | _=>cases hst
   simp_all [one,St.put,Fs]
theorem TM(hΘ:gz P Θ): ∀ (os:List Oper) (S:TS) (κ:TS->Option ρ) (r:ρ),S.ok->Qq Θ os S κ=some r-> ∃S0,G5 P os S.st=some (TS.st S0)/\S0.ok/\κ S0=some r:=by
 intro os
 induction os with
 |nil=>intro S κ r hS h;exact⟨S,rfl,hS,h⟩
 |cons o os ih=>
  intro S κ r hS h;unfold Qq at h;unfold G5;split at h
  ·rename_i t hop;split at h
   ·rename_i ti hti
    obtain⟨S0,h1,h2,h3⟩:=ih { S with bx:=S.bx++ [ti.ty.zvs.map cC] } κ r ⟨hS.env,λcs hcs c hc=>by
     rcases aW.1 hcs with h1|h1
     ·exact hS.bx cs h1 c hc
     grind [Qz]⟩ h
    refine⟨S0,?_,h2,h3⟩;rw[hop];simp only[(hΘ _ _ hti).ze,ae];rw[<-h1]
    congr 1
    rw[LZ,Qy];rfl
   ·cases h
  grind
theorem L5{f g:TypeId->Bool}(h: ∀t,f t=true->g t=true){t:TypeId}{a:AV}(hs:zQ f t a=true):zQ g t a=true:=by cases a<;>simp only[zQ] at hs ⊢<;>first |exact h t hs|exact hs
theorem J6{f g:TypeId->Bool}(h: ∀t,f t=true->g t=true){ops:List Oper}{B:List (List Nat)}{S SV:St}{i j:Nat}{oi oj:Oper}(hs:ve f ops B S SV i j oi oj=true):ve g ops B S SV i j oi oj=true:=by
 unfold ve at hs ⊢;split at hs
 ·simp only[al] at hs ⊢;exact⟨L5 h hs.1,hs.2⟩
 ·cases hs
theorem J7{ops:List Oper}{B:List (List Nat)}{f g:Nat->Nat->Oper->Oper->Bool}(h: ∀i j oi oj,f i j oi oj=true->g i j oi oj=true)(hs:yS ops B f=true):yS ops B g=true:=by
 unfold yS at hs ⊢
 grind
theorem O1{f g:TypeId->Bool}(h: ∀t,f t=true->g t=true){ops:List Oper}{B:List (List Nat)}{S SV:St}{ms:List jv}(hs:Lm f ops B S ms SV=true):Lm g ops B S ms SV=true:=by
 unfold Lm at hs ⊢;simp only[al,bW] at hs ⊢
 grind [J7,J6]
theorem ND(hΘ:gz P Θ)(t:TypeId)(h:Nk Θ t=true):tp P t=true:=by
 unfold Nk at h;split at h
 ·rename_i ti hti;unfold tp;rw[(hΘ t ti hti).sh];unfold Ty.flatB at h;unfold Ty.shs
  grind
 ·cases h
theorem QV(hΘ:gz P Θ){S:TS}{o:Oper}(h:Qs Θ S o=true): ∀t x v,o.op= .store t x v->zQ (tp P) t (opd S.st x)=true:=by
 intro t x v ho;unfold Qs at h;rw[ho] at h;simp only at h;rw[eH];split at h
 ·rename_i e;rw[e];rfl
 ·rename_i e;rw[e];exact ND hΘ t h
 ·cases h
theorem O2(hΘ:gz P Θ){o:Oper}(h:Hz Θ o=true):DB P o=true:=by
 unfold DB;split
 ·rename_i t a b he;unfold Hz at h;rw[he] at h;simp only at h;split at h
  ·rename_i ti hti;split at h
   ·rename_i el hel;have hl:Xg Θ t=true:=by unfold Xg;rw[hti];simp only[hel]
    grind [L4,tp,xL]
   ·cases h
  ·cases h
 ·rfl
theorem TN[eg](hΘ:gz P Θ)(hY:lM P Y){n0:Nat}{ops:List Oper}{B:List (List Nat)}: ∀ (os:List Oper) (k:Nat) (S:TS) (κ:TS->Option ρ) (r:ρ),(∀o∈os,n6 P o=true)->(os≠ [] ->n0<=S.gh.length)->S.ok->JN Θ Y n0 ops B k os S κ=some r->
  ∃ (T:Nat->St) (S':TS),T k=S.st/\T (k+os.length)=S'.st/\S'.ok/\κ S'=some r/\ ∀i o,os[i]? =some o->Gr P n0 ops B T (k+i) o\/(i+1=os.length/\ek o=true/\P8 P (T (k+i)) o (T (k+i+1))/\ ∀j,j<k+i->j∈B.getD (k+i) []):=by
 intro os
 induction os with
 |nil=>intro k S κ r _ _ hS h;exact⟨λ_=>S.st,S,rfl,rfl,hS,h,λi o h=>by simp at h⟩
 |cons o os ih=>
  intro k S κ r hop hn0 hS h;have hop': ∀o∈os,n6 P o=true:=λx hx=>hop x (aO _ hx);have hok:=hop o aF;have hn0:=hn0 (by simp)
  have glue: ∀ {S3:TS},(os≠ [] ->n0<=S3.gh.length)->S3.ok->JN Θ Y n0 ops B (k+1) os S3 κ=some r->((wA o=true/\lK P n0 S.st o S3.st)\/P9 P n0 (P6 ops B k) S.st o S3.st\/(os= [] /\ek o=true/\P8 P S.st o S3.st/\ ∀j,j<k->j∈B.getD k []))->
    ∃ (T:Nat->St) (S':TS),T k=S.st/\T (k+(o::os).length)=S'.st/\S'.ok/\κ S'=some r/\ ∀i o',(o::os)[i]? =some o'->Gr P n0 ops B T (k+i) o'\/(i+1=(o::os).length/\ek o'=true/\P8 P (T (k+i)) o' (T (k+i+1))/\ ∀j,j<k+i->j∈B.getD (k+i) []):=by
   intro S3 hn3 hS3 h3 hst;obtain⟨T,S',t1,t2,hS',hk,hT⟩:=ih (k+1) S3 κ r hop' hn3 hS3 h3
   let T':Nat->St:=λi=>if i=k then S.st else T i
   have e0:T' k=S.st:=if_pos rfl;have e1: ∀i,k<i->T' i=T i:=λi hi=>if_neg (by omega);refine⟨T',S',e0,?_,hS',hk,λi o' ho'=> ?_⟩
   ·grind
   ·cases i with
    |zero=>
     simp only[aQ,af] at ho';subst ho';have e2:T' (k+1)=S3.st:=by rw[e1 _ (by omega),t1]
     rcases hst with h|h| ⟨rfl,h1,h2,h3⟩
     ·left;left
      grind
     ·left;right
      grind
     grind
    |succ i=>grind [Gr]
  unfold JN at h;cases hh:DN Y S o with
  |some z=>
   obtain⟨kd,g,caps,a,us,xs⟩:=z;rw[hh] at h;obtain⟨S3,g1,g2,g3⟩:=J3 hΘ hY hS hh h
   have hv:wA o=true:=by obtain⟨f,as,ts,x,t0,hop,_⟩:=D8 hh;unfold wA ib;rw[hop];rfl
   exact glue (λ_=>aP hn0 (g1 0).ng) g2 g3 (.inl ⟨hv,g1 n0⟩)
  |none=>
  rw[hh] at h;simp only at h;cases hs:ek o with
  |true=>
   rw[hs] at h;simp only[cond_true] at h;obtain⟨hc,h⟩:=eB h;obtain⟨D,v,S2,hD,g2,g3,g4,h⟩:=wG hΘ hY hS h;obtain⟨S3,g5,g6,g7,h⟩:=kL g3 g4 h;rcases Bool.or_eq_true_iff.1 hc with hc|hc
   ·have hst:=lK.store hD hok hs (QV hΘ hc) g2 g5 (n0:=n0);exact glue (λ_=>aP hn0 hst.ng) g6 h (.inl ⟨by simp[wA,hs],hst⟩)
   ·simp only[al,dJ,aA,bP,bT] at hc;exact glue (λhne=>absurd hc.1 hne) g6 h (.inr (.inr ⟨hc.1,hs,P8.one hD hok (by unfold one;rw[g2];exact g5),hc.2⟩))
  |false=>
  rw[hs] at h;simp only[cond_false] at h;cases hn:ib o with
  |true=>
   rw[hn] at h;simp only[cond_true] at h;have hv:wA o=true:=by simp[wA,hn]
   cases hfl: !rP o&&Hz Θ o with
   |true=>simp only[hfl,Bool.true_or,cond_true] at h;simp only[al,b6] at hfl;obtain⟨D,v,S2,hD,g2,g3,g4,h⟩:=wG hΘ hY hS h;obtain⟨S3,g5,g6,g7,h⟩:=kL g3 g4 h;have hst:=lK.flat hD hok hn hfl.1 (O2 hΘ hfl.2) g2 g5 (n0:=n0) hn0;exact glue (λ_=>aP hn0 hst.ng) g6 h (.inl ⟨hv,hst⟩)
   |false=>
    simp only[hfl,cr] at h;cases hfb:Th Θ o&&Nj S o with
    |false=>
     obtain⟨D,v,S2,hD,g2,g3,g4,h⟩:=wG hΘ hY hS h
     grind
    |true=>
     have hfb':=hfb;simp only[al] at hfb';obtain⟨D,v0,v,adds,cons,S2,hD,g2,g3,g4,g8,g9,g10,h⟩:=NC hΘ hY hS hn hfb'.1 hfb'.2 h;simp only[hfb,dG] at h;obtain⟨hc,h⟩:=eB h;obtain⟨S3,g5,g6,g7,h⟩:=kL g9 g10 h
     have hst:lK P n0 S.st o S3.st:=lK.new hD hok hn g2 (by rw[g4,g3];exact g5) hn0 λha r hr=>by
      rw[ha,cr] at hc;have e:gone 0 S.gh S2.gh=cons:=congrArg jv.cons g8
      simp_all
     exact glue (λ_=>aP hn0 hst.ng) g6 h (.inl ⟨hv,hst⟩)
  |false=>rw[hn] at h;simp only[cond_false] at h;obtain⟨hp,h⟩:=eB h;obtain⟨v,S2,m1,m2,m3,m4,m5,h⟩:=Bd (D:=S7) hΘ hS h;obtain⟨S3,g5,g6,g7,h⟩:=kL m3 (by rw[m4];exact m5) h;refine glue (λ_=>by rw[g7,m4];exact hn0) g6 h (.inr (.inl ⟨by simp[wA,hs,hn],hok,v.av,m1,hp,by rw[<-m2];exact g5⟩))
theorem TO[eg](hΘ:gz P Θ)(hY:lM P Y)(hm:P.follows .mixedOrders=true){id:Nat}{ops:Array Oper}(hok:mB P (.region id ops true)=true)(hS:S.ok){κ:TS->Option ρ}{r:ρ}(h:Wr Θ Y ops.toList S κ=some r):
  qV P (.region id ops true) S.st (λx S'=>x= .nor/\ ∃S1:TS,S'=S1.st/\S1.ok/\κ S1=some r):=by
 unfold Wr at h;simp only[mB] at hok;cases hc:Jr ops||(ops.toList.any (Yr Y)&&U1 ops) with
 |true=>
  rw[show (Jr ops.toList.toArray||(ops.toList.any (Yr Y)&&U1 ops.toList.toArray))=true from hc] at h;simp only[cond_true] at h
  have hph:U1 ops=true:=by
   unfold Jr at hc;simp only[bW,al] at hc;rcases hc with hc|hc
   ·exact hc.2
   ·exact hc.2
  obtain⟨T,S',t1,t2,h2,h3,hT⟩:=TN hΘ hY ops.toList 0 S κ r (λo ho=>aA.1 hok o ho) (λ_=>au _) hS h;have hsz:ops.toList.length=ops.size:=by simp
  rw[aK,hsz] at t2;have tl: ∀ {i:Nat} {o:Oper},ops[i]? =some o->ops.toList[i]? =some o:=by intro i o h;simpa using h
  by_cases hl: ∃o,ops[ops.size-1]? =some o/\ ¬Gr P S.st.ng ops.toList (gp ops.toList) T (ops.size-1) o
  ·obtain⟨o,ho,hnp⟩:=hl;have hlt:=(aG.1 ho).1;refine qV.phase hm (Js hph) T t1 (m:=ops.size-1) (.inr ⟨by omega,o,ho,?_⟩) (λi o hi ho=> ?_) ⟨rfl,S',t2,h2,h3⟩
   ·have:=hT _ o (tl ho);rw[aK] at this;rcases this with h|h
    ·exact absurd h hnp
    ·exact⟨h.2.1,h.2.2.1,h.2.2.2⟩
   ·have:=hT _ o (tl ho);rw[aK] at this;rcases this with h|h
    ·exact h
    ·omega
  ·refine qV.phase hm (Js hph) T t1 (m:=ops.size) (.inl rfl) (λi o hi ho=> ?_) ⟨rfl,S',t2,h2,h3⟩;have:=hT _ o (tl ho);rw[aK] at this;rcases this with h|h
   ·exact h
   grind
 |false=>
 rw[show (Jr ops.toList.toArray||(ops.toList.any (Yr Y)&&U1 ops.toList.toArray))=false from hc] at h;simp only[cond_false] at h;obtain⟨hd,h⟩:=eB h;have hd:M7 ops=true:=hd;obtain⟨S0,h0,hS0,h⟩:=TM hΘ _ _ _ _ hS h;obtain⟨D,SV,ms,h1,h2,h3,h4⟩:=TK hΘ hY _ _ _ _ _ hS0 h;obtain⟨h5,h6⟩:=eB h4;rw[be] at h5;obtain⟨S',h7,h8,h9⟩:=TL (D:=D) (ops:=ops) hΘ hY _ _ _ _ h3 h6;exact qV.draw h1 hm (by unfold Dr;rw[hd,hok];rfl) h0 h2 (O1 (ND hΘ) h5) h7 ⟨rfl,S',rfl,h8,h9⟩
def fV:Code->List Code
 | .seq a b=>fV a++fV b
 | .cond _ a b=>fV a++fV b
 | .block _ c=>fV c
 | .loop c=> [c]
 | _=> []
def i5[eg](P:Program)(Λ:ow)(cs:List Code):Prop:=∀c∈cs,∀ (S:TS) (ρ:Type) (κ:X->TS->Option ρ) (r:ρ),S.ok->Λ (gC c) S ρ κ=some r->qV P (.loop c) S.st (λx S'=> ∃S1:TS,S'=S1.st/\S1.ok/\κ x S1=some r)
theorem HH[eg](hΘ:gz P Θ)(hY:lM P Y)(hm:P.follows .mixedOrders=true){Λ:ow}: ∀ (c:Code) (S:TS) (κ:X->TS->Option ρ) (r:ρ),mB P c=true->i5 P Λ (fV c)->S.ok->Ba Θ Y Λ c S κ=some r->
  qV P c S.st (λx S'=> ∃S1:TS,S'=S1.st/\S1.ok/\κ x S1=some r):=by
 intro c
 induction c with
 |skip=>intro S κ r _ _ hS h;exact qV.skip ⟨S,rfl,hS,h⟩
 |exit i=>intro S κ r _ _ hS h;exact qV.exit ⟨S,rfl,hS,h⟩
 |ret=>intro S κ r _ _ hS h;exact qV.ret ⟨S,rfl,hS,h⟩
 |region id ops dr=>
  intro S κ r hok _ hS h;cases dr with
  |false=>exact qV.region (TE hΘ hY _ _ _ _ (λo ho=>aA.1 hok o ho) hS h)
  |true=>refine (TO hΘ hY hm hok hS h).mono (λx S' hx=> ?_);obtain⟨rfl,hx⟩:=hx;exact⟨S',qz.refl,hx⟩
 |seq a b iha ihb=>
  intro S κ r hok hL hS h;simp only[mB,al] at hok;have hLa:i5 P Λ (fV a):=λc hc=>hL c (cw _ hc);have hLb:i5 P Λ (fV b):=λc hc=>hL c (dL _ hc);unfold Ba at h;refine qV.seq ((iha S _ r hok.1 hLa hS h).mono (λx S' hx=>⟨S',qz.refl,?_⟩))
  grind
 |cond t a b iha ihb=>
  intro S κ r hok hL hS h;simp only[mB,al] at hok
  grind [i5,fV,Ba,DT,qV.cond]
 |block i c ih=>
  intro S κ r hok hL hS h;unfold Ba at h;refine qV.block ((ih S _ r hok hL hS h).mono (λx S' hx=>⟨S',qz.refl,?_⟩));obtain⟨S1,rfl,h1,h2⟩:=hx;cases x with
  |nor=>exact⟨S1,rfl,h1,h2⟩
  |ret=>exact⟨S1,rfl,h1,h2⟩
  |ext j=>
   simp only at h2 ⊢;cases hb:Nat.beq j i with
   |true=>rw[hb] at h2;rw[if_pos (an hb)];exact⟨S1,rfl,h1,h2⟩
   |false=>rw[hb] at h2;rw[if_neg (by grind [Nat.beq_refl])];exact⟨S1,rfl,h1,h2⟩
 |loop c ih=>intro S κ r hok hL hS h;exact hL c (aD.2 rfl) S ρ κ r hS h
 | _=>intro S κ r hok;cases hok
end
end
section
open Go
section
variable {ρ:Type} {P:Program} {Θ:n8} {S:TS} {Y:zh}
theorem HI(hS:S.ok){gs:List eU}{et:Option Ty}{c:Cl}(hc:c.ok S.gh){κ:Cl->List eU->TS->Option ρ}{r:ρ}(h:Qt S gs et c κ=some r):
  ∃c' gs' S',yR S.st (gs.map eU.tree) (JW et) c.av=some (Cl.av c',gs'.map eU.tree,TS.st S')/\S'.ok/\ji S.gh S'.gh/\ji (gs.map some) (gs'.map some)/\c'.ok (gs'.map some)/\κ c' gs' S'=some r:=by
 have new: ∀ (t:Ty) (l:List t.D) (n:Nat),n=l.length->(Cl.own ⟨gs.length,[]⟩ t.width 0 n true).ok ((gs++ [(⟨t,l,none⟩:eU)]).map some):=by intro t l n hn;refine⟨by simp,λ_=>⟨rfl,rfl,λtr htr=> ?_⟩⟩;rw[ce] at htr;have e:=lL (G:=gs.map some) (x:=some (⟨t,l,none⟩:eU)) gs.length;simp only[aJ,if_true] at e;have htr':f9 (gs.map some++ [some (⟨t,l,none⟩:eU)]) gs.length=some tr:=htr;rw[e] at htr';cases htr';exact hn
 have grow: ∀ (x:eU),ji (gs.map some) ((gs++ [x]).map some):=λx=>by rw[ce];exact ji.app _ _
 unfold Qt at h;split at h
 ·refine⟨_,_,_,rfl,hS,ji.refl _,ji.refl _,?_,h⟩;trivial
 ·rename_i t;refine⟨_,_,S,?_,hS,ji.refl _,grow _,new t [] 0 rfl,h⟩;simp only[Cl.av,yR,JW,aJ,ce,aY,cF];rfl
 ·rename_i p sz lo len w t';obtain⟨pr,pl⟩:=p;cases pl with
  |cons a l=>cases h
  |nil=>
   simp only at h;obtain⟨h1,h'⟩:=eB h;clear h;simp only[al] at h1;have h2:S.fz<=pr:=ar h1.1;have h3:t'.width=sz:=an h1.2;obtain⟨t,l,k1,k2,h⟩:=ij h';obtain⟨k3,h⟩:=eB h;have k3:t.width=sz:=an k3
   have fin0: ∀ (lo len:Nat),lo+len<=l.length->(lo=0\/sz<=3/\t.flatB=true)->yR S.st (gs.map eU.tree) (JW (some t')) (.own ⟨pr,[]⟩ sz lo len)=some (.own ⟨gs.length,[]⟩ sz 0 len,(gs++ [(⟨t,(l.drop lo).take len,none⟩:eU)]).map eU.tree,({ S with gh:=fR S.gh pr none }:TS).st):=by
    intro lo len hlen hoff;simp only[yR];have hrows:S.st.rows ⟨pr,[]⟩ sz=some (l.map t.row):=by rw[<-k3];exact lB k1
    rw[if_pos ⟨trivial,by show sz=t'.width;exact h3.symm,h2⟩,hrows];simp only[ae,aJ];rw[if_pos ⟨hlen,hoff.imp id λh=>⟨h.1,uk h.2 l⟩⟩,z0];simp only[JW,h3,ce,aY,cF,eU.tree,cB,cX,k3]
   have fin: ∀ (len:Nat),len<=l.length->yR S.st (gs.map eU.tree) (JW (some t')) (.own ⟨pr,[]⟩ sz 0 len)=some (.own ⟨gs.length,[]⟩ sz 0 len,(gs++ [(⟨t,l.take len,none⟩:eU)]).map eU.tree,({ S with gh:=fR S.gh pr none }:TS).st):=λlen hlen=>by
    have:=fin0 0 len (by omega) (.inl rfl)
    rwa [bM] at this
   cases w with
   |true=>
    obtain⟨e1,e2,e3⟩:=wD hc k2;refine⟨_,_,_,?_,TS.ok_gh hS (ji.gone _ _),ji.gone _ _,grow _,by rw[<-k3];exact new t l _ rfl,h⟩
    simp_all [Cl.av]
   |false=>
    simp only[cond_false] at h;rcases Tl h with ⟨h4,h⟩| ⟨_,h⟩
    case inr=>
     obtain⟨hz,h⟩:=eB h;simp only[al] at hz;obtain⟨h4,h⟩:=fy h;refine⟨_,_,_,?_,TS.ok_gh hS (ji.gone _ _),ji.gone _ _,grow _,by rw[<-k3];exact new t ((l.drop lo).take len) _ rfl,h⟩;have:=fin0 lo len h4 (.inr ⟨ar hz.2,hz.1⟩);have hl: ((l.drop lo).take len).length=len:=by simp;omega
     simp only[Cl.av];rw[hl];exact this
    case inl=>
     refine⟨_,_,_,?_,TS.ok_gh hS (ji.gone _ _),ji.gone _ _,grow _,by rw[<-k3];exact new t (l.take len) _ rfl,h⟩
     grind [Cl.av]
 ·rename_i p sz i j;obtain⟨pr,pl⟩:=p;cases pl with
  |cons a l=>cases h
  |nil=>
   simp only at h;obtain⟨h1,h'⟩:=eB h;clear h;obtain⟨t,l,k1,k2,h⟩:=ij h';obtain⟨k3,h⟩:=eB h;have k3:t.width=sz:=an k3;have hrows:S.st.rows ⟨pr,[]⟩ sz=some (l.map t.row):=by rw[<-k3];exact lB k1
   refine⟨_,_,_,?_,TS.ok_gh hS (ji.gone _ _),ji.gone _ _,grow _,?_,h⟩
   ·simp only[Cl.av,yR];rw[if_pos ⟨trivial,ar h1⟩,hrows];simp only[ae,z0,aJ,ce,aY,cF,eU.tree,k3]
   ·show gs.length< ((gs++ [(⟨t,l,none⟩:eU)]).map some).length;simp
 ·cases h
theorem QW: ∀ (ets:List (Option Ty)) (cs:List Cl) (S:TS) (gs:List eU) (κ:List Cl->List eU->TS->Option ρ) (r:ρ),S.ok->(∀c∈cs,c.ok S.gh)->Nl S gs ets cs κ=some r->
  ∃cs' gs' S',vd S.st (gs.map eU.tree) (ets.map JW) (cs.map Cl.av)=some (cs'.map Cl.av,gs'.map eU.tree,TS.st S')/\S'.ok/\ji S.gh S'.gh/\ji (gs.map some) (gs'.map some)/\(∀c∈cs',c.ok (gs'.map some))/\κ cs' gs' S'=some r:=by
 intro ets
 induction ets with
 |nil=>
  intro cs S gs κ r hS hcs h;cases cs with
  |nil=>exact⟨[],gs,S,rfl,hS,ji.refl _,ji.refl _,(λc hc=>by cases hc),h⟩
  |cons c cs=>cases h
 |cons et ets ih=>
  intro cs S gs κ r hS hcs h;cases cs with
  |nil=>cases h
  |cons c cs=>
   unfold Nl at h;obtain⟨c',g1,S1,h1,h2,h3,h4,h5,h⟩:=HI hS (hcs c aF) h;obtain⟨cs',g2,S2,k1,k2,k3,k4,k5,h⟩:=ih cs S1 g1 _ r h2 (λx hx=>Cl.ok_mono h3 (hcs x (aO _ hx))) h;refine⟨c'::cs',g2,S2,?_,k2,h3.trans k3,h4.trans k4,λx hx=> ?_,h⟩
   ·simp only[aY,vd,h1,ae,k1,aI]
   ·rcases aV.1 hx with rfl|hx
    all_goals grind [Cl.ok_mono]
theorem TP(hΘ:gz P Θ)(hS:S.ok){gs:List eU}{t:TypeId}{v:V}(hv:v.ok S.gh){κ:V1->List eU->TS->Option ρ}{r:ρ}(h:Ws Θ S gs t v κ=some r):
  ∃v' gs' S',Ou P S.st (gs.map eU.tree) t v.av=some (V1.av v',gs'.map eU.tree,TS.st S')/\S'.ok/\ji S.gh S'.gh/\ji (gs.map some) (gs'.map some)/\v'.ok (gs'.map some)/\κ v' gs' S'=some r:=by
 unfold Ws at h;split at h
 ·rename_i p sz i j;obtain⟨c',g1,S1,h1,h2,h3,h4,h5,h⟩:=HI hS (show Cl.ok S.gh (.ptrT p sz i j) from hv) h;exact⟨.cl c',g1,S1,h1,h2,h3,h4,h5,h⟩
 split at h
 ·cases h
 ·rename_i ti hti;have hsh:=(hΘ _ _ hti).sh;split at h
  ·rename_i cs _;obtain⟨cs',g1,S1,h1,h2,h3,h4,h5,h⟩:=QW _ _ _ _ _ _ hS hv h;refine⟨.agg cs',g1,S1,?_,h2,h3,h4,h5,h⟩;simp only[V.av,V1.av,Ou,hsh];rw[show ti.ty.shs=ti.ty.csh.map JW from rfl,h1];rfl
  ·rename_i c _;obtain⟨c',g1,S1,h1,h2,h3,h4,h5,h⟩:=HI hS hv h;refine⟨.cl c',g1,S1,?_,h2,h3,h4,h5,h⟩
   have e:Ou P S.st (gs.map eU.tree) t (V.v (.cl c)).av=yR S.st (gs.map eU.tree) ((oH P 9 t).headD 0) c.av:=by
    cases c with
    |c x=>cases x<;>rfl
    | _=>rfl
   rw[e,hsh]
   have e2:ti.ty.shs.headD 0=JW (ti.ty.csh.headD none):=by
    unfold Ty.shs;cases ti.ty.csh with
    |nil=>rfl
    |cons a l=>cases a<;>rfl
   rw[e2];exact h1
  ·cases h
theorem QX(hΘ:gz P Θ): ∀ (rs:List (TypeId×V)) (S:TS) (gs:List eU) (κ:List V1->List eU->Option ρ) (r:ρ),S.ok->(∀x∈rs,x.2.ok S.gh)->JO Θ S gs rs κ=some r->
  ∃vs gs',Ll P S.st (gs.map eU.tree) (rs.map λx=>(x.1,x.2.av))=some (vs.map V1.av,gs'.map eU.tree)/\ji (gs.map some) (gs'.map some)/\(∀v∈vs,v.ok (gs'.map some))/\vs.length=rs.length/\κ vs gs'=some r:=by
 intro rs
 induction rs with
 |nil=>intro S gs κ r hS hrs h;exact⟨[],gs,rfl,ji.refl _,(λv hv=>by cases hv),rfl,h⟩
 |cons x rs ih=>
  intro S gs κ r hS hrs h;obtain⟨t,v⟩:=x;unfold JO at h;obtain⟨v',g1,S1,h1,h2,h3,h4,h5,h⟩:=TP hΘ hS (hrs _ aF) h;obtain⟨vs,g2,k1,k2,k3,k4,h⟩:=ih S1 g1 _ r h2 (λx hx=>V.ok_mono h3 (hrs x (aO _ hx))) h;refine⟨v'::vs,g2,?_,h4.trans k2,λy hy=> ?_,by simp[k4],h⟩
  ·simp only[aY,Ll,h1,ae,k1,aI]
  ·rcases aV.1 hy with rfl|hy
   all_goals grind [V1.ok_mono]
theorem TQ(hΘ:gz P Θ)(hS:S.ok): ∀ (rs:List ResultVar) (ts:List TypeId) (κ:List (TypeId×V)->Option ρ) (r:ρ),LW Θ S rs ts κ=some r->
  ∃l:List (TypeId×V),rs.mapM (B5 P S.st)=some (l.map λx=>x.2.av)/\l.map (·.1)=ts/\(∀x∈l,x.2.ok S.gh)/\κ l=some r:=by
 intro rs
 induction rs with
 |nil=>
  intro ts κ r h;cases ts with
  |nil=>exact⟨[],rfl,rfl,(λx hx=>by cases hx),h⟩
  |cons t ts=>cases h
 |cons a rs ih=>
  intro ts κ r h;cases ts with
  |nil=>cases a<;>cases h
  |cons t ts=>
   cases a with
   |tmp a=>
    unfold LW at h;obtain⟨l,h1,h2,h3,h⟩:=ih ts _ r h;refine⟨(t,jE S.env a)::l,?_,by simp[h2],λx hx=> ?_,h⟩
    ·simp only[c9,h1,B5];rfl
    ·rcases aV.1 hx with rfl|hx
     all_goals grind [C8]
   |cell a t'=>
    unfold LW at h
    have hw:0<P.cellsOf t':=by
     have h':=h;unfold JE at h';split at h'
     ·rename_i ti hti;rw[(hΘ _ _ hti).cells];exact Ty.width_pos _
     ·cases h'
    obtain⟨u,g1,g2,h⟩:=JS hΘ hS (C8 hS a) h;obtain⟨l,h1,h2,h3,h⟩:=ih ts _ r h;refine⟨(t,u)::l,?_,by simp[h2],λx hx=> ?_,h⟩
    ·simp only[c9,h1,B5];rw[if_pos hw];have :load P S.st t' (S.st.env a)=some u.av:=g1;rw[this];rfl
    grind
theorem TR{α β γ:Type}(f:α×β->γ): ∀l:List (α×β),(l.map (·.1)).zip (l.map f)=l.map λx=>(x.1,f x)
 | [] =>rfl
 |a::l=>by grind
theorem TT(vs:List V1): (HA vs).av=Xm (vs.map V1.av):=by
 match vs with
 | [] =>rfl
 | [v] =>rfl
 |v::u::vs=>rfl
theorem Eb: ∀ (args:List V1) (n t:Nat),(jE (sf n args) (n+t)).av=(args.map V1.av).getD t .dead
 | [],n,t=>by simp[sf,jE];rfl
 |a::l,n,0=>by simp[sf,jE];rfl
 |a::l,n,t+1=>by
  have :Nat.beq n (n+(t+1))=false:=by
   cases h:Nat.beq n (n+(t+1)) with
   |false=>rfl
   |true=>have:=an h;omega
  simp only[sf,jE,this,cond_false];rw[show n+(t+1)=(n+1)+t by omega,Eb l (n+1) t];simp
theorem Ec: ∀ (args:List V1) (n:Nat) (x:Nat×V),x∈sf n args-> ∃a∈args,x.2= .v a
 | [],n,x,h=>by cases h
 |a::l,n,x,h=>by
  simp only[sf,aV] at h;rcases h with rfl|h
  ·exact⟨a,aF,rfl⟩
  ·obtain⟨b,hb,he⟩:=Ec l (n+1) x h;exact⟨b,aO _ hb,he⟩
theorem J8(a:List V1)(t:Nat): (jE (sf 0 a) t).av=(a.map V1.av).getD t .dead:=by
 have:=Eb a 0 t
 rwa [aK] at this
theorem L6(_P:Program)(S:TS): ∀ (n r:Nat) (gs:List eU),xH S r n=some gs->((List.range' r n).map λr=>(S.st.gh r).getD .dd)=gs.map eU.tree:=by
 intro n
 induction n with
 |zero=>simp_all [xH]
 |succ n ih=>
  intro r gs h;simp only[xH] at h;split at h
  ·rename_i t l hg;split at h
   ·rename_i ts hts;simp only[af] at h;subst h;rw[cL,aY,aY,ih _ _ hts]
    congr 1
    show ((f9 S.gh r).map eU.tree).getD .dd=_;rw[hg];rfl
   ·cases h
  ·cases h
theorem L7[eg](hΘ:gz P Θ)(hY:lM P Y)(hm:P.follows .mixedOrders=true){Λ:ow}{f:FuncId}{fn:Func}(hf:Gs P f=some fn)(hL: ∀c,fn.body=some c->i5 P Λ (fV c)){args:List V1}{G:List eU}{m:Nat}(hmG:m<=G.length)(ha: ∀a∈args,a.ok (G.map some)){res:V}{out:List eU}
  (h:Xu Θ Y Λ fn args G m (λv g=>some (v,g))=some (res,out)):jk P f (args.map V1.av) (G.map eU.tree) m res.av (out.map eU.tree):=by
 unfold Xu at h;split at h
 ·cases h
 ·rename_i c hc
  have hcok:mB P c=true:=by
   unfold Gs at hf;simp only[ai] at hf;obtain⟨fn',g1,g2⟩:=hf;split at g2
   ·cases g2
   ·grind
  have hS0: ({ env:=sf 0 args,bx:=[],gh:=G.map some,fz:=m,nt:=args.length+(fn.ntmps-args.length) }:TS).ok:=
   ⟨λx hx=>by obtain⟨a,h1,h2⟩:=Ec _ _ _ hx;rw[h2];exact ha a h1,λcs hcs=>by cases hcs⟩
  have hbeg: ({ env:=sf 0 args,bx:=[],gh:=G.map some,fz:=m,nt:=args.length+(fn.ntmps-args.length) }:TS).st=OK fn.ntmps (args.map V1.av) (G.map eU.tree) m:=by
   unfold TS.st OK Wh;simp only[aJ,ck]
   congr 1
   ·funext t
    exact J8 _ t
   ·funext r
    show (f9 (G.map some) r).map eU.tree=(G.map eU.tree)[r]?;unfold f9;rw[gy,aq,aq];cases G[r]?<;>rfl
  have hW:=HH hΘ hY hm c _ _ _ hcok (hL c hc) hS0 h;rw[hbeg] at hW
  have main: ∀ (S1:TS),S1.ok->(LW Θ S1 fn.results.toList fn.resultTypes.toList λrs=>match xH S1 0 m with
    |some gs=>JO Θ S1 gs rs λvs gs'=>some (HA vs,gs')
    |none=>none)=some (res,out)->Qa P fn.results.toList fn.resultTypes.toList m S1.st=some (res.av,out.map eU.tree):=by
   intro S1 hS1 h0;obtain⟨l,h1,h2,h3,h⟩:=TQ (P:=P) hΘ hS1 _ _ _ _ h0;clear h0;split at h
   ·rename_i gs hgs;have hgs:=L6 P S1 m 0 gs hgs;obtain⟨vs,gs',k1,k2,k3,k4,h⟩:=QX (P:=P) hΘ _ _ _ _ _ hS1 h3 h;simp only[af,ao] at h;obtain⟨rfl,rfl⟩:=h;unfold Qa;rw[h1];simp only[ae,aJ]
    have hz: (fn.resultTypes.toList.zip (l.map λx=>x.2.av))=l.map λx=>(x.1,x.2.av):=by rw[<-h2];exact TR _ l
    rw[if_pos (by rw[<-h2];simp),hz,ct,hgs,k1];simp only[aI,TT]
   ·cases h
  refine Jv hf hc (by simpa using hmG) (hW.mono (λx S' hx=>⟨S',qz.refl,?_⟩))
  grind
theorem QY{G:List (Option eU)}{a:V1}(h:a.ok []):a.ok G:=V1.ok_mono (G:=[]) ⟨aB _,λr tr hr=>by cases hr⟩ h
theorem QZ[eg](hΘ:gz P Θ)(hY:lM P Y)(hm:P.follows .mixedOrders=true){Λ:ow}{f:FuncId}{fn:Func}(hf:Gs P f=some fn)(hL: ∀c,fn.body=some c->i5 P Λ (fV c)){args:List V1}(ha: ∀a∈args,a.ok []){res:V}{out:List eU}
  (h:Xh Θ Y Λ fn args (λv g=>some (v,g))=some (res,out)):qT P f (args.map V1.av) [] res.av (out.map eU.tree):=L7 hΘ hY hm hf hL (aB 0) ha h
theorem NE[eg](hΘ:gz P Θ)(hY:lM P Y)(hm:P.follows .mixedOrders=true){Λ:ow}{f:FuncId}{fn:Func}(hf:Gs P f=some fn)(hL: ∀c,fn.body=some c->i5 P Λ (fV c)){m:Nat}(hm1:m<=1){el:Ty}{l:List el.D}{args:List V1}(ha: ∀a∈args,a.ok []){res:V}{out:List eU}
  (h:Qu Θ Y Λ fn m el l args (λv g=>some (v,g))=some (res,out)):jk P f (.own ⟨0,[]⟩ el.width 0 l.length::args.map V1.av) [.sl el.width (l.map el.row)] m res.av (out.map eU.tree):=
 L7 hΘ hY hm hf hL (args:=.cl (.own ⟨0,[]⟩ el.width 0 l.length true)::args) (G:=[⟨el,l,none⟩]) hm1 (dW.2 ⟨⟨cR,λ_=>⟨rfl,rfl,λtr htr=>by have htr:some (⟨el,l,none⟩:eU)=some tr:=htr;cases htr;rfl⟩⟩,λa h=>QY (ha a h)⟩) h
theorem TU[eg](hΘ:gz P Θ)(hY:lM P Y)(hm:P.follows .mixedOrders=true){Λ:ow}{f:FuncId}{fn:Func}(hf:Gs P f=some fn)(hL: ∀c,fn.body=some c->i5 P Λ (fV c)){el:Ty}{l:List el.D}{args:List V1}(ha: ∀a∈args,a.ok []){res:V}{out:List eU}
  (h:Wu Θ Y Λ fn el l args (λv g=>some (v,g))=some (res,out)):jk P f (.ptrT ⟨0,[]⟩ el.width 0 0::args.map V1.av) [.sl el.width (l.map el.row)] 1 res.av (out.map eU.tree):=
 L7 hΘ hY hm hf hL (args:=.cl (.ptrT ⟨0,[]⟩ el.width 0 0)::args) (G:=[⟨el,l,none⟩]) (au 1) (dW.2 ⟨cR,λa h=>QY (ha a h)⟩) h
end
end
section
open Go
def CG:List Nat->Nat->Nat->Option Nat
 | [],_,_=>none
 |a::l,x,n=>bif Nat.beq a x then some n else CG l x (n+1)
def zn(bs ls:List Nat):Cl->Cl
 | .own p sz lo len w=>match CG ls p.r 0 with |some k=> .own ⟨k,p.l⟩ sz lo len w|none=> .dead
 | .ptrT p sz i j=>match CG ls p.r 0 with |some k=> .ptrT ⟨k,p.l⟩ sz i j|none=> .dead
 | .ptrB n j=>match CG bs n 0 with |some k=> .ptrB k j|none=> .dead
 |c=>c
def Q0(bs ls:List Nat):V1->V1
 | .cl c=> .cl (zn bs ls c)
 | .agg cs=> .agg (cs.map (zn bs ls))
 | .fn f cs=> .fn f (cs.map (zn bs ls))
def Q1(bs ls:List Nat):V->V
 | .v x=> .v (Q0 bs ls x)
 | .tup _=>V.dead
def NF:List Nat->List Nat->List Nat
 | [],acc=>acc
 |a::l,acc=>match CG acc a 0 with |some _=>NF l acc|none=>NF l (acc++ [a])
def Ed:List Nat->Bool
 | [] =>true
 |a::l=>(match CG l a 0 with |some _=>false|none=>true)&&Ed l
def YD:Cl->List Nat| .ptrB n _=> [n] | _=> []
def Xy:Cl->List Nat| .own p _ _ _ _=> [p.r] | .ptrT p _ _ _=> [p.r] | _=> []
def V1.all:V1->List Cl| .cl c=> [c] | .agg cs=>cs| .fn _ cs=>cs
def V.all:V->List Cl| .v x=>x.all| .tup _=> []
def NG(S:TS)(keep:List Nat):List Nat:=NF (keep.flatMap λt=>(jE S.env t).all.flatMap YD) []
def U5(S:TS)(keep bs:List Nat):List Nat:=NF (List.range S.fz++(keep.flatMap λt=>(jE S.env t).all.flatMap Xy)++bs.flatMap λb=>((pF S.bx b).getD []).flatMap Xy) []
def jU(S:TS)(keep bs ls:List Nat):TS where
 env:=keep.map λt=>(t,Q1 bs ls (jE S.env t))
 bx:=bs.map λb=>((pF S.bx b).getD []).map (zn bs ls)
 gh:=ls.map λr=>f9 S.gh r
 fz:=S.fz
 nt:=S.nt
def HJ(S:TS)(bs ls:List Nat):Bool:=Ed bs&&Ed ls&&bs.all (λb=>Nat.blt b S.bx.length)&&Xp (ls.take S.fz) (List.range S.fz)&&ls.all (λr=>Nat.blt r S.gh.length)
def O3(G:List (Option eU)):Cl->Cl
 | .own p sz lo len true=> .own p sz lo (match pF G p.r with |some (some tr)=>tr.l.length| _=>len) true
 |c=>c
def Q3(G:List (Option eU)):V1->V1
 | .cl c=> .cl (O3 G c)
 | .agg cs=> .agg (cs.map (O3 G))
 | .fn f cs=> .fn f (cs.map (O3 G))
def Xz(G:List (Option eU)):V->V
 | .v x=> .v (Q3 G x)
 | .tup l=> .tup (l.map (Q3 G))
def Ww(S:TS):TS:={ S with env:=S.env.map (λx=>(x.1,Xz S.gh x.2)),bx:=S.bx.map (λcs=>cs.map (O3 S.gh)) }
def Bg{ρ:Type}(keep:List Nat)(S:TS)(κ:TS->Option ρ):Option ρ:=bif HJ S (NG S keep) (U5 S keep (NG S keep)) then κ (Ww (jU S keep (NG S keep) (U5 S keep (NG S keep)))) else none
theorem Bh: ∀ {l:List Nat} {x n k:Nat},CG l x n=some k->n<=k/\l[k-n]? =some x
 | [],x,n,k,h=>by cases h
 |a::l,x,n,k,h=>by
  simp only[CG] at h;cases hb:Nat.beq a x with
  |true=>simp_all
  |false=>
   rw[hb] at h;obtain⟨h1,h2⟩:=Bh (l:=l) h
   grind
theorem GG: ∀ {l:List Nat} {x n:Nat},CG l x n=none->x∉l
 | [],x,n,_=>by simp
 |a::l,x,n,h=>by
  simp only[CG] at h;cases hb:Nat.beq a x with
  |true=>rw[hb] at h;cases h
  |false=>
   rw[hb] at h;have:=GG (l:=l) h;intro hm
   simp_all
theorem zo: ∀ {l:List Nat},Ed l=true-> ∀ (i j x:Nat),l[i]? =some x->l[j]? =some x->i=j
 | [],_,i,j,x,hi,_=>by simp at hi
 |a::l,h,i,j,x,hi,hj=>by
  simp only[Ed,al] at h
  have hna:a∉l:=by
   have h1:=h.1;split at h1
   ·cases h1
   ·rename_i hp;exact GG hp
  cases i with
  |zero=>
   simp only[aQ,af] at hi;subst hi;cases j with
   |zero=>rfl
   |succ j=>simp only[cJ] at hj;exact absurd (ap hj) hna
  |succ i=>
   simp only[cJ] at hi;cases j with
   |zero=>simp only[aQ,af] at hj;subst hj;exact absurd (ap hi) hna
   |succ j=>simp only[cJ] at hj;rw[zo h.2 i j x hi hj]
def Bt.ren(bt:Bt)(bs ls:List Nat):Bt where
 β:=λp=>bt.β ⟨ls.getD p.r 0,p.l⟩
 κ:=λp=>bt.κ ⟨ls.getD p.r 0,p.l⟩
 bb:=λn=>bt.bb (bs.getD n 0)
 nb:=bs.length
 ng:=ls.length
 A:=bt.A
theorem HK{w:World}{bt:Bt}{bs ls:List Nat}{c:Cl}{u:Value}(h:VR w bt c.av u):VR w (bt.ren bs ls) (zn bs ls c).av u:=by
 have lt: ∀ {l:List Nat} {x k:Nat},CG l x 0=some k->k<l.length/\l.getD k 0=x:=by intro l x k hk;obtain⟨_,h2⟩:=Bh hk;rw[cO] at h2;exact⟨(aj.1 h2).1,by simp[aE,h2]⟩
 cases c with
 |c x=>
  cases x with
  |sc v=>cases h with |sc h=>exact .sc h
  |ls t l=>cases h with |ro h=>exact .ro h
 |em=>cases h with |em a=>exact .em a
 |own p sz lo len wh=>
  simp only[zn];split
  ·rename_i k hk;obtain⟨h1,h2⟩:=lt hk;have hp: (⟨ls.getD k 0,p.l⟩:fo)=p:=by rw[h2]
   have e1: (bt.ren bs ls).κ ⟨k,p.l⟩=bt.κ p:=by have e: (bt.ren bs ls).κ ⟨k,p.l⟩=bt.κ (fo.mk (ls.getD k 0) p.l):=rfl;rw[e,hp]
   have e2: (bt.ren bs ls).β ⟨k,p.l⟩=bt.β p:=by have e: (bt.ren bs ls).β ⟨k,p.l⟩=bt.β (fo.mk (ls.getD k 0) p.l):=rfl;rw[e,hp]
   cases h with
   |own hp' hc hkk ha=>exact .own h1 hc (by rw[e1];exact hkk) (by rw[e2];exact ha)
  ·exact .dead _
 |pro cs=>cases h with |pro cs hs hA hr ht=>exact .pro cs hs hA hr ht
 |ptrB n j=>
  simp only[zn];split
  ·rename_i k hk;obtain⟨h1,h2⟩:=lt hk;cases h with
   |ptrB j hn=>
    have :bt.bb n=(bt.ren bs ls).bb k:=by show bt.bb n=bt.bb (bs.getD k 0);rw[h2]
    rw[this];exact .ptrB j h1
  ·exact .dead _
 |ptrT p sz i j=>
  simp only[zn];split
  ·rename_i k hk;obtain⟨h1,h2⟩:=lt hk;have hp: (⟨ls.getD k 0,p.l⟩:fo)=p:=by rw[h2]
   cases h with
   |ptrT sz i j hp' hkk=>
    have e1:bt.β p=(bt.ren bs ls).β ⟨k,p.l⟩:=by show bt.β p=bt.β ⟨ls.getD k 0,p.l⟩;rw[hp]
    rw[e1];exact .ptrT sz i j h1 (by show _<bt.κ ⟨ls.getD k 0,p.l⟩;rw[hp];exact hkk)
  ·exact .dead _
 |dead=>exact .dead _
theorem Q4{w:World}{bt:Bt}{bs ls:List Nat}{v:V1}{u:Value}(h:VR w bt v.av u):VR w (bt.ren bs ls) (Q0 bs ls v).av u:=by
 have cells: ∀ (cs:List Cl) (us:List Value),us.length=cs.length->(∀ (k:Nat) (c:AV) (u:Value),(cs.map Cl.av)[k]? =some c->us[k]? =some u->VR w bt c u)-> ∀ (k:Nat) (c:AV) (u:Value),((cs.map (zn bs ls)).map Cl.av)[k]? =some c->us[k]? =some u->VR w (bt.ren bs ls) c u:=by intro cs us _ hr k c u hk hu;rw[aq,aq] at hk;simp only[ak] at hk;obtain⟨c1,⟨c0,hc0,rfl⟩,rfl⟩:=hk;exact HK (hr k c0.av u (by rw[aq,hc0];rfl) hu)
 cases v with
 |cl c=>exact HK h
 |agg cs=>
  simp only[V1.av] at h;cases h with
  |agg hl ho hr=>exact .agg (by simpa using hl) ho (cells cs _ (by simpa using hl) hr)
 |fn f cs=>
  simp only[V1.av] at h;cases h with
  |fn f hl hr=>exact .fn f (by simpa using hl) (cells cs _ (by simpa using hl) hr)
theorem TV{w:World}{bt:Bt}{bs ls:List Nat}{v:V}{u:Value}(h:VR w bt v.av u):VR w (bt.ren bs ls) (Q1 bs ls v).av u:=by
 cases v with
 |v x=>exact Q4 h
 |tup l=>exact .dead _
theorem GH(S:TS)(f:V->V): ∀ (keep:List Nat) (t:Nat),jE (keep.map λt=>(t,f (jE S.env t))) t=V.dead\/jE (keep.map λt=>(t,f (jE S.env t))) t=f (jE S.env t)
 | [],t=> .inl rfl
 |u::l,t=>by
  simp only[aY,jE];cases hb:Nat.beq u t with
  |true=>simp_all
  |false=>exact GH S f l t
theorem xN(S:TS)(keep bs ls:List Nat)(r:Nat):f9 (jU S keep bs ls).gh r=(ls[r]?).bind λq=>f9 S.gh q:=by show (pF (ls.map λr=>f9 S.gh r) r).getD none=_;rw[gy,aq];cases ls[r]?<;>rfl
theorem J9[eg]{S:TS}{keep bs ls:List Nat}(h:HJ S bs ls=true):qz S.st (jU S keep bs ls).st:=by
 unfold HJ at h;simp only[al] at h;obtain⟨⟨⟨⟨hnb,hnl⟩,hbs⟩,hfz⟩,hlt⟩:=h;have hfz:=HD hfz;intro w0 W btI SI bt a w hl;have inv:=hl.inv
 have hls: ∀ (k:Nat),k<S.fz->ls[k]? =some k:=by
  intro k hk;have : (ls.take S.fz)[k]? =(List.range S.fz)[k]? :=by rw[hfz]
  rw[bi,if_pos hk,List.getElem?_range hk] at this;exact this
 have look: ∀p s rs,(jU S keep bs ls).st.look p= .sl s rs-> ∃q,ls[p.r]? =some q/\S.st.look ⟨q,p.l⟩= .sl s rs/\ls.getD p.r 0=q:=by
  intro p s rs hp;unfold St.look at hp
  have e: (jU S keep bs ls).st.gh p.r=((ls[p.r]?).bind λq=>f9 S.gh q).map eU.tree:=by show (f9 _ _).map eU.tree=_;rw[xN]
  rw[e] at hp;cases hq:ls[p.r]? with
  |none=>rw[hq] at hp;cases hp
  |some q=>refine⟨q,rfl,?_,by simp[aE,hq]⟩;rw[hq] at hp;exact hp
 have box: ∀n cells,(jU S keep bs ls).st.bx n=some cells-> ∃b cs,bs[n]? =some b/\S.bx[b]? =some cs/\cells=(cs.map (zn bs ls)).map Cl.av/\bs.getD n 0=b:=by intro n cells hn;have hn': (pF (bs.map λb=>((pF S.bx b).getD []).map (zn bs ls)) n).map (λcs=>cs.map Cl.av)=some cells:=hn;rw[gy,aq] at hn';simp only[ak] at hn';obtain⟨x,⟨b,hb,rfl⟩,rfl⟩:=hn';have hlt':b<S.bx.length:=ar (aA.1 hbs b (ap hb));refine⟨b,S.bx[b],hb,ah hlt',?_,by simp[aE,hb]⟩;rw[gy,ah hlt'];rfl
 have bxS: ∀ {b:Nat} {cs:List Cl},S.bx[b]? =some cs->S.st.bx b=some (cs.map Cl.av):=by intro b cs hb;show (pF S.bx b).map _=_;rw[gy,hb];rfl
 refine⟨bt.ren bs ls,?_⟩
 refine⟨{ good:=inv.good,os:=inv.os,tape:=inv.tape,output:=inv.output,size:=inv.size,keep:=inv.keep
          nb:=by show bs.length=_;simp[TS.st,jU]
          ng:=by show ls.length=_;simp[TS.st,jU]
          bx:=λn cells hn=> ?_
          gh:=λr t hr=> ?_
          tr:=λp sz rows hp=> ?_
          inj:=λp q s rs s' rs' hp hq hk hk' he=> ?_
          bbinj:=λn m cs cs' hn hm he=> ?_
          bbtr:=λn cs p s rs hn hp hk=> ?_
          alt:=inv.alt
          atr:=λp s rs hp hk=> ?_
          abb:=λn cs hn=> ?_ },⟨hl.er.1,λt=> ?_⟩,hl.defers,hl.fz,?_,λp hp=> ?_,λr hr hn=> ?_⟩
 ·obtain⟨b,cs,h1,h2,rfl,h4⟩:=box n cells hn;obtain⟨g1,g2,arr,e,g3,g4,g5⟩:=inv.bx b _ (bxS h2);refine⟨by grind [TS.st,jU],by show _<=bt.bb (bs.getD n 0);rw[h4];exact g2,arr,e,by show w.heap[bt.bb (bs.getD n 0)]? =_;rw[h4];exact g3,by simpa using g4,λj v hj=> ?_⟩;rw[aq,aq] at hj;simp only[ak] at hj;obtain⟨c1,⟨c0,hc0,rfl⟩,rfl⟩:=hj;obtain⟨c,k1,k2,k3⟩:=g5 j c0.av (by rw[aq,hc0];rfl);exact⟨c,k1,HK k2,k3⟩
 ·grind [jU,xN,TS.st]
 ·obtain⟨q,h1,h2,h3⟩:=look p sz rows hp;obtain⟨g1,g2⟩:=inv.tr _ _ _ h2;have eκ: (bt.ren bs ls).κ p=bt.κ ⟨q,p.l⟩:=by show bt.κ ⟨ls.getD p.r 0,p.l⟩=_;rw[h3]
  have eβ: (bt.ren bs ls).β p=bt.β ⟨q,p.l⟩:=by show bt.β ⟨ls.getD p.r 0,p.l⟩=_;rw[h3]
  rw[eκ,eβ];refine⟨g1,λhk=>⟨(g2 hk).1,?_⟩⟩;obtain⟨_,cs,e,k1,k2,k3,k4⟩:=g2 hk;refine⟨cs,e,by rw[eβ];exact k1,by rw[eβ,eκ];exact k2,k3,λi r hi=> ?_⟩;obtain⟨m1,m2⟩:=k4 i r hi;refine⟨m1,λj x hj=> ?_⟩;obtain⟨c,n1,n2⟩:=m2 j x hj;refine⟨c,by rw[eβ];exact n1,?_⟩;have f1: (bt.ren bs ls).κ (p.sub i j)=bt.κ (fo.sub ⟨q,p.l⟩ i j):=by show bt.κ ⟨ls.getD p.r 0,p.l++ [(i,j)]⟩=bt.κ ⟨q,p.l++ [(i,j)]⟩;rw[h3]
  have f2: (bt.ren bs ls).β (p.sub i j)=bt.β (fo.sub ⟨q,p.l⟩ i j):=by show bt.β ⟨ls.getD p.r 0,p.l++ [(i,j)]⟩=bt.β ⟨q,p.l++ [(i,j)]⟩;rw[h3]
  cases n2 with
  |sc h=>exact .sc h
  |dd u=>exact .dd _
  |sl q1 q2 q3=>exact .sl q1 (by rw[f1];exact q2) (by rw[f2];exact q3)
 ·obtain⟨p',h1,h2,h3⟩:=look p s rs hp;obtain⟨q',g1,g2,g3⟩:=look q s' rs' hq;have:=inv.inj ⟨p',p.l⟩ ⟨q',q.l⟩ _ _ _ _ h2 g2 (by rw[<-h3];exact hk) (by rw[<-g3];exact hk') (by rw[<-h3,<-g3];exact he);simp only[fo.mk.injEq] at this;obtain⟨e1,e2⟩:=this;subst e1;have e3:=zo hnl _ _ _ h1 g1;cases p<;>simp_all
 ·obtain⟨b,c,h1,h2,_,h4⟩:=box n cs hn;obtain⟨b',c',g1,g2,_,g4⟩:=box m cs' hm
  have:=inv.bbinj b b' _ _ (bxS h2) (bxS g2) (by have he':bt.bb (bs.getD n 0)=bt.bb (bs.getD m 0):=he;rw[h4,g4] at he';exact he')
  grind [zo]
 ·obtain⟨b,c,h1,h2,_,h4⟩:=box n cs hn;obtain⟨q,g1,g2,g3⟩:=look p s rs hp;have hk':0<bt.κ ⟨ls.getD p.r 0,p.l⟩:=hk;rw[g3] at hk';show bt.bb (bs.getD n 0)≠(bt.β ⟨ls.getD p.r 0,p.l⟩).1;rw[h4,g3];exact inv.bbtr _ _ _ _ _ (bxS h2) g2 hk'
 ·obtain⟨q,g1,g2,g3⟩:=look p s rs hp;have hk':0<bt.κ ⟨ls.getD p.r 0,p.l⟩:=hk;rw[g3] at hk';show ¬bt.A (bt.β ⟨ls.getD p.r 0,p.l⟩).1;rw[g3];exact inv.atr _ _ _ g2 hk'
 ·obtain⟨b,c,h1,h2,_,h4⟩:=box n cs hn;show ¬bt.A (bt.bb (bs.getD n 0));rw[h4];exact inv.abb _ _ (bxS h2)
 ·show VR w _ (jE (jU S keep bs ls).env t).av _;rcases GH S (Q1 bs ls) keep t with h1|h1
  ·have :jE (jU S keep bs ls).env t=V.dead:=h1;rw[this];exact .dead _
  ·have :jE (jU S keep bs ls).env t=Q1 bs ls (jE S.env t):=h1;rw[this];exact TV (hl.er.2 t)
 ·show S.fz<=(jU S keep bs ls).gh.length
  grind [jU]
 ·have hp':p.r<S.fz:=by have:=hl.fz;have e:S.st.fz=S.fz:=rfl;omega
  have h3:ls.getD p.r 0=p.r:=by simp[aE,hls p.r hp']
  have:=hl.keep p hp;show bt.β ⟨ls.getD p.r 0,p.l⟩=_/\bt.κ ⟨ls.getD p.r 0,p.l⟩=_;rw[h3];exact this
 ·have hr':r<S.fz:=by have:=hl.fz;have e:S.st.fz=S.fz:=rfl;omega
  refine hl.gone r hr ?_;have hn': (f9 (jU S keep bs ls).gh r).map eU.tree=none:=hn;rw[xN,hls r hr'] at hn';exact hn'
theorem C9{S:TS}{bs ls:List Nat}{keep:List Nat}{c:Cl}(h:c.ok S.gh): (zn bs ls c).ok (jU S keep bs ls).gh:=by
 have lt: ∀ {x k:Nat},CG ls x 0=some k->k< (jU S keep bs ls).gh.length/\ls[k]? =some x:=by intro x k hk;obtain⟨_,h2⟩:=Bh hk;rw[cO] at h2;exact⟨by grind [jU],h2⟩
 cases c with
 |own p sz lo len w=>
  simp only[zn];split
  ·rename_i k hk;obtain⟨h1,h2⟩:=lt hk;refine⟨h1,λhw=> ?_⟩;obtain⟨a,b,c⟩:=h.2 hw
   grind [xN]
  ·trivial
 |ptrT p sz i j=>
  simp only[zn];split
  ·rename_i k hk;exact (lt hk).1
  ·trivial
 |ptrB n j=>simp only[zn];split<;>trivial
 | _=>trivial
theorem TW{S:TS}{bs ls:List Nat}{keep:List Nat}{v:V}(h:v.ok S.gh): (Q1 bs ls v).ok (jU S keep bs ls).gh:=by
 have one: ∀ {v:V1},v.ok S.gh->(Q0 bs ls v).ok (jU S keep bs ls).gh:=by
  intro v h;cases v with
  |cl c=>exact C9 h
  |agg cs=>intro c hc;obtain⟨x,hx,rfl⟩:=aN.1 hc;exact C9 (h x hx)
  |fn f cs=>intro c hc;obtain⟨x,hx,rfl⟩:=aN.1 hc;exact C9 (h x hx)
 cases v with
 |v x=>exact one h
 |tup l=>trivial
theorem O4{S:TS}(hS:S.ok)(keep bs ls:List Nat): (jU S keep bs ls).ok:=by
 refine⟨λx hx=> ?_,λcs hcs c hc=> ?_⟩
 ·obtain⟨t,_,rfl⟩:=aN.1 hx;exact TW (C8 hS t)
 ·obtain⟨b,_,rfl⟩:=aN.1 hcs;obtain⟨x,hx,rfl⟩:=aN.1 hc;cases hb:pF S.bx b with
  |none=>rw[hb] at hx;cases hx
  |some cs=>rw[hb] at hx;rw[gy] at hb;exact C9 (hS.bx cs (ap hb) x hx)
theorem Da{G:List (Option eU)}{c:Cl}(h:c.ok G):O3 G c=c:=by
 unfold O3;split
 ·rename_i p sz lo len;split
  ·rename_i tr htr;rw[(h.2 rfl).2.2 tr (by unfold f9;rw[htr];rfl)]
  ·rfl
 ·rfl
theorem Ka{G:List (Option eU)}{v:V1}(h:v.ok G):Q3 G v=v:=by
 cases v with
 |cl c=>exact congrArg V1.cl (Da h)
 |agg cs=>exact congrArg V1.agg ((aM λc hc=>Da (h c hc)).trans (List.map_id' cs))
 |fn f cs=>exact congrArg (V1.fn f) ((aM λc hc=>Da (h c hc)).trans (List.map_id' cs))
theorem TX{G:List (Option eU)}{v:V}(h:v.ok G):Xz G v=v:=by
 cases v with
 |v x=>exact congrArg V.v (Ka h)
 |tup l=>exact congrArg V.tup ((aM λc hc=>Ka (h c hc)).trans (List.map_id' l))
theorem TY{S:TS}(h:S.ok):Ww S=S:=by unfold Ww;rw[aM (g:=id) (λx hx=>by rw[TX (h.env x hx)];rfl),aM (g:=id) (l:=S.bx) (λcs hcs=>(aM λc hc=>Da (h.bx cs hcs c hc)).trans (List.map_id' cs)),List.map_id,List.map_id]
theorem ul[eg]{ρ:Type}{S:TS}(hS:S.ok){keep:List Nat}{κ:TS->Option ρ}{r:ρ}(h:Bg keep S κ=some r): ∃S1:TS,qz S.st S1.st/\S1.ok/\κ S1=some r:=by
 unfold Bg at h;obtain⟨h1,h⟩:=eB h
 grind [TY,O4,J9]
end
end Go.Proofs.YtkghndikalnipaaGreat.En
