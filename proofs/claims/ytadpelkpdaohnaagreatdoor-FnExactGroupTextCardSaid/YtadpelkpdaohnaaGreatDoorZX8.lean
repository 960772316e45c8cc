import Derived.Test.YtadpelkpdaohnaaGreatDoorZX7
namespace Go.Proofs.YtadpelkpdaohnaaGreatDoor.En
section
open Go
theorem jj {G:List (Option en)} {x:Option en} (r:Nat):eM (G++ [x]) r=if r=G.length then x else eM G r:=by
 unfold eM;rw[eW,eW];by_cases h:r=G.length
 ·subst h; simp
 ·rw[if_neg h];rcases bU r G.length with h'|h'
  ·rw[aJ h']
  ·rw[bA (by simp; omega),bA h']
theorem sG {G:List (Option en)} (l:List en) (r:Nat):eM (G++l.map some) r=if G.length<=r then l[r-G.length]? else eM G r:=by
 unfold eM;rw[eW,eW];by_cases h:G.length<=r
 ·rw[if_pos h,aO h,an];cases l[r-G.length]?<;>rfl
 ·rw[if_neg h,aJ (by omega)]
theorem pU {G:List (Option en)} {r:Nat} (h:G.length<=r):eM G r=none:=by unfold eM;rw[eW,bA h];rfl
theorem pV {G:List (Option en)} {r:Nat} {tr:en} (h:eM G r=some tr):r<G.length:=by
 rcases bU r G.length with h'|h'
 ·exact h'
 ·rw[pU h'] at h; cases h
theorem lm {G:List (Option en)} {x:Option en} (q r:Nat) (hq:q<G.length\/x=none):eM (eI G q x) r=if r=q then x else eM G r:=by
 unfold eM;rw[eW,eW,fH,bC];by_cases h:q=r
 ·subst h;simp only[if_true];rcases hq with hq|rfl
  ·rw[if_pos hq]; rfl
  ·split<;>rfl
 ·rw[if_neg h,if_neg (fun e=>h e.symm)]
theorem f7.app (G:List (Option en)) (x:Option en):f7 G (G++ [x]):=⟨by simp,fun r tr hr h=>by rw[jj,if_neg (by omega)] at h;exact⟨tr,h,rfl⟩⟩
theorem f7.apps (G:List (Option en)) (l:List en):f7 G (G++l.map some):=⟨by simp,fun r tr hr h=>by rw[sG,if_neg (by omega)] at h;exact⟨tr,h,rfl⟩⟩
theorem f7.gone (G:List (Option en)) (q:Nat):f7 G (eI G q none):=⟨by rw[fH]; simp,fun r tr hr h=>by
 rw[lm q r (.inr rfl)] at h;split at h
 ·cases h
 ·exact⟨tr,h,rfl⟩⟩
theorem f7.put {G:List (Option en)} {q:Nat} {tr tr':en} (h:eM G q=some tr) (hl:tr'.l.length=tr.l.length):f7 G (eI G q (some tr')):=⟨by rw[fH]; simp,fun r t hr h'=>by
 rw[lm q r (.inl (pV h))] at h';split at h'
 ·rename_i hq;subst hq;cases h';exact⟨tr,h,hl.symm⟩
 ·exact⟨t,h',rfl⟩⟩
theorem TS.ok_gh {S:TS} (hS:S.ok) {G:List (Option en)} (hG:f7 S.gh G): ({ S with gh:=G }:TS).ok:=
 ⟨fun x hx=>V.ok_mono hG (hS.env x hx),fun cs hcs c hc=>Cl.ok_mono hG (hS.bx cs hcs c hc)⟩
theorem u4 (S:TS) (x:en): ({ S with gh:=S.gh++ [some x] }:TS).st= { S.st with gh:=eh S.st.gh S.gh.length (some x.tree),ng:=S.gh.length+1 } :=by
 unfold TS.st;simp only[bn,cS]
 congr 1
 funext r
 rw[jj];unfold eh;split<;>rfl
theorem rE (S:TS) (q:Nat): ({ S with gh:=eI S.gh q none }:TS).st= { S.st with gh:=eh S.st.gh q none } :=by
 unfold TS.st;simp only;have : (eI S.gh q none).length=S.gh.length:=by rw[fH]; simp
 rw[this]
 congr 1
 funext r
 rw[lm q r (.inr rfl)];unfold eh;split<;>rfl
theorem sH (S:TS) {q:Nat} (x:en) (hq:q<S.gh.length): ({ S with gh:=eI S.gh q (some x) }:TS).st= { S.st with gh:=eh S.st.gh q (some x.tree) } :=by
 unfold TS.st;simp only;have : (eI S.gh q (some x)).length=S.gh.length:=by rw[fH]; simp
 rw[this]
 congr 1
 funext r
 rw[lm q r (.inl hq)];unfold eh;split<;>rfl
theorem Cd (S:TS) (cs:List Cl): ({ S with bx:=S.bx++ [cs] }:TS).st= { S.st with bx:=eh S.st.bx S.bx.length (some (cs.map Cl.av)),nb:=S.bx.length+1 } :=by
 unfold TS.st;simp only[bn,cS]
 congr 1
 funext n
 unfold eh;simp only[eW];by_cases h:n=S.bx.length
 ·subst h; simp
 ·rw[if_neg h];rcases bU n S.bx.length with h'|h'
  ·rw[aJ h']
  ·rw[bA (by simp; omega),bA h']
theorem D8 (S:TS) {b:Nat} (cs:List Cl) (hb:b<S.bx.length): ({ S with bx:=eI S.bx b cs }:TS).st= { S.st with bx:=eh S.st.bx b (some (cs.map Cl.av)) } :=by
 unfold TS.st;have : (eI S.bx b cs).length=S.bx.length:=by rw[fH]; simp
 simp only;rw[this]
 congr 1
 funext n
 unfold eh;simp only[eW];rw[fH,bC];by_cases h:b=n
 ·subst h; simp[hb]
 ·rw[if_neg h,if_neg (fun e=>h e.symm)]
theorem FH (t:Ty): (t.zvs.map cC).map Cl.av=t.zvs.map vZ:=by
 cases t with
 |st n=>cases n<;>rfl
 | _=>rfl
theorem FI (G:List (Option en)) (t:Ty): ∀c∈t.zvs.map cC,c.ok G:=fun c hc=>by obtain⟨v,_,rfl⟩:=aL.1 hc;exact CY _ _
def pk (P:Program) (g:FuncId) (args:List V1) (b:Bool) (res:V) (out:List en):Prop:=
 ∃ (t:Ty) (x:t.D) (as:List V1),args=ym t x::as/\ky P g ((D5 t x 0).av::as.map V1.av) ((l6 (t.flat x)).map en.tree) (bif b then (l6 (t.flat x)).length else 0) res.av (out.map en.tree)
structure to (P:Program) (f:Nat) (args:List V1) (res:V) (out:List en):Prop where
 fn:f<gy->lK P f (args.map V1.av) [] res.av (out.map en.tree)
 io: ∀g,f=uV g->g<gy->pk P g args true res out
 mv: ∀g,f=Ag g->pk P g args false res out
theorem FJ (g:Nat): ¬uV g<gy:=Nat.not_lt.2 (dv gy g)
theorem C2 (g:Nat): ¬Ag g<gy:=Nat.not_lt.2 (bE (dv gy gy) (dv xe g))
theorem FK {g g':Nat} (hg:g<gy):uV g≠Ag g':=fun h=>by have h1:uV g<xe:=Nat.add_lt_add_right hg gy;rw[h] at h1;exact Nat.not_lt.2 (dv xe g') h1
theorem to.of_fn {P:Program} {f:Nat} {args:List V1} {res:V} {out:List en} (h:lK P f (args.map V1.av) [] res.av (out.map en.tree)) (hf:f<gy):to P f args res out:=
 ⟨fun _=>h,fun g e _=>absurd (e ▸ hf) (FJ g),fun g e=>absurd (e ▸ hf) (C2 g)⟩
theorem to.of_io {P:Program} {g:Nat} {args:List V1} {res:V} {out:List en} (h:pk P g args true res out) (hg:g<gy):to P (uV g) args res out:=
 ⟨fun h'=>absurd h' (FJ g),fun g' e _=>by rw[<-Nat.add_right_cancel (e:g+gy=g'+gy)]; exact h,fun g' e=>absurd e (FK hg)⟩
theorem to.of_mv {P:Program} {g:Nat} {args:List V1} {res:V} {out:List en} (h:pk P g args false res out):to P (Ag g) args res out:=
 ⟨fun h'=>absurd h' (C2 g),fun g' e hg=>absurd e.symm (FK hg),fun g' e=>by rw[<-Nat.add_right_cancel (e:g+xe=g'+xe)]; exact h⟩
theorem pk.get {P:Program} {g:FuncId} {el:Ty} {l:List el.D} {as:List V1} {b:Bool} {res:V} {out:List en} (h:pk P g (.cl (.c (.ls el l))::as) b res out):ky P g (.own ⟨0,[]⟩ el.width 0 l.length::as.map V1.av) [.sl el.width (l.map el.row)] (bif b then 1 else 0) res.av (out.map en.tree):=by
 obtain⟨t,x,as',he,h⟩:=h;simp only[bo] at he;obtain⟨he,rfl⟩:=he;cases t with
 |ls el'=>have he':V1.cl (.c (.ls el l))= .cl (.c (.ls el' x)):=he;cases he';exact h
 |st n=>cases n<;>cases he
 | _=>cases he
theorem pk.getA {P:Program} {g:FuncId} {ys:List C} {as:List V1} {res:V} {out:List en} (h:pk P g (.agg (ys.map .c)::as) true res out):ky P g (.agg ((qS ys 0).map Cl.av)::as.map V1.av) ((l6 ys).map en.tree) (l6 ys).length res.av (out.map en.tree):=by
 obtain⟨t,x,as',he,h⟩:=h;simp only[bo] at he;obtain⟨he,rfl⟩:=he;cases t with
 |st n=>
  have he':V1.agg (ys.map Cl.c)= .agg ((n.flat x).map Cl.c):=he;simp only[V1.agg.injEq] at he'
  have :ys=n.flat x:=by
   have hi: ∀ (l m:List C),l.map Cl.c=m.map Cl.c->l=m:=by
    intro l
    induction l with
    |nil=>intro m hm; cases m with |nil=>rfl|cons a m=>cases hm
    |cons a l ih=>
     intro m hm;cases m with
     |nil=>cases hm
     |cons b m=>simp only[aP,bo,Cl.c.injEq] at hm;rw[hm.1,ih m hm.2]
   exact hi _ _ he'
  subst this;exact h
 | _=>cases he
def jH (P:Program) (Y:sf):Prop:= ∀f args ρ κ r,Y f args ρ κ=some r-> ∃res out,to P f args res out/\res.ok (out.map some)/\κ res out=some r
section
variable {ρ:Type} {P:Program} {Θ:kL} {S:TS}
theorem yn {α β:Type} {f:α->(β->Option ρ)->Option ρ} {R:α->β->Prop} (hf: ∀a κ r,f a κ=some r-> ∃b,R a b/\κ b=some r):
  ∀ (l:List α) (κ:List β->Option ρ) (r:ρ),uW f l κ=some r-> ∃bs,l.length=bs.length/\(∀ (k:Nat) (a:α) (b:β),l[k]? =some a->bs[k]? =some b->R a b)/\κ bs=some r:=by
 intro l
 induction l with
 |nil=>intro κ r h; exact⟨[],rfl,fun k a b ha=>by simp at ha,h⟩
 |cons a l ih=>
  intro κ r h;obtain⟨b,h1,h⟩:=hf a _ r h;obtain⟨bs,h2,h3,h⟩:=ih _ r h;refine⟨b::bs,by simp[h2],fun k x y hx hy=> ?_,h⟩;cases k with
  |zero=>simp at hx hy; subst hx hy; exact h1
  |succ k=>exact h3 k x y (by simpa using hx) (by simpa using hy)
theorem FL {α β γ:Type} {f:α->γ} {g:β->γ} {l:List α} {bs:List β} (h1:l.length=bs.length) (h2: ∀ (k:Nat) (a:α) (b:β),l[k]? =some a->bs[k]? =some b->f a=g b):l.map f=bs.map g:=by
 apply bK;intro k;rw[an,an];cases ha:l[k]? with
 |none=>rw[List.getElem?_eq_none_iff] at ha;rw[bA (by omega)];rfl
 |some a=>have:=(ai.1 ha).1;rw[ah (by omega:k<bs.length)];simp only[az];rw[h2 k a _ ha (ah (by omega))]
theorem pm {p:eb} {sz lo len:Nat} {t:Ty} {l:List t.D} (hc: (Cl.own p sz lo len true).ok S.gh) (h:p.l= [] ->eM S.gh p.r=some ⟨t,l,none⟩):p.l= [] /\lo=0/\len=l.length:=by obtain⟨_,h2⟩:=hc;obtain⟨a,b,c⟩:=h2 rfl;exact⟨a,b,c _ (h a)⟩
theorem u5 (hS:S.ok) {et:Option Ty} {c:Cl} (hc:c.ok S.gh) {κ:Cl->Option ρ} {r:ρ} (h:D4 S et c κ=some r): ∃c',(∀sz,(∀t,et=some t->sz=t.width)->eV S.st sz c.av=c'.av)/\κ c'=some r:=by
 unfold D4 at h;split at h
 ·rename_i x;exact⟨_,fun sz _=>by cases x<;>rfl,h⟩
 ·split at h
  ·rename_i t;exact⟨_,fun sz hsz=>by rw[hsz t rfl]; rfl,h⟩
  ·cases h
 ·rename_i p sz lo len;obtain⟨t,l,h1,h2,h⟩:=fu h;obtain⟨h3,h⟩:=dG h;have h3:t.width=sz:=ap h3;obtain⟨h4,h5,h6⟩:=pm hc h2;refine⟨_,fun sz' _=> ?_,h⟩;simp only[Cl.av,eV,<-h3,i7 h1,h5,h6,aV,aB,aw,if_true,bT,C.av];rw[bD (by simp)]
 ·rename_i p sz lo len;obtain⟨t,l,h1,h2,h⟩:=fu h;obtain⟨h3,h⟩:=dG h;have h3:t.width=sz:=ap h3;obtain⟨h4,h⟩:=eE h;refine⟨_,fun sz' _=> ?_,h⟩;simp only[Cl.av,eV,<-h3,i7 h1,aB,h4,if_true,C.av];simp[bI,bO]
 ·exact⟨_,fun _ _=>rfl,h⟩
 ·rename_i p sz i j;obtain⟨t,l,h1,h2,h⟩:=fu h;obtain⟨h3,h⟩:=dG h;have h3:t.width=sz:=ap h3;obtain⟨x,hx,h⟩:=aj.1 h;refine⟨_,fun sz' _=> ?_,h⟩;simp only[Cl.av,eV,<-h3,i7 h1];have e1: (l.map t.row).getD i [] =t.row x:=by simp[ar,hx]
  rw[e1,t.row_flat,bO]
 ·rename_i b j;split at h
  ·rename_i cs hcs
   obtain⟨bs,h1,h2,h⟩:=yn (R:=fun (c:Cl) (x:C)=>c.ok S.gh->T.ofAV S.st 0 c.av=x.tree) (fun c κ r h=>by
    split at h
    ·rename_i x;exact⟨x,fun _=>by cases x<;>rfl,h⟩
    ·rename_i p sz lo len;obtain⟨t,l,h1,h2,h⟩:=fu h;obtain⟨h3,h⟩:=dG h;have h3:t.width=sz:=ap h3;refine⟨_,fun hc=> ?_,h⟩;obtain⟨h4,h5,h6⟩:=pm hc h2;simp only[Cl.av,T.ofAV,<-h3,i7 h1,h5,h6,aV,aB,aw,if_true,bT,C.tree];rw[bD (by simp)]
    ·cases h) _ _ _ h
   refine⟨_,fun sz _=> ?_,h⟩;simp only[Cl.av,eV,TS.st,hcs,az];rw[<-bO,bi]
   congr 1
   refine FL h1 (fun k a b ha hb=>h2 k a b ha hb ?_);rw[eW] at hcs;exact hS.bx cs (aq hcs) a (bX (aq ha))
  ·cases h
 ·exact⟨_,fun _ _=>rfl,h⟩
theorem Hl (hS:S.ok): ∀ (ets:List (Option Ty)) (cs:List Cl) (κ:List Cl->Option ρ) (r:ρ),(∀c∈cs,c.ok S.gh)->Hc S ets cs κ=some r->
  ∃cs',ets.length=cs.length/\List.zipWith (eV S.st) (ets.map fun |some e=>e.width|none=>0) (cs.map Cl.av)=cs'.map Cl.av/\κ cs'=some r:=by
 intro ets
 induction ets with
 |nil=>
  intro cs κ r hcs h;cases cs with
  |nil=>exact⟨[],rfl,rfl,h⟩
  |cons c cs=>cases h
 |cons et ets ih=>
  intro cs κ r hcs h;cases cs with
  |nil=>cases h
  |cons c cs=>unfold Hc at h;obtain⟨c',h1,h⟩:=u5 hS (hcs c aH) h;obtain⟨cs',h2,h3,h⟩:=ih cs _ r (fun x hx=>hcs x (aE _ hx)) h;refine⟨c'::cs',by simp[h2],?_,h⟩;simp only[aP,List.zipWith_cons_cons,h3];rw[h1];intro t ht;subst ht;rfl
theorem FM (hΘ:fi P Θ) (hS:S.ok) {t:TypeId} {v:V} (hv:v.ok S.gh) {κ:V1->Option ρ} {r:ρ} (h:KQ Θ S t v κ=some r): ∃v1:V1,ii S.st (ku P 9 t) v.av=v1.av/\κ v1=some r:=by
 unfold KQ at h;split at h
 ·cases h
 ·rename_i f cs
  obtain⟨bs,h1,h2,h⟩:=yn (R:=fun (c c':Cl)=>c.ok S.gh->eV S.st 0 c.av=c'.av) (fun c κ r h=>by
   by_cases hc:c.ok S.gh
   ·obtain⟨c',h1,h⟩:=u5 hS hc h;exact⟨c',fun _=>h1 0 (fun t ht=>by cases ht),h⟩
   ·have : ∃c',κ c'=some r:=by
     unfold D4 at h;split at h
     ·exact⟨_,h⟩
     ·cases h
     ·obtain⟨t,l,_,_,h⟩:=fu h; exact⟨_,(dG h).2⟩
     ·obtain⟨t,l,_,_,h⟩:=fu h; exact⟨_,(eE (dG h).2).2⟩
     ·exact⟨_,h⟩
     ·obtain⟨t,l,_,_,h⟩:=fu h; obtain⟨x,_,h⟩:=aj.1 (dG h).2; exact⟨_,h⟩
     ·split at h
      ·obtain⟨bs,_,_,h⟩:=yn (R:=fun _ _=>True) (fun c κ r h=>by
        split at h
        ·exact⟨_,trivial,h⟩
        ·obtain⟨t,l,_,_,h⟩:=fu h; exact⟨_,trivial,(dG h).2⟩
        ·cases h) _ _ _ h
       exact⟨_,h⟩
      ·cases h
     ·exact⟨_,h⟩
    obtain⟨c',h⟩:=this;exact⟨c',fun hc'=>absurd hc' hc,h⟩) _ _ _ h
  refine⟨_,?_,h⟩;simp only[V.av,V1.av,ii,bi]
  congr 1
  exact FL h1 (fun k a b ha hb=>h2 k a b ha hb (hv a (aq ha)))
 ·rename_i cs;split at h
  ·rename_i ti hti;obtain⟨cs',h1,h2,h⟩:=Hl hS _ _ _ _ hv h;refine⟨_,?_,h⟩;have e: (ti.ty.csh.map fun |some e=>e.width|none=>0)=ti.ty.shs:=rfl;simp only[V.av,V1.av,ii,(hΘ _ _ hti).sh];rw[if_pos (by rw[<-e]; simpa using h1),<-e,h2]
  ·cases h
 ·exact⟨_,rfl,h⟩
 ·rename_i c hne
  have fG: ∀ (szs:List Nat),ii S.st szs (V.v (.cl c)).av=eV S.st (szs.headD 0) c.av:=by
   intro szs;cases c with
   |c x=>cases x<;>rfl
   |em=>exact absurd rfl hne
   | _=>rfl
  split at h
  ·rename_i ti hti;obtain⟨c',h1,h⟩:=u5 hS hv h;refine⟨_,?_,h⟩;rw[fG];refine h1 _ (fun t ht=> ?_);rw[(hΘ _ _ hti).sh];unfold Ty.shs;cases hc:ti.ty.csh with
   |nil=>rw[hc] at ht; cases ht
   |cons a l=>rw[hc] at ht;simp only[List.headD_cons] at ht;subst ht;rfl
  ·obtain⟨c',h1,h⟩:=u5 hS hv h;exact⟨_,by rw[fG]; exact h1 _ (fun t ht=>by cases ht),h⟩
theorem n8 (hΘ:fi P Θ) (hS:S.ok): ∀ (ts:List TypeId) (as:List Operand) (κ:List V1->Option ρ) (r:ρ),n6 Θ S ts as κ=some r->
  ∃vs:List V1,List.zipWith (fun t a=>ii S.st (ku P 9 t) (opd S.st a)) ts as=vs.map V1.av/\κ vs=some r:=by
 intro ts
 induction ts with
 |nil=>
  intro as κ r h;cases as with
  |nil=>exact⟨[],rfl,h⟩
  |cons a as=>cases h
 |cons t ts ih=>
  intro as κ r h;cases as with
  |nil=>cases h
  |cons a as=>unfold n6 at h;obtain⟨v,h1,h⟩:=FM hΘ hS (ji hS a) h;obtain⟨vs,h2,h⟩:=ih as _ r h;exact⟨v::vs,by rw[List.zipWith_cons_cons,h2,dL,h1,aP],h⟩
end
end
section
open Go
open Classical in
noncomputable def D9 (d:Option Tmp) (g:FuncId) (args:List AV) (res:AV×List T):mu:=fun d' g' a' gs'=>if d'=d/\g'=g/\a'=args/\gs'= [] then some res else none
theorem u6 {P:Program} {d:Option Tmp} {g:FuncId} {args:List AV} {res:AV} {out:List T} (h:lK P g args [] res out):jN P (D9 d g args (res,out)):=by
 intro d' g' a' gs' r' o' h';unfold D9 at h';split at h'
 ·rename_i hc;obtain⟨rfl,rfl,rfl,rfl⟩:=hc;simp only[ae,al] at h';obtain⟨rfl,rfl⟩:=h';exact h
 ·cases h'
theorem C3 (d:Option Tmp) (g:FuncId) (args:List AV) (res:AV×List T):D9 d g args res d g args [] =some res:=by unfold D9;rw[if_pos ⟨rfl,rfl,rfl,rfl⟩]
def yp:mu:=fun _ _ _ _=>none
theorem f9 {P:Program}:jN P yp:=fun _ _ _ _ _ _ h=>by cases h
theorem Ea (n:Nat) (c:Cl): (yg n c).av=kN n c.av:=by
 cases c with
 |c x=>cases x<;>rfl
 | _=>rfl
theorem u7 (n:Nat) (v:V1): (pR n v).av=jI n v.av:=by
 cases v with
 |cl c=>cases c with
  |c x=>cases x<;>rfl
  | _=>rfl
 |agg cs=>
  simp only[pR,V1.av,jI,bi]
  congr 1
  exact aG fun c _=>Ea n c
 |fn f cs=>rfl
theorem sI (n:Nat) (v:V): (oF n v).av=shift n v.av:=by
 cases v with
 |v x=>
  have :shift n x.av=jI n x.av:=by
   cases x with
   |cl c=>cases c with
    |c x=>cases x<;>rfl
    | _=>rfl
   | _=>rfl
  show (pR n x).av=shift n x.av;rw[this,u7]
 |tup l=>
  simp only[oF,V.av,shift,bi]
  congr 1
  exact aG fun c _=>u7 n c
theorem xh {G:List (Option en)} {out:List en} {c:Cl} (h:c.ok (out.map some)): (yg G.length c).ok (G++out.map some):=by
 cases c with
 |own p sz lo len w=>obtain⟨h1,h2⟩:=h;refine⟨by simp at h1 ⊢; omega,fun hw=> ?_⟩;obtain⟨a,b,c⟩:=h2 hw;refine⟨a,b,fun tr htr=>c tr ?_⟩;rw[sG,if_pos (by simp)] at htr;simp only[ck] at htr;unfold eM;rw[eW,an,htr];rfl
 |c x=>cases x<;>trivial
 | _=>trivial
theorem u9 {G:List (Option en)} {out:List en} {v:V1} (h:v.ok (out.map some)): (pR G.length v).ok (G++out.map some):=by
 cases v with
 |cl c=>exact xh h
 |agg cs=>intro c hc;obtain⟨x,hx,rfl⟩:=aL.1 hc;exact xh (h x hx)
 |fn f cs=>trivial
theorem sJ {G:List (Option en)} {out:List en} {v:V} (h:v.ok (out.map some)): (oF G.length v).ok (G++out.map some):=by
 cases v with
 |v x=>exact u9 h
 |tup l=>intro c hc;obtain⟨x,hx,rfl⟩:=aL.1 hc;exact u9 (h x hx)
theorem qT (S:TS) (v:AV) (out:List en): ({ S with gh:=S.gh++out.map some }:TS).st=(kv S.st (v,out.map en.tree)).2:=by
 unfold TS.st kv;simp only[bn,aB]
 congr 1
 funext r
 rw[sG];by_cases h:S.gh.length<=r
 ·rw[if_pos h];by_cases h2:r<S.gh.length+out.length
  ·rw[if_pos ⟨h,h2⟩,an]
  ·rw[if_neg (fun hh=>h2 hh.2),bA (by omega),pU h]
 ·rw[if_neg h,if_neg (fun hh=>h hh.1)]
section
variable {ρ:Type} {P:Program} {Θ:kL} {S:TS} {Y:sf}
theorem rF (hS:S.ok): ∀ (caps:List Cl) (κ':List Cl->Option ρ) (r:ρ),(∀c∈caps,c.ok S.gh)->uW (D4 S none) caps κ'=some r-> ∃cs,(caps.map Cl.av).map (eV S.st 0)=cs.map Cl.av/\κ' cs=some r:=by
 intro caps
 induction caps with
 |nil=>intro κ' r _ h; exact⟨[],rfl,h⟩
 |cons c caps ih=>intro κ' r hc h;unfold uW at h;obtain⟨c',g1,h⟩:=u5 hS (hc c aH) h;obtain⟨cs,g2,h⟩:=ih _ r (fun x hx=>hc x (aE _ hx)) h;exact⟨c'::cs,by rw[aP,aP,g2,g1 0 (fun t ht=>by cases ht),aP],h⟩
theorem FN (hΘ:fi P Θ) (hY:jH P Y) (hS:S.ok) {f:Operand} {ts:Array TypeId} {as:Array Operand} {κ:V->TS->Option ρ} {r:ρ} (h:CU Θ Y S f ts.toList as.toList κ=some r) {dst:Option Tmp} {ty:TypeId} {pos:String} {aft:Array Edge} {gd:Option (Nat×Bool)}:
  ∃D v S',jN P D/\fq D P S.st ⟨dst, .call { callee:= .value f,args:=as,argTypes:=ts },ty,pos,aft,gd⟩=some (V.av v,TS.st S')/\S'.ok/\v.ok S'.gh/\κ v S'=some r:=by
 have fin: ∀ (g:FuncId) (caps:List AV) (vs:List V1),g<gy->callee S.st f=some (g,caps)->args P S.st ts as caps=vs.map V1.av->Y g vs ρ (fun res out=>κ (oF S.gh.length res) { S with gh:=S.gh++out.map some })=some r->
   ∃D v S',jN P D/\fq D P S.st ⟨dst, .call { callee:= .value f,args:=as,argTypes:=ts },ty,pos,aft,gd⟩=some (V.av v,TS.st S')/\S'.ok/\v.ok S'.gh/\κ v S'=some r:=by
  intro g caps vs hg h1 h2 h3;obtain⟨res,out,h4,h5,h6⟩:=hY _ _ _ _ _ h3;have h4:=h4.fn hg;refine⟨D9 dst g (vs.map V1.av) (res.av,out.map en.tree),_,_,u6 h4,?_,TS.ok_gh hS (f7.apps _ _),sJ h5,h6⟩;simp only[fq,h1,af,h2];rw[C3];simp only[az];rw[qT S res.av out,sI];rfl
 unfold CU at h;split at h
 ·rename_i g x y hf;obtain⟨hg,h⟩:=dG h;have hg:g<gy:=ax hg;obtain⟨vs,h1,h⟩:=n8 hΘ hS _ _ _ _ h;refine fin g [] vs hg ?_ ?_ h
  ·unfold callee;rw[dL,hf];rfl
  ·unfold args;simp only[cb,bw];exact h1
 ·rename_i g caps hf;obtain⟨hg,h⟩:=dG h;have hg:g<gy:=ax hg;obtain⟨vs,h1,h⟩:=n8 hΘ hS _ _ _ _ h
  have hcaps: ∀c∈caps,c.ok S.gh:=by have:=ji hS f;rw[hf] at this;exact this
  obtain⟨cs,h2,h⟩:=rF hS _ _ _ hcaps h;refine fin g (caps.map Cl.av) (vs++cs.map .cl) hg ?_ ?_ h
  ·unfold callee;rw[dL,hf];rfl
  ·unfold args;rw[h1,h2,b0,bi];rfl
 ·cases h
theorem fI {t t':Ty} {l:List t.D} {l':List t'.D} (h:ph t t' l=some l'): ∃e:t=t',e ▸ l=l':=by
 unfold ph at h;split at h
 ·rename_i e;exact⟨e,Option.some.inj h⟩
 ·cases h
theorem Eb {t:Ty} (h:t.flatB=true) (x:t.D): (t.row x).all T.flat=true:=by
 cases t with
 |st n=>cases n<;>first |rfl|cases h
 |ls t=>cases h
 | _=>rfl
theorem sK (t:Ty): (t.shs.all (· ==0))=t.flatB:=by
 cases t with
 |st n=>cases n<;>rfl
 |ls t=>
  show ((t.width==0)&&true)=false;have:=t.width_pos;cases hw:t.width with
  |zero=>omega
  |succ n=>rfl
 | _=>rfl
theorem pW {t:Ty} (h:t.flatB=true) (l:List t.D): (l.map t.row).all (fun r=>r.all T.flat)=true:=by rw[au];intro x hx;obtain⟨y,_,rfl⟩:=aL.1 hx;exact Eb h y
theorem Hm (hS:S.ok) {el:Ty} {v:Cl} (hv:v.ok S.gh) {κ:List el.D->TS->Option ρ} {r:ρ} (h:Fv S el v κ=some r):
  ∃more S',gA S.st el.width el.flatB v.av=some (more.map el.row,S'.st)/\S'.ok/\f7 S.gh S'.gh/\S'.gh.length=S.gh.length/\S'.fz=S.fz/\κ more S'=some r:=by
 unfold Fv at h;split at h
 ·exact⟨[],S,rfl,hS,f7.refl _,rfl,rfl,h⟩
 ·rename_i t l;obtain⟨h1,h⟩:=dG h;split at h
  ·rename_i l' hl;obtain⟨e,hl⟩:=fI hl;subst e;simp only at hl;subst hl;refine⟨l,S,?_,hS,f7.refl _,rfl,rfl,h⟩;simp only[Cl.av,C.av,gA];rw[if_pos ⟨trivial,pW h1 l⟩]
  ·cases h
 ·rename_i p sz lo len w;obtain⟨h0,h⟩:=dG h;have h0:el.width=sz:=ap h0;cases hfl:el.flatB with
  |true=>
   rw[hfl] at h;simp only[cond_true] at h;obtain⟨t,l,h1,h2,h⟩:=fu h;split at h
   ·rename_i l' hl;obtain⟨e,hl⟩:=fI hl;subst e;simp only at hl;subst hl
    have src: ∀ (lo len:Nat),lo+len<=l.length->gA S.st t.width true (.own p sz lo len)=some (((l.drop lo).take len).map t.row,S.st):=by intro lo len hle;simp only[gA];rw[if_pos h0.symm,i7 h1];simp only[af,Bool.true_eq_false,false_and,if_false,aB];rw[if_pos ⟨hle,by rw[<-bO,<-bI]; exact pW hfl _⟩];simp[bI,bO]
    cases w with
    |true=>obtain⟨e1,e2,e3⟩:=pm hv h2;refine⟨l,S,?_,hS,f7.refl _,rfl,rfl,h⟩;have:=src lo len (by omega);rw[e2,e3,bT,bH] at this;simp only[Cl.av];rw[e2,e3];exact this
    |false=>simp only[cond_false] at h;obtain⟨h3,h⟩:=eE h;exact⟨_,S,src lo len h3,hS,f7.refl _,rfl,rfl,h⟩
   ·cases h
  |false=>
   rw[hfl] at h;simp only[cond_false] at h;split at h
   ·rename_i hp;obtain⟨h3,h6⟩:=dG h;clear h;simp only[ao] at h3;obtain⟨hw,h4⟩:=h3;have h4:S.fz<=p.r:=ax h4;subst hw;obtain⟨t,l,h1,h2,h⟩:=fu h6;split at h
    ·rename_i l' hl;obtain⟨e,hl⟩:=fI hl;subst e;simp only at hl;subst hl;obtain⟨e1,e2,e3⟩:=pm hv h2;refine⟨l,_,?_,TS.ok_gh hS (f7.gone _ _),f7.gone _ _,by simp[fH],rfl,h⟩;simp only[Cl.av,gA];rw[if_pos h0.symm,i7 h1];simp only[af,aB];rw[if_pos ⟨trivial,hp,e2,e3,h4⟩,rE]
    ·cases h
   ·cases h
 ·cases h
end
end
section
open Go
theorem Ce (t:Ty):t.zvs.length=t.width:=by
 cases t with
 |st n=>cases n<;>rfl
 | _=>rfl
theorem qU (t:Ty):t.shs.length=t.width:=by
 cases t with
 |st n=>cases n<;>rfl
 | _=>rfl
theorem ud {P:Program} {el:TypeId} {e:Ty} (h1:P.cellsOf el=e.width) (h2:ku P 9 el=e.shs) (h3:se P el=some e.zvs):tJ P el=some (List.zipWith zc e.shs e.zvs):=by unfold tJ;rw[h3];simp only[af];rw[if_pos ⟨by rw[h1,Ce],by rw[h2,h1,qU]⟩,h2]
section
variable {ρ:Type} {P:Program} {Θ:kL} {S:TS}
theorem FO (hS:S.ok) {el:Ty} {v:Cl} (hv:v.ok S.gh) {more:List el.D} {κ:List el.D->TS->Option ρ} {r:ρ} (h:Ah S el v more κ=some r):
  ∃l S',fW S.st v.av el.width (more.map el.row)=some (.own ⟨S.gh.length,[]⟩ el.width 0 l.length,{ S'.st with gh:=eh S'.st.gh S.gh.length (some (.sl el.width (l.map el.row))),ng:=S.gh.length+1 })/\
   S'.ok/\f7 S.gh S'.gh/\S'.gh.length=S.gh.length/\κ l S'=some r:=by
 unfold Ah at h;split at h
 ·refine⟨more,S,?_,hS,f7.refl _,rfl,h⟩;simp only[Cl.av,fW,aB];rfl
 ·rename_i p sz lo len w;obtain⟨h0,h'⟩:=dG h;clear h;simp only[ao] at h0;have hfz:S.fz<=p.r:=ax h0.1;have hsz:el.width=sz:=ap h0.2;split at h'
  ·rename_i hp;obtain⟨t,l,h1,h2,h⟩:=fu h';split at h
   ·rename_i l' hl;obtain⟨e,hl⟩:=fI hl;subst e;simp only at hl;subst hl
    have fin: ∀ (len:Nat),¬l.length<len->fW S.st (.own p sz 0 len) t.width (more.map t.row)=some (.own ⟨S.gh.length,[]⟩ t.width 0 (l.take len++more).length,{ ({ S with gh:=eI S.gh p.r none }:TS).st with gh:=eh ({ S with gh:=eI S.gh p.r none }:TS).st.gh S.gh.length (some (.sl t.width ((l.take len++more).map t.row))),ng:=S.gh.length+1 }):=by
     intro len hlen;simp only[fW];rw[if_pos ⟨hsz.symm,trivial,hfz⟩,i7 h1];simp only[af,aB];rw[if_neg hlen,if_pos hp,rE];have e1: (l.take len++more).length=len+more.length:=by simp; omega
     rw[e1,b0,bI];rfl
    cases w with
    |true=>obtain⟨e1,e2,e3⟩:=pm hv h2;refine⟨_,_,?_,TS.ok_gh hS (f7.gone _ _),f7.gone _ _,by simp[fH],h⟩;have:=fin l.length (by omega);rw[bH] at this;simp only[Cl.av];rw[e2,e3];exact this
    |false=>simp only[cond_false] at h;obtain⟨h3,h⟩:=eE h;obtain⟨h4,h⟩:=sD h;refine⟨_,_,?_,TS.ok_gh hS (f7.gone _ _),f7.gone _ _,by simp[fH],h⟩;simp only[Cl.av];rw[h3];exact fin len h4
   ·cases h
  ·rename_i i j hp;split at h'
   ·rename_i tr htr;split at h'
    ·rename_i hh;obtain⟨t,l,h1,h2,h⟩:=fu h';split at h
     ·rename_i l' hl;obtain⟨e,hl⟩:=fI hl;subst e;simp only at hl;subst hl;obtain⟨h3,h⟩:=eE h;obtain⟨h4,h⟩:=sD h;have hg:=en.look htr;have hput:f7 S.gh (eI S.gh p.r (some (en.mk tr.t tr.l (some (i,j))))):=f7.put hg rfl;refine⟨_,{ S with gh:=eI S.gh p.r (some (en.mk tr.t tr.l (some (i,j)))) },?_,TS.ok_gh hS hput,hput,by simp[fH],h⟩;simp only[Cl.av,fW];rw[if_pos ⟨hsz.symm,h3,hfz⟩,i7 h1];simp only[af,aB];rw[if_neg h4,if_neg (by rw[hp]; simp),sH _ _ (pV hg)];have e1: (l.take len++more).length=len+more.length:=by simp; omega
      rw[e1,b0,bI]
      have e2:S.st.setAt p .dd= { S.st with gh:=eh S.st.gh p.r (some (en.tree ⟨tr.t,tr.l,some (i,j)⟩)) } :=by
       unfold St.setAt
       congr 2
       show ((eM S.gh p.r).map en.tree).map _=_;rw[hg,hp];obtain⟨t0,l0,hole⟩:=tr;simp only at hh;subst hh;rfl
      rw[e2];rfl
     ·cases h
    ·cases h'
   ·cases h'
  ·cases h'
 ·cases h
theorem Hn (hΘ:fi P Θ) (hS:S.ok) {t:TypeId} {s x:Operand} {κ:V->TS->Option ρ} {r:ρ} (h:Hd Θ S t (S.opd s) (S.opd x) κ=some r) {dst:Option Tmp} {ty:TypeId} {pos:String} {aft:Array Edge} {gd:Option (Nat×Bool)} {D:mu}:
  ∃v S',fq D P S.st ⟨dst, .call { callee:= .builtin .append,args:= #[s,x],argTypes:= #[t,t] },ty,pos,aft,gd⟩=some (V.av v,TS.st S')/\S'.ok/\v.ok S'.gh/\κ v S'=some r:=by
 unfold Hd at h;split at h
 ·rename_i ti hti;split at h
  ·rename_i el sv xv he hs hx;obtain⟨elT',g1,g2,g3,g4,g5,g6⟩:=(hΘ _ _ hti).el el he;have hsv:=ji hS s;rw[hs] at hsv;have hxv:=ji hS x;rw[hx] at hxv;obtain⟨more,S1,h1,k1,k2,k3,k4,h⟩:=Hm hS (show xv.ok S.gh from hxv) h;obtain⟨l,S2,h2,m1,m2,m3,h⟩:=FO k1 (Cl.ok_mono k2 (show sv.ok S.gh from hsv)) h;obtain⟨hb,h⟩:=eE h;have hgl:f7 S1.gh (S2.gh++ [some ⟨el,l,none⟩]):=m2.trans (f7.app _ _);refine⟨_,_,?_,TS.ok_gh m1 (f7.app _ _),?_,h⟩
   ·simp only[fq];rw[if_pos trivial,g1];simp only[af,g2,g5,sK,dL,hs,hx];show (gA S.st el.width el.flatB xv.av).bind _=_;rw[h1];simp only[af];show (fW S1.st sv.av el.width _).bind _=_;rw[h2];simp only[af];have hlen:l.length<=2 ^ 40:=bE (Nat.le_mul_of_pos_right _ g4) hb;rw[if_pos ⟨by rw[g3]; exact hb,hlen,el.width_pos,by rw[ud g2 g5 g6]; rfl⟩];rw[u4,m3];rfl
   ·refine⟨by simp,fun _=>⟨rfl,rfl,fun tr htr=> ?_⟩⟩;rw[jj,if_pos rfl] at htr;cases htr;rfl
  ·cases h
 ·cases h
end
end
section
open Go
theorem Ho (a b:Nat): (a==b)=Nat.beq a b:=by rw[bZ,beq_iff_eq];exact⟨fun h=>by rw[h]; exact co _,fun h=>ap h⟩
theorem FP (a b:Nat): (a==b)=Nat.beq b a:=by rw[bZ,beq_iff_eq];exact⟨fun h=>by rw[h]; exact co _,fun h=>(ap h).symm⟩
theorem va (r i j pr i' j':Nat) (l:List (Nat×Nat)):under ⟨r,[(i,j)]⟩ ⟨pr,(i',j')::l⟩=(Nat.beq pr r&&Nat.beq j j'):=by simp only[under,pre,c7];rw[FP,Ho]
theorem vb (r i j pr:Nat):under ⟨r,[(i,j)]⟩ ⟨pr,[]⟩=false:=by simp[under,pre]
theorem rG (r i j:Nat) (c:Cl): (lT r j c).av=lR ⟨r,[(i,j)]⟩ c.av:=by
 cases c with
 |own p sz lo len w=>
  obtain⟨pr,pl⟩:=p;cases pl with
  |nil=>simp only[lT,Cl.av,lR,vb]; rfl
  |cons a l=>obtain⟨i',j'⟩:=a;simp only[lT,Cl.av,lR,va];cases (Nat.beq pr r&&Nat.beq j j')<;>rfl
 |ptrT p sz a b=>
  obtain⟨pr,pl⟩:=p;cases pl with
  |nil=>simp only[lT,Cl.av,lR,vb]; rfl
  |cons a' l=>obtain⟨i',j'⟩:=a';simp only[lT,Cl.av,lR,va];cases (Nat.beq pr r&&Nat.beq j j')<;>rfl
 |c x=>cases x<;>rfl
 | _=>rfl
theorem xi (r i j:Nat) (v:V1): (nI r j v).av=nS ⟨r,[(i,j)]⟩ v.av:=by
 cases v with
 |cl c=>
  have :nS ⟨r,[(i,j)]⟩ (V1.cl c).av=lR ⟨r,[(i,j)]⟩ c.av:=by
   cases c with
   |c x=>cases x<;>rfl
   | _=>rfl
  rw[this];exact rG r i j c
 |agg cs=>
  simp only[nI,V1.av,nS,bi]
  congr 1
  exact aG fun c _=>rG r i j c
 |fn f cs=>
  simp only[nI,V1.av,nS,bi]
  congr 1
  exact aG fun c _=>rG r i j c
theorem FQ (r i j:Nat) (v:V): (xf r j v).av=kill ⟨r,[(i,j)]⟩ v.av:=by
 cases v with
 |v x=>
  have :kill ⟨r,[(i,j)]⟩ (V.v x).av=nS ⟨r,[(i,j)]⟩ x.av:=by
   cases x with
   |cl c=>cases c with
    |c x=>cases x<;>rfl
    | _=>rfl
   | _=>rfl
  rw[this];exact xi r i j x
 |tup l=>
  simp only[xf,V.av,kill,bi]
  congr 1
  exact aG fun c _=>xi r i j c
theorem Aq (f:V->V) (hf:f V.dead=V.dead): ∀ (l:List (Nat×V)) (t:Nat),gn (l.map fun x=>(x.1,f x.2)) t=f (gn l t)
 | [],t=>hf.symm
 | (u,v)::l,t=>by
   simp only[aP,gn];cases Nat.beq u t with
   |true=>rfl
   |false=>exact Aq f hf l t
theorem Hp (S:TS) (r i j:Nat): (S.kill r j).st=S.st.killU ⟨r,[(i,j)]⟩:=by
 unfold TS.kill TS.st St.killU;simp only[aB]
 congr 1
 ·funext t
  rw[Aq _ rfl];exact FQ r i j _
 ·funext n
  rw[eW,eW,an];cases S.bx[n]? with
  |none=>rfl
  |some cs=>
   simp only[az,bi]
   congr 1
   exact aG fun c _=>rG r i j c
theorem rH {G:List (Option en)} {r j:Nat} {c:Cl} (h:c.ok G): (lT r j c).ok G:=by
 cases c with
 |own p sz lo len w=>
  simp only[lT];split
  ·cases (Nat.beq p.r r&&Nat.beq j _)<;>first |exact h|trivial
  ·exact h
 |ptrT p sz a b=>
  simp only[lT];split
  ·cases (Nat.beq p.r r&&Nat.beq j _)<;>first |exact h|trivial
  ·exact h
 | _=>exact h
theorem xj {G:List (Option en)} {r j:Nat} {v:V1} (h:v.ok G): (nI r j v).ok G:=by
 cases v with
 |cl c=>exact rH h
 |agg cs=>intro c hc;obtain⟨x,hx,rfl⟩:=aL.1 hc;exact rH (h x hx)
 |fn f cs=>intro c hc;obtain⟨x,hx,rfl⟩:=aL.1 hc;exact rH (h x hx)
theorem C4 {S:TS} (hS:S.ok) (r j:Nat): (S.kill r j).ok:=by
 refine⟨fun x hx=> ?_,fun cs hcs c hc=> ?_⟩
 ·obtain⟨y,hy,rfl⟩:=aL.1 hx;have:=hS.env y hy;obtain⟨t,v⟩:=y;cases v with
  |v x=>exact xj this
  |tup l=>intro c hc;obtain⟨z,hz,rfl⟩:=aL.1 hc;exact xj (this z hz)
 ·obtain⟨y,hy,rfl⟩:=aL.1 hcs;obtain⟨z,hz,rfl⟩:=aL.1 hc;exact rH (hS.bx y hy z hz)
def TS.with (S:TS) (no N w:Nat) (R:List (List T)):St:= { S.st with gh:=eh S.st.gh no (some (.sl w R)),ng:=N }
theorem xk (S:TS) (r i j no N w:Nat) (R:List (List T)): (S.with no N w R).killU ⟨r,[(i,j)]⟩=(S.kill r j).with no N w R:=by
 unfold TS.with
 rw[Hp S r i j];rfl
theorem C5 {α:Type} (f:Nat->α) (t:Nat) (x y:α):eh (eh f t x) t y=eh f t y:=by
 funext u
 unfold eh;split<;>rfl
theorem Ar {α:Type} (f:Nat->α) (t:Nat) (x:α):eh f t x t=x:=by unfold eh; rw[if_pos rfl]
theorem FR {α:Type} (f:Nat->α) {t u:Nat} (h:t≠u) (x y:α):eh (eh f t x) u y=eh (eh f u y) t x:=by
 funext v
 unfold eh;by_cases h1:v=u
 ·subst h1; rw[if_pos rfl,if_neg (fun e=>h e.symm)]; rw[if_pos rfl]
 ·rw[if_neg h1];by_cases h2:v=t
  ·rw[if_pos h2,if_pos h2]
  ·rw[if_neg h2,if_neg h2,if_neg h1]
structure Hq (S S1:TS) (no:Nat):Prop where
 ok:S1.ok
 gle:f7 S.gh S1.gh
 len:S1.gh.length=S.gh.length
 fz:S1.fz=S.fz
 nt:S1.nt=S.nt
 no:eM S1.gh no=eM S.gh no
def BA:Option Ty->Nat|some e=>e.width|none=>0
def KF (X:St) (no i j:Nat) (c:AV):Option Ty->Option St
 |none=>some X
 |some t=>lS X ⟨no,[]⟩ i j t.width c
def FS (R:List (List T)) (i j:Nat) (x:C):Option Ty->List (List T)
 |none=>R
 |some _=>R.set i ((R.getD i []).set j x.tree)
theorem FT {S S1:TS} (hS:S.ok) {no j:Nat} (i N w:Nat) {et:Option Ty} {c:Cl} {x:C} (hc:c.ok S.gh) (h:gz S no j et c=some (x,S1)) (R:List (List T)):
  Hq S S1 no/\c≠ .dead/\(et=none->T.ofSc c.av=x.tree)/\KF (S.with no N w R) no i j c.av et=some (S1.with no N w (FS R i j x et)):=by
 cases c with
 |c y=>
  cases y with
  |sc v=>
   cases et with
   |none=>simp only[gz,ae,al] at h;obtain⟨rfl,rfl⟩:=h;exact⟨⟨hS,f7.refl _,rfl,rfl,rfl,rfl⟩,(fun h=>by cases h),fun _=>rfl,rfl⟩
   |some t=>simp[gz] at h
  |ls t l=>cases et<;>simp[gz] at h
 |em=>
  cases et with
  |none=>simp[gz] at h
  |some t=>
   simp only[gz,ae,al] at h;obtain⟨rfl,rfl⟩:=h;refine⟨⟨C4 hS _ _,f7.refl _,rfl,rfl,rfl,rfl⟩,(fun h=>by cases h),(fun h=>by cases h),?_⟩;simp only[KF,Cl.av,lS,eb.sub,bB,xk,FS]
   congr 1
   unfold St.setAt TS.with
   simp only;rw[Ar,C5];rfl
 |own p sz lo len wh=>
  obtain⟨pr,pl⟩:=p;cases wh with
  |false=>cases et<;>simp[gz] at h
  |true=>
   cases et with
   |none=>simp[gz] at h
   |some t=>
    cases pl with
    |cons a l=>simp[gz] at h
    |nil=>
     simp only[gz] at h;obtain⟨h1,h⟩:=dG h;simp only[ao,bL] at h1;obtain⟨⟨h1,h2⟩,h3⟩:=h1;have h1:t.width=sz:=ap h1;have h2:S.fz<=pr:=ax h2;have h3:pr≠no:=by intro e; rw[e,co] at h3; cases h3
     split at h
     ·rename_i tr htr;split at h
      ·rename_i hh;obtain⟨h4,h⟩:=dG h;have h4':tr.t.width=sz:=ap h4;simp only[ae,al] at h;obtain⟨rfl,rfl⟩:=h;have hg:=en.look htr;obtain⟨tt,l,hole⟩:=tr;simp only at hh h4';subst hh;obtain⟨e1,e2,e3⟩:=pm hc (fun _=>hg);refine⟨⟨C4 (TS.ok_gh hS (f7.gone _ _)) _ _,f7.gone _ _,by simp[TS.kill,fH],rfl,rfl,?_⟩,(fun h=>by cases h),(fun h=>by cases h),?_⟩
       ·show eM (eI S.gh pr none) no=_;rw[lm _ _ (.inr rfl),if_neg (fun e=>h3 e.symm)]
       ·simp only[KF,FS,Cl.av,lS]
        have hrows: (S.with no N w R).rows ⟨pr,[]⟩ sz=some (l.map tt.row):=by
         have : (S.with no N w R).look ⟨pr,[]⟩= .sl tt.width (l.map tt.row):=by
          unfold St.look TS.with
          simp only[eh];rw[if_neg h3];show (match (eM S.gh pr).map en.tree with |some t=>t.go [] |none=> .dd)=_;rw[hg];rfl
         unfold St.rows;rw[this];simp[h4']
        rw[if_pos ⟨trivial,h1.symm,e2,h2,h3⟩,hrows];simp only[af,aB];rw[if_pos (by omega),e3]
        congr 1
        have e4: (l.map tt.row).take l.length=l.map tt.row:=bD (by simp);rw[e4];simp only[eb.sub,bB,xk];unfold TS.with
        simp only;rw[Ar,FR _ (fun e=>h3 e.symm),C5];have e5: ({ S with gh:=eI S.gh pr none }:TS).kill no j= { S.kill no j with gh:=eI (S.kill no j).gh pr none } :=rfl;rw[e5,rE];simp only[C.tree,h4'];rfl
      ·cases h
     ·cases h
 |pro cs=>cases et<;>simp[gz] at h
 |ptrB n j=>cases et<;>simp[gz] at h
 |ptrT p sz a b=>cases et<;>simp[gz] at h
 |dead=>cases et<;>simp[gz] at h
theorem I9 (X:St) (no i j:Nat) (c:AV) (et:Option Ty): (if BA et=0 then some X else lS X ⟨no,[]⟩ i j (BA et) c)=KF X no i j c et:=by
 cases et with
 |none=>rfl
 |some t=>exact if_neg (by show ¬t.width=0; have:=t.width_pos; omega)
theorem FU {R:List (List T)} {i j:Nat} {x:C} {et:Option Ty} {row:List T} (hr:R[i]? =some row) (hj:j<row.length) (h:et=none->row[j]? =some x.tree):FS R i j x et=R.set i (row.set j x.tree):=by
 cases et with
 |none=>
  have h:=h rfl
  have e1:row.set j x.tree=row:=by
   apply bK;intro k;rw[bC];split
   ·rename_i hk; subst hk; first |rw[if_pos hj,h] |rw[h]
   ·rfl
  rw[e1];apply bK;intro k;show R[k]? =_;rw[bC];split
  ·rename_i hk; subst hk; rw[if_pos (ai.1 hr).1,hr]
  ·rfl
 |some t=>simp only[FS];rw[ar,hr];rfl
theorem vd (no i N w:Nat): ∀ (ets:List (Option Ty)) (cs:List Cl) (j:Nat) (S S1:TS) (xs:List C) (R:List (List T)) (row:List T),S.ok->(∀c∈cs,c.ok S.gh)->lU no j S ets cs=some (xs,S1)->R[i]? =some row->
  j+cs.length<=row.length->(∀ (k:Nat) (c:Cl),cs[k]? =some c->row[j+k]? =some (T.ofSc c.av))->
  Hq S S1 no/\ets.length=cs.length/\xs.length=cs.length/\(∀c∈cs,c≠ .dead)/\
   eC (S.with no N w R) ⟨no,[]⟩ i j (ets.map BA) (cs.map Cl.av)=some (S1.with no N w (R.set i (row.take j++xs.map C.tree++row.drop (j+cs.length)))):=by
 intro ets
 induction ets with
 |nil=>
  intro cs j S S1 xs R row hS hcs h hr hl ho;cases cs with
  |cons c cs=>simp[lU] at h
  |nil=>
   simp only[lU,ae,al] at h;obtain⟨rfl,rfl⟩:=h;refine⟨⟨hS,f7.refl _,rfl,rfl,rfl,rfl⟩,rfl,rfl,(fun c hc=>by cases hc),?_⟩;simp only[cb,eC,bw,bJ,ca,cT]
   congr 2
   apply bK;intro k;rw[bC];split
   ·rename_i hk; subst hk; rw[if_pos (ai.1 hr).1,hr]
   ·rfl
 |cons et ets ih=>
  intro cs j S S1 xs R row hS hcs h hr hl ho;cases cs with
  |nil=>simp[lU] at h
  |cons c cs=>
   simp only[lU] at h;split at h
   ·rename_i x S2 hx;split at h
    ·rename_i xs' S3 hxs;simp only[ae,al] at h;obtain⟨rfl,rfl⟩:=h;obtain⟨k1,k2,k3,k4⟩:=FT hS i N w (hcs c aH) hx R;have hj:j<row.length:=by simp at hl; omega
     have hput:=FU (et:=et) hr hj (x:=x) (fun he=>by rw[<-k3 he]; exact ho 0 c rfl);rw[hput] at k4;have hi:i<R.length:=(ai.1 hr).1
     obtain⟨m1,m2,m3,m4,m5⟩:=ih cs (j+1) S2 S3 xs' (R.set i (row.set j x.tree)) (row.set j x.tree) k1.ok (fun y hy=>Cl.ok_mono k1.gle (hcs y (aE _ hy))) hxs (by simp[hi]) (by simp at hl ⊢; omega) (fun k y hy=>by rw[List.getElem?_set_ne (by omega),show j+1+k=j+(k+1) by omega];exact ho (k+1) y (by simpa using hy))
     refine⟨⟨m1.ok,k1.gle.trans m1.gle,m1.len.trans k1.len,m1.fz.trans k1.fz,m1.nt.trans k1.nt,m1.no.trans k1.no⟩,by simp[m2],by simp[m3],fun y hy=> ?_,?_⟩
     ·rcases aR.1 hy with rfl|hy
      ·exact k2
      ·exact m4 y hy
     ·simp only[aP,eC];rw[I9,k4];simp only[af];rw[m5,List.set_set]
      congr 3
      have e2: (row.set j x.tree).take (j+1)=row.take j++ [x.tree] :=by
       rw[List.take_set,bM,ah hj];rw[dB];have hlen: (row.take j).length=j:=by simp; omega
       rw[List.set_append_right _ _ (by omega),hlen,db];rfl
      have e3: (row.set j x.tree).drop (j+1+cs.length)=row.drop (j+(cs.length+1)):=by rw[c8 (by omega),show j+1+cs.length=j+(cs.length+1) by omega]
      rw[e2,e3];simp
    ·cases h
   ·cases h
end
section
open Go
theorem Au: ∀ {cs:List Cl} {vs:List C},I3 cs=some vs->cs.map (fun c=>T.ofSc c.av)=vs.map C.tree/\vs.length=cs.length
 | [],vs,h=>by simp only[I3,ae] at h; subst h; exact⟨rfl,rfl⟩
 |c::cs,vs,h=>by
  cases c with
  |c y=>cases y with
   |sc v=>
    simp only[I3] at h;split at h
    ·rename_i r hr;simp only[ae] at h;subst h;obtain⟨h1,h2⟩:=Au hr;exact⟨by simp only[aP,h1]; rfl,by simp[h2]⟩
    ·cases h
   |ls t l=>simp[I3] at h
  | _=>simp[I3] at h
theorem ve {x:V1} (h1:x≠ .cl .dead) (h2: ∀f cs,x≠ .fn f cs): (V.v x).av.cells=x.cells.map Cl.av/\(V.v x).av.isDead=false:=by
 cases x with
 |cl c=>cases c with
  |c y=>cases y<;>exact⟨rfl,rfl⟩
  |dead=>exact absurd rfl h1
  | _=>exact⟨rfl,rfl⟩
 |agg cs=>exact⟨rfl,rfl⟩
 |fn f cs=>exact absurd rfl (h2 f cs)
section
variable {ρ:Type} {P:Program} {Θ:kL} {S:TS}
theorem C6 (tr:en) {i j n:Nat} {y:tr.t.D} (hy:tr.l[i]? =some y) (hh:tr.hole=none\/(tr.hole=some (i,j)/\n=1)) (hn:j+n<=tr.t.width):
  ∃Rh rowh,tr.tree= .sl tr.t.width Rh/\Rh[i]? =some rowh/\Rh.length=tr.l.length/\rowh.length=tr.t.width/\rowh.take j=(tr.t.row y).take j/\rowh.drop (j+n)=(tr.t.row y).drop (j+n)/\ ∀X,Rh.set i X=(tr.l.map tr.t.row).set i X:=by
 obtain⟨t,l,hole⟩:=tr;simp only at hy hh hn y;have hi:=(ai.1 hy).1;rcases hh with hh| ⟨hh,rfl⟩
 ·subst hh;exact⟨l.map t.row,t.row y,rfl,by rw[an,hy]; rfl,by simp,t.row_length y,rfl,rfl,fun _=>rfl⟩
 ·subst hh;have e1: (l.map t.row).getD i [] =t.row y:=by simp[ar,hy]
  refine⟨(l.map t.row).set i ((t.row y).set j .dd),(t.row y).set j .dd,by simp only[en.tree,e1],by simp[hi],by simp,by simp[t.row_length],?_,?_,fun X=>by rw[List.set_set]⟩
  ·rw[List.take_set,List.set_eq_of_length_le (by simp; omega)]
  ·rw[c8 (by omega)]
theorem FV (hΘ:fi P Θ) (hS:S.ok) {t:TypeId} {a v:V} (ha:a.ok S.gh) (hv:v.ok S.gh) {κ:TS->Option ρ} {r:ρ} (h:B8 Θ S t a v κ=some r): ∃S',store P S.st t a.av v.av=some (TS.st S')/\S'.ok/\f7 S.gh S'.gh/\κ S'=some r:=by
 unfold B8 at h;split at h
 ·cases h
 ·rename_i ti hti;have hok:=hΘ _ _ hti;split at h
  ·cases h
  ·cases h
  ·cases h
  ·rename_i x hx1 hx2;obtain⟨hc1,hc2⟩:=ve (x:=x) (fun e=>hx1 (by rw[e])) (fun f cs e=>hx2 f cs (by rw[e]));obtain⟨h1,h'⟩:=dG h;clear h;have h:=h';clear h';have hlen:x.cells.length=ti.ty.width:=ap h1
   have hcok: ∀c∈x.cells,c.ok S.gh:=by
    cases x with
    |cl c=>intro c' hc'; simp only[V1.cells,ay] at hc'; subst hc'; exact hv
    |agg cs=>exact hv
    |fn f cs=>exact absurd rfl (hx2 f cs)
   have hfst: ¬ ((V.v x).av.cells.length≠P.cellsOf t\/(V.v x).av.isDead=true):=by rw[hc1,hc2,hok.cells];simp[hlen]
   split at h
   ·rename_i b j;split at h
    ·rename_i cs hcs;obtain⟨h2,h⟩:=dG h;have h2:j+x.cells.length<=cs.length:=ax h2;have hcs':S.bx[b]? =some cs:=by rw[<-eW]; exact hcs
     have hb:b<S.bx.length:=(ai.1 hcs').1;refine⟨{ S with bx:=eI S.bx b (cs.take j++x.cells++cs.drop (j+x.cells.length)) },?_,⟨hS.env,fun cs' hcs'' c hc=> ?_⟩,f7.refl _,h⟩
     ·have e0:store P S.st t (V.v (.cl (.ptrB b j))).av (V.v x).av=(S.st.bx b).bind fun cs=>if j+(V.v x).av.cells.length<=cs.length then some { S.st with bx:=eh S.st.bx b (some (cs.take j++(V.v x).av.cells++cs.drop (j+(V.v x).av.cells.length))) } else none:=by
       unfold store;simp only;rw[if_neg hfst];rfl
      have e1:S.st.bx b=some (cs.map Cl.av):=by show (kJ S.bx b).map _=_; rw[hcs]; rfl
      rw[e0,e1,hc1];simp only[af,aB];rw[if_pos h2,D8 _ _ hb];simp[bI,bO]
     ·rw[fH] at hcs'';rcases da hcs'' with h3|h3
      ·exact hS.bx _ h3 c hc
      ·subst h3;simp only[bz] at hc;have hm:=aq hcs';rcases hc with (hc|hc)|hc
       ·exact hS.bx _ hm c (ce hc)
       ·exact hcok c hc
       ·exact hS.bx _ hm c (bX hc)
    ·cases h
   ·rename_i p sz i j;obtain⟨pr,pl⟩:=p;cases pl with
    |cons a l=>cases h
    |nil=>
     simp only at h;split at h
     ·rename_i tr htr;have hg:=en.look htr;obtain⟨h2,h⟩:=dG h;simp only[ao] at h2;have h3:tr.t.width=sz:=ap h2.1.1;have h4:j+ti.ty.width<=sz:=ax h2.1.2;have hgst:S.st.gh pr=some tr.tree:=by show (eM S.gh pr).map _=_; rw[hg]; rfl
      have e2: (V1.av x).cells=x.cells.map Cl.av:=hc1
      have put: ∀ (y:tr.t.D) (hy:tr.l[i]? =some y) (Rh:List (List T)) (rowh:List T),tr.tree= .sl tr.t.width Rh->Rh[i]? =some rowh->rowh.length=tr.t.width->
        store P S.st t (V.v (.cl (.ptrT ⟨pr,[]⟩ sz i j))).av (V.v x).av=(if ti.ty.flatB then some (S.with pr S.gh.length sz (Rh.set i (rowh.take j++x.cells.map (fun c=>T.ofSc c.av)++rowh.drop (j+ti.ty.width)))) else
         if S.fz<=pr then eC (S.with pr S.gh.length sz (Rh.set i (rowh.take j++x.cells.map (fun c=>T.ofSc c.av)++rowh.drop (j+ti.ty.width)))) ⟨pr,[]⟩ i j (ti.ty.csh.map BA) (x.cells.map Cl.av) else none):=by
       intro y hy Rh rowh g1 g2 g3;have hi:i<Rh.length:=(ai.1 g2).1
       have e0:store P S.st t (V.v (.cl (.ptrT ⟨pr,[]⟩ sz i j))).av (V.v x).av=(lc S.st ⟨pr,[]⟩ sz i j ((V.v x).av.cells.map T.ofSc)).bind fun S'=>if (ku P 9 t).all (· ==0) then some S' else if S.st.fz<=pr then eC S' ⟨pr,[]⟩ i j (ku P 9 t) (V.v x).av.cells else none:=by unfold store;simp only;rw[if_neg hfst];rfl
       rw[e0,hc1]
       have hrows:S.st.rows ⟨pr,[]⟩ sz=some Rh:=by unfold St.rows St.look;simp only[hgst,g1,T.go,h3,if_true]
       unfold lc;rw[hrows];simp only[aB];have hgd:Rh.getD i [] =rowh:=by simp[ar,g2]
       rw[hgd,if_pos ⟨hi,by rw[g3,hlen,h3]; exact h4⟩];simp only[af,hok.sh,sK]
       have hset:S.st.setAt ⟨pr,[]⟩ (.sl sz (Rh.set i (rowh.take j++(x.cells.map Cl.av).map T.ofSc++rowh.drop (j+x.cells.length))))=S.with pr S.gh.length sz (Rh.set i (rowh.take j++x.cells.map (fun c=>T.ofSc c.av)++rowh.drop (j+ti.ty.width))):=by
        unfold St.setAt TS.with
        simp only[hgst,az,T.put,bi,hlen];rfl
       rw[hset];rfl
      have fin: ∀ (S1:TS) (y z:tr.t.D) (vs:List C) (Rh:List (List T)) (rowh:List T),Hq S S1 pr->tr.l[i]? =some y->tr.t.flat z=(tr.t.flat y).take j++vs++(tr.t.flat y).drop (j+ti.ty.width)->
        rowh.take j=(tr.t.row y).take j->rowh.drop (j+ti.ty.width)=(tr.t.row y).drop (j+ti.ty.width)->(∀X,Rh.set i X=(tr.l.map tr.t.row).set i X)->
        S1.with pr S.gh.length sz (Rh.set i (rowh.take j++vs.map C.tree++rowh.drop (j+ti.ty.width)))=({ S1 with gh:=eI S1.gh pr (some ⟨tr.t,tr.l.set i z,none⟩) }:TS).st/\
        ({ S1 with gh:=eI S1.gh pr (some ⟨tr.t,tr.l.set i z,none⟩) }:TS).ok/\f7 S.gh (eI S1.gh pr (some ⟨tr.t,tr.l.set i z,none⟩)):=by
       intro S1 y z vs Rh rowh hT hy hz q1 q2 q3;have hg1:eM S1.gh pr=some tr:=hT.no.trans hg;have hgle:f7 S1.gh (eI S1.gh pr (some ⟨tr.t,tr.l.set i z,none⟩)):=f7.put hg1 (by simp);refine⟨?_,TS.ok_gh hT.ok hgle,hT.gle.trans hgle⟩;rw[sH _ _ (pV hg1)];unfold TS.with
       rw[q1,q2,q3]
       have hrow:tr.t.row z=(tr.t.row y).take j++vs.map C.tree++(tr.t.row y).drop (j+ti.ty.width):=by rw[tr.t.row_flat,hz,tr.t.row_flat];simp[bI,bO]
       have hng:S.gh.length=S1.st.ng:=hT.len.symm;rw[hng]
       congr 3
       simp only[en.tree,h3];rw[<-hrow,List.map_set]
      cases hfl:ti.ty.flatB with
      |true=>
       rw[hfl] at h;simp only[cond_true] at h;split at h
       ·rename_i vs hh hvs;obtain⟨y,hy,h⟩:=aj.1 h;split at h
        ·rename_i z hz;obtain⟨k1,k2⟩:=Au hvs;obtain⟨Rh,rowh,g1,g2,g3,g4,g5,g6,g7⟩:=C6 tr hy (.inl hh) (by rw[h3]; exact h4);obtain⟨f1,f2,f3⟩:=fin S y z vs Rh rowh ⟨hS,f7.refl _,rfl,rfl,rfl,rfl⟩ hy (Ty.unflat_some _ _ _ hz) g5 g6 g7;refine⟨_,?_,f2,f3,h⟩;rw[put y hy Rh rowh g1 g2 g4,hfl,if_pos rfl,k1,f1]
        ·cases h
       ·cases h
      |false=>
       rw[hfl] at h;simp only[cond_false] at h;obtain⟨h5,h⟩:=dG h;have h5:S.fz<=pr:=ax h5;split at h
       ·rename_i vs S1 hvs;obtain⟨y,hy,h⟩:=aj.1 h;split at h
        ·rename_i z hz
         have main: (tr.hole=none\/(tr.hole=some (i,j)/\ti.ty.width=1))->κ { S1 with gh:=eI S1.gh pr (some ⟨tr.t,tr.l.set i z,none⟩) } =some r-> ∃S',store P S.st t (V.v (.cl (.ptrT ⟨pr,[]⟩ sz i j))).av (V.v x).av=some (TS.st S')/\S'.ok/\f7 S.gh S'.gh/\κ S'=some r:=by
          intro hh hk;obtain⟨Rh,rowh,g1,g2,g3,g4,g5,g6,g7⟩:=C6 tr hy hh (by rw[h3]; exact h4);have hi:i<Rh.length:=(ai.1 g2).1;have htk: (rowh.take j).length=j:=by simp; omega
          have hcl: (x.cells.map fun c=>T.ofSc c.av).length=x.cells.length:=by simp
          obtain⟨m1,m2,m3,m4,m5⟩:=vd pr i S.gh.length sz ti.ty.csh x.cells j S S1 vs (Rh.set i (rowh.take j++x.cells.map (fun c=>T.ofSc c.av)++rowh.drop (j+ti.ty.width))) (rowh.take j++x.cells.map (fun c=>T.ofSc c.av)++rowh.drop (j+ti.ty.width)) hS hcok hvs (by simp[hi]) (by simp; omega) (fun k c hc=>by have hk:=(ai.1 hc).1;rw[aU,aO (by omega),htk,Nat.add_sub_cancel_left,aJ (by omega),an,hc];rfl)
          obtain⟨f1,f2,f3⟩:=fin S1 y z vs Rh rowh m1 hy (Ty.unflat_some _ _ _ hz) g5 g6 g7;refine⟨_,?_,f2,f3,hk⟩;rw[put y hy Rh rowh g1 g2 g4,hfl,if_neg (by simp),if_pos h5,m5,<-f1]
          congr 2
          rw[List.set_set]
          congr 1
          rw[aU,aU,cO (by omega),List.take_take,Nat.min_self,<-aU]
          congr 1
          rw[<-aU,List.drop_append,bn,htk,hcl,hlen,db,bT,cc (by simp; omega),bB]
         split at h
         ·rename_i hh;exact main (.inl hh) h
         ·rename_i i0 j0 hh;obtain⟨h6,h⟩:=dG h;simp only[ao] at h6;obtain⟨h7,h⟩:=eE h;have h8:j=j0:=ap h6.1;have h9:ti.ty.width=1:=ap h6.2;exact main (.inr ⟨by rw[hh,h7,h8],h9⟩) h
        ·cases h
       ·cases h
     ·cases h
   ·cases h
end
end
section
open Go
theorem wq (X:St) (p:eb) (i:Nat): ∀ (ss:List Nat) (vs:List AV) (j:Nat),ss.all (· ==0)=true->eC X p i j ss vs=some X:=by
 intro ss
 induction ss with
 |nil=>intro vs j _; cases vs<;>rfl
 |cons s ss ih=>
  intro vs j h;simp only[cd,ao,beq_iff_eq] at h;cases vs with
  |nil=>rfl
  |cons v vs=>simp only[eC];rw[if_pos h.1];exact ih vs (j+1) h.2
def pn (no:Nat) (ss:List Nat):Nat->List V->St->Option St
 | _,[],X=>some X
 |k,v::vs,X=>(eC X ⟨no,[]⟩ k 0 ss v.av.cells).bind (pn no ss (k+1) vs)
theorem Ec (el:Ty) (no N:Nat): ∀ (vs:List V) (k:Nat) (S S1:TS) (l:List el.D) (R:List (List T)),S.ok->S.gh.length=no->(∀v∈vs,v.ok S.gh)->nJ el S vs=some (l,S1)->R.length=k+vs.length->
  (∀ (m:Nat) (v:V),vs[m]? =some v->R[k+m]? =some (v.av.cells.map T.ofSc))->
  Hq S S1 no/\l.length=vs.length/\(∀v∈vs,v.av.cells.length=el.width/\v.av.isDead=false)/\pn no el.shs k vs (S.with no N el.width R)=some (S1.with no N el.width (R.take k++l.map el.row)):=by
 intro vs
 induction vs with
 |nil=>intro k S S1 l R hS hno hvs h hl ho;simp only[nJ,ae,al] at h;obtain⟨rfl,rfl⟩:=h;refine⟨⟨hS,f7.refl _,rfl,rfl,rfl,rfl⟩,rfl,(fun v hv=>by cases hv),?_⟩;simp only[pn,cb,bw];rw[bD (by simp at hl; omega)]
 |cons v vs ih=>
  intro k S S1 l R hS hno hvs h hl ho;cases v with
  |tup x=>simp[nJ] at h
  |v x=>
   simp only[nJ] at h;split at h
   ·rename_i ws S2 hw;split at h
    ·rename_i y ys S3 hy hys;simp only[ae,al] at h;obtain⟨rfl,rfl⟩:=h;have hv:=hvs _ aH;have hrow:=ho 0 _ rfl;rw[ca] at hrow;have hk:k<R.length:=(ai.1 hrow).1
     have hcok: ∀c∈x.cells,c.ok S.gh:=by
      cases x with
      |cl c=>intro c' hc'; simp only[V1.cells,ay] at hc'; subst hc'; exact hv
      |agg cs=>exact hv
      |fn f cs=>intro c' hc'; simp only[V1.cells,ay] at hc'; subst hc'; trivial
     rw[hno] at hw
     have hx:x≠ .cl .dead/\(∀f cs,x≠ .fn f cs):=by
      have nd: ∀ (cs:List Cl),cs= [.dead] ->lU no 0 S el.csh cs=some (ws,S2)->False:=by
       intro cs hcs h;subst hcs;cases hc:el.csh with
       |nil=>rw[hc] at h; simp[lU] at h
       |cons e es=>rw[hc] at h;cases e<;>simp[lU,gz] at h
      constructor
      ·intro e; subst e; exact nd _ rfl hw
      ·intro f cs e; subst e; exact nd _ rfl hw
     obtain⟨hc1,hc2⟩:=ve hx.1 hx.2
     obtain⟨m1,m2,m3,m4,m5⟩:=vd no k N el.width el.csh x.cells 0 S S2 ws R ((V.v x).av.cells.map T.ofSc) hS hcok hw hrow (by rw[hc1]; simp) (fun m c hm=>by rw[hc1,aV,an,an,hm];rfl)
     have hwid:x.cells.length=el.width:=by
      rw[<-m2];cases el with
      |st n=>cases n<;>rfl
      | _=>rfl
     obtain⟨g1,g2,g3,g4⟩:=ih (k+1) S2 S3 ys (R.set k (el.row y)) m1.ok (m1.len.trans hno) (fun v hv=>V.ok_mono m1.gle (hvs v (aE _ hv))) hys (by simp at hl ⊢; omega) (fun m v hm=>by rw[List.getElem?_set_ne (by omega),show k+1+m=k+(m+1) by omega];exact ho (m+1) v (by simpa using hm))
     refine⟨⟨g1.ok,m1.gle.trans g1.gle,g1.len.trans m1.len,g1.fz.trans m1.fz,g1.nt.trans m1.nt,g1.no.trans m1.no⟩,by simp[g2],fun v hv=> ?_,?_⟩
     ·rcases aR.1 hv with rfl|hv
      ·exact⟨by rw[hc1]; simpa using hwid,hc2⟩
      ·exact g3 v hv
     ·simp only[pn];have e1:el.shs=el.csh.map BA:=rfl;rw[hc1,e1,m5];simp only[af]
      have e2: ((V.v x).av.cells.map T.ofSc).take 0++ws.map C.tree++((V.v x).av.cells.map T.ofSc).drop (0+x.cells.length)=el.row y:=by rw[hc1,dg,bB,cc (by simp),bw,el.row_flat,Ty.unflat_some _ _ _ hy]
      rw[e2,<-e1,g4]
      congr 2
      have e3: (R.set k (el.row y)).take (k+1)=R.take k++ [el.row y] :=by
       rw[List.take_set,bM,ah hk,dB];have hlen: (R.take k).length=k:=by simp; omega
       rw[List.set_append_right _ _ (by omega),hlen,db];rfl
      rw[e3];simp
    ·cases h
   ·cases h
theorem Av (t:Ty):t.zcs.map C.tree=List.zipWith zc t.shs t.zvs:=by
 cases t with
 |st n=>cases n<;>rfl
 | _=>rfl
theorem yq: ∀ {a b:List Nat},JM a b=true->a=b
 | [],[],_=>rfl
 |a::l,b::m,h=>by
  simp only[JM] at h;cases hb:Nat.beq a b with
  |true=>rw[hb] at h;rw[ap hb,yq h]
  |false=>rw[hb] at h; cases h
 | [],_::_,h=>by cases h
 | _::_,[],h=>by cases h
theorem Aw (no:Nat) (ss:List Nat) (e:Operand->AV): ∀ (ps:List (Nat×Operand)) (vs:List V) (k:Nat) (X:St),ps.map (·.1)=List.range' k ps.length->ps.map (fun x=>e x.2)=vs.map V.av->
  ps.foldlM (fun S' x=>eC S' ⟨no,[]⟩ x.1 0 ss (e x.2).cells) X=pn no ss k vs X:=by
 intro ps
 induction ps with
 |nil=>
  intro vs k X _ h;cases vs with
  |nil=>rfl
  |cons v vs=>cases h
 |cons p ps ih=>
  intro vs k X h1 h2;cases vs with
  |nil=>cases h2
  |cons v vs=>
   simp only[aP,bo] at h2;simp only[aP,aY,ci,bo] at h1;simp only[List.foldlM_cons,pn,h1.1,h2.1];cases eC X ⟨no,[]⟩ k 0 ss v.av.cells with
   |none=>rfl
   |some X'=>exact ih vs (k+1) X' h1.2 h2.2
section
variable {ρ:Type} {P:Program} {Θ:kL} {S:TS} {Y:sf}
theorem Hr {a:AV} {n:Int} (h:uj a=some n): ∃k,a= .sc (.int k n):=by
 unfold uj at h;split at h
 ·rename_i k m;simp only[ae] at h;subst h;exact⟨k,rfl⟩
 ·cases h
theorem Hs (c:Cl):xJ c.av=B9 c:=by
 cases c with
 |c x=>cases x<;>rfl
 | _=>rfl
theorem yr (cs:List Cl): (cs.map Cl.av).any xJ=cs.any B9:=by
 rw[List.any_map]
 congr 1
 funext c
 exact Hs c
theorem tp (c:Cl): (V.v (.cl c)).av.cells= [c.av] :=by
 cases c with
 |c x=>cases x<;>rfl
 | _=>rfl
theorem FW {v:V} (h:uX v=true):v.av.cells.any xJ=true:=by
 cases v with
 |tup l=>cases h
 |v x=>
  cases x with
  |cl c=>rw[tp];have h: [c].any B9=true:=h;rw[<-yr] at h;exact h
  |agg cs=>have h:cs.any B9=true:=h;rw[<-yr] at h;exact h
  |fn f cs=>cases h
theorem FX {v:V} (h:v.av.cells.any xJ=true):uX v=true:=by
 cases v with
 |tup l=>cases h
 |v x=>
  cases x with
  |cl c=>rw[tp] at h;show [c].any B9=true;rw[<-yr];exact h
  |agg cs=>show cs.any B9=true;rw[<-yr];exact h
  |fn f cs=>cases h
theorem vf: ∀ (ets:List (Option Ty)) (cs:List Cl) (xs:List C),jO ets cs=some xs->cs.length=ets.length/\v6 (ets.map fun |some e=>e.width|none=>0) (cs.map Cl.av)=some (xs.map C.tree)
 | [],[],xs,h=>by simp only[jO,ae] at h; subst h; exact⟨rfl,rfl⟩
 |et::ets, .c x::cs,xs,h=>by
  have h: (match jO ets cs with |some r=>some (x::r)|none=>none)=some xs:=by cases et<;>exact h
  split at h
  ·rename_i r hr;simp only[ae] at h;subst h;obtain⟨h1,h2⟩:=vf ets cs r hr;refine⟨by simp[h1],?_⟩;simp only[aP,v6];have : ∀s,JJ s (Cl.av (.c x))=some x.tree:=fun s=>by cases x<;>rfl
   rw[this,h2];rfl
  ·cases h
 |some t::ets, .em::cs,xs,h=>by
  simp only[jO] at h;split at h
  ·rename_i r hr;simp only[ae] at h;subst h;obtain⟨h1,h2⟩:=vf ets cs r hr;refine⟨by simp[h1],?_⟩;simp only[aP,v6,h2];rfl
  ·cases h
 | [],_::_,xs,h=>by simp[jO] at h
 | _::_,[],xs,h=>by simp[jO] at h
 |none::ets, .em::cs,xs,h=>by simp[jO] at h
 | _::ets, .own _ _ _ _ _::cs,xs,h=>by simp[jO] at h
 | _::ets, .pro _::cs,xs,h=>by simp[jO] at h
 | _::ets, .ptrB _ _::cs,xs,h=>by simp[jO] at h
 | _::ets, .ptrT _ _ _ _::cs,xs,h=>by simp[jO] at h
 | _::ets, .dead::cs,xs,h=>by simp[jO] at h
theorem tu (el:Ty): ∀ (vs:List V) (l:List el.D),n7 el vs=some l->l.length=vs.length/\o7 el.shs (vs.map fun v=>v.av.cells)=some (l.map el.row)/\ ∀v∈vs,v.av.cells.length=el.width/\v.av.isDead=false
 | [],l,h=>by simp only[n7,ae] at h; subst h; exact⟨rfl,rfl,fun v hv=>by cases hv⟩
 | .v x::vs,l,h=>by
   simp only[n7] at h;split at h
   ·rename_i xs hx;split at h
    ·rename_i y ys hy hys;simp only[ae] at h;subst h;obtain⟨h1,h2,h3⟩:=tu el vs ys hys;obtain⟨g1,g2⟩:=vf _ _ _ hx
     have n1:x≠ .cl .dead:=fun e=>by
      subst e;have hx:jO el.csh [Cl.dead] =some xs:=hx;cases hc:el.csh with
      |nil=>rw[hc] at hx; simp[jO] at hx
      |cons a b=>rw[hc] at hx; simp[jO] at hx
     have n2: ∀f cs,x≠ .fn f cs:=fun f cs e=>by
      subst e;have hx:jO el.csh [Cl.dead] =some xs:=hx;cases hc:el.csh with
      |nil=>rw[hc] at hx; simp[jO] at hx
      |cons a b=>rw[hc] at hx; simp[jO] at hx
     obtain⟨hc,hd⟩:=ve n1 n2
     have hw:el.csh.length=el.width:=by have:=qU el;unfold Ty.shs at this;simpa using this
     refine⟨by simp[h1],?_,fun v hv=> ?_⟩
     ·simp only[aP,o7,hc];rw[show el.shs=el.csh.map fun |some e=>e.width|none=>0 from rfl,g2];simp only[af];rw[show (el.csh.map fun |some e=>e.width|none=>0)=el.shs from rfl,h2,el.row_flat,Ty.unflat_some _ _ _ hy];rfl
     ·rcases aR.1 hv with rfl|hv
      ·exact⟨by rw[hc,aB,g1,hw],hd⟩
      ·exact h3 v hv
    ·cases h
   ·cases h
 | .tup _::vs,l,h=>by simp[n7] at h
theorem vg (hΘ:fi P Θ) (hY:jH P Y) (hS:S.ok) {o:Oper} {κ:V->TS->Option ρ} {r:ρ} (h:qo Θ Y S o κ=some r):
  ∃D v S',jN P D/\fq D P S.st o=some (V.av v,TS.st S')/\S'.ok/\v.ok S'.gh/\κ v S'=some r:=by
 have ok: ∀x,(S.opd x).ok S.gh:=fun x=>ji hS x
 have vals:qR Θ S o κ=some r->(∀D:mu,fq D P S.st o=(dH D P S.st o).map fun v=>(v,S.st))-> ∃D v S',jN P D/\fq D P S.st o=some (V.av v,TS.st S')/\S'.ok/\v.ok S'.gh/\κ v S'=some r:=by intro h he;obtain⟨v,S1,h1,h2,h3,h4,h5,h6⟩:=sF (D:=yp) hΘ hS h;exact⟨yp,v,S1,f9,by rw[he,h1,az,h2],h3,by rw[h4]; exact h5,h6⟩
 obtain⟨dst,op,ty,pos,aft,gd⟩:=o;unfold qo at h;cases op with
 |alloc t=>
  simp only at h;split at h
  ·rename_i ti hti;refine⟨yp,_,{ S with bx:=S.bx++ [ti.ty.zvs.map cC] },f9,?_,⟨hS.env,fun cs hcs c hc=> ?_⟩,?_,h⟩
   ·simp only[fq,(hΘ _ _ hti).ze,az];rw[Cd,FH];rfl
   ·rcases bz.1 hcs with h1|h1
    ·exact hS.bx cs h1 c hc
    ·simp only[ay] at h1;subst h1;exact FI _ _ c hc
   ·trivial
  ·cases h
 |box t x=>
  have fin: ∀ (cs:List Cl),(∀c∈cs,c.ok S.gh)->fq yp P S.st ⟨dst, .box t x,ty,pos,aft,gd⟩=some (.ptrB S.bx.length 0,{ S.st with bx:=eh S.st.bx S.bx.length (some (cs.map Cl.av)),nb:=S.bx.length+1 })->κ (.v (.cl (.ptrB S.bx.length 0))) { S with bx:=S.bx++ [cs] } =some r->
    ∃D v S',jN P D/\fq D P S.st ⟨dst, .box t x,ty,pos,aft,gd⟩=some (V.av v,TS.st S')/\S'.ok/\v.ok S'.gh/\κ v S'=some r:=by
   intro cs hcs h1 h2;refine⟨yp, .v (.cl (.ptrB S.bx.length 0)),{ S with bx:=S.bx++ [cs] },f9,?_,⟨hS.env,fun cs' hcs' c hc=> ?_⟩,trivial,h2⟩
   ·rw[h1,Cd]; rfl
   ·rcases bz.1 hcs' with h3|h3
    ·exact hS.bx cs' h3 c hc
    ·simp only[ay] at h3;subst h3;exact hcs c hc
  simp only at h;split at h
  ·cases h
  ·rename_i c hnd hx;have hc:=ok x;rw[hx] at hc;refine fin [c] (fun c' hc'=>by simp only[ay] at hc'; subst hc'; exact hc) ?_ h;simp only[fq,dL,hx];cases c with
   |dead=>exact absurd rfl hnd
   |c y=>cases y<;>rfl
   | _=>rfl
  ·rename_i cs hx;have hc:=ok x;rw[hx] at hc;refine fin cs hc ?_ h;simp only[fq,dL,hx];rfl
  ·cases h
 |store t a x=>simp only at h;obtain⟨S1,h1,h2,h3,h⟩:=FV hΘ hS (ok a) (ok x) h;refine⟨yp,_,S1,f9,?_,h2,V.ok_dead _,h⟩;simp only[fq,dL,h1,az];rfl
 |makeSlice t l c=>
  simp only at h;split at h
  ·rename_i ti hti;split at h
   ·rename_i el he;obtain⟨elT',g1,g2,g3,g4,g5,g6⟩:=(hΘ _ _ hti).el el he;obtain⟨n,h1,h⟩:=rD h;obtain⟨m,h2,h⟩:=rD h;split at h
    ·rename_i z hz;obtain⟨hb,h⟩:=eE h;have hz':=Ty.unflat_some _ _ _ hz
     have hzr:el.row z=List.zipWith zc el.shs el.zvs:=by rw[el.row_flat,hz',Av]
     refine⟨yp,_,{ S with gh:=S.gh++ [some ⟨el,List.replicate n.toNat z,none⟩] },f9,?_,TS.ok_gh hS (f7.app _ _),?_,h⟩
     ·simp only[fq,g1,af,dL,h1,h2];rw[ud g2 g5 g6];simp only[af]
      have hn:n<=n*(ti.el:Int):=by
       have h1e: (1:Int)<=ti.el:=by omega
       have:=Int.mul_le_mul_of_nonneg_left h1e hb.1
       rwa [Int.mul_one] at this
      rw[if_pos ⟨hb.1,hb.2.1,by rw[g3,Int.mul_comm]; exact hb.2.2,Int.le_trans hn hb.2.2⟩];rw[u4,g2];simp only[en.tree,dC,hzr];rfl
     ·refine⟨by simp,fun _=>⟨rfl,rfl,fun tr htr=> ?_⟩⟩;rw[jj,if_pos rfl] at htr;cases htr;simp
    ·cases h
   ·cases h
  ·cases h
 |buildSlice t len parts=>
  simp only at h;split at h
  ·rename_i ti hti;split at h
   ·rename_i el he;obtain⟨elT',g1,g2,g3,g4,g5,g6⟩:=(hΘ _ _ hti).el el he;obtain⟨hb,h⟩:=dG h;simp only[ao] at hb;have hb1:len*el.width<=1048576:=ax hb.1;have hb2:=yq hb.2
    have hpl:parts.toList.length=len:=by have:=congrArg List.length hb2;simpa using this
    cases hro: (parts.toList.map fun x=>S.opd x.2).any uX with
    |true=>
     rw[hro] at h;simp only[cond_true] at h;split at h
     ·rename_i l hl;obtain⟨m1,m2,m3⟩:=tu el _ l hl;refine⟨yp, .v (.cl (.c (.ls el l))),S,f9,?_,hS,trivial,h⟩;simp only[fq,g1,af]
      rw[if_pos ⟨by rw[g2]; exact hb1,hb2,by rw[g2]; exact el.width_pos,by rw[g6]; rfl,by rw[au];intro y hy;obtain⟨q1,q2⟩:=m3 (S.opd y.2) (aL.2 ⟨y,hy,rfl⟩);simp only[dL,q1,q2,g2];rfl⟩]
      have e1: (parts.toList.any fun x=>(opd S.st x.2).cells.any xJ)=true:=by rw[bN] at hro ⊢;obtain⟨v,hv,hr⟩:=hro;obtain⟨x,hx,rfl⟩:=aL.1 hv;exact⟨x,hx,by rw[dL]; exact FW hr⟩
      have e2: (parts.toList.map fun x=>(opd S.st x.2).cells)=(parts.toList.map fun x=>S.opd x.2).map fun v=>v.av.cells:=by rw[bi];exact aG fun x _=>by simp only[Function.comp,dL]
      rw[if_pos e1,e2,g5,m2,g2];rfl
     ·cases h
    |false=>
    rw[hro] at h;simp only[cond_false] at h;split at h
    ·rename_i l S1 hp
     have hvok: ∀v∈parts.toList.map (fun x=>S.opd x.2),v.ok S.gh:=fun v hv=>by obtain⟨y,_,rfl⟩:=aL.1 hv;exact ok _
     have hR: ∀ (m:Nat) (v:V),(parts.toList.map fun x=>S.opd x.2)[m]? =some v->(parts.toList.map fun x=>(opd S.st x.2).cells.map T.ofSc)[0+m]? =some (v.av.cells.map T.ofSc):=by intro m v hm;rw[aV,an];rw[an] at hm;simp only[ak] at hm;obtain⟨y,hy,rfl⟩:=hm;rw[hy];simp only[az,dL]
     obtain⟨m1,m2,m3,m4⟩:=Ec el S.gh.length (S.gh.length+1) _ 0 S S1 l _ hS rfl hvok hp (by simp) hR;have hlen:l.length=len:=by rw[m2]; simp[hpl]
     refine⟨yp,_,{ S1 with gh:=S1.gh++ [some ⟨el,l,none⟩] },f9,?_,TS.ok_gh m1.ok (f7.app _ _),?_,h⟩
     ·simp only[fq,g1,af]
      rw[if_pos ⟨by rw[g2]; exact hb1,hb2,by rw[g2]; exact el.width_pos,by rw[g6]; rfl,by rw[au];intro y hy;obtain⟨q1,q2⟩:=m3 (S.opd y.2) (aL.2 ⟨y,hy,rfl⟩);simp only[dL,q1,q2,g2];rfl⟩]
      have hfold:=Aw S.gh.length el.shs (opd S.st) parts.toList (parts.toList.map fun x=>S.opd x.2) 0 (S.with S.gh.length (S.gh.length+1) el.width (parts.toList.map fun x=>(opd S.st x.2).cells.map T.ofSc)) (by rw[hb2,hpl,cn]) (by rw[bi];exact aG fun y _=>dL _)
      have e0: (parts.toList.any fun x=>(opd S.st x.2).cells.any xJ)=false:=by rw[List.any_eq_false] at hro ⊢;intro x hx;have:=hro (S.opd x.2) (aL.2 ⟨x,hx,rfl⟩);rw[dL];exact fun hc=>this (FX hc)
      rw[if_neg (by rw[e0]; decide)]
      have hX: ({ S.st with gh:=eh S.st.gh S.st.ng (some (.sl (P.cellsOf elT') (parts.toList.map fun x=>(opd S.st x.2).cells.map T.ofSc))),ng:=S.st.ng+1 }:St)=S.with S.gh.length (S.gh.length+1) el.width (parts.toList.map fun x=>(opd S.st x.2).cells.map T.ofSc):=by rw[g2]; rfl
      rw[hX,g5];have hng:S.st.ng=S.gh.length:=rfl;rw[hng]
      have hres: (if (el.shs.all (· ==0))=true then some (S.with S.gh.length (S.gh.length+1) el.width (parts.toList.map fun x=>(opd S.st x.2).cells.map T.ofSc)) else
        parts.toList.foldlM (fun S' x=>eC S' ⟨S.gh.length,[]⟩ x.1 0 el.shs (opd S.st x.2).cells) (S.with S.gh.length (S.gh.length+1) el.width (parts.toList.map fun x=>(opd S.st x.2).cells.map T.ofSc)))=some (S1.with S.gh.length (S.gh.length+1) el.width (l.map el.row)):=by
       rw[hfold];simp only[dg,bB] at m4;rw[m4];split
       ·rename_i hfl
        have : ∀ (vs:List V) (k:Nat) (X:St),pn S.gh.length el.shs k vs X=some X:=by
         intro vs
         induction vs with
         |nil=>intro k X; rfl
         |cons v vs ih=>intro k X; simp only[pn]; rw[wq _ _ _ _ _ _ hfl]; exact ih _ _
        rw[this] at m4;exact m4
       ·rfl
      rw[hres];simp only[az];rw[u4,m1.len,g2];simp only[V.av,V1.av,Cl.av,hlen];rfl
     ·refine⟨by simp,fun _=>⟨rfl,rfl,fun tr htr=> ?_⟩⟩;rw[jj,if_pos rfl] at htr;cases htr;rfl
    ·cases h
   ·cases h
  ·cases h
 |call c=>
  obtain⟨cl,as,ts⟩:=c;cases cl with
  |value f=>simp only at h;exact FN hΘ hY hS h
  |invoke a b=>exact vals h (fun D=>rfl)
  |builtin b=>
   cases b with
   |append=>
    simp only at h;split at h
    ·rename_i s x t t' e1 e2;cases htb:Nat.beq t t' with
     |false=>
      rw[htb] at h;simp only[cond_false] at h;have hne: ¬t=t':=fun e=>by rw[e,co] at htb; cases htb
      unfold Iu at h;split at h
      ·rename_i ti hti;split at h
       ·rename_i el he hs;obtain⟨elT',g1,g2,g3,g4,g5,g6⟩:=(hΘ _ _ hti).el el he;obtain⟨n,h1,h⟩:=rD h;split at h
        ·rename_i z hz;obtain⟨hb,h⟩:=eE h;have hz':=Ty.unflat_some _ _ _ hz
         have hzr:el.row z=List.zipWith zc el.shs el.zvs:=by rw[el.row_flat,hz',Av]
         obtain⟨kk,hkk⟩:=Hr h1;refine⟨yp,_,{ S with gh:=S.gh++ [some ⟨el,List.replicate n.toNat z,none⟩] },f9,?_,TS.ok_gh hS (f7.app _ _),?_,h⟩
         ·simp only[fq,e1,e2,if_neg hne,g1,af];rw[ud g2 g5 g6];simp only[af,dL,hs,hkk]
          have hn:n<=n*(ti.el:Int):=by
           have h1e: (1:Int)<=ti.el:=by omega
           have:=Int.mul_le_mul_of_nonneg_left h1e (du hb.1)
           rwa [Int.mul_one] at this
          show (if 0<n/\_ then _ else _)=_;rw[if_pos ⟨hb.1,by rw[g3,Int.mul_comm]; exact hb.2,Int.le_trans hn hb.2,by rw[g2]; exact el.width_pos⟩];rw[u4,g2];simp only[en.tree,dC,hzr];rfl
         ·refine⟨by simp,fun _=>⟨rfl,rfl,fun tr htr=> ?_⟩⟩;rw[jj,if_pos rfl] at htr;cases htr;simp
        ·cases h
       ·cases h
      ·cases h
     |true=>
     rw[htb] at h;simp only[cond_true] at h;have h':=h;have ht:t=t':=ap htb;clear h;subst ht;have e1:as= #[s,x] :=by apply Array.ext'; simpa using e1
     have e2:ts= #[t,t] :=by apply Array.ext'; simpa using e2
     subst e1 e2;obtain⟨v,S1,h1,h2,h3,h4⟩:=Hn (D:=yp) (dst:=dst) (ty:=ty) (pos:=pos) (aft:=aft) (gd:=gd) hΘ hS h';exact⟨yp,v,S1,f9,h1,h2,h3,h4⟩
    ·cases h
   | _=>exact vals h (fun D=>rfl)
 |convert s d x=>
  simp only at h;split at h
  ·rename_i p sz lo len wh hx;split at h
   ·rename_i si di hsi hdi;split at h
    ·rename_i hs8 hds;obtain⟨t,l,g1,g0,h⟩:=fu h;clear g0;unfold JN at h;split at h
     ·rename_i l;obtain⟨hb,h⟩:=dG h;have hb:sz=1:=ap hb;subst hb;unfold dJ at h;split at h
      ·rename_i hc;obtain⟨u,u1,u2,_⟩:=(hΘ _ _ hsi).el _ hs8;have u8:=(hΘ _ _ hsi).el8 _ _ hs8 u1;have hd:tH P d=true:=by rw[(hΘ _ _ hdi).str,hds]
       refine⟨yp,_,S,f9,?_,hS,V.ok_sc _ _,h⟩
       have hrows:S.st.rows p 1=some (l.map (Ty.row (.i .u8))):=by unfold St.rows;rw[g1];rfl
       have hbt:o8 (((l.map (Ty.row (.i .u8))).drop lo).take len)=some ((l.drop lo).take len):=by
        rw[<-bO,<-bI];generalize (l.drop lo).take len=m
        induction m with
        |nil=>rfl
        |cons n m ih=>show (o8 (m.map (Ty.row (.i .u8)))).map (fun ns=>n::ns)=_;rw[ih];rfl
       have ex:opd S.st x= .own p 1 lo len:=by rw[dL,hx]; rfl
       simp only[fq,ex,u1,af];rw[if_pos ⟨by unfold IL; rw[u8],hd,by first |exact trivial|exact rfl,hc.1⟩,hrows];simp only[af];rw[if_pos (by rw[aB]; exact hc.2),hbt];rfl
      ·cases h
     ·cases h
    ·cases h
   ·cases h
  ·rename_i hno;refine vals h (fun D=> ?_);simp only[fq];split
   ·rename_i p sz lo len he;exfalso;rw[dL] at he;cases hv:S.opd x with
    |v y=>
     cases y with
     |cl c=>
      cases c with
      |own p' sz' lo' len' w=>exact hno _ _ _ _ _ hv
      |c y=>rw[hv] at he; cases y<;>cases he
      | _=>rw[hv] at he; cases he
     | _=>rw[hv] at he; cases he
    | _=>rw[hv] at he; cases he
   ·rfl
 | _=>exact vals h (fun D=>rfl)
end
end
end Go.Proofs.YtadpelkpdaohnaaGreatDoor.En
