import Derived.Test.YtkghndikalnipaaGreatZX8
import Derived.ProofKit
import Derived.ChangeOld
import Derived.Deep.Slices
import Derived.OpenShut
import Derived.Below
import Derived.Carry
import Derived.WideShapes
set_option linter.unusedSimpArgs false
set_option linter.unusedVariables false
namespace Go.Proofs.YtkghndikalnipaaGreat.En
section
open Go
inductive Sh where
 |int (k:IntKind)|bl|str|ro (t:Ty)|own (r:Nat) (t:Ty)|ptr (n j:Nat)|em|dead|pro (t:Ty)|fc (g:Nat)|sub (r:Nat) (t:Ty)|pt (r w:Nat)|row (r j w:Nat)|hd
abbrev Sh.D:Sh->Type
 | .int _=>Int| .bl=>Bool| .str=>ByteArray| .ro t=>List t.D| .pro t=>t.D| .sub _ _=>Nat×Nat| .row _ _ _=>Nat×Nat×Nat| .hd=>Hd| _=>Unit
abbrev kC.D:List Sh->Type
 | [] =>Unit
 |s::l=>s.D×kC.D l
inductive mu where
 |cl (s:Sh)|agg (l:List Sh)|st (n:Sn)|fn (f:FuncId) (l:List Sh)
abbrev mu.D:mu->Type
 | .cl s=>s.D| .agg l=>kC.D l| .st n=>n.D| .fn _ l=>kC.D l
abbrev pP.D:List (Nat×mu)->Type
 | [] =>Unit
 |x::l=>x.2.D×pP.D l
abbrev pO.D:List (List Sh)->Type
 | [] =>Unit
 |x::l=>kC.D x×pO.D l
abbrev jd.D:List Ty->Type
 | [] =>Unit
 |t::l=>List t.D×jd.D l
structure kY where
 env:List (Nat×mu)
 bx:List (List Sh)
 gh:List Ty
 fz:Nat
 nt:Nat
abbrev kY.D(L:kY):Type:=pP.D L.env×pO.D L.bx×jd.D L.gh
def Ca(G:List (Option dS))(r:Nat):Nat:=match gT G r with |some (some tr)=>tr.l.length| _=>0
def Sh.mk(G:List (Option dS)): (s:Sh)->s.D->Cl
 | .int k,n=> .c (.sc (.int k n))| .bl,v=> .c (.sc (.bool v))| .str,v=> .c (.sc (.string v))| .ro t,l=> .c (.ls t l)
 | .own r t,_=> .own ⟨r,[]⟩ t.width 0 (Ca G r) true| .ptr n j,_=> .ptrB n j| .em,_=> .em| .dead,_=> .dead| .pro t,x=> .pro (t.flat x)| .fc g,_=> .c (.sc (.func (.func g) #[] #[]))| .sub r t,x=> .own ⟨r,[]⟩ t.width x.1 x.2 false| .pt r w,_=> .ptrT ⟨r,[]⟩ w 0 0| .row r j w,x=> .own ⟨r,[(x.1,j)]⟩ w x.2.1 x.2.2 false| .hd,x=> .c (.sc (.slice x.a x.n x.c))
def kC.mk(G:List (Option dS)): (l:List Sh)->kC.D l->List Cl
 | [],_=> []
 |s::l,x=>s.mk G x.1::kC.mk G l x.2
def mu.mk(G:List (Option dS)): (v:mu)->v.D->V
 | .cl s,x=> .v (.cl (s.mk G x))| .agg l,x=> .v (.agg (kC.mk G l x))| .st n,x=> .v (.agg ((n.flat x).map .c))| .fn f l,x=> .v (.fn f (kC.mk G l x))
def pP.mk(G:List (Option dS)): (l:List (Nat×mu))->pP.D l->List (Nat×V)
 | [],_=> []
 |x::l,d=>(x.1,x.2.mk G d.1)::pP.mk G l d.2
def pO.mk(G:List (Option dS)): (l:List (List Sh))->pO.D l->List (List Cl)
 | [],_=> []
 |x::l,d=>kC.mk G x d.1::pO.mk G l d.2
def jd.mk: (l:List Ty)->jd.D l->List (Option dS)
 | [],_=> []
 |t::l,d=>some ⟨t,d.1,none⟩::jd.mk l d.2
def kY.mk'(L:kY)(d:L.D):TS:={ env:=pP.mk (jd.mk L.gh d.2.2) L.env d.1,bx:=pO.mk (jd.mk L.gh d.2.2) L.bx d.2.1,gh:=jd.mk L.gh d.2.2,fz:=L.fz,nt:=L.nt }
section
variable {ρ:Type}
def Sh.un: (s:Sh)->Cl->(s.D->Option ρ)->Option ρ
 | .int k,.c (.sc (.int k' n)),κ=>bif decide (k'=k) then κ n else none
 | .bl,.c (.sc (.bool v)),κ=>κ v
 | .str,.c (.sc (.string v)),κ=>κ v
 | .ro t,.c (.ls t' l),κ=>match j8 t' t l with |some l=>κ l|none=>none
 | .own r t,.own p sz _ _ w,κ=>match p.l with | [] =>(bif w&&Nat.beq p.r r&&Nat.beq sz t.width then κ () else none)| _=>none
 | .ptr n i,.ptrB m j,κ=>bif Nat.beq m n&&Nat.beq j i then κ () else none
 | .em,.em,κ=>κ ()
 | .dead,.dead,κ=>κ ()
 | .pro t,.pro xs,κ=>(match t.unflat xs with |some x=>κ x|none=>none)
 | .fc g,.c (.sc (.func (.func g') cs ts)),κ=>bif Nat.beq g' g&&Nat.beq cs.size 0&&Nat.beq ts.size 0 then κ () else none
 | .sub r t,.own p sz lo len w,κ=>match p.l with | [] =>(bif !w&&Nat.beq p.r r&&Nat.beq sz t.width then κ (lo,len) else none)| _=>none
 | .pt r w,.ptrT p sz i j,κ=>match p.l with | [] =>(bif Nat.beq p.r r&&Nat.beq sz w&&Nat.beq i 0&&Nat.beq j 0 then κ () else none)| _=>none
 | .hd,.c (.sc (.slice a n c)),κ=>κ ⟨a,n,c⟩
 | .row r j n,.own p sz lo len w,κ=>match p.l with | [x] =>(bif !w&&Nat.beq p.r r&&Nat.beq sz n&&Nat.beq x.2 j then κ (x.1,lo,len) else none)| _=>none
 | _,_,_=>none
def kC.un: (l:List Sh)->List Cl->(kC.D l->Option ρ)->Option ρ
 | [],[],κ=>κ ()
 |s::l,c::cs,κ=>s.un c λx=>kC.un l cs λy=>κ (x,y)
 | _,_,_=>none
def mu.un: (v:mu)->V->(v.D->Option ρ)->Option ρ
 | .cl s,.v (.cl c),κ=>s.un c κ
 | .agg l,.v (.agg cs),κ=>kC.un l cs κ
 | .st n,.v (.agg cs),κ=>match rX cs with |some xs=>(match n.unflat xs with |some x=>κ x|none=>none)|none=>none
 | .fn f l,.v (.fn g cs),κ=>bif Nat.beq f g then kC.un l cs κ else none
 | _,_,_=>none
def pP.un: (l:List (Nat×mu))->List (Nat×V)->(pP.D l->Option ρ)->Option ρ
 | [],[],κ=>κ ()
 |x::l,y::m,κ=>bif Nat.beq x.1 y.1 then x.2.un y.2 λa=>pP.un l m λb=>κ (a,b) else none
 | _,_,_=>none
def pO.un: (l:List (List Sh))->List (List Cl)->(pO.D l->Option ρ)->Option ρ
 | [],[],κ=>κ ()
 |x::l,y::m,κ=>kC.un x y λa=>pO.un l m λb=>κ (a,b)
 | _,_,_=>none
def jd.un: (l:List Ty)->List (Option dS)->(jd.D l->Option ρ)->Option ρ
 | [],[],κ=>κ ()
 |t::l,some tr::m,κ=>match tr.hole with
  |none=>(match j8 tr.t t tr.l with |some a=>jd.un l m λb=>κ (a,b)|none=>none)
  |some _=>none
 | _,_,_=>none
def kY.un(L:kY)(S:TS)(κ:L.D->Option ρ):Option ρ:=jd.un L.gh S.gh λg=>pP.un L.env S.env λe=>pO.un L.bx S.bx λb=>bif Nat.beq S.fz L.fz&&Nat.beq S.nt L.nt then κ (e,b,g) else none
theorem Sh.un_some{G:List (Option dS)}(hG: ∀r,r<G.length-> ∃tr,gT G r=some (some tr)): ∀ {s:Sh} {c:Cl} {κ:s.D->Option ρ} {r:ρ},c.ok G->s.un c κ=some r-> ∃x,c=s.mk G x/\κ x=some r:=by
 intro s c κ r hc h;cases s with
 |int k=>
  cases c with
  |c y=>cases y with
   |sc v=>cases v with
    |int k' n=>simp only[Sh.un] at h;obtain⟨h1,h⟩:=dK h;have:=of_decide_eq_true h1;subst this;exact⟨n,rfl,h⟩
    | _=>simp[Sh.un] at h
   |ls t l=>simp[Sh.un] at h
  | _=>simp[Sh.un] at h
 |bl=>
  cases c with
  |c y=>cases y with
   |sc v=>cases v with
    |bool v=>exact⟨v,rfl,h⟩
    | _=>simp[Sh.un] at h
   |ls t l=>simp[Sh.un] at h
  | _=>simp[Sh.un] at h
 |str=>
  cases c with
  |c y=>cases y with
   |sc v=>cases v with
    |string v=>exact⟨v,rfl,h⟩
    | _=>simp[Sh.un] at h
   |ls t l=>simp[Sh.un] at h
  | _=>simp[Sh.un] at h
 |ro t=>
  cases c with
  |c y=>cases y with
   |sc v=>simp[Sh.un] at h
   |ls t' l=>
    simp only[Sh.un] at h;split at h
    ·rename_i l' hl;obtain⟨e,hl⟩:=eI hl;subst e;simp only at hl;subst hl;exact⟨l,rfl,h⟩
    ·cases h
  | _=>simp[Sh.un] at h
 |own q t=>
  cases c with
  |own p sz lo len w=>
   obtain⟨pr,pl⟩:=p;cases pl with
   |cons a l=>simp[Sh.un] at h
   |nil=>
    simp only[Sh.un] at h;obtain⟨h1,h'⟩:=dK h;clear h;simp only[ao] at h1;obtain⟨⟨h0,h2⟩,h3⟩:=h1;have h2:pr=q:=aq h2;have h3:sz=t.width:=aq h3;subst h0 h2 h3;obtain⟨k1,k2⟩:=hc;obtain⟨_,k3,k4⟩:=k2 rfl
    grind [dS.look,Sh.mk,Ca]
  |c y=>cases y<;>simp[Sh.un] at h
  | _=>simp[Sh.un] at h
 |sub q t=>
  cases c with
  |own p sz lo len w=>
   obtain⟨pr,pl⟩:=p;cases pl with
   |cons a l=>simp[Sh.un] at h
   |nil=>simp only[Sh.un] at h;obtain⟨h1,h'⟩:=dK h;clear h;simp only[ao,bT] at h1;obtain⟨⟨h0,h2⟩,h3⟩:=h1;have h2:pr=q:=aq h2;have h3:sz=t.width:=aq h3;subst h0 h2 h3;exact⟨(lo,len),rfl,h'⟩
  |c y=>cases y<;>simp[Sh.un] at h
  | _=>simp[Sh.un] at h
 |hd=>
  cases c with
  |c y=>cases y with
   |sc v=>cases v with
    |slice a n c=>exact⟨⟨a,n,c⟩,rfl,h⟩
    | _=>simp[Sh.un] at h
   |ls t l=>simp[Sh.un] at h
  | _=>simp[Sh.un] at h
 |row q j n=>
  cases c with
  |own p sz lo len w=>
   obtain⟨pr,pl⟩:=p;cases pl with
   |nil=>simp[Sh.un] at h
   |cons a l=>
    cases l with
    |cons b l=>simp[Sh.un] at h
    |nil=>obtain⟨a1,a2⟩:=a;simp only[Sh.un] at h;obtain⟨h1,h'⟩:=dK h;clear h;simp only[ao,bT] at h1;obtain⟨⟨⟨h0,h2⟩,h3⟩,h4⟩:=h1;have h2:pr=q:=aq h2;have h3:sz=n:=aq h3;have h4:a2=j:=aq h4;subst h0 h2 h3 h4;exact⟨(a1,lo,len),rfl,h'⟩
  |c y=>cases y<;>simp[Sh.un] at h
  | _=>simp[Sh.un] at h
 |ptr n i=>
  cases c with
  |ptrB m j=>simp only[Sh.un] at h;obtain⟨h1,h'⟩:=dK h;clear h;simp only[ao] at h1;have h2:=aq h1.1;have h3:=aq h1.2;subst h2 h3;exact⟨(),rfl,h'⟩
  |c y=>cases y<;>simp[Sh.un] at h
  | _=>simp[Sh.un] at h
 |em=>
  cases c with
  |em=>exact⟨(),rfl,h⟩
  |c y=>cases y<;>simp[Sh.un] at h
  | _=>simp[Sh.un] at h
 |dead=>
  cases c with
  |dead=>exact⟨(),rfl,h⟩
  |c y=>cases y<;>simp[Sh.un] at h
  | _=>simp[Sh.un] at h
 |pro t=>
  cases c with
  |pro xs=>
   simp only[Sh.un] at h;split at h
   ·rename_i x hx;exact⟨x,by simp only[Sh.mk];rw[t.unflat_some _ _ hx],h⟩
   ·cases h
  |c y=>cases y<;>simp[Sh.un] at h
  | _=>simp[Sh.un] at h
 |pt q n=>
  cases c with
  |ptrT p sz i j=>
   obtain⟨pr,pl⟩:=p;cases pl with
   |cons a l=>simp[Sh.un] at h
   |nil=>simp only[Sh.un] at h;obtain⟨h1,h'⟩:=dK h;clear h;simp only[ao] at h1;obtain⟨⟨⟨h1,h2⟩,h3⟩,h4⟩:=h1;have h1:pr=q:=aq h1;have h2:sz=n:=aq h2;have h3:i=0:=aq h3;have h4:j=0:=aq h4;subst h1 h2 h3 h4;exact⟨(),rfl,h'⟩
  |c y=>cases y<;>simp[Sh.un] at h
  | _=>simp[Sh.un] at h
 |fc g=>
  unfold Sh.un at h;split at h
  all_goals first | (rename_i hh;cases hh;done)|skip
  all_goals try (rename_i hh _;cases hh;done)
  ·rename_i e;cases e;obtain⟨h1,h'⟩:=dK h;simp only[ao] at h1;obtain⟨⟨h1,h2⟩,h3⟩:=h1;have h1:=aq h1;have h2:=cq (aq h2);have h3:=cq (aq h3);exact⟨(),by rw[h1,h2,h3];rfl,h'⟩
  ·cases h
theorem kC.un_some{G:List (Option dS)}(hG: ∀r,r<G.length-> ∃tr,gT G r=some (some tr)): ∀ {l:List Sh} {cs:List Cl} {κ:kC.D l->Option ρ} {r:ρ},(∀c∈cs,c.ok G)->kC.un l cs κ=some r-> ∃x,cs=kC.mk G l x/\κ x=some r
 | [],[],κ,r,_,h=>⟨(),rfl,h⟩
 |s::l,c::cs,κ,r,hc,h=>by unfold kC.un at h;obtain⟨x,h1,h⟩:=Sh.un_some hG (hc c aG) h;obtain⟨y,h2,h⟩:=kC.un_some hG (λz hz=>hc z (aK _ hz)) h;exact⟨(x,y),by rw[h1,h2];rfl,h⟩
 | [],c::cs,κ,r,_,h=>by simp[kC.un] at h
 |s::l,[],κ,r,_,h=>by simp[kC.un] at h
theorem nq: ∀ {cs:List Cl} {xs:List C},rX cs=some xs->cs=xs.map .c
 | [],xs,h=>by simp_all [rX]
 |c::cs,xs,h=>by
  cases c with
  |c y=>
   simp only[rX] at h;split at h
   ·rename_i r hr;simp only[af] at h;subst h;rw[nq hr];rfl
   ·cases h
  | _=>simp[rX] at h
theorem mu.un_some{G:List (Option dS)}(hG: ∀r,r<G.length-> ∃tr,gT G r=some (some tr)){s:mu}{v:V}{κ:s.D->Option ρ}{r:ρ}(hv:v.ok G)(h:s.un v κ=some r): ∃x,v=s.mk G x/\κ x=some r:=by
 cases v with
 |tup l=>cases s<;>simp[mu.un] at h
 |v y=>
  cases s with
  |cl s=>cases y with
   |cl c=>obtain⟨x,h1,h⟩:=Sh.un_some hG hv h;exact⟨x,by rw[h1];rfl,h⟩
   | _=>simp[mu.un] at h
  |agg l=>cases y with
   |agg cs=>obtain⟨x,h1,h⟩:=kC.un_some hG hv h;exact⟨x,by rw[h1];rfl,h⟩
   | _=>simp[mu.un] at h
  |st n=>cases y with
   |agg cs=>
    simp only[mu.un] at h;split at h
    ·rename_i xs hxs;split at h
     ·rename_i x hx;exact⟨x,by rw[nq hxs];simp only[mu.mk];rw[n.unflat_some _ _ hx],h⟩
     ·cases h
    ·cases h
   | _=>simp[mu.un] at h
  |fn f l=>cases y with
   |fn g cs=>simp only[mu.un] at h;obtain⟨h0,h'⟩:=dK h;clear h;have h0:=aq h0;subst h0;obtain⟨x,h1,h⟩:=kC.un_some hG hv h';exact⟨x,by rw[h1];rfl,h⟩
   | _=>simp[mu.un] at h
theorem pP.un_some{G:List (Option dS)}(hG: ∀r,r<G.length-> ∃tr,gT G r=some (some tr)): ∀ {l:List (Nat×mu)} {m:List (Nat×V)} {κ:pP.D l->Option ρ} {r:ρ},(∀x∈m,x.2.ok G)->pP.un l m κ=some r-> ∃x,m=pP.mk G l x/\κ x=some r
 | [],[],κ,r,_,h=>⟨(),rfl,h⟩
 |s::l,c::cs,κ,r,hc,h=>by unfold pP.un at h;obtain⟨h0,h⟩:=dK h;have h0:=aq h0;obtain⟨x,h1,h⟩:=mu.un_some hG (hc c aG) h;obtain⟨y,h2,h⟩:=pP.un_some hG (λz hz=>hc z (aK _ hz)) h;refine⟨(x,y),?_,h⟩;rw[h2];obtain⟨c1,c2⟩:=c;simp only at h0 h1;rw[h1,<-h0];rfl
 | [],c::cs,κ,r,_,h=>by simp[pP.un] at h
 |s::l,[],κ,r,_,h=>by simp[pP.un] at h
theorem pO.un_some{G:List (Option dS)}(hG: ∀r,r<G.length-> ∃tr,gT G r=some (some tr)): ∀ {l:List (List Sh)} {m:List (List Cl)} {κ:pO.D l->Option ρ} {r:ρ},(∀cs∈m,∀c∈cs,c.ok G)->pO.un l m κ=some r-> ∃x,m=pO.mk G l x/\κ x=some r
 | [],[],κ,r,_,h=>⟨(),rfl,h⟩
 |s::l,c::cs,κ,r,hc,h=>by unfold pO.un at h;obtain⟨x,h1,h⟩:=kC.un_some hG (hc c aG) h;obtain⟨y,h2,h⟩:=pO.un_some hG (λz hz=>hc z (aK _ hz)) h;exact⟨(x,y),by rw[h1,h2];rfl,h⟩
 | [],c::cs,κ,r,_,h=>by simp[pO.un] at h
 |s::l,[],κ,r,_,h=>by simp[pO.un] at h
theorem jd.un_some: ∀ {l:List Ty} {m:List (Option dS)} {κ:jd.D l->Option ρ} {r:ρ},jd.un l m κ=some r-> ∃x,m=jd.mk l x/\κ x=some r
 | [],[],κ,r,h=>⟨(),rfl,h⟩
 |t::l,some tr::m,κ,r,h=>by
  unfold jd.un at h;split at h
  ·rename_i hh;split at h
   ·rename_i a ha;obtain⟨e,hl⟩:=eI ha;obtain⟨y,h2,h⟩:=jd.un_some h;obtain⟨t',l',hole⟩:=tr;simp only at hh e hl ha;subst hh e;simp only at hl;subst hl;exact⟨(l',y),by rw[h2];rfl,h⟩
   ·cases h
  ·cases h
 | [],c::cs,κ,r,h=>by simp[jd.un] at h
 |t::l,[],κ,r,h=>by simp[jd.un] at h
 |t::l,none::m,κ,r,h=>by simp[jd.un] at h
theorem jd.mk_some: ∀ (l:List Ty) (d:jd.D l) (r:Nat),r< (jd.mk l d).length-> ∃tr,gT (jd.mk l d) r=some (some tr)
 | [],d,r,h=>by simp[jd.mk] at h
 |t::l,d,0,h=>⟨_,rfl⟩
 |t::l,d,r+1,h=>by obtain⟨tr,htr⟩:=jd.mk_some l d.2 r (by simpa [jd.mk] using h);exact⟨tr,htr⟩
theorem kY.un_some{L:kY}{S:TS}(hS:S.ok){κ:L.D->Option ρ}{r:ρ}(h:L.un S κ=some r): ∃d,S=L.mk' d/\κ d=some r:=by
 unfold kY.un at h;obtain⟨g,h1,h⟩:=jd.un_some h;have hG: ∀r,r<S.gh.length-> ∃tr,gT S.gh r=some (some tr):=by rw[h1];exact jd.mk_some _ _
 obtain⟨e,h2,h⟩:=pP.un_some hG hS.env h;obtain⟨b,h3,h⟩:=pO.un_some hG hS.bx h;obtain⟨h4,h⟩:=dK h;simp only[ao] at h4;have h5:=aq h4.1;have h6:=aq h4.2;refine⟨(e,b,g),?_,h⟩;obtain⟨env,bx,gh,fz,nt⟩:=S
 grind [kY.mk']
end
end
section
open Go
def v8(S:TS)(t:Ty):Cl:=.own ⟨S.gh.length,[]⟩ t.width 0 0 true
def vT(n j:Nat)(t:Ty)(S:TS):TS:=match gT S.bx n with
 |some cs=>(match gT cs j with
  |some .em=> { S with bx:=ey S.bx n (ey cs j (v8 S t)),gh:=S.gh++ [some ⟨t,[],none⟩] }
  | _=>S)
 |none=>S
def vU(x:Nat)(t:Ty)(S:TS):TS:=match fh S.env x with
 | .v (.cl .em)=> { S with env:=(x,.v (.cl (v8 S t)))::S.env,gh:=S.gh++ [some ⟨t,[],none⟩] }
 | _=>S
theorem Bu: ∀ (l:List (Nat×Nat)),T.go .dd l= .dd
 | [] =>rfl
 | (_,_)::l=>Bu l
theorem B0(w:Nat){l:List (Nat×Nat)}{s:Nat}{rs:List (List T)}(h:T.go (.sl w []) l= .sl s rs):rs= [] :=by
 cases l with
 |nil=>cases h;rfl
 |cons a l=>grind [T.go,T.cell,Bu]
theorem qu[dL]{S S':TS}(t:Ty)(henv: ∀u,(fh S'.env u).av=(fh S.env u).av\/((fh S.env u).av= .em/\(fh S'.env u).av= .own ⟨S.gh.length,[]⟩ t.width 0 0))
  (hbx: ∀k cs',S'.st.bx k=some cs'-> ∃cs,S.st.bx k=some cs/\cs'.length=cs.length/\ ∀ (j:Nat) (v:AV),cs'[j]? =some v->cs[j]? =some v\/(cs[j]? =some .em/\v= .own ⟨S.gh.length,[]⟩ t.width 0 0))
  (hgh:S'.gh=S.gh++ [some ⟨t,[],none⟩]) (hfz:S'.fz=S.fz) (hnt:S'.nt=S.nt) (hbl:S'.bx.length=S.bx.length):hO S.st S'.st:=by
 intro w0 W btI SI bt a w hl0;have hl:=hl0.widen (N:=S.gh.length+1) (cM _);have inv:=hl.inv;have hng:S'.st.ng=S.gh.length+1:=by show S'.gh.length=_;rw[hgh];simp
 have ghS: ∀r,S'.st.gh r=if r=S.gh.length then some (.sl t.width []) else S.st.gh r:=by intro r;show (eA S'.gh r).map dS.tree=_;rw[hgh,fO];split<;>rfl
 have κ0: ∀l,(bt.widen S.st.ng (S.gh.length+1)).κ ⟨S.gh.length,l⟩=0:=by intro l;show (if S.gh.length<S.gh.length then _ else 0)=0;rw[if_neg (dI _)]
 have look: ∀p s rs,S'.st.look p= .sl s rs->(p.r=S.gh.length/\rs= [] /\(bt.widen S.st.ng (S.gh.length+1)).κ p=0)\/(p.r≠S.gh.length/\S.st.look p= .sl s rs):=by
  intro p s rs hp;unfold St.look at hp;rw[ghS] at hp;by_cases hr:p.r=S.gh.length
  ·rw[if_pos hr] at hp;left;refine⟨hr,B0 _ hp,?_⟩;obtain⟨pr,pl⟩:=p
   grind
  ·rw[if_neg hr] at hp;exact .inr ⟨hr,hp⟩
 have own0: ∀ {u:Value},VR w (bt.widen S.st.ng (S.gh.length+1)) .em u->VR w (bt.widen S.st.ng (S.gh.length+1)) (.own ⟨S.gh.length,[]⟩ t.width 0 0) u:=by
  intro u hu;cases hu with
  |em ad=>exact .own (cZ _) (az _) (bH _) (λh=>absurd h (dI _))
 refine⟨bt.widen S.st.ng (S.gh.length+1),?_⟩
 refine⟨{ good:=inv.good,os:=inv.os,tape:=inv.tape,output:=inv.output,size:=inv.size,keep:=inv.keep
          nb:=by show _=S'.bx.length;rw[hbl];exact inv.nb
          ng:=by rw[hng];exact inv.ng
          bx:=λn cells hn=> ?_
          gh:=λr x hr=> ?_
          tr:=λp sz rows hp=> ?_
          inj:=λp q s rs s' rs' hp hq hk hk' he=> ?_
          bbinj:=λn m cs cs' hn hm he=> ?_
          bbtr:=λn cs p s rs hn hp hk=> ?_
          alt:=inv.alt
          atr:=λp s rs hp hk=> ?_
          abb:=λn cs hn=> ?_ },⟨?_,λu=> ?_⟩,hl.defers,?_,?_,hl.keep,λr hr hn=> ?_⟩
 ·obtain⟨cs,h1,h2,h3⟩:=hbx n cells hn;obtain⟨g1,g2,arr,e,g3,g4,g5⟩:=inv.bx n cs h1;refine⟨by show n<S'.bx.length;rw[hbl];exact g1,g2,arr,e,g3,by rw[h2];exact g4,λj v hj=> ?_⟩
  grind
 ·rw[hng];rw[ghS] at hr;split at hr
  ·omega
  ·have:=inv.gh r x hr;exact this
 ·rcases look p sz rows hp with ⟨h1,rfl,h3⟩| ⟨h1,h2⟩
  ·grind
  ·exact inv.tr p sz rows h2
 ·rcases look p s rs hp with ⟨h1,_,h3⟩| ⟨h1,h2⟩
  ·omega
  ·rcases look q s' rs' hq with ⟨g1,_,g3⟩| ⟨g1,g2⟩
   ·omega
   ·exact inv.inj _ _ _ _ _ _ h2 g2 hk hk' he
 ·obtain⟨c,h1,_,_⟩:=hbx n cs hn;obtain⟨c',g1,_,_⟩:=hbx m cs' hm;exact inv.bbinj _ _ _ _ h1 g1 he
 ·obtain⟨c,h1,_,_⟩:=hbx n cs hn;rcases look p s rs hp with ⟨_,_,h3⟩| ⟨_,h2⟩
  ·omega
  ·exact inv.bbtr _ _ _ _ _ h1 h2 hk
 ·rcases look p s rs hp with ⟨_,_,h3⟩| ⟨_,h2⟩
  ·omega
  ·exact inv.atr _ _ _ h2 hk
 ·obtain⟨c,h1,_,_⟩:=hbx n cs hn;exact inv.abb _ _ h1
 ·have:=hl.er.1;show _=S'.nt;rw[hnt];exact this
 ·have h1:=hl.er.2 u;show VR w _ (fh S'.env u).av _;rcases henv u with h2| ⟨h2,h3⟩
  ·rw[h2];exact h1
  ·rw[h3];have h1':VR w (bt.widen S.st.ng (S.gh.length+1)) (fh S.env u).av (a.tmps.getD u undef):=h1;rw[h2] at h1';exact own0 h1'
 ·show S'.fz=_;rw[hfz];exact hl.fz
 ·show S'.fz<=S'.gh.length;have:=hl.fzng;have e:S.fz<=S.gh.length+1:=this
  grind
 ·refine hl.gone r hr ?_
  grind
theorem tP(S:TS)(t:Ty): (v8 S t).ok (S.gh++ [some ⟨t,[],none⟩]):=by refine⟨by simp,λ_=>⟨rfl,rfl,λtr htr=> ?_⟩⟩;rw[fO,if_pos rfl] at htr;cases htr;rfl
theorem ye[dL]{S:TS}(hS:S.ok)(x:Nat)(t:Ty):hO S.st (vU x t S).st/\(vU x t S).ok:=by
 unfold vU;split
 ·rename_i hx;refine⟨qu t (λu=> ?_) (λk cs' h=>⟨cs',h,rfl,λj v hv=> .inl hv⟩) rfl rfl rfl rfl,⟨λy hy=> ?_,λcs hcs c hc=>Cl.ok_mono (eY.app _ _) (hS.bx cs hcs c hc)⟩⟩
  ·simp only[fh];cases hb:Nat.beq x u with
   |true=>have :x=u:=aq hb;subst this;right;rw[hx];exact⟨rfl,rfl⟩
   |false=>exact .inl rfl
  ·rcases aX.1 hy with rfl|hy
   ·exact tP S t
   ·exact V.ok_mono (eY.app _ _) (hS.env y hy)
 ·exact⟨hO.refl,hS⟩
theorem yd[dL]{S:TS}(hS:S.ok)(n j:Nat)(t:Ty):hO S.st (vT n j t S).st/\(vT n j t S).ok:=by
 unfold vT;split
 ·rename_i cs hcs;split
  ·rename_i hj;rw[eE] at hcs hj;have hn:=(ai.1 hcs).1;refine⟨qu t (λu=> .inl rfl) (λk cs' h=> ?_) rfl rfl rfl (by simp[eO]),⟨λy hy=>V.ok_mono (eY.app _ _) (hS.env y hy),λcs' hcs' c hc=> ?_⟩⟩
   ·have h': (gT (ey S.bx n (ey cs j (v8 S t))) k).map (λcs=>cs.map Cl.av)=some cs':=h;rw[eE,eO,eO,bN] at h';by_cases hk:n=k
    ·subst hk;rw[if_pos rfl,if_pos hn] at h';simp only[aF,af] at h';subst h';refine⟨cs.map Cl.av,by show (gT S.bx n).map _=_;rw[eE,hcs];rfl,by simp,λi v hv=> ?_⟩;rw[aw,bN] at hv;by_cases hi:j=i
     ·subst hi;rw[if_pos rfl,if_pos (ai.1 hj).1] at hv;right;rw[aw,hj];simp only[aF,af] at hv;exact⟨rfl,hv.symm⟩
     grind
    ·rw[if_neg hk] at h';exact⟨cs',by show (gT S.bx k).map _=_;rw[eE];exact h',rfl,λi v hv=> .inl hv⟩
   ·simp only[eO] at hcs';rcases db hcs' with h1|h1
    ·exact Cl.ok_mono (eY.app _ _) (hS.bx _ h1 c hc)
    ·subst h1;rcases db hc with h2|h2
     ·exact Cl.ok_mono (eY.app _ _) (hS.bx _ (ay hcs) c h2)
     ·subst h2;exact tP S t
  ·exact⟨hO.refl,hS⟩
 ·exact⟨hO.refl,hS⟩
inductive uG where
 |t (x:Nat) (t:Ty)
 |b (n j:Nat) (t:Ty)
def kJ:List uG->TS->TS
 | [],S=>S
 | .t x t::l,S=>kJ l (vU x t S)
 | .b n j t::l,S=>kJ l (vT n j t S)
theorem lx[dL]: ∀ (l:List uG) {S:TS},S.ok->hO S.st (kJ l S).st/\(kJ l S).ok
 | [],S,hS=>⟨hO.refl,hS⟩
 | .t x t::l,S,hS=>by obtain⟨h1,h2⟩:=ye hS x t;obtain⟨h3,h4⟩:=lx l h2;exact⟨h1.trans h3,h4⟩
 | .b n j t::l,S,hS=>by obtain⟨h1,h2⟩:=yd hS n j t;obtain⟨h3,h4⟩:=lx l h2;exact⟨h1.trans h3,h4⟩
section
variable {P:Program} {Θ:gq} {Y:kZ} {Λ:fW}
def uw{ρ:Type}(keepN keepX:List Nat)(κ:X->TS->Option ρ)(x:X)(S:TS):Option ρ:=match x with
 | .nor=>mB keepN S (κ .nor)
 |x=>mB keepX S (κ x)
def xC{σ ε:Type}(G:σ->Option ε)(μ:σ->Nat)(s:σ)(e:ε):Option (σ⊕ε)->Prop
 |some (.inl s')=>μ s'<μ s/\G s'=some e
 |some (.inr e')=>e'=e
 |none=>False
theorem AG[dL](hΘ:eB P Θ)(hY:fB P Y)(hm:P.follows .mixedOrders=true){c:Code}(hc:fX P c=true)(hL:eS P Λ (eg c)){σ ε:Type}{H:σ->TS}{E:ε->X×TS}{B:σ->Option (σ⊕ε)}{keepN keepX:List Nat}
  (hH: ∀s,(H s).ok) (hstep: ∀s,mF Θ Y Λ c (H s) (uw keepN keepX λx S=>some (x,S))=(B s).bind (Sum.elim (λs'=>some (.nor,H s')) λe=>some (E e)))
  (hE: ∀e,(E e).1≠ .nor) {G:σ->Option ε} {μ:σ->Nat} (hG: ∀s e,G s=some e->xC G μ s e (B s))
  {s:σ} {e:ε} (hs:G s=some e):ig P (.loop c) (H s).st (λx S'=>x=(E e).1/\S'=(E e).2.st):=by
 refine ig.loop (λn X=> ∃s,X=(H s).st/\G s=some e/\μ s=n) (λn X hX=> ?_) (n:=μ s) ⟨s,rfl,hs,rfl⟩;obtain⟨s,rfl,hs,rfl⟩:=hX;have hg:=hG s e hs;have hst:=hstep s;cases hB:B s with
 |none=>rw[hB] at hg;exact hg.elim
 |some l=>
  rw[hB] at hg hst;cases l with
  |inl s'=>
   simp only[ak,Sum.elim_inl] at hst;refine (rg hΘ hY hm c _ _ _ hc hL (hH s) hst).mono (λx S' hx=> ?_);obtain⟨S1,rfl,h1,h2⟩:=hx
   have fm: ∃S2:TS,hO S1.st S2.st/\x= .nor/\S2=H s':=by
    unfold uw at h2;split at h2
    ·obtain⟨S2,k1,_,k2⟩:=jl h1 h2
     grind
    ·grind [jl]
   obtain⟨S2,k1,rfl,rfl⟩:=fm;exact⟨_,k1,μ s',hg.1,s',rfl,hg.2,rfl⟩
  |inr e'=>
   simp only[ak,Sum.elim_inr] at hst;have hg:e'=e:=hg;subst hg;refine (rg hΘ hY hm c _ _ _ hc hL (hH s) hst).mono (λx S' hx=> ?_);obtain⟨S1,rfl,h1,h2⟩:=hx
   have fm: ∃S2:TS,hO S1.st S2.st/\(x,S2)=E e':=by
    unfold uw at h2;split at h2
    ·grind [jl]
    ·grind [jl]
   grind
def yp(grow:List uG)(keep:List Nat)(L:kY){ε:Type}(E:ε->X×TS)(G:L.D->Option ε):TS->(ρ:Type)->(X->TS->Option ρ)->Option ρ:=
 λS _ κ=>mB keep (kJ grow S) λS1=>L.un S1 λs=>(G s).bind λe=>κ (E e).1 (E e).2
theorem yq[dL]{c:Code}{grow:List uG}{keep:List Nat}{L:kY}{ε:Type}{E:ε->X×TS}{G:L.D->Option ε}(hE: ∀e,(E e).2.ok)
  (h: ∀s e,G s=some e->ig P (.loop c) (L.mk' s).st (λx S'=>x=(E e).1/\S'=(E e).2.st)) {S:TS} {ρ:Type} {κ:X->TS->Option ρ} {r:ρ} (hS:S.ok) (hk:yp grow keep L E G S ρ κ=some r):
  ig P (.loop c) S.st (λx S'=> ∃S1:TS,S'=S1.st/\S1.ok/\κ x S1=some r):=by
 unfold yp at hk;obtain⟨h1,h2⟩:=lx grow hS;obtain⟨S1,h3,h4,hk⟩:=jl h2 hk;obtain⟨s,rfl,hk2⟩:=kY.un_some h4 hk;obtain⟨e,h5,hk3⟩:=ah.1 hk2;refine ig.weak (h1.trans h3) ((h s e h5).mono (λx S' hx=> ?_));obtain⟨rfl,rfl⟩:=hx;exact⟨_,hO.refl,_,rfl,hE e,hk3⟩
end
end
section
open Go
abbrev fG.D:List Ty->Type
 | [] =>Unit
 |t::l=>t.D×fG.D l
def fq: (l:List Ty)->fG.D l->List ((t:Ty)×t.D)
 | [],_=> []
 |t::l,x=>⟨t,x.1⟩::fq l x.2
def jk[dL](P:Program)(f:FuncId)(e:uB):Prop:=∀args ρ κ r,e args ρ κ=some r-> ∃res out,k9 P f args res out/\res.ok (out.map some)/\κ res out=some r
theorem A9[dL](P:Program):fB P (nT []):=λ_ _ _ _ _ h=>by cases h
theorem zo[dL]{P:Program}{f:FuncId}{e:uB}{l:List (Nat×uB)}(h:jk P f e)(hl:fB P (nT l)):fB P (nT ((f,e)::l)):=by
 intro g args ρ κ r hr;have hr: (bif Nat.beq f g then e args ρ κ else BZ l g args ρ κ)=some r:=hr;cases hb:Nat.beq f g with
 |true=>rw[hb] at hr;have:=aq hb;subst this;exact h args ρ κ r hr
 |false=>rw[hb] at hr;exact hl g args ρ κ r hr
def rY(as bs:List AV):Prop:=as.length=bs.length/\ ∀ (k:Nat) (a b:AV),as[k]? =some a->bs[k]? =some b->a=b\/(a= .em/\ ∃s,b= .ro s [])
theorem rY.refl(as:List AV):rY as as:=⟨rfl,λk a b h1 h2=>by rw[h1] at h2;cases h2;exact .inl rfl⟩
theorem rY.cons{a b:AV}{as bs:List AV}(h:a=b\/(a= .em/\ ∃s,b= .ro s []))(hn:rY as bs):rY (a::as) (b::bs):=
 ⟨by simp[hn.1],λk x y h1 h2=>by
  cases k with
  |zero=>grind
  |succ k=>exact hn.2 k x y (by simpa using h1) (by simpa using h2)⟩
theorem rY.VR{as bs:List AV}(hn:rY as bs){w:World}{bt:Bt}{vals:List Value}(h: ∀ (k:Nat) (v:AV) (u:Value),as[k]? =some v->vals[k]? =some u->VR w bt v u)(k:Nat)(v:AV)(u:Value)(hv:bs[k]? =some v)(hu:vals[k]? =some u):VR w bt v u:=by
 have hk:k<as.length:=by rw[hn.1];exact (ai.1 hv).1
 have ha:=an hk;have hx:=h k _ u ha hu;rcases hn.2 k _ v ha hv with e| ⟨e,s,rfl⟩
 ·rw[<-e];exact hx
 ·rw[e] at hx;cases hx with
  |em b=>exact .ro (.em _ _ _)
theorem eT.norm[dL]{P:Program}{f:FuncId}{as bs:List AV}{gs:List T}{m:Nat}{res:AV}{out:List T}(hn:rY as bs)(h:eT P f bs gs m res out):eT P f as gs m res out:=
 λw W bt0 vals hI hl hv=>h w W bt0 vals hI (hl.trans hn.1) (hn.VR hv)
theorem ic.norm[dL]{P:Program}{f:FuncId}{as bs:List AV}{gs:List T}{res:AV}{out:List T}(hn:rY as bs)(h:ic P f bs gs res out):ic P f as gs res out:=eT.norm hn h
theorem un_some{ρ:Type}{t:Ty}{a:V1}{κ:t.D->Option ρ}{r:ρ}(h:un t a κ=some r): ∃x,a=qU t x/\κ x=some r:=by
 unfold un at h;split at h
 ·rename_i cs;obtain⟨h1,h⟩:=dK h;split at h
  ·rename_i xs hxs;split at h
   ·rename_i x hx;refine⟨x,?_,h⟩;unfold qU;rw[h1,t.unflat_some _ _ hx,nq hxs];rfl
   ·cases h
  ·cases h
 ·rename_i y;cases hag:t.ag with
  |true=>rw[hag] at h;cases h
  |false=>
   rw[hag] at h;simp only[cond_false] at h;split at h
   ·rename_i x hx;refine⟨x,?_,h⟩;unfold qU;rw[hag,t.unflat_some _ _ hx];rfl
   ·cases h
 ·cases h
theorem BM(t:Ty)(x:t.D): (qU t x).ok [] :=by
 unfold qU;cases t.ag with
 |true=>intro c hc;obtain⟨y,_,rfl⟩:=aI.1 hc;trivial
 |false=>
  simp only[cond_false];split
  ·rename_i c hc;have :c∈(t.flat x).map Cl.c:=by rw[hc];exact aJ.2 rfl
   obtain⟨y,_,rfl⟩:=aI.1 this;trivial
  ·trivial
theorem rL(mZ suf:List dS): ∀ (cs:List C) (mid:List dS),∀c∈jU cs (mZ.length+mid.length),c.ok ((mZ++mid++fV cs++suf).map some)
 | [],mid,c,h=>by cases h
 | .sc v::cs,mid,c,h=>by
   rcases aX.1 h with rfl|h
   ·trivial
   ·exact rL mZ suf cs mid c h
 | .ls t l::cs,mid,c,h=>by
   rcases aX.1 h with rfl|h
   ·refine⟨by simp[fV],λ_=>⟨rfl,rfl,λtr htr=> ?_⟩⟩
    have :eA ((mZ++mid++fV (.ls t l::cs)++suf).map some) (mZ.length+mid.length)=some ⟨t,l,none⟩:=by unfold eA;rw[eE,aw,aY,aV (by simp)];simp[fV]
    have htr':eA ((mZ++mid++fV (.ls t l::cs)++suf).map some) (mZ.length+mid.length)=some tr:=htr;rw[this] at htr';cases htr';rfl
   ·have:=rL mZ suf cs (mid++ [⟨t,l,none⟩]) c (by rw[be,<-Nat.add_assoc];exact h);simp only[fV];simpa using this
theorem A0(t:Ty)(x:t.D)(mZ suf:List dS): (qd t x mZ.length).ok ((mZ++fV (t.flat x)++suf).map some):=by
 have fm:=rL mZ suf (t.flat x) [];simp only[bX,bL,bI] at fm;unfold qd;cases t.ag with
 |true=>exact fm
 |false=>
  simp only[cond_false];split
  ·rename_i c hc;exact fm c (by rw[hc];exact aJ.2 rfl)
  ·trivial
theorem kt: ∀ (l:List ((t:Ty)×t.D)) (mZ:List dS),∀v∈i7 mZ.length l,v.ok ((mZ++iZ l).map some)
 | [],mZ,v,h=>by cases h
 | ⟨t,x⟩::l,mZ,v,h=>by
   rcases aX.1 h with rfl|h
   ·have:=A0 t x mZ (iZ l);simpa [iZ] using this
   ·have:=kt l (mZ++fV (t.flat x)) v (by rw[be];exact h);simpa [iZ] using this
theorem rM(l:List ((t:Ty)×t.D)): (p9 (i7 0 l)).ok ((iZ l).map some):=by
 have h:=kt l [];simp only[bX,bK] at h
 match i7 0 l,h with
 | [],_=>exactλx hx=>by cases hx
 | [v],h=>exact h v aG
 |v::u::vs,h=>exact h
end
section
open Go
def Sh.fit(n:Nat):Sh->Bool| .own r _=>Nat.blt r n| .sub r _=>Nat.blt r n| .row r _ _=>Nat.blt r n| .pt r _=>Nat.blt r n| _=>true
def mu.fit(n:Nat):mu->Bool| .cl s=>s.fit n| .agg l=>l.all (Sh.fit n)| .st _=>true| .fn _ l=>l.all (Sh.fit n)
def kY.fit(L:kY):Bool:=L.env.all (λx=>x.2.fit L.gh.length)&&L.bx.all (λl=>l.all (Sh.fit L.gh.length))
theorem jd.mk_length: ∀ (l:List Ty) (d:jd.D l),(jd.mk l d).length=l.length
 | [],_=>rfl
 |t::l,d=>by simp[jd.mk,jd.mk_length l d.2]
theorem Sh.mk_ok{G:List (Option dS)}{s:Sh}(h:s.fit G.length=true)(x:s.D): (s.mk G x).ok G:=by
 cases s with
 |own r t=>
  refine⟨ax h,λ_=>⟨rfl,rfl,λtr htr=> ?_⟩⟩;unfold eA at htr;unfold Ca;have htr': (gT G r).getD none=some tr:=htr;cases hn:gT G r with
  |none=>rw[hn] at htr';cases htr'
  |some y=>grind
 |sub r t=>exact⟨ax h,λe=>by cases e⟩
 |row r j w=>exact⟨ax h,λe=>by cases e⟩
 |pt r w=>exact ax h
 | _=>trivial
theorem kC.mk_ok{G:List (Option dS)}: ∀ {l:List Sh},l.all (Sh.fit G.length)=true-> ∀ (x:kC.D l),∀c∈kC.mk G l x,c.ok G
 | [],_,x,c,hc=>by cases hc
 |s::l,h,x,c,hc=>by
  simp only[cf,ao] at h;rcases aX.1 hc with rfl|hc
  ·exact Sh.mk_ok h.1 x.1
  ·exact kC.mk_ok h.2 x.2 c hc
theorem mu.mk_ok{G:List (Option dS)}{v:mu}(h:v.fit G.length=true)(x:v.D): (v.mk G x).ok G:=by
 cases v with
 |cl s=>exact Sh.mk_ok h x
 |agg l=>exact kC.mk_ok h x
 |st n=>intro c hc;obtain⟨y,_,rfl⟩:=aI.1 hc;trivial
 |fn f l=>exact kC.mk_ok h x
theorem kY.mk'_ok{L:kY}(h:L.fit=true)(d:L.D): (L.mk' d).ok:=by
 unfold kY.fit at h;simp only[ao] at h;have hlen: (jd.mk L.gh d.2.2).length=L.gh.length:=jd.mk_length _ _;rw[<-hlen] at h
 have env: ∀ {l:List (Nat×mu)},l.all (λx=>x.2.fit (jd.mk L.gh d.2.2).length)=true-> ∀ (e:pP.D l),∀x∈pP.mk (jd.mk L.gh d.2.2) l e,x.2.ok (jd.mk L.gh d.2.2):=by
  intro l
  induction l with
  |nil=>intro _ e x hx;cases hx
  |cons y l ih=>
   intro h e x hx;simp only[cf,ao] at h;rcases aX.1 hx with rfl|hx
   all_goals grind [mu.mk_ok]
 have bxs: ∀ {l:List (List Sh)},l.all (λl=>l.all (Sh.fit (jd.mk L.gh d.2.2).length))=true-> ∀ (e:pO.D l),∀cs∈pO.mk (jd.mk L.gh d.2.2) l e,∀c∈cs,c.ok (jd.mk L.gh d.2.2):=by
  intro l
  induction l with
  |nil=>intro _ e x hx;cases hx
  |cons y l ih=>
   intro h e x hx;simp only[cf,ao] at h;rcases aX.1 hx with rfl|hx
   all_goals grind [kC.mk_ok]
 exact⟨env h.1 d.1,bxs h.2 d.2.1⟩
abbrev lU.D:List (X×kY)->Type
 | [] =>Empty
 | [x] =>x.2.D
 |x::y::l=>x.2.D⊕lU.D (y::l)
def lU.k{R:Type}: (l:List (X×kY))->lU.D l->(X->TS->R)->R
 | [],e,_=>e.elim
 | [x],d,κ=>κ x.1 (x.2.mk' d)
 |x::y::l,e,κ=>Sum.elim (λd=>κ x.1 (x.2.mk' d)) (λe=>lU.k (y::l) e κ) e
def lU.e(l:List (X×kY))(d:lU.D l):X×TS:=lU.k l d Prod.mk
theorem lU.k_eq{R:Type}: ∀ (l:List (X×kY)) (d:lU.D l) (κ:X->TS->R),lU.k l d κ=κ (lU.e l d).1 (lU.e l d).2
 | [],e,_=>e.elim
 | [_],_,_=>rfl
 | _::_::_,.inl _,_=>rfl
 | _::y::l,.inr e,κ=>lU.k_eq (y::l) e κ
def C3(x:X×kY):Bool:=(match x.1 with | .nor=>false| _=>true)&&x.2.fit
theorem lU.ok: ∀ (l:List (X×kY)) (d:lU.D l),l.all C3=true->(lU.e l d).1≠ .nor/\(lU.e l d).2.ok
 | [],e,_=>e.elim
 | [x],d,h=>by simp only[cf,ao,C3] at h;refine⟨λe=> ?_,kY.mk'_ok h.1.2 d⟩;have e:x.1= .nor:=e;rw[e] at h;cases h.1.1
 |x::_::_,.inl d,h=>by simp only[cf,ao,C3] at h;refine⟨λe=> ?_,kY.mk'_ok h.1.2 d⟩;have e:x.1= .nor:=e;rw[e] at h;cases h.1.1
 | _::y::l,.inr e,h=>lU.ok (y::l) e (by grind)
def yl(grow:List uG)(keep:List Nat)(L:kY)(exs:List (X×kY))(G:L.D->Option (lU.D exs)):TS->(ρ:Type)->(X->TS->Option ρ)->Option ρ:=
 λS _ κ=>mB keep (kJ grow S) λS1=>L.un S1 λs=>(G s).bind λe=>lU.k exs e κ
abbrev vA:=TS->(ρ:Type)->(X->TS->Option ρ)->Option ρ
def mH:List (Nat×vA)->fW
 | [],_,_,_,_=>none
 | (q,e)::l,n,S,ρ,κ=>bif Nat.beq q n then e S ρ κ else mH l n S ρ κ
section
variable {P:Program} {Θ:gq} {Y:kZ} {Λ:fW}
def xz[dL](P:Program)(c:Code)(e:vA):Prop:=∀ (S:TS) (ρ:Type) (κ:X->TS->Option ρ) (r:ρ),S.ok->e S ρ κ=some r->ig P (.loop c) S.st (λx S'=> ∃S1:TS,S'=S1.st/\S1.ok/\κ x S1=some r)
theorem yn[dL](hΘ:eB P Θ)(hY:fB P Y)(hm:P.follows .mixedOrders=true){c:Code}(hc:fX P c=true)(hL:eS P Λ (eg c))(grow:List uG)(keep keepX:List Nat)(L:kY)(exs:List (X×kY))(hf: (L.fit&&exs.all C3)=true)
  (B:L.D->Option (L.D⊕lU.D exs)) (hB: ∀s,mF Θ Y Λ c (L.mk' s) (uw keep keepX λx S=>some (x,S))=(B s).bind (Sum.elim (λs'=>some (.nor,L.mk' s')) λe=>some (lU.e exs e)))
  (G:L.D->Option (lU.D exs)) (μ:L.D->Nat) (hG: ∀s e,G s=some e->xC G μ s e (B s)):xz P c (yl grow keep L exs G):=by
 simp only[ao] at hf;intro S ρ κ r hS hk;refine yq (E:=lU.e exs) (λe=>(lU.ok exs e hf.2).2) (λs e hs=>AG hΘ hY hm hc hL (λs=>kY.mk'_ok hf.1 s) hB (λe=>(lU.ok exs e hf.2).1) hG hs) hS ?_ (grow:=grow) (keep:=keep)
 grind [yp,yl,lU.k_eq]
end
end
section
open Go
def Ae(P:Program)(e:TypeId->List Value->Bool):List Field->Nat->List Value->Bool
 | [],_,[] =>true
 | [],_,_::_=>false
 |f::fs,off,zs=>f.name != "_" &&Nat.beq f.offset off&&Nat.blt 0 (P.cellsOf f.type)&&Nat.ble (P.cellsOf f.type) zs.length&&(P.info? f.type).isSome&&e f.type (zs.take (P.cellsOf f.type))&&Ae P e fs (off+P.cellsOf f.type) (zs.drop (P.cellsOf f.type))
def sQ(P:Program):Nat->TypeId->List Value->Bool
 | 0,_,_=>false
 |n+1,t,zs=>match P.underlying t with
  |some .bool=>(match zs with | [.bool _] =>true| _=>false)
  |some (.int _)=>(match zs with | [.int _ _] =>true| _=>false)
  |some (.struct fs)=> !P.stoodInHeld t&&Ae P (sQ P n) fs.toList 0 zs
  | _=>false
def qk(P:Program)(t:TypeId)(xs:List Value):Value:=match P.underlying t with
 |some (.struct _)=> .agg xs.toArray
 | _=>xs.headD (.bool false)
def fS:List Value->List Value->Bool
 | [],[] =>true
 | .int k _::zs,.int k' _::cs=>bif decide (k=k') then fS zs cs else false
 | .bool _::zs,.bool _::cs=>fS zs cs
 | _,_=>false
def fY:List Value->List Value->Option Bool
 | [],[] =>some true
 |a::l,b::m=>match sR a b,fY l m with
  |some x,some y=>some (x&&y)
  | _,_=>none
 | _,_=>none
theorem oX: ∀ {zs xs:List Value},fT zs (xs.map λx=> .c (.sc x))=true->fS zs xs=true:=by
 intro zs
 induction zs with
 |nil=>intro xs h;cases xs with
  |nil=>rfl
  |cons=>simp[fT] at h
 |cons z zs ih=>
  intro xs h;cases xs with
  |nil=>cases z<;>simp[fT] at h
  |cons x xs=>
   cases z<;>cases x<;>simp only[aO,fT,fS,cond_eq_ite,aR] at h ⊢
   ·exact ih h
   ·split at h
    ·rename_i hk;rw[if_pos hk];exact ih h
    ·cases h
theorem wN: ∀ {xs ys:List Value},kD (xs.map λx=> .c (.sc x)) (ys.map λx=> .c (.sc x))=fY xs ys:=by
 intro xs
 induction xs with
 |nil=>intro ys;cases ys<;>rfl
 |cons x xs ih=>
  intro ys;cases ys with
  |nil=>rfl
  |cons y ys=>simp only[aO,kD,fY,ih];cases sR x y<;>cases fY xs ys<;>rfl
theorem iw: ∀ {zs xs:List Value},fS zs xs=true->xs.length=zs.length:=by
 intro zs
 induction zs with
 |nil=>intro xs h;cases xs with
  |nil=>rfl
  |cons=>simp[fS] at h
 |cons z zs ih=>
  intro xs h;cases xs with
  |nil=>cases z<;>simp[fS] at h
  |cons x xs=>
   cases z<;>cases x<;>simp only[fS,cond_eq_ite,aR] at h
   ·simp[ih h]
   ·split at h
    ·simp[ih h]
    ·cases h
theorem jE: ∀ {zs xs:List Value} (n:Nat),fS zs xs=true->fS (zs.take n) (xs.take n)=true/\fS (zs.drop n) (xs.drop n)=true:=by
 intro zs
 induction zs with
 |nil=>intro xs n h;cases xs with
  |nil=>simp[fS]
  |cons=>simp[fS] at h
 |cons z zs ih=>
  intro xs n h;cases xs with
  |nil=>cases z<;>simp[fS] at h
  |cons x xs=>
   cases n with
   |zero=>exact⟨rfl,h⟩
   |succ n=>
    cases z<;>cases x<;>simp only[fS,cond_eq_ite,aR] at h
    ·exact ih n h
    ·split at h
     ·rename_i hk;refine⟨?_,(ih n h).2⟩;simp only[List.take_succ_cons,fS,cond_eq_ite];rw[if_pos (by simpa using hk)];exact (ih n h).1
     ·cases h
theorem rf: ∀ {xs ys:List Value} (n:Nat) {r:Bool},fY xs ys=some r-> ∃a b,fY (xs.take n) (ys.take n)=some a/\fY (xs.drop n) (ys.drop n)=some b/\r=(a&&b):=by
 intro xs
 induction xs with
 |nil=>intro ys n r h;cases ys with
  |nil=>cases h;exact⟨true,true,by simp[fY],by simp[fY],rfl⟩
  |cons=>simp[fY] at h
 |cons x xs ih=>
  intro ys n r h;cases ys with
  |nil=>simp[fY] at h
  |cons y ys=>
   cases n with
   |zero=>exact⟨true,r,rfl,h,rfl⟩
   |succ n=>
    simp only[fY] at h;split at h
    ·rename_i p q hp hq;cases h;obtain⟨a,b,h1,h2,rfl⟩:=ih n hq;exact⟨p&&a,b,by simp[fY,hp,h1],h2,by cases p<;>rfl⟩
    ·cases h
theorem rH{P:Program}{t:TypeId}{i:TypeInfo}(h:P.info? t=some i):dR P (typeInfo t)=some i:=by simp only[typeInfo,dQ,program,dR,ak,h];rfl
theorem tU{P:Program}{t:TypeId}{i:TypeInfo}(hi:P.info? t=some i){d:TypeDesc}(hd:P.underlying t=some d)(hs: ∀n e,d≠ .array n e){xs:List Value}{off:Nat}{c:Value}(hc:xs[off]? =some c):
  dR P (part t xs.toArray off)=some (qk P t ((xs.drop off).take (P.cellsOf t)))\/P.cellsOf t=0:=by
 by_cases h0:P.cellsOf t=0
 ·exact .inr h0
 refine .inl ?_;have hcell:P.cellsOf t=i.size:=by simp[Program.cellsOf,hi]
 cases hst: (match d with | .struct _=>true| _=>false) with
 |true=>
  have hag:dR P (isAgg t)=some true:=by simp only[isAgg,dQ,eh hd,ak];cases d<;>simp at hst;rfl
  simp only[part,sizeOf,dQ,hag,ak,if_true,rH hi,dU,qk,hd];cases d<;>simp at hst;simp[hcell,Nat.add_sub_cancel_left]
 |false=>
  have hag:dR P (isAgg t)=some false:=by
   simp only[isAgg,dQ,eh hd,ak];cases d<;>simp at hst
   all_goals first |rfl|exact absurd rfl (hs _ _)
  have hv:qk P t ((xs.drop off).take (P.cellsOf t))=c:=by
   have : ((xs.drop off).take (P.cellsOf t)).headD (.bool false)=c:=by
    obtain⟨n,hn⟩: ∃n,P.cellsOf t=n+1:=⟨P.cellsOf t-1,by omega⟩
    have h1:off<xs.length:=(ai.1 hc).1;rw[hn,co h1,List.take_succ_cons];exact (ai.1 hc).2
   unfold qk;rw[hd];cases d<;>first |exact this|simp at hst
  rw[hv];simp only[part,dQ,hag,ak,aR,if_false];have :xs.toArray[off]? =some c:=by simpa using hc
  rw[this];rfl
theorem vK(P:Program): ∀ (n:Nat) {t:TypeId} {zs xs ys:List Value} {r:Bool} (d:Nat),sQ P n t zs=true->fS zs xs=true->fS zs ys=true->fY xs ys=some r->dR P (Op.equalIn (n+d) t (qk P t xs) (qk P t ys))=some r
 | 0,t,zs,xs,ys,r,d,h,_,_,_=>by cases h
 |n+1,t,zs,xs,ys,r,d,h,hx,hy,he=>by
  have hn:n+1+d=(n+d)+1:=by omega
  rw[hn];unfold sQ at h;cases hu:P.underlying t with
  |none=>rw[hu] at h;cases h
  |some D=>
   rw[hu] at h;cases D<;>simp only[aR] at h
   case bool=>
    split at h
    case h_2=>cases h
    obtain⟨x,rfl⟩: ∃x,xs= [.bool x] :=by
     match xs,hx with
     | [.bool x],_=>exact⟨x,rfl⟩
    obtain⟨y,rfl⟩: ∃y,ys= [.bool y] :=by
     match ys,hy with
     | [.bool y],_=>exact⟨y,rfl⟩
    simp only[fY,sR,dj,af] at he;subst he;simp only[qk,hu,List.headD_cons];rw[Op.equalIn];simp only[dQ,eh hu,ak,dU]
   case int k=>
    split at h
    case h_2=>cases h
    rename_i k0 _
    obtain⟨x,rfl⟩: ∃x,xs= [.int k0 x] :=by
     match xs,hx with
     | [.int k1 x],hx=>
       simp only[fS,cond_eq_ite] at hx;split at hx
       ·rename_i hk;simp at hk;subst hk;exact⟨x,rfl⟩
       ·cases hx
     | .int _ _::_::_,hx=>simp[fS] at hx
    obtain⟨y,rfl⟩: ∃y,ys= [.int k0 y] :=by
     match ys,hy with
     | [.int k1 x],hx=>
       simp only[fS,cond_eq_ite] at hx;split at hx
       ·rename_i hk;simp at hk;subst hk;exact⟨x,rfl⟩
       ·cases hx
     | .int _ _::_::_,hx=>simp[fS] at hx
    simp only[fY,sR,dj,af] at he;subst he;simp only[qk,hu,List.headD_cons];rw[Op.equalIn];simp only[dQ,eh hu,ak,dU,if_true]
   case struct fs=>
    simp only[ao,bT] at h;obtain⟨hst,h⟩:=h;simp only[qk,hu]
    have fm: ∀ (fs:List Field) (off:Nat) (zs:List Value) (r:Bool),Ae P (sQ P n) fs off zs=true->fS zs (xs.drop off)=true->fS zs (ys.drop off)=true->fY (xs.drop off) (ys.drop off)=some r->
      dR P (Op.eqFields (n+d) xs.toArray ys.toArray fs)=some r:=by
     intro fs
     induction fs with
     |nil=>
      intro off zs r h hx hy he;cases zs with
      |nil=>have h1:=iw hx;have h2:=iw hy;simp only[bX,dg] at h1 h2;rw[h1,h2] at he;cases he;rfl
      |cons=>cases h
     |cons f fs ih=>
      intro off zs r h hx hy he;simp only[Ae,ao,bne_iff_ne,ne_eq] at h;obtain⟨⟨⟨⟨⟨⟨hname,hoff⟩,hpos⟩,hle⟩,hi⟩,h1⟩,h2⟩:=h;have hoff:=aq hoff;have hpos:0<P.cellsOf f.type:=ax hpos;have hle:P.cellsOf f.type<=zs.length:=ax hle;have hlx:=iw hx;have hly:=iw hy;rw[bR] at hlx hly;obtain⟨i,hi⟩:=bf.1 hi
      have hu': ∃D,P.underlying f.type=some D/\ ∀n e,D≠ .array n e:=by
       cases hun:P.underlying f.type with
       |none=>cases n<;>simp[sQ,hun] at h1
       |some D=>refine⟨D,rfl,λk e he=> ?_⟩;subst he;cases n<;>simp[sQ,hun] at h1
      obtain⟨D,hD,hDa⟩:=hu';have px:=tU hi hD hDa (xs:=xs) (off:=off) (an (by omega));have py:=tU hi hD hDa (xs:=ys) (off:=off) (an (by omega));have px:=px.resolve_right (by omega);have py:=py.resolve_right (by omega);obtain⟨a,b,ha,hb,rfl⟩:=rf (P.cellsOf f.type) he;have hA:=vK P n d h1 (jE _ hx).1 (jE _ hy).1 ha;rw[Op.eqFields,if_pos hname];simp only[hoff,dQ,px,py,ak,hA];cases a with
      |false=>rfl
      |true=>
       simp only[dk,aR,if_false,dH];simp only[cw] at hb;refine ih _ _ _ h2 ?_ ?_ hb
       ·have:=(jE (P.cellsOf f.type) hx).2;rw[cw] at this;exact this
       ·have:=(jE (P.cellsOf f.type) hy).2;rw[cw] at this;exact this
    have:=fm fs.toList 0 zs r h (by simpa using hx) (by simpa using hy) (by simpa using he);rw[<-this];rw[Op.equalIn];simp only[dQ,eh hu,ak,program,dR,hst,aR,if_false];rw[<-Array.forIn_toList];generalize fs.toList=fs;clear this fm h hu hst hn
    induction fs with
    |nil=>rfl
    |cons f fs ih=>
     simp only[List.forIn_cons,Op.eqFields];split
     ·simp only[dQ];cases dR P (part f.type xs.toArray f.offset) with
      |none=>rfl
      |some a=>
       cases dR P (part f.type ys.toArray f.offset) with
       |none=>rfl
       |some b=>
        simp only[ak];cases dR P (Op.equalIn (n+d) f.type a b) with
        |none=>rfl
        |some q=>
         cases q
         ·rfl
         ·simp only[ak,dk,aR,if_false,dU];simpa only[dQ,Option.bind_assoc] using ih
     ·simp only[dQ,dU,ak];simpa only[dQ,Option.bind_assoc] using ih
theorem C1{P:Program}{t:TypeId}{zs:List Value}{fs:Array Field}(hu:P.underlying t=some (.struct fs))(h:sQ P 8 t zs=true)(a b:List Cl)(r:Bool)(xs ys:List Value)(ha:fT zs a=true)(hb:fT zs b=true)(he:kD a b=some r)(hx:a=xs.map (λx=> .c (.sc x)))(hy:b=ys.map (λx=> .c (.sc x))):
  dR P (Op.equal t (.agg xs.toArray) (.agg ys.toArray))=some r:=by
 subst hx hy;have:=vK P 8 9992 h (oX ha) (oX hb) (by rw[<-wN];exact he);unfold qk at this;rw[hu] at this;exact this
end
section
open Go
def DH(P:Program):List Field->Option (List (Nat×Nat×Bool))
 | [] =>some []
 |f::fs=>match pM P f.type,DH P fs with
  |some ag,some l=>some ((f.offset,P.cellsOf f.type,ag)::l)
  | _,_=>none
def D6(P:Program)(t:TypeId):Option (List (Nat×Nat×Bool)):=match P.underlying t with |some (.struct fs)=>DH P fs.toList| _=>none
theorem vM{P:Program}: ∀ {fs:List Field} {l:List (Nat×Nat×Bool)},DH P fs=some l-> ∀k,(fs[k]?).bind (λf=>(pM P f.type).map λag=>(f.offset,P.cellsOf f.type,ag))=gT l k
 | [],l,h,k=>by cases h;rfl
 |f::fs,l,h,k=>by
  unfold DH at h;split at h
  ·rename_i ag l' h1 h2;cases h;cases k with
   |zero=>simp[h1,gT]
   |succ k=>show _=gT l' (k+1-1);rw[bP,<-vM h2 k,cu]
  ·cases h
theorem Al{P:Program}{t:TypeId}{l:List (Nat×Nat×Bool)}(h:D6 P t=some l)(k:Nat):xw P t k=gT l k:=by
 unfold D6 at h;unfold xw;split at h
 ·rename_i fs hu;simp only[hu];rw[<-vM h k,bG]
 ·cases h
theorem Bc(P:Program):eB P [] :=λ_ _ h=>by cases h
theorem dX{P:Program}{t:Nat}{ti:TI}{l:gq}(h:ti.ok P t)(hl:eB P l):eB P ((t,ti)::l):=by
 intro u ui hu;unfold fU at hu;cases hb:Nat.beq t u with
 |true=>rw[hb] at hu;have:=aq hb;subst this;cases hu;exact h
 |false=>rw[hb] at hu;exact hl u ui hu
def C8(P:Program)(t:TypeId):Bool:=match P.underlying t with |some (.struct _)=>true| _=>false
section
variable {P:Program} {t:TypeId}
theorem jt{n:Sn}{fds:List (Nat×Nat×Bool)}{by':Nat}(h1:C8 P t=true)(h2:P.cellsOf t=(Ty.st n).width)(h3:gJ P 9 t=(Ty.st n).shs)(h4:mw P t=some (Ty.st n).zvs)(h5:D6 P t=some fds)
  (h6:Df P t=some (fds.map λx=>(x.1,x.2.1))) (h7: ((Ty.st n).flatB=true->P.eqGuardType P.depth t=false/\sQ P 8 t (Ty.st n).zvs=true)) (hz: (Ty.st n).flatB=false-> ∀xs:List Value,fT (Ty.st n).zvs (xs.map λx=> .c (.sc x))=false):TI.ok P t ⟨.st n,0,fds,by'⟩:=by
 unfold C8 at h1;split at h1
 case h_2=>cases h1
 rename_i fs hu;refine⟨?_,h2,h3,h4,Al h5,λ_=>h6,λe he=>(by cases he),λhb=>(by cases hb),λ_ hf=>(h7 hf).1,λ_ a b r xs ys ha hb he hx hy=> ?_,?_,λk hk=>(by cases hk),λk u hk=>(by cases hk)⟩
 ·simp[pM,hu,Ty.ag]
 ·cases hf: (Ty.st n).flatB with
  |true=>exact C1 hu (h7 hf).2 a b r xs ys ha hb he hx hy
  |false=>subst hx;have:=hz hf xs;rw[show fT (Ty.st n).zvs _=true from ha] at this;cases this
 ·simp[nj,hu]
def Eo(P:Program)(u:TypeId):Ty->Bool| .i k=>(match P.underlying u with |some (.int k')=>decide (k'=k)| _=>false)| _=>true
theorem kz{e:Ty}{el:Nat}{by':Nat}{u:TypeId}(h1:jz P t=some u)(h2:P.cellsOf t=1)(h4:mw P t=some [.slice none 0 0])(h5:P.cellsOf u=e.width)(h6:P.bytesOf u=el)(h7:Nat.blt 0 el=true)(h8:gJ P 9 u=e.shs)(h9:mw P u=some e.zvs)(h10:Eo P u e=true):TI.ok P t ⟨.ls e,el,[],by'⟩:=by
 have hu:P.underlying t=some (.slice u):=by
  unfold jz at h1;split at h1
  ·rename_i e hu;cases h1;exact hu
  ·cases h1
 refine⟨?_,h2,?_,h4,λk=> ?_,λh=>(by cases h),λe' he=> ?_,λhb=>(by cases hb),λh=>(by cases h),λh=>(by cases h),?_,λk hk=>(by cases hk),λk u' hk hu'=> ?_⟩
 ·simp[pM,hu,Ty.ag]
 ·simp[gJ,hu,Ty.shs,Ty.csh,h5]
 ·simp[xw,hu,gT]
 ·cases he;exact⟨u,h1,h5,h6,ax h7,h8,h9⟩
 ·simp[nj,hu]
 ·cases hk;rw[h1] at hu';cases hu';unfold Eo at h10;simp only at h10;split at h10
  ·rename_i k' hk';rw[hk',of_decide_eq_true h10]
  ·cases h10
def Ep(P:Program)(t:TypeId)(y:Ty):Bool:=match P.underlying t,y with
 |some (.int k),.i k'=>decide (k=k')
 |some .bool,.b=>true
 |some .string,.s=>true
 | _,_=>false
theorem li{y:Ty}{by':Nat}(h1:Ep P t y=true)(h2:P.cellsOf t=1)(h4:mw P t=some y.zvs):TI.ok P t ⟨y,0,[],by'⟩:=by
 unfold Ep at h1;split at h1
 ·rename_i k k' hu;refine⟨(by simp[pM,hu,Ty.ag]),h2,(by simp[gJ,hu,Ty.shs,Ty.csh]),h4,λk=>(by simp[xw,hu,gT]),λh=>(by cases h),λe' he=>(by cases he),λhb=>(by cases hb),λh=>(by cases h),λh=>(by cases h),by simp[nj,hu],λq hq=>(by cases hq;rw[hu];simp only[decide_eq_true_eq] at h1;rw[h1]),λk u hk=>(by cases hk)⟩
 ·rename_i hu;refine⟨(by simp[pM,hu,Ty.ag]),h2,(by simp[gJ,hu,Ty.shs,Ty.csh]),h4,λk=>(by simp[xw,hu,gT]),λh=>(by cases h),λe' he=>(by cases he),λhb=>hu,λh=>(by cases h),λh=>(by cases h),by simp[nj,hu],λq hq=>(by cases hq),λk u hk=>(by cases hk)⟩
 ·rename_i hu;refine⟨(by simp[pM,hu,Ty.ag]),h2,(by simp[gJ,hu,Ty.shs,Ty.csh]),h4,λk=>(by simp[xw,hu,gT]),λh=>(by cases h),λe' he=>(by cases he),λhb=>(by cases hb),λh=>(by cases h),λh=>(by cases h),by simp[nj,hu],λq hq=>(by cases hq),λk u hk=>(by cases hk)⟩
 ·cases h1
end
theorem gA: ∀ {zs:List Value} (xs:List Value),zs.any (λz=>match z with | .int _ _=>false| .bool _=>false| _=>true)=true->fT zs (xs.map λx=> .c (.sc x))=false
 | [],xs,h=>by cases h
 |z::zs,xs,h=>by
  cases hb:fT (z::zs) (xs.map λx=> .c (.sc x)) with
  |false=>rfl
  |true=>
   exfalso;cases xs with
   |nil=>cases z<;>simp[fT] at hb
   |cons x xs=>
    cases z<;>simp only[fT,aO,aR] at hb
    all_goals cases x<;>simp only[fT,cond_eq_ite,aR] at hb
    ·rw[gA xs (by simpa using h)] at hb;cases hb
    ·split at hb
     ·rw[gA xs (by simpa using h)] at hb;cases hb
     ·cases hb
end
section
open Go
section
variable {σ ε:Type}
def lO(B:σ->Option (σ⊕ε)):Nat->σ->Option ε
 | 0,_=>none
 |n+1,s=>(B s).bind (Sum.elim (lO B n) some)
theorem m9(B:σ->Option (σ⊕ε)): ∀ {n m:Nat} {s:σ} {e:ε},n<=m->lO B n s=some e->lO B m s=some e
 | 0,_,_,_,_,h=>by cases h
 |n+1,0,_,_,hm,_=>by omega
 |n+1,m+1,s,e,hm,h=>by
  unfold lO at h ⊢;cases hB:B s with
  |none=>rw[hB] at h;cases h
  |some x=>
   rw[hB] at h;cases x with
   |inl s'=>exact m9 B (by omega) h
   |inr e'=>exact h
theorem rv{p:Nat->Prop}(h: ∃n,p n): ∃n,p n/\ ∀m,p m->n<=m:=by
 obtain⟨n,hn⟩:=h
 induction n using Nat.strongRecOn with
 | _ n ih=>
   by_cases hx: ∃m,m<n/\p m
   ·obtain⟨m,hm,hp⟩:=hx;exact ih m hm hp
   ·exact⟨n,hn,λm hm=>Nat.le_of_not_lt λhlt=>hx ⟨m,hlt,hm⟩⟩
noncomputable def md(B:σ->Option (σ⊕ε))(s:σ):Option ε:=open Classical in if h: ∃n,(lO B n s).isSome=true then lO B (Classical.choose h) s else none
noncomputable def Cb(B:σ->Option (σ⊕ε))(s:σ):Nat:=open Classical in if h: ∃n,(lO B n s).isSome=true then Classical.choose (rv h) else 0
theorem kj{B:σ->Option (σ⊕ε)}{s:σ}{e:ε}:md B s=some e↔ ∃n,lO B n s=some e:=by
 classical
 constructor
 ·intro h;unfold md at h;split at h
  ·rename_i hx;exact⟨_,h⟩
  ·cases h
 ·rintro⟨n,h⟩
  have hx: ∃n,(lO B n s).isSome=true:=⟨n,by rw[h];rfl⟩
  unfold md;rw[dif_pos hx];obtain⟨e',he⟩:=bf.1 (Classical.choose_spec hx);have h1:=m9 B (Nat.le_max_left (Classical.choose hx) n) he;have h2:=m9 B (Nat.le_max_right (Classical.choose hx) n) h;rw[h1] at h2;cases h2;exact he
theorem ki(B:σ->Option (σ⊕ε))(s:σ):md B s=(B s).bind (Sum.elim (md B) some):=by
 apply Option.ext;intro e;rw[kj];constructor
 ·rintro⟨n,h⟩
  cases n with
  |zero=>cases h
  |succ n=>
   unfold lO at h;cases hB:B s with
   |none=>rw[hB] at h;cases h
   |some x=>
    rw[hB] at h;cases x with
    |inl s'=>exact kj.2 ⟨n,h⟩
    |inr e'=>exact h
 ·intro h;cases hB:B s with
  |none=>rw[hB] at h;cases h
  |some x=>
   rw[hB] at h;cases x with
   |inl s'=>obtain⟨n,h⟩:=kj.1 (show md B s'=some e from h);exact⟨n+1,by unfold lO;rw[hB];exact h⟩
   |inr e'=>exact⟨1,by unfold lO;rw[hB];exact h⟩
theorem w7(B:σ->Option (σ⊕ε))(s:σ)(e:ε)(h:md B s=some e):xC (md B) (Cb B) s e (B s):=by
 classical
 have h0:=h;rw[ki] at h;cases hB:B s with
 |none=>rw[hB] at h;cases h
 |some x=>
  rw[hB] at h;cases x with
  |inl s'=>
   refine⟨?_,h⟩
   have hx: ∃n,(lO B n s).isSome=true:=by obtain⟨n,hn⟩:=kj.1 h0;exact⟨n,by rw[hn];rfl⟩
   have hx': ∃n,(lO B n s').isSome=true:=by obtain⟨n,hn⟩:=kj.1 (show md B s'=some e from h);exact⟨n,by rw[hn];rfl⟩
   unfold Cb;rw[dif_pos hx,dif_pos hx'];have:=(Classical.choose_spec (rv hx)).1;cases hn:Classical.choose (rv hx) with
   |zero=>rw[hn] at this;cases this
   |succ n=>rw[hn] at this;unfold lO at this;rw[hB] at this;exact Nat.lt_succ_of_le ((Classical.choose_spec (rv hx')).2 n this)
  |inr e'=>exact (Option.some.inj h)
end
inductive ju where
 |ty (t:Ty)|pr (t:Ty)|fc (g:Nat)|fn (g:Nat) (caps:List Ty)|nl
abbrev ju.D:ju->Type
 | .ty t=>t.D
 | .pr t=>t.D
 | .fc _=>Unit
 | .fn _ caps=>fG.D caps
 | .nl=>Unit
abbrev fI.D:List ju->Type
 | [] =>Unit
 |p::l=>p.D×fI.D l
def q8: (l:List Ty)->fG.D l->List Cl
 | [],_=> []
 |t::l,x=> .pro (t.flat x.1)::q8 l x.2
def ju.v1: (p:ju)->p.D->V1
 | .ty t,x=>qU t x
 | .pr t,x=> .cl (.pro (t.flat x))
 | .fc g,_=> .cl (.c (.sc (.func (.func g) #[] #[])))
 | .fn g caps,x=> .fn g (q8 caps x)
 | .nl,_=> .cl .em
def eV: (l:List ju)->fI.D l->List V1
 | [],_=> []
 |p::l,x=>p.v1 x.1::eV l x.2
def Be{ρ:Type}(t:Ty)(c:Cl)(κ:t.D->Option ρ):Option ρ:=match c with
 | .pro xs=>(match t.unflat xs with |some x=>κ x|none=>none)
 | _=>none
def nn{ρ:Type}: (l:List Ty)->List Cl->(fG.D l->Option ρ)->Option ρ
 | [],[],κ=>κ ()
 |t::l,c::cs,κ=>Be t c λx=>nn l cs λy=>κ (x,y)
 | _,_,_=>none
def DC{ρ:Type}: (t:Ty)->V1->(t.D->Option ρ)->Option ρ
 | .ls _,.cl .em,κ=>κ []
 |t,a,κ=>un t a κ
def DP{ρ:Type}: (p:ju)->V1->(p.D->Option ρ)->Option ρ
 | .ty t,a,κ=>DC t a κ
 | .pr t,.cl c,κ=>Be t c κ
 | .fc g,.cl (.c (.sc (.func (.func g') cs ts))),κ=>bif Nat.beq g' g&&Nat.beq cs.size 0&&Nat.beq ts.size 0 then κ () else none
 | .fn g caps,.fn g' cs,κ=>bif Nat.beq g' g then nn caps cs κ else none
 | .nl,.cl .em,κ=>κ ()
 | _,_,_=>none
def nr{ρ:Type}: (l:List ju)->List V1->(fI.D l->Option ρ)->Option ρ
 | [],[],κ=>κ ()
 |p::l,a::as,κ=>DP p a λx=>nr l as λy=>κ (x,y)
 | _,_,_=>none
def sP(ps:List ju)(rs:List Ty)(G:fI.D ps->Option (fG.D rs)):uB:=λargs _ κ=>nr ps args λx=>(G x).bind λy=>ret (fq rs y) κ
theorem qJ{ρ:Type}{t:Ty}{c:Cl}{κ:t.D->Option ρ}{r:ρ}(h:Be t c κ=some r): ∃x,c= .pro (t.flat x)/\κ x=some r:=by
 unfold Be at h;split at h
 ·split at h
  ·rename_i x hx;exact⟨x,by rw[t.unflat_some _ _ hx],h⟩
  ·cases h
 ·cases h
theorem nQ{ρ:Type}: ∀ {l:List Ty} {cs:List Cl} {κ:fG.D l->Option ρ} {r:ρ},nn l cs κ=some r-> ∃x,cs=q8 l x/\κ x=some r
 | [],[],κ,r,h=>⟨(),rfl,h⟩
 |t::l,c::cs,κ,r,h=>by unfold nn at h;obtain⟨x,h1,h⟩:=qJ h;obtain⟨y,h2,h⟩:=nQ h;exact⟨(x,y),by rw[h1,h2];rfl,h⟩
 | [],_::_,κ,r,h=>by simp[nn] at h
 | _::_,[],κ,r,h=>by simp[nn] at h
theorem zw{ρ:Type}{t:Ty}{a:V1}{κ:t.D->Option ρ}{r:ρ}(h:DC t a κ=some r): ∃x,(a.av=(qU t x).av\/(a.av= .em/\ ∃s,(qU t x).av= .ro s []))/\κ x=some r:=by
 unfold DC at h;split at h
 ·exact⟨[],.inr ⟨rfl,_,rfl⟩,h⟩
 ·obtain⟨x,e,h'⟩:=un_some h;exact⟨x,.inl (by rw[e]),h'⟩
theorem zx{ρ:Type}{p:ju}{a:V1}{κ:p.D->Option ρ}{r:ρ}(h:DP p a κ=some r): ∃x,(a.av=(p.v1 x).av\/(a.av= .em/\ ∃s,(p.v1 x).av= .ro s []))/\κ x=some r:=by
 unfold DP at h;split at h
 ·exact zw h
 ·obtain⟨x,h1,h⟩:=qJ h;exact⟨x,.inl (by rw[h1];rfl),h⟩
 ·obtain⟨h1,h⟩:=dK h;simp only[ao] at h1;obtain⟨⟨h1,h2⟩,h3⟩:=h1;have h1:=aq h1;have h2:=cq (aq h2);have h3:=cq (aq h3);exact⟨(),.inl (by rw[h1,h2,h3];rfl),h⟩
 ·obtain⟨h1,h⟩:=dK h;obtain⟨x,h2,h⟩:=nQ h;exact⟨x,.inl (by rw[aq h1,h2];rfl),h⟩
 ·exact⟨(),.inl rfl,h⟩
 ·cases h
theorem fD{ρ:Type}: ∀ {l:List ju} {as:List V1} {κ:fI.D l->Option ρ} {r:ρ},nr l as κ=some r-> ∃x,rY (as.map V1.av) ((eV l x).map V1.av)/\κ x=some r
 | [],[],κ,r,h=>⟨(),rY.refl _,h⟩
 |p::l,a::as,κ,r,h=>by unfold nr at h;obtain⟨x,h1,h⟩:=zx h;obtain⟨y,h2,h⟩:=fD h;exact⟨(x,y),rY.cons h1 h2,h⟩
 | [],_::_,κ,r,h=>by simp[nr] at h
 | _::_,[],κ,r,h=>by simp[nr] at h
theorem qp(G:List (Option dS)): ∀ (l:List Ty) (x:fG.D l),∀c∈q8 l x,c.ok G
 | [],x,c,h=>by cases h
 |t::l,x,c,h=>by
  rcases aX.1 h with rfl|h
  ·trivial
  ·exact qp G l x.2 c h
theorem ju.ok(p:ju)(x:p.D): (p.v1 x).ok [] :=by
 cases p with
 |ty t=>exact BM t x
 |pr t=>trivial
 |fc g=>trivial
 |fn g caps=>exact qp [] caps x
 |nl=>trivial
theorem gX: ∀ (l:List ju) (x:fI.D l),∀a∈eV l x,a.ok []
 | [],x,a,h=>by cases h
 |p::l,x,a,h=>by
  rcases aX.1 h with rfl|h
  ·exact p.ok x.1
  ·exact gX l x.2 a h
section
theorem Aa[dL]{P:Program}{Θ:gq}{Y:kZ}{Λ:fW}(hΘ:eB P Θ)(hY:fB P Y)(hm:P.follows .mixedOrders=true){f:FuncId}{fn:Func}(hf:oO P f=some fn)(hL: ∀c,fn.body=some c->eS P Λ (eg c)){ps:List ju}{rs:List Ty}{G:fI.D ps->Option (fG.D rs)}(hk:Nat.blt f 1048576=true)
  (F:fI.D ps->Option (fG.D rs)) (hF: ∀x,CN Θ Y Λ fn (eV ps x) (λv g=>some (v,g))=(F x).bind λy=>ret (fq rs y) (λv g=>some (v,g))) (hG: ∀x y,G x=some y->F x=some y):jk P f (sP ps rs G):=by
 intro args ρ κ r hr;unfold sP at hr;obtain⟨x,hn,hr2⟩:=fD hr;obtain⟨y,h1,hr3⟩:=ah.1 hr2;exact⟨_,_,.of_fn (ic.norm hn (yb hΘ hY hm hf hL (gX ps x) (by rw[hF,hG x y h1];rfl))) (ax hk),rM _,hr3⟩
def xR(el:Ty)(ps:List ju)(rs:List Ty)(G:List el.D->fI.D ps->Option (fG.D rs)):uB:=λargs _ κ=>match args with
 | .cl (.c (.ls t l))::as=>(match j8 t el l with
   |some l=>nr ps as λx=>(G l x).bind λy=>ret (fq rs y) κ
   |none=>none)
 | _=>none
def yT{ρ:Type}(el:Ty)(rs:List Ty)(y:List el.D×fG.D rs)(κ:V->List dS->Option ρ):Option ρ:=κ (p9 (i7 1 (fq rs y.2))) (⟨el,y.1,none⟩::iZ (fq rs y.2))
def sO(el:Ty)(ps:List ju)(rs:List Ty)(G:List el.D->fI.D ps->Option (List el.D×fG.D rs)):uB:=λargs _ κ=>match args with
 | .cl (.c (.ls t l))::as=>(match j8 t el l with
   |some l=>nr ps as λx=>(G l x).bind λy=>yT el rs y κ
   |none=>none)
 | _=>none
theorem z9[dL]{P:Program}{Θ:gq}{Y:kZ}{Λ:fW}{f:FuncId}(hk:Nat.blt f 1048576=true)(hΘ:eB P Θ)(hY:fB P Y)(hm:P.follows .mixedOrders=true){fn:Func}(hf:oO P f=some fn)(hL: ∀c,fn.body=some c->eS P Λ (eg c)){el:Ty}{ps:List ju}{rs:List Ty}{G:List el.D->fI.D ps->Option (fG.D rs)}
  (F:List el.D->fI.D ps->Option (fG.D rs)) (hF: ∀l x,ya Θ Y Λ fn 0 el l (eV ps x) (λv g=>some (v,g))=(F l x).bind λy=>ret (fq rs y) (λv g=>some (v,g))) (hG: ∀l x y,G l x=some y->F l x=some y):jk P (oZ f) (xR el ps rs G):=by
 intro args ρ κ r hr;unfold xR at hr;split at hr
 ·rename_i t l as;split at hr
  ·rename_i l' hl;obtain⟨e,hl⟩:=eI hl;subst e;have hl:l=l':=hl;subst hl;obtain⟨x,hn,hr2⟩:=fD hr;obtain⟨y,h1,hr3⟩:=ah.1 hr2;exact⟨_,_,.of_mv ⟨.ls _,l,_,rfl,eT.norm (rY.cons (.inl rfl) hn) (vQ hΘ hY hm hf hL (bH 1) (gX ps x) (by rw[hF,hG l x y h1];rfl))⟩ (ax hk),rM _,hr3⟩
  ·cases hr
 ·cases hr
theorem rK(el:Ty)(l:List el.D)(ys:List ((t:Ty)×t.D)): (p9 (i7 1 ys)).ok ((⟨el,l,none⟩::iZ ys).map some):=by
 have h:=kt ys [⟨el,l,none⟩];simp only[cn,List.singleton_append] at h
 match i7 1 ys,h with
 | [],_=>exactλx hx=>by cases hx
 | [v],h=>exact h v aG
 |v::u::vs,h=>exact h
theorem z8[dL]{P:Program}{Θ:gq}{Y:kZ}{Λ:fW}(hΘ:eB P Θ)(hY:fB P Y)(hm:P.follows .mixedOrders=true){f:FuncId}{fn:Func}(hf:oO P f=some fn)(hL: ∀c,fn.body=some c->eS P Λ (eg c)){el:Ty}{ps:List ju}{rs:List Ty}{G:List el.D->fI.D ps->Option (List el.D×fG.D rs)}(hk:Nat.blt f 1048576=true)
  (F:List el.D->fI.D ps->Option (List el.D×fG.D rs)) (hF: ∀l x,ya Θ Y Λ fn 1 el l (eV ps x) (λv g=>some (v,g))=(F l x).bind λy=>yT el rs y (λv g=>some (v,g))) (hG: ∀l x y,G l x=some y->F l x=some y):jk P (l8 f) (sO el ps rs G):=by
 intro args ρ κ r hr;unfold sO at hr;split at hr
 ·rename_i t l as;split at hr
  ·rename_i l' hl;obtain⟨e,hl⟩:=eI hl;subst e;have hl:l=l':=hl;subst hl;obtain⟨x,hn,hr2⟩:=fD hr;obtain⟨y,h1,hr3⟩:=ah.1 hr2;exact⟨_,_,.of_io ⟨.ls _,l,_,rfl,eT.norm (rY.cons (.inl rfl) hn) (vQ hΘ hY hm hf hL (az 1) (gX ps x) (by rw[hF,hG l x y h1];rfl))⟩ (ax hk),rK _ _ (fq rs y.2),hr3⟩
  ·cases hr
 ·cases hr
theorem Ad[dL]{P:Program}{Θ:gq}{Y:kZ}{Λ:fW}(hΘ:eB P Θ)(hY:fB P Y)(hm:P.follows .mixedOrders=true){f:FuncId}{fn:Func}(hf:oO P f=some fn)(hL: ∀c,fn.body=some c->eS P Λ (eg c)){el:Ty}{ps:List ju}{rs:List Ty}{G:List el.D->fI.D ps->Option (List el.D×fG.D rs)}(hk:Nat.blt f 1048576=true)
  (F:List el.D->fI.D ps->Option (List el.D×fG.D rs)) (hF: ∀l x,BW Θ Y Λ fn el l (eV ps x) (λv g=>some (v,g))=(F l x).bind λy=>yT el rs y (λv g=>some (v,g))) (hG: ∀l x y,G l x=some y->F l x=some y):jk P (pi f) (sO el ps rs G):=by
 intro args ρ κ r hr;unfold sO at hr;split at hr
 ·rename_i t l as;split at hr
  ·rename_i l' hl;obtain⟨e,hl⟩:=eI hl;subst e;have hl:l=l':=hl;subst hl;obtain⟨x,hn,hr2⟩:=fD hr;obtain⟨y,h1,hr3⟩:=ah.1 hr2;exact⟨_,_,.of_pt ⟨_,l,_,rfl,eT.norm (rY.cons (.inl rfl) hn) (Aq hΘ hY hm hf hL (gX ps x) (by rw[hF,hG l x y h1];rfl))⟩ (ax hk),rK _ _ (fq rs y.2),hr3⟩
  ·cases hr
 ·cases hr
def Cn{ρ:Type}(el:Ty)(rs:List Ty)(y:List el.D×fG.D rs)(κ:V->List dS->Option ρ):Option ρ:=κ (p9 (.cl (.ptrT ⟨0,[]⟩ el.width 0 0)::i7 1 (fq rs y.2))) (⟨el,y.1,none⟩::iZ (fq rs y.2))
def xU(el:Ty)(ps:List ju)(rs:List Ty)(G:fI.D ps->Option (List el.D×fG.D rs)):uB:=λargs _ κ=>nr ps args λx=>(G x).bind λy=>Cn el rs y κ
theorem Ab[dL]{P:Program}{Θ:gq}{Y:kZ}{Λ:fW}(hΘ:eB P Θ)(hY:fB P Y)(hm:P.follows .mixedOrders=true){f:FuncId}{fn:Func}(hf:oO P f=some fn)(hL: ∀c,fn.body=some c->eS P Λ (eg c)){el:Ty}{ps:List ju}{rs:List Ty}{G:fI.D ps->Option (List el.D×fG.D rs)}(hk:Nat.blt f 1048576=true)
  (F:fI.D ps->Option (List el.D×fG.D rs)) (hF: ∀x,CN Θ Y Λ fn (eV ps x) (λv g=>some (v,g))=(F x).bind λy=>Cn el rs y (λv g=>some (v,g))) (hG: ∀x y,G x=some y->F x=some y):jk P f (xU el ps rs G):=by
 intro args ρ κ r hr;unfold xU at hr;obtain⟨x,hn,hr2⟩:=fD hr;obtain⟨y,h1,hr3⟩:=ah.1 hr2;refine⟨_,_,.of_fn (ic.norm hn (yb hΘ hY hm hf hL (gX ps x) (by rw[hF,hG x y h1];rfl))) (ax hk),?_,hr3⟩;have h:=kt (fq rs y.2) [⟨el,y.1,none⟩];simp only[cn,List.singleton_append] at h;have h0: ∀v∈(.cl (.ptrT ⟨0,[]⟩ el.width 0 0)::i7 1 (fq rs y.2):List V1),v.ok ((⟨el,y.1,none⟩::iZ (fq rs y.2)).map some):=cW.2 ⟨Nat.succ_pos _,h⟩
 match i7 1 (fq rs y.2),h0 with
 | [],h=>exact h _ aG
 |v::vs,h=>exact h
def Cp{ρ:Type}(t:Ty)(rs:List Ty)(y:t.D×fG.D rs)(κ:V->List dS->Option ρ):Option ρ:=κ (p9 (i7 (fV (t.flat y.1)).length (fq rs y.2))) (fV (t.flat y.1)++iZ (fq rs y.2))
def BR(t:Ty)(ps:List ju)(rs:List Ty)(G:t.D->fI.D ps->Option (t.D×fG.D rs)):uB:=λargs _ κ=>match args with
 |a::as=>un t a λx=>nr ps as λp=>(G x p).bind λy=>Cp t rs y κ
 | [] =>none
theorem z7[dL]{P:Program}{Θ:gq}{Y:kZ}{Λ:fW}(hΘ:eB P Θ)(hY:fB P Y)(hm:P.follows .mixedOrders=true){f:FuncId}{fn:Func}(hf:oO P f=some fn)(hL: ∀c,fn.body=some c->eS P Λ (eg c)){t:Ty}{ps:List ju}{rs:List Ty}{G:t.D->fI.D ps->Option (t.D×fG.D rs)}(hk:Nat.blt f 1048576=true)
  (F:t.D->fI.D ps->Option (t.D×fG.D rs)) (hF: ∀l x,BV Θ Y Λ fn t l (eV ps x) (λv g=>some (v,g))=(F l x).bind λy=>Cp t rs y (λv g=>some (v,g))) (hG: ∀l x y,G l x=some y->F l x=some y):jk P (l8 f) (BR t ps rs G):=by
 intro args ρ κ r hr;unfold BR at hr;split at hr
 ·rename_i a as;obtain⟨l,rfl,hr1⟩:=un_some hr;obtain⟨x,hn,hr2⟩:=fD hr1;obtain⟨y,h1,hr3⟩:=ah.1 hr2;refine⟨_,_,.of_io ⟨t,l,_,rfl,eT.norm (rY.cons (.inl rfl) hn) (Ap hΘ hY hm hf hL (gX ps x) (by rw[hF,hG l x y h1];rfl))⟩ (ax hk),?_,hr3⟩;have h:=kt (fq rs y.2) (fV (t.flat y.1))
  match i7 (fV (t.flat y.1)).length (fq rs y.2),h with
  | [],_=>exactλx hx=>by cases hx
  | [v],h=>exact h v aG
  |v::u::vs,h=>exact h
 ·cases hr
def xS(p:List V1->Bool)(e1 e2:uB):uB:=λargs ρ κ=>bif p args then e1 args ρ κ else e2 args ρ κ
theorem xT[dL]{P:Program}{f:FuncId}{p:List V1->Bool}{e1 e2:uB}(h1:jk P f e1)(h2:jk P f e2):jk P f (xS p e1 e2):=by
 intro args ρ κ r hr;unfold xS at hr;cases hp:p args with
 |true=>rw[hp] at hr;exact h1 args ρ κ r hr
 |false=>rw[hp] at hr;exact h2 args ρ κ r hr
end
def C6(n g:Nat)(args:List V1):Bool:=match gT args n with
 |some (.fn g' _)=>Nat.beq g' g
 |some (.cl (.c (.sc (.func (.func g') _ _))))=>Nat.beq g' g
 | _=>false
def gz(fn:Func):Code:=match fn.body with |some c=>c|none=> .skip
def Cc(c:Code)(n:Nat):Code:=(gT (eg c) n).getD .skip
theorem C5[dL]{P:Program}{Λ:fW}{fn:Func}{cs:List Code}(h:eg (gz fn)=cs)(H:eS P Λ cs)(c:Code)(hc:fn.body=some c):eS P Λ (eg c):=by
 have :gz fn=c:=by unfold gz;rw[hc]
 rw[<-this,h];exact H
end
section
open Go
inductive Kc where|i (k:IntKind)|b|s|h|ls (t:Ty)
 deriving DecidableEq
def w6:List (Option Ty)->List Value->List Kc
 |some t::l,_::m=> .ls t::w6 l m
 |none::l,.int k _::m=> .i k::w6 l m
 |none::l,.bool _::m=> .b::w6 l m
 |none::l,.nilFunc::m=> .h::w6 l m
 |none::l,_::m=> .s::w6 l m
 | _,_=> []
def Ty.kc(t:Ty):List Kc:=w6 t.csh t.zvs
def iH:List Kc->List C->Prop
 | [],[] =>True
 | .i k::l,c::m=>(∃n,c= .sc (.int k n))/\iH l m
 | .b::l,c::m=>(∃v,c= .sc (.bool v))/\iH l m
 | .s::l,c::m=>(∃v,c= .sc (.string v))/\iH l m
 | .h::l,c::m=>(∃v:Hd,c= .sc (.slice v.a v.n v.c))/\iH l m
 | .ls t::l,c::m=>(∃v,c= .ls t v)/\iH l m
 | _,_=>False
theorem kE{cs:List C}(h:iH [] cs):cs= [] :=by cases cs with |nil=>rfl|cons=>exact h.elim
theorem Bq{k:IntKind}{l:List Kc}{cs:List C}(h:iH (.i k::l) cs): ∃n r,cs= .sc (.int k n)::r/\iH l r:=by
 cases cs with
 |nil=>exact h.elim
 |cons c r=>obtain⟨⟨n,rfl⟩,h⟩:=h;exact⟨n,r,rfl,h⟩
theorem Bo{l:List Kc}{cs:List C}(h:iH (.b::l) cs): ∃n r,cs= .sc (.bool n)::r/\iH l r:=by
 cases cs with
 |nil=>exact h.elim
 |cons c r=>obtain⟨⟨n,rfl⟩,h⟩:=h;exact⟨n,r,rfl,h⟩
theorem Bs{l:List Kc}{cs:List C}(h:iH (.s::l) cs): ∃n r,cs= .sc (.string n)::r/\iH l r:=by
 cases cs with
 |nil=>exact h.elim
 |cons c r=>obtain⟨⟨n,rfl⟩,h⟩:=h;exact⟨n,r,rfl,h⟩
theorem Bp{l:List Kc}{cs:List C}(h:iH (.h::l) cs): ∃ (n:Hd) (r:List C),cs= .sc (.slice n.a n.n n.c)::r/\iH l r:=by
 cases cs with
 |nil=>exact h.elim
 |cons c r=>obtain⟨⟨n,rfl⟩,h⟩:=h;exact⟨n,r,rfl,h⟩
theorem Br{t:Ty}{l:List Kc}{cs:List C}(h:iH (.ls t::l) cs): ∃n r,cs= .ls t n::r/\iH l r:=by
 cases cs with
 |nil=>exact h.elim
 |cons c r=>obtain⟨⟨n,rfl⟩,h⟩:=h;exact⟨n,r,rfl,h⟩
theorem qK(t:Ty){cs:List C}(h:iH t.kc cs): ∃x,t.flat x=cs:=by
 have : (t.unflat cs).isSome=true:=by
  cases t with
  |st n=>
   cases n
   all_goals
    repeat ((first |replace h:=Bq h|replace h:=Bo h|replace h:=Br h|replace h:=Bs h|replace h:=Bp h);obtain⟨_,_,rfl,h⟩:=h)
    cases kE h;rfl
  |i k=>replace h:=Bq h;obtain⟨_,_,rfl,h⟩:=h;cases kE h;simp[Ty.unflat,gI,gN]
  |b=>replace h:=Bo h;obtain⟨_,_,rfl,h⟩:=h;cases kE h;rfl
  |h=>replace h:=Bp h;obtain⟨_,_,rfl,h⟩:=h;cases kE h;rfl
  |s=>replace h:=Bs h;obtain⟨_,_,rfl,h⟩:=h;cases kE h;rfl
  |ls u=>replace h:=Br h;obtain⟨_,_,rfl,h⟩:=h;cases kE h;simp[Ty.unflat,gL,gN]
 obtain⟨x,hx⟩:=bf.1 this;exact⟨x,t.unflat_some _ _ hx⟩
inductive T.bd:T->Prop where
 |int {k:IntKind} {n:Int} (h:k.min<=n/\n<=k.max):T.bd (.sc (.int k n))
 |bool (v:Bool):T.bd (.sc (.bool v))
 |str (v:ByteArray):T.bd (.sc (.string v))
 |sl {sz:Nat} {rows:List (List T)} (hl:rows.length<=maxLen) (h: ∀r∈rows,∀x∈r,T.bd x):T.bd (.sl sz rows)
def CK(t:Ty)(x:t.D):Prop:=∀y∈t.row x,T.bd y
def rU(P:Program)(e:TypeId->List Kc->Bool):List Field->Nat->List Kc->Bool
 | [],_,[] =>true
 | [],_,_::_=>false
 |f::fs,off,ks=>Nat.beq f.offset off&&Nat.ble (P.cellsOf f.type) ks.length&&e f.type (ks.take (P.cellsOf f.type))&&rU P e fs (off+P.cellsOf f.type) (ks.drop (P.cellsOf f.type))
def nP(P:Program)(Θ:gq):Nat->TypeId->List Kc->Bool
 | 0,_,_=>false
 |d+1,t,ks=>match P.underlying t with
  |some (.int k)=>decide (ks= [.i k])
  |some .bool=>decide (ks= [.b])
  |some (.slice e)=>(match fU Θ e with
   |some ti=>decide (ks= [.ls ti.ty])&&nP P Θ d e ti.ty.kc&&Nat.beq (P.cellsOf e) ti.ty.width&&Nat.blt 0 ti.ty.width
   |none=>false)
  |some (.struct fs)=>rU P (nP P Θ d) fs.toList 0 ks&&Nat.beq (P.cellsOf t) ks.length
  | _=>false
theorem sZ: ∀ {k l:List Kc} {cs ds:List C},iH k cs->iH l ds->iH (k++l) (cs++ds)
 | [],l,[],ds,_,h=>h
 | [],_,_::_,_,h,_=>h.elim
 |a::k,_,[],_,h,_=>by cases a<;>exact h.elim
 |a::k,l,c::cs,ds,h,h2=>by cases a<;>exact⟨h.1,sZ h.2 h2⟩
theorem nF: ∀ {k:List Kc} {cs:List C},iH k cs->cs.length=k.length
 | [],[],_=>rfl
 | [],_::_,h=>h.elim
 |a::k,[],h=>by cases a<;>exact h.elim
 |a::k,c::cs,h=>by cases a<;>simp[nF h.2]
section
variable {H:Type} {enc:TypeId×Value->H} {P:Program} {w:World} {base:Nat} {sp:Nat->Bool} {held:Bool} {Θ:gq}
structure Cs (w:World) (cs:List Value) (Xs:List C):Prop where
 len:Xs.length=cs.length
 one: ∀u∈cs,u.oneCell'=true
 ro: ∀ (k:Nat) (c:C) (u:Value),Xs[k]? =some c->cs[k]? =some u->RO w (λb=>b<w.heap.size) c.tree u
 bd: ∀c∈Xs,T.bd c.tree
theorem Cs.nil:Cs w [] [] :=⟨rfl,λ_ h=>(by cases h),λ_ _ _ h=>(by cases h),λ_ h=>(by cases h)⟩
theorem Cs.one_mk{u:Value}{c:C}(h1:u.oneCell'=true)(h2:RO w (λb=>b<w.heap.size) c.tree u)(h3:T.bd c.tree):Cs w [u] [c] :=by
 refine⟨rfl,λv hv=> ?_,λk c' u' hk hu=> ?_,λc' hc=> ?_⟩
 ·rw[aJ.1 hv];exact h1
 ·cases k with
  |zero=>cases hk;cases hu;exact h2
  |succ k=>simp at hk
 ·rw[aJ.1 hc];exact h3
theorem Cs.app{cs ds:List Value}{Xs Ys:List C}(h:Cs w cs Xs)(k:Cs w ds Ys):Cs w (cs++ds) (Xs++Ys):=by
 refine⟨by rw[be,be,h.len,k.len],λu hu=> ?_,λj c u hj hu=> ?_,λc hc=> ?_⟩
 ·rcases bi.1 hu with hu|hu
  ·exact h.one u hu
  ·exact k.one u hu
 ·by_cases hlt:j<Xs.length
  ·rw[aU hlt] at hj;rw[aU (by rw[<-h.len];exact hlt)] at hu;exact h.ro j c u hj hu
  ·rw[aV (by omega)] at hj;rw[aV (by rw[<-h.len];omega),<-h.len] at hu;exact k.ro _ c u hj hu
 ·rcases bi.1 hc with hc|hc
  ·exact h.bd c hc
  ·exact k.bd c hc
theorem rV(hΘ:eB P Θ): ∀ (d:Nat) {t:TypeId} {ks:List Kc} {n:Nat} {cs:List Value} {y:DataW H×List MemPlace},nP P Θ d t ks=true->DataW.trod enc P w base sp held n t cs=some y-> ∃Xs:List C,iH ks Xs/\Cs w cs Xs
 | 0,t,ks,n,cs,y,hb,_=>by cases hb
 |d+1,t,ks,n,cs,y,hb,h=>by
  unfold nP at hb;split at hb
  ·rename_i k hu;have:=of_decide_eq_true hb;subst this;obtain⟨v,rfl,_,hw⟩:=DataW.trod_int hu h;simp only[Lit.wf,ao,decide_eq_true_eq] at hw;exact⟨[.sc (.int k v)],⟨⟨v,rfl⟩,trivial⟩,Cs.one_mk rfl (.sc rfl) (.int hw)⟩
  ·rename_i hu;have:=of_decide_eq_true hb;subst this;obtain⟨v,rfl,_⟩:=DataW.trod_bool hu h;exact⟨[.sc (.bool v)],⟨⟨v,rfl⟩,trivial⟩,Cs.one_mk rfl (.sc rfl) (.bool v)⟩
  ·rename_i e hu;split at hb
   ·rename_i ti hti;simp only[ao,decide_eq_true_eq] at hb;obtain⟨⟨⟨rfl,hb⟩,hw⟩,hpos⟩:=hb;have hw:=aq hw;have hpos:0<ti.ty.width:=ax hpos;rcases Go.Deep.open_slice hu h with ⟨rfl,_⟩| ⟨ad,len,cap,m,n',D,Pl,rfl,_,hl,hm,hmm,_,hx⟩
    ·exact⟨[.ls ti.ty []],⟨⟨[],rfl⟩,trivial⟩,Cs.one_mk rfl (.em _ _ _) (.sl (bH _) λr hr=>by cases hr)⟩
    ·have hlm:len<=m:=by rw[hmm];split<;>omega
     have each: ∀i:Fin len,∃z:ti.ty.D,∃cs',w.cells? base (ad.add (i.1*P.cellsOf e)) (P.cellsOf e)=some cs'/\Cs w cs' (ti.ty.flat z):=by intro i;obtain⟨cs',h1,h2⟩:=hx i.1 (by have:=i.2;omega);obtain⟨Xs,h3,h4⟩:=rV hΘ d hb h2;obtain⟨z,rfl⟩:=qK _ h3;exact⟨z,cs',h1,h4⟩
     let l:List ti.ty.D:=List.ofFn λi=>(each i).choose
     have hll:l.length=len:=by simp[l]
     have row: ∀ (i:Nat) (r:List T),(l.map ti.ty.row)[i]? =some r-> ∃hi:i<len,∃cs',w.cells? base (ad.add (i*P.cellsOf e)) (P.cellsOf e)=some cs'/\ ∃z,r=(ti.ty.flat z).map C.tree/\Cs w cs' (ti.ty.flat z):=by
      intro i r hr;rw[aw,aj] at hr;obtain⟨z,hz,rfl⟩:=hr;obtain⟨h1,h2⟩:=ai.1 hz;have hi:i<len:=by rw[hll] at h1;exact h1
      refine⟨hi,(each ⟨i,hi⟩).choose_spec.choose,(each ⟨i,hi⟩).choose_spec.choose_spec.1,z,ti.ty.row_flat z,?_⟩;have e1:z=(each ⟨i,hi⟩).choose:=by rw[<-h2];simp[l]
      rw[e1];exact (each ⟨i,hi⟩).choose_spec.choose_spec.2
     refine⟨[.ls ti.ty l],⟨⟨l,rfl⟩,trivial⟩,Cs.one_mk rfl ?_ ?_⟩
     ·show RO w _ (.sl ti.ty.width (l.map ti.ty.row)) _;by_cases h0:len=0
      ·have :l= [] :=dg.1 (by rw[hll,h0]);rw[this,h0];exact .em _ _ _
      ·have hlr: (l.map ti.ty.row).length=len:=by rw[aE,hll]
       have hlen: ∀ (i:Nat) (r:List T),(l.map ti.ty.row)[i]? =some r->r.length=ti.ty.width:=by intro i r hr;obtain⟨hi,cs',h1,z,rfl,h2⟩:=row i r hr;obtain⟨_,h3,_⟩:=World.cells?_some h1;rw[aE,h2.len,h3,hw]
       have hcell: ∀ (i:Nat) (r:List T) (j:Nat) (x:T),(l.map ti.ty.row)[i]? =some r->r[j]? =some x-> ∃u,w.cell? (ad.add (i*ti.ty.width+j))=some u/\RO w (λb=>b<w.heap.size) x u:=by
        intro i r j x hr hx;obtain⟨hi,cs',h1,z,rfl,h2⟩:=row i r hr;obtain⟨_,h3,h4⟩:=World.cells?_some h1;rw[aw,aj] at hx;obtain⟨c,hc,rfl⟩:=hx;have hj:j<cs'.length:=by rw[<-h2.len];exact (ai.1 hc).1
        refine⟨cs'[j],?_,h2.ro j c _ hc (an hj)⟩;rw[<-Go.Deep.add_add,<-hw,h4 j (by omega),an hj]
       have hne: ∃u,w.cell? ad=some u:=by
        obtain⟨r,hr⟩: ∃r,(l.map ti.ty.row)[0]? =some r:=⟨_,an (by omega)⟩
        have h5:=hlen 0 r hr;obtain⟨x,hx⟩: ∃x,r[0]? =some x:=⟨_,an (by omega)⟩
        obtain⟨u,hu',_⟩:=hcell 0 r 0 x hr hx;simp only[bM,aM,Addr.add,if_true] at hu';exact⟨u,hu'⟩
       obtain⟨u0,hu0⟩:=hne;rw[<-hlr];refine .sl (λi j=>((w.cell? (ad.add (i*ti.ty.width+j))).getD undef)) (by omega) ?_ (World.block_lt_of_cell? w _ hu0) hlen ?_ ?_
       ·cases hsp:ad.spot with
        |none=>rfl
        |some s=>
         unfold World.cell? at hu0;rw[hsp] at hu0;split at hu0
         ·simp at hu0
         ·cases hu0
       ·intro i r j x hr hx;obtain⟨u,h1,_⟩:=hcell i r j x hr hx;rw[h1];rfl
       ·intro i r j x hr hx;obtain⟨u,h1,h2⟩:=hcell i r j x hr hx;rw[h1];exact h2
     ·refine .sl (by rw[aE,hll];unfold maxLen at hm ⊢;omega) λr hr x hx=> ?_;obtain⟨i,hi⟩:=List.getElem?_of_mem hr;obtain⟨_,cs',_,z,rfl,h2⟩:=row i r hi;obtain⟨c,hc,rfl⟩:=aI.1 hx;exact h2.bd c hc
   ·cases hb
  ·rename_i fs hu;simp only[ao] at hb;obtain⟨hb,hkl0⟩:=hb;have hkl0:=aq hkl0;obtain⟨xs,m,_,_,hl,hlen,hf⟩:=DataW.trod_struct hu h
   have fm: ∀ (gs:List Field) (off i0:Nat) (ks:List Kc),rU P (nP P Θ d) gs off ks=true->(∀ (i:Nat) (f:Field),gs[i]? =some f->fs[i0+i]? =some f)-> ∃Xs:List C,iH ks Xs/\Cs w ((cs.drop off).take ks.length) Xs/\off+ks.length<=max off cs.length:=by
    intro gs
    induction gs with
    |nil=>
     intro off i0 ks hk _;cases ks with
     |nil=>exact⟨[],trivial,by simpa using Cs.nil,by simp;omega⟩
     |cons=>cases hk
    |cons f gs ih=>
     intro off i0 ks hk hg;simp only[rU,ao] at hk;obtain⟨⟨⟨ho,hle⟩,h1⟩,h2⟩:=hk;have ho:=aq ho;have hle:P.cellsOf f.type<=ks.length:=ax hle;have hfi:fs[i0]? =some f:=by have:=hg 0 f rfl;simpa using this
     have hi0:i0<xs.length:=by rw[hlen];exact (aD.1 hfi).1
     have h3:=hf i0 f hfi;rw[an hi0,ho] at h3;obtain⟨Xs,k1,k2⟩:=rV hΘ d h1 h3;obtain⟨Ys,k3,k4,k5⟩:=ih (off+P.cellsOf f.type) (i0+1) _ h2 (λi g hgi=>by have:=hg (i+1) g hgi;rw[show i0+1+i=i0+(i+1) by omega];exact this);have hkl:=nF k1;have hcl:=k2.len;rw[ci,bR,hkl,ci] at hcl;have hq:P.cellsOf f.type<=cs.length-off:=by omega
     refine⟨Xs++Ys,?_,?_,?_⟩
     ·have:=sZ k1 k3
      rwa [dx] at this
     ·have hsplit: (cs.drop off).take ks.length=((cs.drop off).take (P.cellsOf f.type))++((cs.drop (off+P.cellsOf f.type)).take (ks.drop (P.cellsOf f.type)).length):=by
       rw[bR,<-cw];have :ks.length=P.cellsOf f.type+(ks.length-P.cellsOf f.type):=by omega
       conv=>lhs;rw[this]
       exact List.take_add
      rw[hsplit];exact k2.app k4
     ·rw[bR] at k5;omega
   obtain⟨Xs,k1,k2,k3⟩:=fm fs.toList 0 0 ks hb (λi f hi=>by rw[bG] at hi;simpa using hi);refine⟨Xs,k1,?_⟩
   have hfull: (cs.drop 0).take ks.length=cs:=by rw[cF];exact bS (by omega)
   rwa [hfull] at k2
  ·cases hb
end
end
section
open Go Go.ChangeShapes Go.WideShapes Go.RowKit
theorem nR(t:Ty)(x:t.D):t.unflat (t.flat x)=some x:=by
 cases t with
 |st n=>cases n<;>rfl
 |i k=>simp[Ty.unflat,Ty.flat,gI,gN]
 |b=>rfl
 |s=>rfl
 |h=>rfl
 |ls u=>simp[Ty.unflat,Ty.flat,gL,gN]
theorem zu(l:List C):rX (l.map Cl.c)=some l:=by
 induction l with
 |nil=>rfl
 |cons a l ih=>simp[rX,ih]
theorem CJ{ρ:Type}(t:Ty)(x:t.D)(κ:t.D->Option ρ):un t (qU t x) κ=κ x:=by
 unfold qU;cases hag:t.ag with
 |true=>simp only[cond_true,un,hag,zu,nR]
 |false=>
  simp only[cond_false];have h1: ∃c,t.flat x= [c] :=by cases t<;>first |exact⟨_,rfl⟩| (simp[Ty.ag] at hag)
  obtain⟨c,hc⟩:=h1;rw[hc];have:=nR t x;rw[hc] at this;simp only[aO,b7,un,hag,cond_false,this]
theorem Bd{ρ:Type}(t:Ty)(x:t.D)(κ:t.D->Option ρ):DC t (qU t x) κ=κ x:=by
 rw[<-CJ t x κ];cases t with
 |st n=>cases n<;>rfl
 | _=>rfl
theorem wy{ρ:Type}: ∀ (l:List Ty) (x:fI.D (l.map .ty)) (κ:fI.D (l.map .ty)->Option ρ),nr (l.map .ty) (eV (l.map .ty) x) κ=κ x
 | [],x,κ=>rfl
 |t::l,x,κ=>by show (DP (.ty t) (qU t x.1) λa=>nr (l.map .ty) (eV (l.map .ty) x.2) λb=>κ (a,b))=κ x;show (DC t (qU t x.1) λa=>nr (l.map .ty) (eV (l.map .ty) x.2) λb=>κ (a,b))=κ x;rw[Bd,wy l x.2];rfl
def DW: (l:List Ty)->fI.D (l.map .ty)->Prop
 | [],_=>True
 |t::l,x=>CK t x.1/\DW l x.2
def AQ(P:Program)(Θ:gq)(t:TypeId)(τ:Ty):Bool:=nP P Θ 9 t τ.kc&&(match fU Θ t with |some ti=>decide (ti.ty=τ)|none=>false)&&P.readableRec t&&Nat.blt t P.types.size
def pg(P:Program)(Θ:gq):List TypeId->List Ty->Bool
 | [],[] =>true
 |t::ts,τ::τs=>AQ P Θ t τ&&pg P Θ ts τs
 | _,_=>false
section
variable {H:Type} {enc:TypeId×Value->H} {P:Program} {W:World} {Θ:gq} {base:Nat}
theorem C.VR{c:C}{u:Value}{bt:Bt}(hA:bt.A=λb=>b<W.heap.size)(h:RO W (λb=>b<W.heap.size) c.tree u)(hg:c.good=true):En.VR W bt c.av u:=by
 cases c with
 |sc v=>
  cases h with
  |sc h=>exact .sc h
 |ls t l=>exact .ro (by rw[hA];exact h)
theorem BL(hΘ:eB P Θ){bt:Bt}(hA:bt.A=λb=>b<W.heap.size){t:TypeId}{τ:Ty}{v:Value}{d:DataW H}{p:List MemPlace}(hp:AQ P Θ t τ=true)(hv:Value.okWide P W .any base t v)(h:DataW.Trod enc P W 0 (λ_=>true) true t v d p):
  ∃x:τ.D,VR W bt (qU τ x).av v/\CK τ x:=by
 unfold AQ at hp;simp only[ao] at hp;obtain⟨⟨⟨h1,h2⟩,h3⟩,h4⟩:=hp;split at h2
 case h_2=>cases h2
 rename_i ti hti;have h2:=of_decide_eq_true h2;subst h2;have hok:=hΘ t ti hti;obtain⟨n,hn⟩:=h;obtain⟨Xs,k1,k2⟩:=rV hΘ 9 h1 hn;obtain⟨x,rfl⟩:=qK _ k1
 have bd:CK ti.ty x:=by intro y hy;rw[Ty.row_flat] at hy;obtain⟨c,hc,rfl⟩:=aI.1 hy;exact k2.bd c hc
 have good: ∀c∈ti.ty.flat x,c.good=true:=by
  intro c hc;have:=k2.bd c hc;cases c with
  |sc v=>cases this<;>rfl
  |ls t l=>rfl
 refine⟨x,?_,bd⟩;have hag:=hok.ag;unfold qU;cases ha:ti.ty.ag with
 |true=>
  rw[ha] at hag
  have hst: ∃fs,P.underlying t=some (.struct fs):=by
   have hpl:=hok.pl ha;unfold nP at h1;split at h1
   ·rename_i hu;simp[pM,hu] at hag
   ·rename_i hu;simp[pM,hu] at hag
   ·rename_i hu;simp[pM,hu] at hag
   ·rename_i fs hu;exact⟨fs,hu⟩
   ·cases h1
  obtain⟨fs,hu⟩:=hst;obtain⟨us,rfl,_⟩:=okWide_struct hu hv;simp only[cond_true,V1.av];have : (Value.agg us)= .agg us.toList.toArray:=by simp
  rw[this];have hus: (Value.agg us).cells.toList=us.toList:=rfl;rw[hus] at k2;refine .agg (by simp[k2.len]) k2.one λk c u hk hu=> ?_;simp only[bq,aw,aj] at hk;obtain⟨c',hc,rfl⟩:=hk;exact C.VR hA (k2.ro k c' u hc hu) (good c' (ay hc))
 |false=>
  rw[ha] at hag
  have hcells:v.cells.toList= [v] :=by
   unfold nP at h1;split at h1
   ·rename_i hu;obtain⟨_,rfl⟩:=okWide_int hu hv;rfl
   ·rename_i hu;obtain⟨_,rfl⟩:=okWide_bool hu hv;rfl
   ·rename_i hu;obtain⟨_,_,_,rfl⟩:=okWide_slice hu hv;rfl
   ·rename_i fs hu;simp[pM,hu] at hag
   ·cases h1
  rw[hcells] at k2;have hl:=k2.len;obtain⟨c,hc⟩:=List.length_eq_one_iff.1 hl;simp only[cond_false,hc,aO,b7,V1.av];exact C.VR hA (k2.ro 0 c v (by rw[hc];rfl) rfl) (good c (by rw[hc];exact aJ.2 rfl))
theorem qV(hΘ:eB P Θ){bt:Bt}(hA:bt.A=λb=>b<W.heap.size): ∀ {ts:List TypeId} {τs:List Ty} {vs:List Value} {ds:List (DataW H)} {p:List MemPlace},pg P Θ ts τs=true->(∀ (j:Nat) t v,ts[j]? =some t->vs[j]? =some v->Value.okWide P W .any base t v)->DataW.TrodAll enc P W 0 (λ_=>true) true ts vs ds p->
  ∃x:fI.D (τs.map .ty),vs.length=τs.length/\(∀ (k:Nat) (v:AV) (u:Value),((eV (τs.map .ty) x).map V1.av)[k]? =some v->vs[k]? =some u->VR W bt v u)/\DW τs x
 | [],[],vs,ds,p,_,_,h=>by obtain⟨rfl,_,_⟩:=trodAll_nil h;exact⟨(),rfl,λk v u hk hu=>(by cases hu),trivial⟩
 |t::ts,τ::τs,vs,ds,p,hb,hv,h=>by
  obtain⟨v,vs',d,ds',q,q',rfl,rfl,rfl,h1,h2⟩:=trodAll_cons h;unfold pg at hb;simp only[ao] at hb;obtain⟨x,k1,k2⟩:=BL hΘ hA hb.1 (hv 0 t v rfl rfl) h1;obtain⟨y,k3,k4,k5⟩:=qV hΘ hA hb.2 (λj t' v' ht hv'=>hv (j+1) t' v' ht hv') h2;refine⟨(x,y),by simp[k3],λk v' u hk hu=> ?_,k2,k5⟩;cases k with
  |zero=>have hk:some (qU τ x).av=some v':=hk;cases hk;cases hu;exact k1
  |succ k=>exact k4 k v' u hk hu
 | [],_::_,_,_,_,hb,_,_=>by cases hb
 | _::_,[],_,_,_,hb,_,_=>by cases hb
theorem qj{W':World}(hl:laidOutB P=true)(hb:Below W.heap.size W W'): ∀ {ts:List TypeId} {τs:List Ty} {vs:List Value} {ds:List (DataW H)} {p:List MemPlace},pg P Θ ts τs=true->DataW.TrodAll enc P W 0 (λ_=>true) true ts vs ds p->DataW.TrodAll enc P W' 0 (λb=>decide (b<W.heap.size)) true ts vs ds p
 | [],[],vs,ds,p,_,h=>by obtain⟨rfl,rfl,rfl⟩:=trodAll_nil h;exact rfl
 |t::ts,τ::τs,vs,ds,p,hp,h=>by obtain⟨v,vs',d,ds',q,q',rfl,rfl,rfl,h1,h2⟩:=trodAll_cons h;unfold pg AQ at hp;simp only[ao] at hp;obtain⟨⟨⟨_,hr⟩,hs⟩,hrest⟩:=hp;refine trodAll_cons_mk (Below.trod hl hr (ax hs) h1 hb ?_) (qj hl hb hrest h2);intro x hx;obtain⟨m,hm⟩:=h1;exact DataW.trod_lt m _ _ _ hm x hx
 | [],_::_,_,_,_,hb,_=>by cases hb
 | _::_,[],_,_,_,hb,_=>by cases hb
theorem CO[dL](hW:dL.w=W)(hΘ:eB P Θ){f:FuncId}{τs:List Ty}{G:fI.D (τs.map .ty)->Option (fG.D [.b])}(he:jk P f (sP (τs.map .ty) [.b] G))(hG: ∀x,DW τs x->G x=some (true,()))
  {ts:List TypeId} {vs:List Value} {ds:List (DataW H)} {p:List MemPlace} (hp:pg P Θ ts τs=true) (hv: ∀ (j:Nat) t v,ts[j]? =some t->vs[j]? =some v->Value.okWide P W .any base t v) (h:DataW.TrodAll enc P W 0 (λ_=>true) true ts vs ds p) (hk:Nat.blt f 1048576=true:=by rfl):
  Calls P f vs.toArray W λe W'=>e= .returned (.bool true)/\Below W.heap.size W W':=by
 let bt:Bt:=⟨λ_=>(0,0),λ_=>0,λ_=>0,0,0,λb=>b<W.heap.size⟩
 obtain⟨x,h1,h2,h3⟩:=qV (bt:=bt) hΘ rfl hp hv h;have hg:=hG x h3
 obtain⟨res,out,k1,k2,k3⟩:=he (eV (τs.map .ty) x) (V×List dS) (λv g=>some (v,g)) (.v (.cl (.c (.sc (.bool true)))),[]) (by unfold sP;rw[wy,hg];rfl)
 cases k3
 have:=k1.fn (ax hk) W (λ_=>False) bt vs (rq ⟨by rw[hW];exact az _,λb _=>⟨by rw[hW],λh=>h⟩⟩ bt λb hb=>hb) (by
  rw[h1,aE];clear h1 h2 h3 hg k1 hG he
  have : ∀ (l:List Ty) (x:fI.D (l.map .ty)),l.length=(eV (l.map .ty) x).length:=by
   intro l
   induction l with
   |nil=>intro x;rfl
   |cons t l ih=>intro x;show l.length+1=(eV (l.map .ty) x.2).length+1;rw[ih x.2]
  exact this τs x) h2
 refine this.2.mono λe W' hx=> ?_;obtain⟨v,btn,rfl,hI,_,_,hvr⟩:=hx;refine⟨?_,iu hI⟩;cases hvr with
 |sc=>rfl
end
end
section
open Go
section
variable {α β σ ε:Type}
theorem tC{B:σ->Option (σ⊕ε)}(l:List α)(mk:Nat->β->σ)(J:Nat->β->Prop)(g:Nat->List α->β->ε)
  (hn: ∀b,J l.length b->B (mk l.length b)=some (.inr (g l.length [] b)))
  (hc: ∀k b x,l[k]? =some x->J k b->(∃b',B (mk k b)=some (.inl (mk (k+1) b'))/\J (k+1) b'/\g k (x::l.drop (k+1)) b=g (k+1) (l.drop (k+1)) b')\/B (mk k b)=some (.inr (g k (x::l.drop (k+1)) b))):
  ∀k b,k<=l.length->J k b->md B (mk k b)=some (g k (l.drop k) b):=by
 intro k b hk hJ;generalize hn0:l.length-k=n
 induction n generalizing k b with
 |zero=>
  obtain rfl:k=l.length:=by omega
  rw[ki,hn b hJ,dp];rfl
 |succ n ih=>
  have hlt:k<l.length:=by omega
  rw[co hlt];rcases hc k b l[k] (an hlt) hJ with ⟨b',h1,h2,h3⟩|h1
  ·rw[ki,h1,h3];exact ih (k+1) b' (by omega) h2 (by omega)
  ·rw[ki,h1];rfl
theorem AF{B:σ->Option (σ⊕ε)}(I:σ->Prop)(μ:σ->Nat)(E:ε->Prop)
  (h: ∀s,I s->(∃s',B s=some (.inl s')/\I s'/\μ s'<μ s)\/ ∃e,B s=some (.inr e)/\E e) {s:σ} (hs:I s): ∃e,md B s=some e/\E e:=by
 generalize hn:μ s=n
 induction n using Nat.strongRecOn generalizing s with
 | _ n ih=>
   rcases h s hs with ⟨s',h1,h2,h3⟩| ⟨e,h1,h2⟩
   ·rw[ki,h1];exact ih (μ s') (by omega) h2 rfl
   ·exact⟨e,by rw[ki,h1];rfl,h2⟩
theorem DE(x y:α):br true x y=x:=rfl
theorem CU(x y:α):br false x y=y:=rfl
theorem BP(b:Bool)(x y:α):br b x y=if b=true then x else y:=by cases b<;>rfl
theorem jZ(p:Prop)[Decidable p](x y:α):br (decide p) x y=if p then x else y:=by unfold br;by_cases h:p<;>simp[h]
theorem jo{p:Prop}[Decidable p](h:p)(x y:α):iteP p x y=x:=if_pos h
theorem Da{p:Prop}[Decidable p](h: ¬p)(x y:α):iteP p x y=y:=if_neg h
theorem C9(p:Prop)[Decidable p](x y:α):iteP p x y=if p then x else y:=rfl
end
theorem of{n:Int}(h1: -9223372036854775808<=n)(h2:n<9223372036854775808):IntKind.wrap .i64 n=n:=by
 simp only[IntKind.wrap,IntKind.bits,IntKind.signed,dH];split
 ·rename_i h;have h:=of_decide_eq_true h;omega
 ·rename_i h;have h: ¬ (n % 2 ^ 64≥2 ^ (64-1)):=λhh=>h (decide_eq_true hh);omega
theorem yw{α:Type}{l:List α}{k:Nat}{x:α}(h:l[k]? =some x):k<l.length:=(ai.1 h).1
theorem DX{t:Ty}{l:List t.D}(h:CK (.ls t) l):l.length<=maxLen:=by
 have:=h (.sl t.width (l.map t.row)) (aJ.2 rfl);cases this with
 |sl hl _=>simpa using hl
theorem DY{t:Ty}{l:List t.D}(h:CK (.ls t) l){x:t.D}(hx:x∈l):CK t x:=by
 have:=h (.sl t.width (l.map t.row)) (aJ.2 rfl);cases this with
 |sl _ h=>exact h (t.row x) (aI.2 ⟨x,hx,rfl⟩)
theorem qi{α:Type}{l:List α}{k:Nat}(y:α)(h:k<l.length): (l.set k y).take (k+1)=l.take k++ [y] :=by rw[List.take_add_one,List.getElem?_set_self h];simp[List.take_set_of_le]
theorem zX{α ρ:Type}(l:List α)(n:Nat)(κ:List α×Unit->Option ρ):Ch l (zK (κ ([],())) (iteP ((([]:List α)++l).length*n<=2 ^ 40) (κ (([]:List α)++l,())) none) none) (iteP ((([]:List α)++l).length*n<=2 ^ 40) (κ (([]:List α)++l,())) none)=(iteP (l.length*n<=2 ^ 40) (some (l,())) none).bind κ:=by
 cases l with
 |nil=>
  have :iteP ((([]:List α)++ []).length*n<=2 ^ 40) (κ (([]:List α)++ [],())) none=κ ([],()):=by unfold iteP;rw[if_pos (by simp)];rfl
  rw[this];show zK _ _ _=_;rw[xF];unfold iteP;rw[if_pos (by simp)];rfl
 |cons x l=>show iteP _ _ _=_;simp only[bK];unfold iteP;split<;>rfl
end
section
open Go
section
variable {σ ε σ1 ε1 σ2 ε2 α β:Type}
theorem me{B:σ->Option (σ⊕ε)}{s:σ}{e:ε}(h:B s=some (.inr e)):md B s=some e:=by rw[ki,h];rfl
theorem tD{B:σ->Option (σ⊕ε)}{s s':σ}(h:B s=some (.inl s')):md B s=md B s':=by rw[ki,h];rfl
theorem DJ{B1:σ1->Option (σ1⊕ε1)}{B2:σ2->Option (σ2⊕ε2)}(n:Nat)(m1:Nat->σ1)(m2:Nat->σ2)(t1:ε1)(t2:ε2)(f1:Nat->ε1)(f2:Nat->ε2)(P Q:Nat->Prop)
  (h1:B1 (m1 n)=some (.inr t1)) (h2:B2 (m2 n)=some (.inr t2))
  (h: ∀k,k<n->(B1 (m1 k)=some (.inl (m1 (k+1)))/\B2 (m2 k)=some (.inl (m2 (k+1)))/\P k)\/(B1 (m1 k)=some (.inr (f1 k))/\B2 (m2 k)=some (.inr (f2 k))/\Q k)):
  (md B1 (m1 0)=some t1/\md B2 (m2 0)=some t2/\ ∀k,k<n->P k)\/ ∃k,k<n/\md B1 (m1 0)=some (f1 k)/\md B2 (m2 0)=some (f2 k)/\Q k:=by
 have fm: ∀d j,j+d=n->(md B1 (m1 j)=some t1/\md B2 (m2 j)=some t2/\ ∀k,j<=k->k<n->P k)\/ ∃k,k<n/\md B1 (m1 j)=some (f1 k)/\md B2 (m2 j)=some (f2 k)/\Q k:=by
  intro d
  induction d with
  |zero=>
   intro j hj;have :j=n:=by omega
   subst this;exact .inl ⟨me h1,me h2,λk a b=>by omega⟩
  |succ d ih=>
   intro j hj;rcases h j (by omega) with ⟨g1,g2,g3⟩| ⟨g1,g2,g3⟩
   ·rw[tD g1,tD g2];rcases ih (j+1) (by omega) with ⟨k1,k2,k3⟩|k
    ·refine .inl ⟨k1,k2,λk a b=> ?_⟩;rcases Nat.eq_or_lt_of_le a with rfl|a
     ·exact g3
     ·exact k3 k a b
    ·exact .inr k
   ·exact .inr ⟨j,by omega,me g1,me g2,g3⟩
 rcases fm n 0 (by omega) with ⟨a,b,c⟩|h
 ·exact .inl ⟨a,b,λk hk=>c k (bH _) hk⟩
 ·exact .inr h
def Ef(x y:Option (β×Unit)):Prop:=∃b,x=some (b,())/\y=some (b,())
theorem kT{n k:Nat}(hn:n<=maxLen)(hk:k<n):IntKind.wrap .i64 ((k:Int)+1)=((k+1:Nat):Int):=by unfold maxLen at hn;rw[of (by omega) (by omega)];rfl
theorem CQ{k:Nat}(hk:0<k)(h:k<=maxLen):IntKind.wrap .i64 ((k:Int)-1)=((k-1:Nat):Int):=by unfold maxLen at h;rw[of (by omega) (by omega)];omega
theorem Er{α:Type}{F:List α->Option (List α×Unit)}{B: (List α×Unit×Int×Unit)×Unit×(List α×Unit)->Option (((List α×Unit×Int×Unit)×Unit×(List α×Unit))⊕((Unit×Unit)×Unit×(List α×Unit)))}(f:α->Option (α×Unit))(z:α)(n:Nat)
  (hF: ∀l,F l=iteP (0<=(l.length:Int)/\(l.length:Int)=(l.length:Int)/\(l.length:Int)*((n:Nat):Int)<=2 ^ 40) ((md B ((l,(),0,()),(),(List.replicate (l.length:Int).toNat z,()))).bind λe=>some (e.2.2.1,())) none)
  (hB: ∀ (l v:List α) (k:Int),B ((l,(),k,()),(),(v,()))=br (decide (k< (l.length:Int))) (iteP (0<=k) ((l[k.toNat]?).bind λx=>(f x).bind λy=>iteP (0<=k/\k< (v.length:Int)) ((v[k.toNat]?).bind λ_=>some (.inl ((l,(),IntKind.wrap .i64 (k+1),()),(),(v.set k.toNat y.1,())))) none) none) (some (.inr (((),()),(),(v,())))))
  (hn:n<=1048576) (l:List α) (hl:l.length<=1048576) (h: ∀x∈l,f x=some (x,())):F l=some (l,()):=by
 have fm:=tC (B:=B) l (λk (b:List α)=>((l,(),(k:Int),()),(),(b,()))) (λ_ b=>b.length=l.length) (λk r b=>(((),()),(),(b.take k++r,())))
  (λb hb=>by rw[hB,jZ,if_neg (by omega),bI,bS (by omega)])
  (λk b x hx hb=>by
    have hk:=yw hx;refine .inl ⟨b.set k x,?_,by simp[hb],?_⟩
    ·rw[hB,jZ,if_pos (by omega),jo (by omega),cO,hx,ak,h x (ay hx),ak,jo (by omega),an (by omega),ak,kT (n:=l.length) (by unfold maxLen;omega) hk]
    ·rw[qi _ (by omega)];simp)
  0 (List.replicate l.length z) (bH _) (dw)
 have hm: (l.length:Int)*((n:Nat):Int)<=2 ^ 40:=by
  have h1:l.length*n<=1048576*1048576:=Nat.mul_le_mul hl hn;have h2: ((l.length*n:Nat):Int)<=((1048576*1048576:Nat):Int):=by exact_mod_cast h1
  have h3: ((l.length*n:Nat):Int)=(l.length:Int)*(n:Int):=Int.natCast_mul _ _;have h4: ((1048576*1048576:Nat):Int)=2 ^ 40:=by decide
  omega
 rw[hF,jo ⟨by omega,rfl,hm⟩,cO];have fm:md B ((l,(),0,()),(),(List.replicate l.length z,()))=some (((),()),(),(l,())):=by simpa using fm
 rw[fm];rfl
theorem C0{α:Type}{F:List α->List α->Option (Bool×Unit)}{B: (List α×List α×Int×Unit)×Unit×Unit->Option (((List α×List α×Int×Unit)×Unit×Unit)⊕(((Bool×Unit)×Unit×Unit)⊕((Unit×Unit)×Unit×Unit)))}(f:α->α->Option (Bool×Unit))
  (hF: ∀a b,F a b=br (!((a.length:Int)==(b.length:Int))) (some (false,())) ((md B ((a,b,0,()),(),())).bind λe=>Sum.elim (λe=>some (e.1.1,())) (λ_=>some (true,())) e))
  (hB: ∀ (a b:List α) (k:Int),B ((a,b,k,()),(),())=br (decide (k< (a.length:Int))) (iteP (0<=k) ((a[k.toNat]?).bind λx=>iteP (0<=k) ((b[k.toNat]?).bind λy=>(f x y).bind λr=>br (!r.1) (some (.inr (.inl ((false,()),(),())))) (some (.inl ((a,b,IntKind.wrap .i64 (k+1),()),(),())))) none) none) (some (.inr (.inr (((),()),(),())))))
  (l:List α) (hl:l.length<=maxLen) (h: ∀x∈l,f x x=some (true,())):F l l=some (true,()):=by
 have fm:=tC (B:=B) l (λk (b:Unit)=>((l,l,(k:Int),()),(),())) (λ_ _=>True) (λk r b=> .inr (((),()),(),()))
  (λb hb=>by rw[hB,jZ,if_neg (by omega)])
  (λk b x hx hb=>by have hk:=yw hx;refine .inl ⟨(),?_,trivial,rfl⟩;rw[hB,jZ,if_pos (by omega),jo (by omega),cO,hx,ak,jo (by omega),ak,h x (ay hx),ak,kT hl hk];rfl)
  0 () (bH _) trivial
 rw[hF,BP,if_neg (by simp),show md B ((l,l,0,()),(),())=_ from fm];rfl
def BJ(F:α->Int->Option (Int×Unit))(bd sm:α->Prop):Prop:=∀x left,bd x->0<=left->left<=1048576-> ∃n,F x left=some (n,())/\n<=left/\(0<=n->sm x)
theorem DM{F:List α->Int->Option (Int×Unit)}(hF: ∀l left,F l left=br (decide (IntKind.wrap .i64 (left-(l.length:Int))<0)) (some (-1,())) (some (IntKind.wrap .i64 (left-(l.length:Int)),()))):BJ F (λl=>l.length<=maxLen) (λl=>l.length<=1048576):=by
 intro l left hl h0 h1;unfold maxLen at hl;rw[hF,of (by omega) (by omega),jZ];split
 ·exact⟨_,rfl,by omega,λh=>by omega⟩
 ·exact⟨_,rfl,by omega,λh=>by omega⟩
theorem DN{F:List α->Int->Option (Int×Unit)}{B: (List α×Int×Int×Unit)×Unit×Unit->Option (((List α×Int×Int×Unit)×Unit×Unit)⊕(((Int×Int×Unit)×Unit×Unit)⊕((Int×Unit×Unit)×Unit×Unit)))}(f:α->Int->Option (Int×Unit)){bd sm:α->Prop}(hf:BJ f bd sm)
  (hF: ∀l left,F l left=br (decide (IntKind.wrap .i64 (left-(l.length:Int))<0)) (some (-1,())) ((md B ((l,IntKind.wrap .i64 (left-(l.length:Int)),0,()),(),())).bind λe=>Sum.elim (λe=>some (e.1.2.1,())) (λe=>some (e.1.1,())) e))
  (hB: ∀ (l:List α) (v k:Int),B ((l,v,k,()),(),())=br (decide (k< (l.length:Int))) (iteP (0<=k) ((l[k.toNat]?).bind λx=>(f x v).bind λy=>br (decide (y.1<0)) (some (.inr (.inl ((y.1,-1,()),(),())))) (some (.inl ((l,y.1,IntKind.wrap .i64 (k+1),()),(),())))) none) (some (.inr (.inr ((v,(),()),(),()))))):
  BJ F (λl=>l.length<=maxLen/\ ∀x∈l,bd x) (λl=>l.length<=1048576/\ ∀x∈l,sm x):=by
 intro l left hl h0 h1;obtain⟨hl,hbd⟩:=hl;have hl':=hl;unfold maxLen at hl';rw[hF,of (by omega) (by omega),jZ];split
 ·exact⟨_,rfl,by omega,λh=>by omega⟩
 ·rename_i hge
  have fm:=AF (B:=B) (λs=> ∃ (k:Nat) (v:Int),s=((l,v,(k:Int),()),(),())/\k<=l.length/\0<=v/\v<=left-(l.length:Int)/\ ∀ (j:Nat) x,j<k->l[j]? =some x->sm x) (λs=>l.length-s.1.2.2.1.toNat)
   (λe=>(∃y,e= .inl ((y,-1,()),(),()))\/ ∃v,e= .inr ((v,(),()),(),())/\v<=left-(l.length:Int)/\ ∀x∈l,sm x)
   (λs hs=>by
     obtain⟨k,v,rfl,hk,hv0,hv1,hsm⟩:=hs;rw[hB,jZ];by_cases hlt:k<l.length
     ·rw[if_pos (by omega),jo (by omega),cO,an hlt,ak];obtain⟨n,g1,g2,g3⟩:=hf l[k] v (hbd _ (dq _)) hv0 (by omega);rw[g1,ak,jZ];split
      ·exact .inr ⟨_,rfl,.inl ⟨_,rfl⟩⟩
      ·refine .inl ⟨_,rfl,⟨k+1,n,by rw[kT hl hlt],by omega,by omega,by omega,λj x hj hx=> ?_⟩,?_⟩
       ·rcases Nat.lt_succ_iff_lt_or_eq.1 hj with h|rfl
        ·exact hsm j x h hx
        ·rw[an hlt] at hx;cases hx;exact g3 (by omega)
       ·simp only[kT hl hlt,cO];omega
     ·rw[if_neg (by omega)];refine .inr ⟨_,rfl,.inr ⟨v,rfl,hv1,λx hx=> ?_⟩⟩;obtain⟨j,hj,he⟩:=aQ hx;exact hsm j x (by omega) (by rw[an hj,he]))
   (s:=((l,left-(l.length:Int),0,()),(),())) ⟨0,_,rfl,bH _,by omega,by omega,λj x hj=>by omega⟩
  obtain⟨e,h2,h3⟩:=fm;rw[h2];rcases h3 with ⟨y,rfl⟩| ⟨v,rfl,hv,hsm⟩
  ·exact⟨-1,rfl,by omega,λh=>by omega⟩
  ·exact⟨v,rfl,by omega,λh=>⟨by omega,hsm⟩⟩
end
end
end Go.Proofs.YtkghndikalnipaaGreat.En
