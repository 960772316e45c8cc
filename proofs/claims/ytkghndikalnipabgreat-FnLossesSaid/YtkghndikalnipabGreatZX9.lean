import Derived.Test.YtkghndikalnipabGreatZX8
import Derived.ProofKit
import Derived.ChangeOld
import Derived.Deep.Slices
import Derived.OpenShut
import Derived.Below
import Derived.Carry
import Derived.WideShapes
set_option linter.unusedSimpArgs false
set_option linter.unusedVariables false
namespace Go.Proofs.YtkghndikalnipabGreat.En
section
open Go
inductive Sh where
 |int (k:IntKind)|bl|str|ro (t:Ty)|own (r:Nat) (t:Ty)|ptr (n j:Nat)|em|dead|pro (t:Ty)|fc (g:Nat)|sub (r:Nat) (t:Ty)|pt (r w:Nat)|row (r j w:Nat)|hd
abbrev Sh.D:Sh->Type
 | .int _=>Int| .bl=>Bool| .str=>ByteArray| .ro t=>List t.D| .pro t=>t.D| .sub _ _=>Nat×Nat| .row _ _ _=>Nat×Nat×Nat| .hd=>Hd| _=>Unit
abbrev jt.D:List Sh->Type
 | [] =>Unit
 |s::l=>s.D×jt.D l
inductive kW where
 |cl (s:Sh)|agg (l:List Sh)|st (n:Sn)|fn (f:FuncId) (l:List Sh)
abbrev kW.D:kW->Type
 | .cl s=>s.D| .agg l=>jt.D l| .st n=>n.D| .fn _ l=>jt.D l
abbrev nS.D:List (Nat×kW)->Type
 | [] =>Unit
 |x::l=>x.2.D×nS.D l
abbrev nR.D:List (List Sh)->Type
 | [] =>Unit
 |x::l=>jt.D x×nR.D l
abbrev hU.D:List Ty->Type
 | [] =>Unit
 |t::l=>List t.D×hU.D l
structure jM where
 env:List (Nat×kW)
 bx:List (List Sh)
 gh:List Ty
 fz:Nat
 nt:Nat
abbrev jM.D(L:jM):Type:=nS.D L.env×nR.D L.bx×hU.D L.gh
def zC(G:List (Option dw))(r:Nat):Nat:=match fR G r with |some (some tr)=>tr.l.length| _=>0
def Sh.mk(G:List (Option dw)): (s:Sh)->s.D->Cl
 | .int k,n=> .c (.sc (.int k n))| .bl,v=> .c (.sc (.bool v))| .str,v=> .c (.sc (.string v))| .ro t,l=> .c (.ls t l)
 | .own r t,_=> .own ⟨r,[]⟩ t.width 0 (zC G r) true| .ptr n j,_=> .ptrB n j| .em,_=> .em| .dead,_=> .dead| .pro t,x=> .pro (t.flat x)| .fc g,_=> .c (.sc (.func (.func g) #[] #[]))| .sub r t,x=> .own ⟨r,[]⟩ t.width x.1 x.2 false| .pt r w,_=> .ptrT ⟨r,[]⟩ w 0 0| .row r j w,x=> .own ⟨r,[(x.1,j)]⟩ w x.2.1 x.2.2 false| .hd,x=> .c (.sc (.slice x.a x.n x.c))
def jt.mk(G:List (Option dw)): (l:List Sh)->jt.D l->List Cl
 | [],_=> []
 |s::l,x=>s.mk G x.1::jt.mk G l x.2
def kW.mk(G:List (Option dw)): (v:kW)->v.D->V
 | .cl s,x=> .v (.cl (s.mk G x))| .agg l,x=> .v (.agg (jt.mk G l x))| .st n,x=> .v (.agg ((n.flat x).map .c))| .fn f l,x=> .v (.fn f (jt.mk G l x))
def nS.mk(G:List (Option dw)): (l:List (Nat×kW))->nS.D l->List (Nat×V)
 | [],_=> []
 |x::l,d=>(x.1,x.2.mk G d.1)::nS.mk G l d.2
def nR.mk(G:List (Option dw)): (l:List (List Sh))->nR.D l->List (List Cl)
 | [],_=> []
 |x::l,d=>jt.mk G x d.1::nR.mk G l d.2
def hU.mk: (l:List Ty)->hU.D l->List (Option dw)
 | [],_=> []
 |t::l,d=>some ⟨t,d.1,none⟩::hU.mk l d.2
def jM.mk'(L:jM)(d:L.D):TS:={ env:=nS.mk (hU.mk L.gh d.2.2) L.env d.1,bx:=nR.mk (hU.mk L.gh d.2.2) L.bx d.2.1,gh:=hU.mk L.gh d.2.2,fz:=L.fz,nt:=L.nt }
section
variable {ρ:Type}
def Sh.un: (s:Sh)->Cl->(s.D->Option ρ)->Option ρ
 | .int k,.c (.sc (.int k' n)),κ=>bif decide (k'=k) then κ n else none
 | .bl,.c (.sc (.bool v)),κ=>κ v
 | .str,.c (.sc (.string v)),κ=>κ v
 | .ro t,.c (.ls t' l),κ=>match jb t' t l with |some l=>κ l|none=>none
 | .own r t,.own p sz _ _ w,κ=>match p.l with | [] =>(bif w&&Nat.beq p.r r&&Nat.beq sz t.width then κ () else none)| _=>none
 | .ptr n i,.ptrB m j,κ=>bif Nat.beq m n&&Nat.beq j i then κ () else none
 | .em,.em,κ=>κ ()
 | .dead,.dead,κ=>κ ()
 | .pro t,.pro xs,κ=>(match t.unflat xs with |some x=>κ x|none=>none)
 | .fc g,.c (.sc (.func (.func g') cs ts)),κ=>bif Nat.beq g' g&&Nat.beq cs.size 0&&Nat.beq ts.size 0 then κ () else none
 | .sub r t,.own p sz lo len w,κ=>match p.l with | [] =>(bif !w&&Nat.beq p.r r&&Nat.beq sz t.width then κ (lo,len) else none)| _=>none
 | .pt r w,.ptrT p sz i j,κ=>match p.l with | [] =>(bif Nat.beq p.r r&&Nat.beq sz w&&Nat.beq i 0&&Nat.beq j 0 then κ () else none)| _=>none
 | .hd,.c (.sc (.slice a n c)),κ=>κ ⟨a,n,c⟩
 | .row r j n,.own p sz lo len w,κ=>match p.l with | [x] =>(bif !w&&Nat.beq p.r r&&Nat.beq sz n&&Nat.beq x.2 j then κ (x.1,lo,len) else none)| _=>none
 | _,_,_=>none
def jt.un: (l:List Sh)->List Cl->(jt.D l->Option ρ)->Option ρ
 | [],[],κ=>κ ()
 |s::l,c::cs,κ=>s.un c λx=>jt.un l cs λy=>κ (x,y)
 | _,_,_=>none
def kW.un: (v:kW)->V->(v.D->Option ρ)->Option ρ
 | .cl s,.v (.cl c),κ=>s.un c κ
 | .agg l,.v (.agg cs),κ=>jt.un l cs κ
 | .st n,.v (.agg cs),κ=>match sQ cs with |some xs=>(match n.unflat xs with |some x=>κ x|none=>none)|none=>none
 | .fn f l,.v (.fn g cs),κ=>bif Nat.beq f g then jt.un l cs κ else none
 | _,_,_=>none
def nS.un: (l:List (Nat×kW))->List (Nat×V)->(nS.D l->Option ρ)->Option ρ
 | [],[],κ=>κ ()
 |x::l,y::m,κ=>bif Nat.beq x.1 y.1 then x.2.un y.2 λa=>nS.un l m λb=>κ (a,b) else none
 | _,_,_=>none
def nR.un: (l:List (List Sh))->List (List Cl)->(nR.D l->Option ρ)->Option ρ
 | [],[],κ=>κ ()
 |x::l,y::m,κ=>jt.un x y λa=>nR.un l m λb=>κ (a,b)
 | _,_,_=>none
def hU.un: (l:List Ty)->List (Option dw)->(hU.D l->Option ρ)->Option ρ
 | [],[],κ=>κ ()
 |t::l,some tr::m,κ=>match tr.hole with
  |none=>(match jb tr.t t tr.l with |some a=>hU.un l m λb=>κ (a,b)|none=>none)
  |some _=>none
 | _,_,_=>none
def jM.un(L:jM)(S:TS)(κ:L.D->Option ρ):Option ρ:=hU.un L.gh S.gh λg=>nS.un L.env S.env λe=>nR.un L.bx S.bx λb=>bif Nat.beq S.fz L.fz&&Nat.beq S.nt L.nt then κ (e,b,g) else none
theorem Sh.un_some{G:List (Option dw)}(hG: ∀r,r<G.length-> ∃tr,fR G r=some (some tr)): ∀ {s:Sh} {c:Cl} {κ:s.D->Option ρ} {r:ρ},c.ok G->s.un c κ=some r-> ∃x,c=s.mk G x/\κ x=some r:=by
 intro s c κ r hc h;cases s with
 |int k=>
  cases c with
  |c y=>cases y with
   |sc v=>cases v with
    |int k' n=>simp only[Sh.un] at h;obtain⟨h1,h⟩:=dj h;have:=of_decide_eq_true h1;subst this;exact⟨n,rfl,h⟩
    | _=>simp[Sh.un] at h
   |ls t l=>simp[Sh.un] at h
  | _=>simp[Sh.un] at h
 |bl=>
  cases c with
  |c y=>cases y with
   |sc v=>cases v with
    |bool v=>exact⟨v,rfl,h⟩
    | _=>simp[Sh.un] at h
   |ls t l=>simp[Sh.un] at h
  | _=>simp[Sh.un] at h
 |str=>
  cases c with
  |c y=>cases y with
   |sc v=>cases v with
    |string v=>exact⟨v,rfl,h⟩
    | _=>simp[Sh.un] at h
   |ls t l=>simp[Sh.un] at h
  | _=>simp[Sh.un] at h
 |ro t=>
  cases c with
  |c y=>cases y with
   |sc v=>simp[Sh.un] at h
   |ls t' l=>
    simp only[Sh.un] at h;split at h
    ·rename_i l' hl;obtain⟨e,hl⟩:=dV hl;subst e;simp only at hl;subst hl;exact⟨l,rfl,h⟩
    ·cases h
  | _=>simp[Sh.un] at h
 |own q t=>
  cases c with
  |own p sz lo len w=>
   obtain⟨pr,pl⟩:=p;cases pl with
   |cons a l=>simp[Sh.un] at h
   |nil=>
    simp only[Sh.un] at h;obtain⟨h1,h'⟩:=dj h;clear h;simp only[aj] at h1;obtain⟨⟨h0,h2⟩,h3⟩:=h1;have h2:pr=q:=ak h2;have h3:sz=t.width:=ak h3;subst h0 h2 h3;obtain⟨k1,k2⟩:=hc;obtain⟨_,k3,k4⟩:=k2 rfl
    grind [dw.look,Sh.mk,zC]
  |c y=>cases y<;>simp[Sh.un] at h
  | _=>simp[Sh.un] at h
 |sub q t=>
  cases c with
  |own p sz lo len w=>
   obtain⟨pr,pl⟩:=p;cases pl with
   |cons a l=>simp[Sh.un] at h
   |nil=>simp only[Sh.un] at h;obtain⟨h1,h'⟩:=dj h;clear h;simp only[aj,bB] at h1;obtain⟨⟨h0,h2⟩,h3⟩:=h1;have h2:pr=q:=ak h2;have h3:sz=t.width:=ak h3;subst h0 h2 h3;exact⟨(lo,len),rfl,h'⟩
  |c y=>cases y<;>simp[Sh.un] at h
  | _=>simp[Sh.un] at h
 |hd=>
  cases c with
  |c y=>cases y with
   |sc v=>cases v with
    |slice a n c=>exact⟨⟨a,n,c⟩,rfl,h⟩
    | _=>simp[Sh.un] at h
   |ls t l=>simp[Sh.un] at h
  | _=>simp[Sh.un] at h
 |row q j n=>
  cases c with
  |own p sz lo len w=>
   obtain⟨pr,pl⟩:=p;cases pl with
   |nil=>simp[Sh.un] at h
   |cons a l=>
    cases l with
    |cons b l=>simp[Sh.un] at h
    |nil=>obtain⟨a1,a2⟩:=a;simp only[Sh.un] at h;obtain⟨h1,h'⟩:=dj h;clear h;simp only[aj,bB] at h1;obtain⟨⟨⟨h0,h2⟩,h3⟩,h4⟩:=h1;have h2:pr=q:=ak h2;have h3:sz=n:=ak h3;have h4:a2=j:=ak h4;subst h0 h2 h3 h4;exact⟨(a1,lo,len),rfl,h'⟩
  |c y=>cases y<;>simp[Sh.un] at h
  | _=>simp[Sh.un] at h
 |ptr n i=>
  cases c with
  |ptrB m j=>simp only[Sh.un] at h;obtain⟨h1,h'⟩:=dj h;clear h;simp only[aj] at h1;have h2:=ak h1.1;have h3:=ak h1.2;subst h2 h3;exact⟨(),rfl,h'⟩
  |c y=>cases y<;>simp[Sh.un] at h
  | _=>simp[Sh.un] at h
 |em=>
  cases c with
  |em=>exact⟨(),rfl,h⟩
  |c y=>cases y<;>simp[Sh.un] at h
  | _=>simp[Sh.un] at h
 |dead=>
  cases c with
  |dead=>exact⟨(),rfl,h⟩
  |c y=>cases y<;>simp[Sh.un] at h
  | _=>simp[Sh.un] at h
 |pro t=>
  cases c with
  |pro xs=>
   simp only[Sh.un] at h;split at h
   ·rename_i x hx;exact⟨x,by simp only[Sh.mk];rw[t.unflat_some _ _ hx],h⟩
   ·cases h
  |c y=>cases y<;>simp[Sh.un] at h
  | _=>simp[Sh.un] at h
 |pt q n=>
  cases c with
  |ptrT p sz i j=>
   obtain⟨pr,pl⟩:=p;cases pl with
   |cons a l=>simp[Sh.un] at h
   |nil=>simp only[Sh.un] at h;obtain⟨h1,h'⟩:=dj h;clear h;simp only[aj] at h1;obtain⟨⟨⟨h1,h2⟩,h3⟩,h4⟩:=h1;have h1:pr=q:=ak h1;have h2:sz=n:=ak h2;have h3:i=0:=ak h3;have h4:j=0:=ak h4;subst h1 h2 h3 h4;exact⟨(),rfl,h'⟩
  |c y=>cases y<;>simp[Sh.un] at h
  | _=>simp[Sh.un] at h
 |fc g=>
  unfold Sh.un at h;split at h
  all_goals first | (rename_i hh;cases hh;done)|skip
  all_goals try (rename_i hh _;cases hh;done)
  ·rename_i e;cases e;obtain⟨h1,h'⟩:=dj h;simp only[aj] at h1;obtain⟨⟨h1,h2⟩,h3⟩:=h1;have h1:=ak h1;have h2:=b8 (ak h2);have h3:=b8 (ak h3);exact⟨(),by rw[h1,h2,h3];rfl,h'⟩
  ·cases h
theorem jt.un_some{G:List (Option dw)}(hG: ∀r,r<G.length-> ∃tr,fR G r=some (some tr)): ∀ {l:List Sh} {cs:List Cl} {κ:jt.D l->Option ρ} {r:ρ},(∀c∈cs,c.ok G)->jt.un l cs κ=some r-> ∃x,cs=jt.mk G l x/\κ x=some r
 | [],[],κ,r,_,h=>⟨(),rfl,h⟩
 |s::l,c::cs,κ,r,hc,h=>by unfold jt.un at h;obtain⟨x,h1,h⟩:=Sh.un_some hG (hc c aF) h;obtain⟨y,h2,h⟩:=jt.un_some hG (λz hz=>hc z (aE _ hz)) h;exact⟨(x,y),by rw[h1,h2];rfl,h⟩
 | [],c::cs,κ,r,_,h=>by simp[jt.un] at h
 |s::l,[],κ,r,_,h=>by simp[jt.un] at h
theorem lK: ∀ {cs:List Cl} {xs:List C},sQ cs=some xs->cs=xs.map .c
 | [],xs,h=>by simp_all [sQ]
 |c::cs,xs,h=>by
  cases c with
  |c y=>
   simp only[sQ] at h;split at h
   ·rename_i r hr;simp only[ae] at h;subst h;rw[lK hr];rfl
   ·cases h
  | _=>simp[sQ] at h
theorem kW.un_some{G:List (Option dw)}(hG: ∀r,r<G.length-> ∃tr,fR G r=some (some tr)){s:kW}{v:V}{κ:s.D->Option ρ}{r:ρ}(hv:v.ok G)(h:s.un v κ=some r): ∃x,v=s.mk G x/\κ x=some r:=by
 cases v with
 |tup l=>cases s<;>simp[kW.un] at h
 |v y=>
  cases s with
  |cl s=>cases y with
   |cl c=>obtain⟨x,h1,h⟩:=Sh.un_some hG hv h;exact⟨x,by rw[h1];rfl,h⟩
   | _=>simp[kW.un] at h
  |agg l=>cases y with
   |agg cs=>obtain⟨x,h1,h⟩:=jt.un_some hG hv h;exact⟨x,by rw[h1];rfl,h⟩
   | _=>simp[kW.un] at h
  |st n=>cases y with
   |agg cs=>
    simp only[kW.un] at h;split at h
    ·rename_i xs hxs;split at h
     ·rename_i x hx;exact⟨x,by rw[lK hxs];simp only[kW.mk];rw[n.unflat_some _ _ hx],h⟩
     ·cases h
    ·cases h
   | _=>simp[kW.un] at h
  |fn f l=>cases y with
   |fn g cs=>simp only[kW.un] at h;obtain⟨h0,h'⟩:=dj h;clear h;have h0:=ak h0;subst h0;obtain⟨x,h1,h⟩:=jt.un_some hG hv h';exact⟨x,by rw[h1];rfl,h⟩
   | _=>simp[kW.un] at h
theorem nS.un_some{G:List (Option dw)}(hG: ∀r,r<G.length-> ∃tr,fR G r=some (some tr)): ∀ {l:List (Nat×kW)} {m:List (Nat×V)} {κ:nS.D l->Option ρ} {r:ρ},(∀x∈m,x.2.ok G)->nS.un l m κ=some r-> ∃x,m=nS.mk G l x/\κ x=some r
 | [],[],κ,r,_,h=>⟨(),rfl,h⟩
 |s::l,c::cs,κ,r,hc,h=>by unfold nS.un at h;obtain⟨h0,h⟩:=dj h;have h0:=ak h0;obtain⟨x,h1,h⟩:=kW.un_some hG (hc c aF) h;obtain⟨y,h2,h⟩:=nS.un_some hG (λz hz=>hc z (aE _ hz)) h;refine⟨(x,y),?_,h⟩;rw[h2];obtain⟨c1,c2⟩:=c;simp only at h0 h1;rw[h1,<-h0];rfl
 | [],c::cs,κ,r,_,h=>by simp[nS.un] at h
 |s::l,[],κ,r,_,h=>by simp[nS.un] at h
theorem nR.un_some{G:List (Option dw)}(hG: ∀r,r<G.length-> ∃tr,fR G r=some (some tr)): ∀ {l:List (List Sh)} {m:List (List Cl)} {κ:nR.D l->Option ρ} {r:ρ},(∀cs∈m,∀c∈cs,c.ok G)->nR.un l m κ=some r-> ∃x,m=nR.mk G l x/\κ x=some r
 | [],[],κ,r,_,h=>⟨(),rfl,h⟩
 |s::l,c::cs,κ,r,hc,h=>by unfold nR.un at h;obtain⟨x,h1,h⟩:=jt.un_some hG (hc c aF) h;obtain⟨y,h2,h⟩:=nR.un_some hG (λz hz=>hc z (aE _ hz)) h;exact⟨(x,y),by rw[h1,h2];rfl,h⟩
 | [],c::cs,κ,r,_,h=>by simp[nR.un] at h
 |s::l,[],κ,r,_,h=>by simp[nR.un] at h
theorem hU.un_some: ∀ {l:List Ty} {m:List (Option dw)} {κ:hU.D l->Option ρ} {r:ρ},hU.un l m κ=some r-> ∃x,m=hU.mk l x/\κ x=some r
 | [],[],κ,r,h=>⟨(),rfl,h⟩
 |t::l,some tr::m,κ,r,h=>by
  unfold hU.un at h;split at h
  ·rename_i hh;split at h
   ·rename_i a ha;obtain⟨e,hl⟩:=dV ha;obtain⟨y,h2,h⟩:=hU.un_some h;obtain⟨t',l',hole⟩:=tr;simp only at hh e hl ha;subst hh e;simp only at hl;subst hl;exact⟨(l',y),by rw[h2];rfl,h⟩
   ·cases h
  ·cases h
 | [],c::cs,κ,r,h=>by simp[hU.un] at h
 |t::l,[],κ,r,h=>by simp[hU.un] at h
 |t::l,none::m,κ,r,h=>by simp[hU.un] at h
theorem hU.mk_some: ∀ (l:List Ty) (d:hU.D l) (r:Nat),r< (hU.mk l d).length-> ∃tr,fR (hU.mk l d) r=some (some tr)
 | [],d,r,h=>by simp[hU.mk] at h
 |t::l,d,0,h=>⟨_,rfl⟩
 |t::l,d,r+1,h=>by obtain⟨tr,htr⟩:=hU.mk_some l d.2 r (by simpa [hU.mk] using h);exact⟨tr,htr⟩
theorem jM.un_some{L:jM}{S:TS}(hS:S.ok){κ:L.D->Option ρ}{r:ρ}(h:L.un S κ=some r): ∃d,S=L.mk' d/\κ d=some r:=by
 unfold jM.un at h;obtain⟨g,h1,h⟩:=hU.un_some h;have hG: ∀r,r<S.gh.length-> ∃tr,fR S.gh r=some (some tr):=by rw[h1];exact hU.mk_some _ _
 obtain⟨e,h2,h⟩:=nS.un_some hG hS.env h;obtain⟨b,h3,h⟩:=nR.un_some hG hS.bx h;obtain⟨h4,h⟩:=dj h;simp only[aj] at h4;have h5:=ak h4.1;have h6:=ak h4.2;refine⟨(e,b,g),?_,h⟩;obtain⟨env,bx,gh,fz,nt⟩:=S
 grind [jM.mk']
end
end
section
open Go
def tP(S:TS)(t:Ty):Cl:=.own ⟨S.gh.length,[]⟩ t.width 0 0 true
def tE(n j:Nat)(t:Ty)(S:TS):TS:=match fR S.bx n with
 |some cs=>(match fR cs j with
  |some .em=> { S with bx:=dH S.bx n (dH cs j (tP S t)),gh:=S.gh++ [some ⟨t,[],none⟩] }
  | _=>S)
 |none=>S
def tF(x:Nat)(t:Ty)(S:TS):TS:=match en S.env x with
 | .v (.cl .em)=> { S with env:=(x,.v (.cl (tP S t)))::S.env,gh:=S.gh++ [some ⟨t,[],none⟩] }
 | _=>S
theorem yP: ∀ (l:List (Nat×Nat)),T.go .dd l= .dd
 | [] =>rfl
 | (_,_)::l=>yP l
theorem zw(w:Nat){l:List (Nat×Nat)}{s:Nat}{rs:List (List T)}(h:T.go (.sl w []) l= .sl s rs):rs= [] :=by
 cases l with
 |nil=>cases h;rfl
 |cons a l=>grind [T.go,T.cell,yP]
theorem ow[dp]{S S':TS}(t:Ty)(henv: ∀u,(en S'.env u).av=(en S.env u).av\/((en S.env u).av= .em/\(en S'.env u).av= .own ⟨S.gh.length,[]⟩ t.width 0 0))
  (hbx: ∀k cs',S'.st.bx k=some cs'-> ∃cs,S.st.bx k=some cs/\cs'.length=cs.length/\ ∀ (j:Nat) (v:AV),cs'[j]? =some v->cs[j]? =some v\/(cs[j]? =some .em/\v= .own ⟨S.gh.length,[]⟩ t.width 0 0))
  (hgh:S'.gh=S.gh++ [some ⟨t,[],none⟩]) (hfz:S'.fz=S.fz) (hnt:S'.nt=S.nt) (hbl:S'.bx.length=S.bx.length):fX S.st S'.st:=by
 intro w0 W btI SI bt a w hl0;have hl:=hl0.widen (N:=S.gh.length+1) (cA _);have inv:=hl.inv;have hng:S'.st.ng=S.gh.length+1:=by show S'.gh.length=_;rw[hgh];simp
 have ghS: ∀r,S'.st.gh r=if r=S.gh.length then some (.sl t.width []) else S.st.gh r:=by intro r;show (dI S'.gh r).map dw.tree=_;rw[hgh,eP];split<;>rfl
 have κ0: ∀l,(bt.widen S.st.ng (S.gh.length+1)).κ ⟨S.gh.length,l⟩=0:=by intro l;show (if S.gh.length<S.gh.length then _ else 0)=0;rw[if_neg (dg _)]
 have look: ∀p s rs,S'.st.look p= .sl s rs->(p.r=S.gh.length/\rs= [] /\(bt.widen S.st.ng (S.gh.length+1)).κ p=0)\/(p.r≠S.gh.length/\S.st.look p= .sl s rs):=by
  intro p s rs hp;unfold St.look at hp;rw[ghS] at hp;by_cases hr:p.r=S.gh.length
  ·rw[if_pos hr] at hp;left;refine⟨hr,zw _ hp,?_⟩;obtain⟨pr,pl⟩:=p
   grind
  ·rw[if_neg hr] at hp;exact .inr ⟨hr,hp⟩
 have own0: ∀ {u:Value},VR w (bt.widen S.st.ng (S.gh.length+1)) .em u->VR w (bt.widen S.st.ng (S.gh.length+1)) (.own ⟨S.gh.length,[]⟩ t.width 0 0) u:=by
  intro u hu;cases hu with
  |em ad=>exact .own (cI _) (au _) (bL _) (λh=>absurd h (dg _))
 refine⟨bt.widen S.st.ng (S.gh.length+1),?_⟩
 refine⟨{ good:=inv.good,os:=inv.os,tape:=inv.tape,output:=inv.output,size:=inv.size,keep:=inv.keep
          nb:=by show _=S'.bx.length;rw[hbl];exact inv.nb
          ng:=by rw[hng];exact inv.ng
          bx:=λn cells hn=> ?_
          gh:=λr x hr=> ?_
          tr:=λp sz rows hp=> ?_
          inj:=λp q s rs s' rs' hp hq hk hk' he=> ?_
          bbinj:=λn m cs cs' hn hm he=> ?_
          bbtr:=λn cs p s rs hn hp hk=> ?_
          alt:=inv.alt
          atr:=λp s rs hp hk=> ?_
          abb:=λn cs hn=> ?_ },⟨?_,λu=> ?_⟩,hl.defers,?_,?_,hl.keep,λr hr hn=> ?_⟩
 ·obtain⟨cs,h1,h2,h3⟩:=hbx n cells hn;obtain⟨g1,g2,arr,e,g3,g4,g5⟩:=inv.bx n cs h1;refine⟨by show n<S'.bx.length;rw[hbl];exact g1,g2,arr,e,g3,by rw[h2];exact g4,λj v hj=> ?_⟩
  grind
 ·rw[hng];rw[ghS] at hr;split at hr
  ·omega
  ·have:=inv.gh r x hr;exact this
 ·rcases look p sz rows hp with ⟨h1,rfl,h3⟩| ⟨h1,h2⟩
  ·grind
  ·exact inv.tr p sz rows h2
 ·rcases look p s rs hp with ⟨h1,_,h3⟩| ⟨h1,h2⟩
  ·omega
  ·rcases look q s' rs' hq with ⟨g1,_,g3⟩| ⟨g1,g2⟩
   ·omega
   ·exact inv.inj _ _ _ _ _ _ h2 g2 hk hk' he
 ·obtain⟨c,h1,_,_⟩:=hbx n cs hn;obtain⟨c',g1,_,_⟩:=hbx m cs' hm;exact inv.bbinj _ _ _ _ h1 g1 he
 ·obtain⟨c,h1,_,_⟩:=hbx n cs hn;rcases look p s rs hp with ⟨_,_,h3⟩| ⟨_,h2⟩
  ·omega
  ·exact inv.bbtr _ _ _ _ _ h1 h2 hk
 ·rcases look p s rs hp with ⟨_,_,h3⟩| ⟨_,h2⟩
  ·omega
  ·exact inv.atr _ _ _ h2 hk
 ·obtain⟨c,h1,_,_⟩:=hbx n cs hn;exact inv.abb _ _ h1
 ·have:=hl.er.1;show _=S'.nt;rw[hnt];exact this
 ·have h1:=hl.er.2 u;show VR w _ (en S'.env u).av _;rcases henv u with h2| ⟨h2,h3⟩
  ·rw[h2];exact h1
  ·rw[h3];have h1':VR w (bt.widen S.st.ng (S.gh.length+1)) (en S.env u).av (a.tmps.getD u undef):=h1;rw[h2] at h1';exact own0 h1'
 ·show S'.fz=_;rw[hfz];exact hl.fz
 ·show S'.fz<=S'.gh.length;have:=hl.fzng;have e:S.fz<=S.gh.length+1:=this
  grind
 ·refine hl.gone r hr ?_
  grind
theorem qV(S:TS)(t:Ty): (tP S t).ok (S.gh++ [some ⟨t,[],none⟩]):=by refine⟨by simp,λ_=>⟨rfl,rfl,λtr htr=> ?_⟩⟩;rw[eP,if_pos rfl] at htr;cases htr;rfl
theorem vF[dp]{S:TS}(hS:S.ok)(x:Nat)(t:Ty):fX S.st (tF x t S).st/\(tF x t S).ok:=by
 unfold tF;split
 ·rename_i hx;refine⟨ow t (λu=> ?_) (λk cs' h=>⟨cs',h,rfl,λj v hv=> .inl hv⟩) rfl rfl rfl rfl,⟨λy hy=> ?_,λcs hcs c hc=>Cl.ok_mono (ef.app _ _) (hS.bx cs hcs c hc)⟩⟩
  ·simp only[en];cases hb:Nat.beq x u with
   |true=>have :x=u:=ak hb;subst this;right;rw[hx];exact⟨rfl,rfl⟩
   |false=>exact .inl rfl
  ·rcases aU.1 hy with rfl|hy
   ·exact qV S t
   ·exact V.ok_mono (ef.app _ _) (hS.env y hy)
 ·exact⟨fX.refl,hS⟩
theorem vE[dp]{S:TS}(hS:S.ok)(n j:Nat)(t:Ty):fX S.st (tE n j t S).st/\(tE n j t S).ok:=by
 unfold tE;split
 ·rename_i cs hcs;split
  ·rename_i hj;rw[dN] at hcs hj;have hn:=(ah.1 hcs).1;refine⟨ow t (λu=> .inl rfl) (λk cs' h=> ?_) rfl rfl rfl (by simp[dY]),⟨λy hy=>V.ok_mono (ef.app _ _) (hS.env y hy),λcs' hcs' c hc=> ?_⟩⟩
   ·have h': (fR (dH S.bx n (dH cs j (tP S t))) k).map (λcs=>cs.map Cl.av)=some cs':=h;rw[dN,dY,dY,bD] at h';by_cases hk:n=k
    ·subst hk;rw[if_pos rfl,if_pos hn] at h';simp only[aA,ae] at h';subst h';refine⟨cs.map Cl.av,by show (fR S.bx n).map _=_;rw[dN,hcs];rfl,by simp,λi v hv=> ?_⟩;rw[ap,bD] at hv;by_cases hi:j=i
     ·subst hi;rw[if_pos rfl,if_pos (ah.1 hj).1] at hv;right;rw[ap,hj];simp only[aA,ae] at hv;exact⟨rfl,hv.symm⟩
     grind
    ·rw[if_neg hk] at h';exact⟨cs',by show (fR S.bx k).map _=_;rw[dN];exact h',rfl,λi v hv=> .inl hv⟩
   ·simp only[dY] at hcs';rcases cL hcs' with h1|h1
    ·exact Cl.ok_mono (ef.app _ _) (hS.bx _ h1 c hc)
    ·subst h1;rcases cL hc with h2|h2
     ·exact Cl.ok_mono (ef.app _ _) (hS.bx _ (aw hcs) c h2)
     ·subst h2;exact qV S t
  ·exact⟨fX.refl,hS⟩
 ·exact⟨fX.refl,hS⟩
inductive rM where
 |t (x:Nat) (t:Ty)
 |b (n j:Nat) (t:Ty)
def jA:List rM->TS->TS
 | [],S=>S
 | .t x t::l,S=>jA l (tF x t S)
 | .b n j t::l,S=>jA l (tE n j t S)
theorem jY[dp]: ∀ (l:List rM) {S:TS},S.ok->fX S.st (jA l S).st/\(jA l S).ok
 | [],S,hS=>⟨fX.refl,hS⟩
 | .t x t::l,S,hS=>by obtain⟨h1,h2⟩:=vF hS x t;obtain⟨h3,h4⟩:=jY l h2;exact⟨h1.trans h3,h4⟩
 | .b n j t::l,S,hS=>by obtain⟨h1,h2⟩:=vE hS n j t;obtain⟨h3,h4⟩:=jY l h2;exact⟨h1.trans h3,h4⟩
section
variable {P:Program} {Θ:ft} {Y:kA} {Λ:fH}
def rC{ρ:Type}(keepN keepX:List Nat)(κ:X->TS->Option ρ)(x:X)(S:TS):Option ρ:=match x with
 | .nor=>k9 keepN S (κ .nor)
 |x=>k9 keepX S (κ x)
def ve{σ ε:Type}(G:σ->Option ε)(μ:σ->Nat)(s:σ)(e:ε):Option (σ⊕ε)->Prop
 |some (.inl s')=>μ s'<μ s/\G s'=some e
 |some (.inr e')=>e'=e
 |none=>False
theorem xU[dp](hΘ:dQ P Θ)(hY:eV P Y)(hm:P.follows .mixedOrders=true){c:Code}(hc:eY P c=true)(hL:eg P Λ (dK c)){σ ε:Type}{H:σ->TS}{E:ε->X×TS}{B:σ->Option (σ⊕ε)}{keepN keepX:List Nat}
  (hH: ∀s,(H s).ok) (hstep: ∀s,ld Θ Y Λ c (H s) (rC keepN keepX λx S=>some (x,S))=(B s).bind (Sum.elim (λs'=>some (.nor,H s')) λe=>some (E e)))
  (hE: ∀e,(E e).1≠ .nor) {G:σ->Option ε} {μ:σ->Nat} (hG: ∀s e,G s=some e->ve G μ s e (B s))
  {s:σ} {e:ε} (hs:G s=some e):gb P (.loop c) (H s).st (λx S'=>x=(E e).1/\S'=(E e).2.st):=by
 refine gb.loop (λn X=> ∃s,X=(H s).st/\G s=some e/\μ s=n) (λn X hX=> ?_) (n:=μ s) ⟨s,rfl,hs,rfl⟩;obtain⟨s,rfl,hs,rfl⟩:=hX;have hg:=hG s e hs;have hst:=hstep s;cases hB:B s with
 |none=>rw[hB] at hg;exact hg.elim
 |some l=>
  rw[hB] at hg hst;cases l with
  |inl s'=>
   simp only[al,Sum.elim_inl] at hst;refine (o8 hΘ hY hm c _ _ _ hc hL (hH s) hst).mono (λx S' hx=> ?_);obtain⟨S1,rfl,h1,h2⟩:=hx
   have eU: ∃S2:TS,fX S1.st S2.st/\x= .nor/\S2=H s':=by
    unfold rC at h2;split at h2
    ·obtain⟨S2,k1,_,k2⟩:=ik h1 h2
     grind
    ·grind [ik]
   obtain⟨S2,k1,rfl,rfl⟩:=eU;exact⟨_,k1,μ s',hg.1,s',rfl,hg.2,rfl⟩
  |inr e'=>
   simp only[al,Sum.elim_inr] at hst;have hg:e'=e:=hg;subst hg;refine (o8 hΘ hY hm c _ _ _ hc hL (hH s) hst).mono (λx S' hx=> ?_);obtain⟨S1,rfl,h1,h2⟩:=hx
   have eU: ∃S2:TS,fX S1.st S2.st/\(x,S2)=E e':=by
    unfold rC at h2;split at h2
    ·grind [ik]
    ·grind [ik]
   grind
def vO(grow:List rM)(keep:List Nat)(L:jM){ε:Type}(E:ε->X×TS)(G:L.D->Option ε):TS->(ρ:Type)->(X->TS->Option ρ)->Option ρ:=
 λS _ κ=>k9 keep (jA grow S) λS1=>L.un S1 λs=>(G s).bind λe=>κ (E e).1 (E e).2
theorem vP[dp]{c:Code}{grow:List rM}{keep:List Nat}{L:jM}{ε:Type}{E:ε->X×TS}{G:L.D->Option ε}(hE: ∀e,(E e).2.ok)
  (h: ∀s e,G s=some e->gb P (.loop c) (L.mk' s).st (λx S'=>x=(E e).1/\S'=(E e).2.st)) {S:TS} {ρ:Type} {κ:X->TS->Option ρ} {r:ρ} (hS:S.ok) (hk:vO grow keep L E G S ρ κ=some r):
  gb P (.loop c) S.st (λx S'=> ∃S1:TS,S'=S1.st/\S1.ok/\κ x S1=some r):=by
 unfold vO at hk;obtain⟨h1,h2⟩:=jY grow hS;obtain⟨S1,h3,h4,hk⟩:=ik h2 hk;obtain⟨s,rfl,hk2⟩:=jM.un_some h4 hk;obtain⟨e,h5,hk3⟩:=af.1 hk2;refine gb.weak (h1.trans h3) ((h s e h5).mono (λx S' hx=> ?_));obtain⟨rfl,rfl⟩:=hx;exact⟨_,fX.refl,_,rfl,hE e,hk3⟩
end
end
section
open Go
abbrev fG.D:List Ty->Type
 | [] =>Unit
 |t::l=>t.D×fG.D l
def fo: (l:List Ty)->fG.D l->List ((t:Ty)×t.D)
 | [],_=> []
 |t::l,x=>⟨t,x.1⟩::fo l x.2
def mu[dp](P:Program)(f:FuncId)(e:uY):Prop:=∀args ρ κ r,e args ρ κ=some r-> ∃res out,jN P f args res out/\res.ok (out.map some)/\κ res out=some r
theorem yw[dp](P:Program):eV P (nZ []):=λ_ _ _ _ _ h=>by cases h
theorem wH[dp]{P:Program}{f:FuncId}{e:uY}{l:List (Nat×uY)}(h:mu P f e)(hl:eV P (nZ l)):eV P (nZ ((f,e)::l)):=by
 intro g args ρ κ r hr;have hr: (bif Nat.beq f g then e args ρ κ else zu l g args ρ κ)=some r:=hr;cases hb:Nat.beq f g with
 |true=>rw[hb] at hr;have:=ak hb;subst this;exact h args ρ κ r hr
 |false=>rw[hb] at hr;exact hl g args ρ κ r hr
def rI(as bs:List AV):Prop:=as.length=bs.length/\ ∀ (k:Nat) (a b:AV),as[k]? =some a->bs[k]? =some b->a=b\/(a= .em/\ ∃s,b= .ro s [])
theorem rI.refl(as:List AV):rI as as:=⟨rfl,λk a b h1 h2=>by rw[h1] at h2;cases h2;exact .inl rfl⟩
theorem rI.cons{a b:AV}{as bs:List AV}(h:a=b\/(a= .em/\ ∃s,b= .ro s []))(hn:rI as bs):rI (a::as) (b::bs):=
 ⟨by simp[hn.1],λk x y h1 h2=>by
  cases k with
  |zero=>grind
  |succ k=>exact hn.2 k x y (by simpa using h1) (by simpa using h2)⟩
theorem rI.VR{as bs:List AV}(hn:rI as bs){w:World}{bt:Bt}{vals:List Value}(h: ∀ (k:Nat) (v:AV) (u:Value),as[k]? =some v->vals[k]? =some u->VR w bt v u)(k:Nat)(v:AV)(u:Value)(hv:bs[k]? =some v)(hu:vals[k]? =some u):VR w bt v u:=by
 have hk:k<as.length:=by rw[hn.1];exact (ah.1 hv).1
 have ha:=an hk;have hx:=h k _ u ha hu;rcases hn.2 k _ v ha hv with e| ⟨e,s,rfl⟩
 ·rw[<-e];exact hx
 ·rw[e] at hx;cases hx with
  |em b=>exact .ro (.em _ _ _)
theorem ew.norm[dp]{P:Program}{f:FuncId}{as bs:List AV}{gs:List T}{m:Nat}{res:AV}{out:List T}(hn:rI as bs)(h:ew P f bs gs m res out):ew P f as gs m res out:=
 λw W bt0 vals hI hl hv=>h w W bt0 vals hI (hl.trans hn.1) (hn.VR hv)
theorem gy.norm[dp]{P:Program}{f:FuncId}{as bs:List AV}{gs:List T}{res:AV}{out:List T}(hn:rI as bs)(h:gy P f bs gs res out):gy P f as gs res out:=ew.norm hn h
theorem un_some{ρ:Type}{t:Ty}{a:V1}{κ:t.D->Option ρ}{r:ρ}(h:un t a κ=some r): ∃x,a=sZ t x/\κ x=some r:=by
 unfold un at h;split at h
 ·rename_i cs;obtain⟨h1,h⟩:=dj h;split at h
  ·rename_i xs hxs;split at h
   ·rename_i x hx;refine⟨x,?_,h⟩;unfold sZ;rw[h1,t.unflat_some _ _ hx,lK hxs];rfl
   ·cases h
  ·cases h
 ·rename_i y;cases hag:t.ag with
  |true=>rw[hag] at h;cases h
  |false=>
   rw[hag] at h;simp only[cond_false] at h;split at h
   ·rename_i x hx;refine⟨x,?_,h⟩;unfold sZ;rw[hag,t.unflat_some _ _ hx];rfl
   ·cases h
 ·cases h
theorem zh(t:Ty)(x:t.D): (sZ t x).ok [] :=by
 unfold sZ;cases t.ag with
 |true=>intro c hc;obtain⟨y,_,rfl⟩:=aB.1 hc;trivial
 |false=>
  simp only[cond_false];split
  ·rename_i c hc;have :c∈(t.flat x).map Cl.c:=by rw[hc];exact aH.2 rfl
   obtain⟨y,_,rfl⟩:=aB.1 this;trivial
  ·trivial
theorem pG(lA suf:List dw): ∀ (cs:List C) (mid:List dw),∀c∈km cs (lA.length+mid.length),c.ok ((lA++mid++gr cs++suf).map some)
 | [],mid,c,h=>by cases h
 | .sc v::cs,mid,c,h=>by
   rcases aU.1 h with rfl|h
   ·trivial
   ·exact pG lA suf cs mid c h
 | .ls t l::cs,mid,c,h=>by
   rcases aU.1 h with rfl|h
   ·refine⟨by simp[gr],λ_=>⟨rfl,rfl,λtr htr=> ?_⟩⟩
    have :dI ((lA++mid++gr (.ls t l::cs)++suf).map some) (lA.length+mid.length)=some ⟨t,l,none⟩:=by unfold dI;rw[dN,ap,bf,aY (by simp)];simp[gr]
    have htr':dI ((lA++mid++gr (.ls t l::cs)++suf).map some) (lA.length+mid.length)=some tr:=htr;rw[this] at htr';cases htr';rfl
   ·have:=pG lA suf cs (mid++ [⟨t,l,none⟩]) c (by rw[bH,<-Nat.add_assoc];exact h);simp only[gr];simpa using this
theorem yl(t:Ty)(x:t.D)(lA suf:List dw): (uP t x lA.length).ok ((lA++gr (t.flat x)++suf).map some):=by
 have eU:=pG lA suf (t.flat x) [];simp only[bQ,bE,bM] at eU;unfold uP;cases t.ag with
 |true=>exact eU
 |false=>
  simp only[cond_false];split
  ·rename_i c hc;exact eU c (by rw[hc];exact aH.2 rfl)
  ·trivial
theorem nr: ∀ (l:List ((t:Ty)×t.D)) (lA:List dw),∀v∈jS lA.length l,v.ok ((lA++iX l).map some)
 | [],lA,v,h=>by cases h
 | ⟨t,x⟩::l,lA,v,h=>by
   rcases aU.1 h with rfl|h
   ·have:=yl t x lA (iX l);simpa [iX] using this
   ·have:=nr l (lA++gr (t.flat x)) v (by rw[bH];exact h);simpa [iX] using this
theorem sC(l:List ((t:Ty)×t.D)): (pA (jS 0 l)).ok ((iX l).map some):=by
 have h:=nr l [];simp only[bQ,bC] at h
 match jS 0 l,h with
 | [],_=>exactλx hx=>by cases hx
 | [v],h=>exact h v aF
 |v::u::vs,h=>exact h
end
section
open Go
def Sh.fit(n:Nat):Sh->Bool| .own r _=>Nat.blt r n| .sub r _=>Nat.blt r n| .row r _ _=>Nat.blt r n| .pt r _=>Nat.blt r n| _=>true
def kW.fit(n:Nat):kW->Bool| .cl s=>s.fit n| .agg l=>l.all (Sh.fit n)| .st _=>true| .fn _ l=>l.all (Sh.fit n)
def jM.fit(L:jM):Bool:=L.env.all (λx=>x.2.fit L.gh.length)&&L.bx.all (λl=>l.all (Sh.fit L.gh.length))
theorem hU.mk_length: ∀ (l:List Ty) (d:hU.D l),(hU.mk l d).length=l.length
 | [],_=>rfl
 |t::l,d=>by simp[hU.mk,hU.mk_length l d.2]
theorem Sh.mk_ok{G:List (Option dw)}{s:Sh}(h:s.fit G.length=true)(x:s.D): (s.mk G x).ok G:=by
 cases s with
 |own r t=>
  refine⟨aq h,λ_=>⟨rfl,rfl,λtr htr=> ?_⟩⟩;unfold dI at htr;unfold zC;have htr': (fR G r).getD none=some tr:=htr;cases hn:fR G r with
  |none=>rw[hn] at htr';cases htr'
  |some y=>grind
 |sub r t=>exact⟨aq h,λe=>by cases e⟩
 |row r j w=>exact⟨aq h,λe=>by cases e⟩
 |pt r w=>exact aq h
 | _=>trivial
theorem jt.mk_ok{G:List (Option dw)}: ∀ {l:List Sh},l.all (Sh.fit G.length)=true-> ∀ (x:jt.D l),∀c∈jt.mk G l x,c.ok G
 | [],_,x,c,hc=>by cases hc
 |s::l,h,x,c,hc=>by
  simp only[bW,aj] at h;rcases aU.1 hc with rfl|hc
  ·exact Sh.mk_ok h.1 x.1
  ·exact jt.mk_ok h.2 x.2 c hc
theorem kW.mk_ok{G:List (Option dw)}{v:kW}(h:v.fit G.length=true)(x:v.D): (v.mk G x).ok G:=by
 cases v with
 |cl s=>exact Sh.mk_ok h x
 |agg l=>exact jt.mk_ok h x
 |st n=>intro c hc;obtain⟨y,_,rfl⟩:=aB.1 hc;trivial
 |fn f l=>exact jt.mk_ok h x
theorem jM.mk'_ok{L:jM}(h:L.fit=true)(d:L.D): (L.mk' d).ok:=by
 unfold jM.fit at h;simp only[aj] at h;have hlen: (hU.mk L.gh d.2.2).length=L.gh.length:=hU.mk_length _ _;rw[<-hlen] at h
 have env: ∀ {l:List (Nat×kW)},l.all (λx=>x.2.fit (hU.mk L.gh d.2.2).length)=true-> ∀ (e:nS.D l),∀x∈nS.mk (hU.mk L.gh d.2.2) l e,x.2.ok (hU.mk L.gh d.2.2):=by
  intro l
  induction l with
  |nil=>intro _ e x hx;cases hx
  |cons y l ih=>
   intro h e x hx;simp only[bW,aj] at h;rcases aU.1 hx with rfl|hx
   all_goals grind [kW.mk_ok]
 have bxs: ∀ {l:List (List Sh)},l.all (λl=>l.all (Sh.fit (hU.mk L.gh d.2.2).length))=true-> ∀ (e:nR.D l),∀cs∈nR.mk (hU.mk L.gh d.2.2) l e,∀c∈cs,c.ok (hU.mk L.gh d.2.2):=by
  intro l
  induction l with
  |nil=>intro _ e x hx;cases hx
  |cons y l ih=>
   intro h e x hx;simp only[bW,aj] at h;rcases aU.1 hx with rfl|hx
   all_goals grind [jt.mk_ok]
 exact⟨env h.1 d.1,bxs h.2 d.2.1⟩
abbrev kB.D:List (X×jM)->Type
 | [] =>Empty
 | [x] =>x.2.D
 |x::y::l=>x.2.D⊕kB.D (y::l)
def kB.k{R:Type}: (l:List (X×jM))->kB.D l->(X->TS->R)->R
 | [],e,_=>e.elim
 | [x],d,κ=>κ x.1 (x.2.mk' d)
 |x::y::l,e,κ=>Sum.elim (λd=>κ x.1 (x.2.mk' d)) (λe=>kB.k (y::l) e κ) e
def kB.e(l:List (X×jM))(d:kB.D l):X×TS:=kB.k l d Prod.mk
theorem kB.k_eq{R:Type}: ∀ (l:List (X×jM)) (d:kB.D l) (κ:X->TS->R),kB.k l d κ=κ (kB.e l d).1 (kB.e l d).2
 | [],e,_=>e.elim
 | [_],_,_=>rfl
 | _::_::_,.inl _,_=>rfl
 | _::y::l,.inr e,κ=>kB.k_eq (y::l) e κ
def An(x:X×jM):Bool:=(match x.1 with | .nor=>false| _=>true)&&x.2.fit
theorem kB.ok: ∀ (l:List (X×jM)) (d:kB.D l),l.all An=true->(kB.e l d).1≠ .nor/\(kB.e l d).2.ok
 | [],e,_=>e.elim
 | [x],d,h=>by simp only[bW,aj,An] at h;refine⟨λe=> ?_,jM.mk'_ok h.1.2 d⟩;have e:x.1= .nor:=e;rw[e] at h;cases h.1.1
 |x::_::_,.inl d,h=>by simp only[bW,aj,An] at h;refine⟨λe=> ?_,jM.mk'_ok h.1.2 d⟩;have e:x.1= .nor:=e;rw[e] at h;cases h.1.1
 | _::y::l,.inr e,h=>kB.ok (y::l) e (by grind)
def vM(grow:List rM)(keep:List Nat)(L:jM)(exs:List (X×jM))(G:L.D->Option (kB.D exs)):TS->(ρ:Type)->(X->TS->Option ρ)->Option ρ:=
 λS _ κ=>k9 keep (jA grow S) λS1=>L.un S1 λs=>(G s).bind λe=>kB.k exs e κ
abbrev sT:=TS->(ρ:Type)->(X->TS->Option ρ)->Option ρ
def mT:List (Nat×sT)->fH
 | [],_,_,_,_=>none
 | (q,e)::l,n,S,ρ,κ=>bif Nat.beq q n then e S ρ κ else mT l n S ρ κ
section
variable {P:Program} {Θ:ft} {Y:kA} {Λ:fH}
def va[dp](P:Program)(c:Code)(e:sT):Prop:=∀ (S:TS) (ρ:Type) (κ:X->TS->Option ρ) (r:ρ),S.ok->e S ρ κ=some r->gb P (.loop c) S.st (λx S'=> ∃S1:TS,S'=S1.st/\S1.ok/\κ x S1=some r)
theorem vN[dp](hΘ:dQ P Θ)(hY:eV P Y)(hm:P.follows .mixedOrders=true){c:Code}(hc:eY P c=true)(hL:eg P Λ (dK c))(grow:List rM)(keep keepX:List Nat)(L:jM)(exs:List (X×jM))(hf: (L.fit&&exs.all An)=true)
  (B:L.D->Option (L.D⊕kB.D exs)) (hB: ∀s,ld Θ Y Λ c (L.mk' s) (rC keep keepX λx S=>some (x,S))=(B s).bind (Sum.elim (λs'=>some (.nor,L.mk' s')) λe=>some (kB.e exs e)))
  (G:L.D->Option (kB.D exs)) (μ:L.D->Nat) (hG: ∀s e,G s=some e->ve G μ s e (B s)):va P c (vM grow keep L exs G):=by
 simp only[aj] at hf;intro S ρ κ r hS hk;refine vP (E:=kB.e exs) (λe=>(kB.ok exs e hf.2).2) (λs e hs=>xU hΘ hY hm hc hL (λs=>jM.mk'_ok hf.1 s) hB (λe=>(kB.ok exs e hf.2).1) hG hs) hS ?_ (grow:=grow) (keep:=keep)
 grind [vO,vM,kB.k_eq]
end
end
section
open Go
def xy(P:Program)(e:TypeId->List Value->Bool):List Field->Nat->List Value->Bool
 | [],_,[] =>true
 | [],_,_::_=>false
 |f::fs,off,zs=>f.name != "_" &&Nat.beq f.offset off&&Nat.blt 0 (P.cellsOf f.type)&&Nat.ble (P.cellsOf f.type) zs.length&&(P.info? f.type).isSome&&e f.type (zs.take (P.cellsOf f.type))&&xy P e fs (off+P.cellsOf f.type) (zs.drop (P.cellsOf f.type))
def qp(P:Program):Nat->TypeId->List Value->Bool
 | 0,_,_=>false
 |n+1,t,zs=>match P.underlying t with
  |some .bool=>(match zs with | [.bool _] =>true| _=>false)
  |some (.int _)=>(match zs with | [.int _ _] =>true| _=>false)
  |some (.struct fs)=> !P.stoodInHeld t&&xy P (qp P n) fs.toList 0 zs
  | _=>false
def of(P:Program)(t:TypeId)(xs:List Value):Value:=match P.underlying t with
 |some (.struct _)=> .agg xs.toArray
 | _=>xs.headD (.bool false)
def eW:List Value->List Value->Bool
 | [],[] =>true
 | .int k _::zs,.int k' _::cs=>bif decide (k=k') then eW zs cs else false
 | .bool _::zs,.bool _::cs=>eW zs cs
 | _,_=>false
def eZ:List Value->List Value->Option Bool
 | [],[] =>some true
 |a::l,b::m=>match qq a b,eZ l m with
  |some x,some y=>some (x&&y)
  | _,_=>none
 | _,_=>none
theorem m9: ∀ {zs xs:List Value},eX zs (xs.map λx=> .c (.sc x))=true->eW zs xs=true:=by
 intro zs
 induction zs with
 |nil=>intro xs h;cases xs with
  |nil=>rfl
  |cons=>simp[eX] at h
 |cons z zs ih=>
  intro xs h;cases xs with
  |nil=>cases z<;>simp[eX] at h
  |cons x xs=>
   cases z<;>cases x<;>simp only[aK,eX,eW,cond_eq_ite,aM] at h ⊢
   ·exact ih h
   ·split at h
    ·rename_i hk;rw[if_pos hk];exact ih h
    ·cases h
theorem ur: ∀ {xs ys:List Value},jv (xs.map λx=> .c (.sc x)) (ys.map λx=> .c (.sc x))=eZ xs ys:=by
 intro xs
 induction xs with
 |nil=>intro ys;cases ys<;>rfl
 |cons x xs ih=>
  intro ys;cases ys with
  |nil=>rfl
  |cons y ys=>simp only[aK,jv,eZ,ih];cases qq x y<;>cases eZ xs ys<;>rfl
theorem gn: ∀ {zs xs:List Value},eW zs xs=true->xs.length=zs.length:=by
 intro zs
 induction zs with
 |nil=>intro xs h;cases xs with
  |nil=>rfl
  |cons=>simp[eW] at h
 |cons z zs ih=>
  intro xs h;cases xs with
  |nil=>cases z<;>simp[eW] at h
  |cons x xs=>
   cases z<;>cases x<;>simp only[eW,cond_eq_ite,aM] at h
   ·simp[ih h]
   ·split at h
    ·simp[ih h]
    ·cases h
theorem iI: ∀ {zs xs:List Value} (n:Nat),eW zs xs=true->eW (zs.take n) (xs.take n)=true/\eW (zs.drop n) (xs.drop n)=true:=by
 intro zs
 induction zs with
 |nil=>intro xs n h;cases xs with
  |nil=>simp[eW]
  |cons=>simp[eW] at h
 |cons z zs ih=>
  intro xs n h;cases xs with
  |nil=>cases z<;>simp[eW] at h
  |cons x xs=>
   cases n with
   |zero=>exact⟨rfl,h⟩
   |succ n=>
    cases z<;>cases x<;>simp only[eW,cond_eq_ite,aM] at h
    ·exact ih n h
    ·split at h
     ·rename_i hk;refine⟨?_,(ih n h).2⟩;simp only[List.take_succ_cons,eW,cond_eq_ite];rw[if_pos (by simpa using hk)];exact (ih n h).1
     ·cases h
theorem o7: ∀ {xs ys:List Value} (n:Nat) {r:Bool},eZ xs ys=some r-> ∃a b,eZ (xs.take n) (ys.take n)=some a/\eZ (xs.drop n) (ys.drop n)=some b/\r=(a&&b):=by
 intro xs
 induction xs with
 |nil=>intro ys n r h;cases ys with
  |nil=>cases h;exact⟨true,true,by simp[eZ],by simp[eZ],rfl⟩
  |cons=>simp[eZ] at h
 |cons x xs ih=>
  intro ys n r h;cases ys with
  |nil=>simp[eZ] at h
  |cons y ys=>
   cases n with
   |zero=>exact⟨true,r,rfl,h,rfl⟩
   |succ n=>
    simp only[eZ] at h;split at h
    ·rename_i p q hp hq;cases h;obtain⟨a,b,h1,h2,rfl⟩:=ih n hq;exact⟨p&&a,b,by simp[eZ,hp,h1],h2,by cases p<;>rfl⟩
    ·cases h
theorem pC{P:Program}{t:TypeId}{i:TypeInfo}(h:P.info? t=some i):dv P (typeInfo t)=some i:=by simp only[typeInfo,du,program,dv,al,h];rfl
theorem qY{P:Program}{t:TypeId}{i:TypeInfo}(hi:P.info? t=some i){d:TypeDesc}(hd:P.underlying t=some d)(hs: ∀n e,d≠ .array n e){xs:List Value}{off:Nat}{c:Value}(hc:xs[off]? =some c):
  dv P (part t xs.toArray off)=some (of P t ((xs.drop off).take (P.cellsOf t)))\/P.cellsOf t=0:=by
 by_cases h0:P.cellsOf t=0
 ·exact .inr h0
 refine .inl ?_;have hcell:P.cellsOf t=i.size:=by simp[Program.cellsOf,hi]
 cases hst: (match d with | .struct _=>true| _=>false) with
 |true=>
  have hag:dv P (isAgg t)=some true:=by simp only[isAgg,du,dF hd,al];cases d<;>simp at hst;rfl
  simp only[part,sizeOf,du,hag,al,if_true,pC hi,dx,of,hd];cases d<;>simp at hst;simp[hcell,Nat.add_sub_cancel_left]
 |false=>
  have hag:dv P (isAgg t)=some false:=by
   simp only[isAgg,du,dF hd,al];cases d<;>simp at hst
   all_goals first |rfl|exact absurd rfl (hs _ _)
  have hv:of P t ((xs.drop off).take (P.cellsOf t))=c:=by
   have : ((xs.drop off).take (P.cellsOf t)).headD (.bool false)=c:=by
    obtain⟨n,hn⟩: ∃n,P.cellsOf t=n+1:=⟨P.cellsOf t-1,by omega⟩
    have h1:off<xs.length:=(ah.1 hc).1;rw[hn,b7 h1,List.take_succ_cons];exact (ah.1 hc).2
   unfold of;rw[hd];cases d<;>first |exact this|simp at hst
  rw[hv];simp only[part,du,hag,al,aM,if_false];have :xs.toArray[off]? =some c:=by simpa using hc
  rw[this];rfl
theorem th(P:Program): ∀ (n:Nat) {t:TypeId} {zs xs ys:List Value} {r:Bool} (d:Nat),qp P n t zs=true->eW zs xs=true->eW zs ys=true->eZ xs ys=some r->dv P (Op.equalIn (n+d) t (of P t xs) (of P t ys))=some r
 | 0,t,zs,xs,ys,r,d,h,_,_,_=>by cases h
 |n+1,t,zs,xs,ys,r,d,h,hx,hy,he=>by
  have hn:n+1+d=(n+d)+1:=by omega
  rw[hn];unfold qp at h;cases hu:P.underlying t with
  |none=>rw[hu] at h;cases h
  |some D=>
   rw[hu] at h;cases D<;>simp only[aM] at h
   case bool=>
    split at h
    case h_2=>cases h
    obtain⟨x,rfl⟩: ∃x,xs= [.bool x] :=by
     match xs,hx with
     | [.bool x],_=>exact⟨x,rfl⟩
    obtain⟨y,rfl⟩: ∃y,ys= [.bool y] :=by
     match ys,hy with
     | [.bool y],_=>exact⟨y,rfl⟩
    simp only[eZ,qq,cR,ae] at he;subst he;simp only[of,hu,List.headD_cons];rw[Op.equalIn];simp only[du,dF hu,al,dx]
   case int k=>
    split at h
    case h_2=>cases h
    rename_i k0 _
    obtain⟨x,rfl⟩: ∃x,xs= [.int k0 x] :=by
     match xs,hx with
     | [.int k1 x],hx=>
       simp only[eW,cond_eq_ite] at hx;split at hx
       ·rename_i hk;simp at hk;subst hk;exact⟨x,rfl⟩
       ·cases hx
     | .int _ _::_::_,hx=>simp[eW] at hx
    obtain⟨y,rfl⟩: ∃y,ys= [.int k0 y] :=by
     match ys,hy with
     | [.int k1 x],hx=>
       simp only[eW,cond_eq_ite] at hx;split at hx
       ·rename_i hk;simp at hk;subst hk;exact⟨x,rfl⟩
       ·cases hx
     | .int _ _::_::_,hx=>simp[eW] at hx
    simp only[eZ,qq,cR,ae] at he;subst he;simp only[of,hu,List.headD_cons];rw[Op.equalIn];simp only[du,dF hu,al,dx,if_true]
   case struct fs=>
    simp only[aj,bB] at h;obtain⟨hst,h⟩:=h;simp only[of,hu]
    have eU: ∀ (fs:List Field) (off:Nat) (zs:List Value) (r:Bool),xy P (qp P n) fs off zs=true->eW zs (xs.drop off)=true->eW zs (ys.drop off)=true->eZ (xs.drop off) (ys.drop off)=some r->
      dv P (Op.eqFields (n+d) xs.toArray ys.toArray fs)=some r:=by
     intro fs
     induction fs with
     |nil=>
      intro off zs r h hx hy he;cases zs with
      |nil=>have h1:=gn hx;have h2:=gn hy;simp only[bQ,cP] at h1 h2;rw[h1,h2] at he;cases he;rfl
      |cons=>cases h
     |cons f fs ih=>
      intro off zs r h hx hy he;simp only[xy,aj,bne_iff_ne,ne_eq] at h;obtain⟨⟨⟨⟨⟨⟨hname,hoff⟩,hpos⟩,hle⟩,hi⟩,h1⟩,h2⟩:=h;have hoff:=ak hoff;have hpos:0<P.cellsOf f.type:=aq hpos;have hle:P.cellsOf f.type<=zs.length:=aq hle;have hlx:=gn hx;have hly:=gn hy;rw[cd] at hlx hly;obtain⟨i,hi⟩:=aV.1 hi
      have hu': ∃D,P.underlying f.type=some D/\ ∀n e,D≠ .array n e:=by
       cases hun:P.underlying f.type with
       |none=>cases n<;>simp[qp,hun] at h1
       |some D=>refine⟨D,rfl,λk e he=> ?_⟩;subst he;cases n<;>simp[qp,hun] at h1
      obtain⟨D,hD,hDa⟩:=hu';have px:=qY hi hD hDa (xs:=xs) (off:=off) (an (by omega));have py:=qY hi hD hDa (xs:=ys) (off:=off) (an (by omega));have px:=px.resolve_right (by omega);have py:=py.resolve_right (by omega);obtain⟨a,b,ha,hb,rfl⟩:=o7 (P.cellsOf f.type) he;have hA:=th P n d h1 (iI _ hx).1 (iI _ hy).1 ha;rw[Op.eqFields,if_pos hname];simp only[hoff,du,px,py,al,hA];cases a with
      |false=>rfl
      |true=>
       simp only[cS,aM,if_false,df];simp only[cc] at hb;refine ih _ _ _ h2 ?_ ?_ hb
       ·have:=(iI (P.cellsOf f.type) hx).2;rw[cc] at this;exact this
       ·have:=(iI (P.cellsOf f.type) hy).2;rw[cc] at this;exact this
    have:=eU fs.toList 0 zs r h (by simpa using hx) (by simpa using hy) (by simpa using he);rw[<-this];rw[Op.equalIn];simp only[du,dF hu,al,program,dv,hst,aM,if_false];rw[<-Array.forIn_toList];generalize fs.toList=fs;clear this eU h hu hst hn
    induction fs with
    |nil=>rfl
    |cons f fs ih=>
     simp only[List.forIn_cons,Op.eqFields];split
     ·simp only[du];cases dv P (part f.type xs.toArray f.offset) with
      |none=>rfl
      |some a=>
       cases dv P (part f.type ys.toArray f.offset) with
       |none=>rfl
       |some b=>
        simp only[al];cases dv P (Op.equalIn (n+d) f.type a b) with
        |none=>rfl
        |some q=>
         cases q
         ·rfl
         ·simp only[al,cS,aM,if_false,dx];simpa only[du,Option.bind_assoc] using ih
     ·simp only[du,dx,al];simpa only[du,Option.bind_assoc] using ih
theorem Al{P:Program}{t:TypeId}{zs:List Value}{fs:Array Field}(hu:P.underlying t=some (.struct fs))(h:qp P 8 t zs=true)(a b:List Cl)(r:Bool)(xs ys:List Value)(ha:eX zs a=true)(hb:eX zs b=true)(he:jv a b=some r)(hx:a=xs.map (λx=> .c (.sc x)))(hy:b=ys.map (λx=> .c (.sc x))):
  dv P (Op.equal t (.agg xs.toArray) (.agg ys.toArray))=some r:=by
 subst hx hy;have:=th P 8 9992 h (m9 ha) (m9 hb) (by rw[<-ur];exact he);unfold of at this;rw[hu] at this;exact this
end
section
open Go
def Ba(P:Program):List Field->Option (List (Nat×Nat×Bool))
 | [] =>some []
 |f::fs=>match nP P f.type,Ba P fs with
  |some ag,some l=>some ((f.offset,P.cellsOf f.type,ag)::l)
  | _,_=>none
def Bw(P:Program)(t:TypeId):Option (List (Nat×Nat×Bool)):=match P.underlying t with |some (.struct fs)=>Ba P fs.toList| _=>none
theorem tp{P:Program}: ∀ {fs:List Field} {l:List (Nat×Nat×Bool)},Ba P fs=some l-> ∀k,(fs[k]?).bind (λf=>(nP P f.type).map λag=>(f.offset,P.cellsOf f.type,ag))=fR l k
 | [],l,h,k=>by cases h;rfl
 |f::fs,l,h,k=>by
  unfold Ba at h;split at h
  ·rename_i ag l' h1 h2;cases h;cases k with
   |zero=>simp[h1,fR]
   |succ k=>show _=fR l' (k+1-1);rw[bI,<-tp h2 k,cb]
  ·cases h
theorem xF{P:Program}{t:TypeId}{l:List (Nat×Nat×Bool)}(h:Bw P t=some l)(k:Nat):u6 P t k=fR l k:=by
 unfold Bw at h;unfold u6;split at h
 ·rename_i fs hu;simp only[hu];rw[<-tp h k,cj]
 ·cases h
theorem yz(P:Program):dQ P [] :=λ_ _ h=>by cases h
theorem dz{P:Program}{t:Nat}{ti:TI}{l:ft}(h:ti.ok P t)(hl:dQ P l):dQ P ((t,ti)::l):=by
 intro u ui hu;unfold eT at hu;cases hb:Nat.beq t u with
 |true=>rw[hb] at hu;have:=ak hb;subst this;cases hu;exact h
 |false=>rw[hb] at hu;exact hl u ui hu
def Au(P:Program)(t:TypeId):Bool:=match P.underlying t with |some (.struct _)=>true| _=>false
section
variable {P:Program} {t:TypeId}
theorem hO{n:Sn}{fds:List (Nat×Nat×Bool)}{by':Nat}(h1:Au P t=true)(h2:P.cellsOf t=(Ty.st n).width)(h3:fE P 9 t=(Ty.st n).shs)(h4:kT P t=some (Ty.st n).zvs)(h5:Bw P t=some fds)
  (h6:AE P t=some (fds.map λx=>(x.1,x.2.1))) (h7: ((Ty.st n).flatB=true->P.eqGuardType P.depth t=false/\qp P 8 t (Ty.st n).zvs=true)) (hz: (Ty.st n).flatB=false-> ∀xs:List Value,eX (Ty.st n).zvs (xs.map λx=> .c (.sc x))=false):TI.ok P t ⟨.st n,0,fds,by'⟩:=by
 unfold Au at h1;split at h1
 case h_2=>cases h1
 rename_i fs hu;refine⟨?_,h2,h3,h4,xF h5,λ_=>h6,λe he=>(by cases he),λhb=>(by cases hb),λ_ hf=>(h7 hf).1,λ_ a b r xs ys ha hb he hx hy=> ?_,?_,λk hk=>(by cases hk),λk u hk=>(by cases hk)⟩
 ·simp[nP,hu,Ty.ag]
 ·cases hf: (Ty.st n).flatB with
  |true=>exact Al hu (h7 hf).2 a b r xs ys ha hb he hx hy
  |false=>subst hx;have:=hz hf xs;rw[show eX (Ty.st n).zvs _=true from ha] at this;cases this
 ·simp[lI,hu]
def BS(P:Program)(u:TypeId):Ty->Bool| .i k=>(match P.underlying u with |some (.int k')=>decide (k'=k)| _=>false)| _=>true
theorem i4{e:Ty}{el:Nat}{by':Nat}{u:TypeId}(h1:iv P t=some u)(h2:P.cellsOf t=1)(h4:kT P t=some [.slice none 0 0])(h5:P.cellsOf u=e.width)(h6:P.bytesOf u=el)(h7:Nat.blt 0 el=true)(h8:fE P 9 u=e.shs)(h9:kT P u=some e.zvs)(h10:BS P u e=true):TI.ok P t ⟨.ls e,el,[],by'⟩:=by
 have hu:P.underlying t=some (.slice u):=by
  unfold iv at h1;split at h1
  ·rename_i e hu;cases h1;exact hu
  ·cases h1
 refine⟨?_,h2,?_,h4,λk=> ?_,λh=>(by cases h),λe' he=> ?_,λhb=>(by cases hb),λh=>(by cases h),λh=>(by cases h),?_,λk hk=>(by cases hk),λk u' hk hu'=> ?_⟩
 ·simp[nP,hu,Ty.ag]
 ·simp[fE,hu,Ty.shs,Ty.csh,h5]
 ·simp[u6,hu,fR]
 ·cases he;exact⟨u,h1,h5,h6,aq h7,h8,h9⟩
 ·simp[lI,hu]
 ·cases hk;rw[h1] at hu';cases hu';unfold BS at h10;simp only at h10;split at h10
  ·rename_i k' hk';rw[hk',of_decide_eq_true h10]
  ·cases h10
def BT(P:Program)(t:TypeId)(y:Ty):Bool:=match P.underlying t,y with
 |some (.int k),.i k'=>decide (k=k')
 |some .bool,.b=>true
 |some .string,.s=>true
 | _,_=>false
theorem jT{y:Ty}{by':Nat}(h1:BT P t y=true)(h2:P.cellsOf t=1)(h4:kT P t=some y.zvs):TI.ok P t ⟨y,0,[],by'⟩:=by
 unfold BT at h1;split at h1
 ·rename_i k k' hu;refine⟨(by simp[nP,hu,Ty.ag]),h2,(by simp[fE,hu,Ty.shs,Ty.csh]),h4,λk=>(by simp[u6,hu,fR]),λh=>(by cases h),λe' he=>(by cases he),λhb=>(by cases hb),λh=>(by cases h),λh=>(by cases h),by simp[lI,hu],λq hq=>(by cases hq;rw[hu];simp only[decide_eq_true_eq] at h1;rw[h1]),λk u hk=>(by cases hk)⟩
 ·rename_i hu;refine⟨(by simp[nP,hu,Ty.ag]),h2,(by simp[fE,hu,Ty.shs,Ty.csh]),h4,λk=>(by simp[u6,hu,fR]),λh=>(by cases h),λe' he=>(by cases he),λhb=>hu,λh=>(by cases h),λh=>(by cases h),by simp[lI,hu],λq hq=>(by cases hq),λk u hk=>(by cases hk)⟩
 ·rename_i hu;refine⟨(by simp[nP,hu,Ty.ag]),h2,(by simp[fE,hu,Ty.shs,Ty.csh]),h4,λk=>(by simp[u6,hu,fR]),λh=>(by cases h),λe' he=>(by cases he),λhb=>(by cases hb),λh=>(by cases h),λh=>(by cases h),by simp[lI,hu],λq hq=>(by cases hq),λk u hk=>(by cases hk)⟩
 ·cases h1
end
theorem fv: ∀ {zs:List Value} (xs:List Value),zs.any (λz=>match z with | .int _ _=>false| .bool _=>false| _=>true)=true->eX zs (xs.map λx=> .c (.sc x))=false
 | [],xs,h=>by cases h
 |z::zs,xs,h=>by
  cases hb:eX (z::zs) (xs.map λx=> .c (.sc x)) with
  |false=>rfl
  |true=>
   exfalso;cases xs with
   |nil=>cases z<;>simp[eX] at hb
   |cons x xs=>
    cases z<;>simp only[eX,aK,aM] at hb
    all_goals cases x<;>simp only[eX,cond_eq_ite,aM] at hb
    ·rw[fv xs (by simpa using h)] at hb;cases hb
    ·split at hb
     ·rw[fv xs (by simpa using h)] at hb;cases hb
     ·cases hb
end
section
open Go
section
variable {σ ε:Type}
def kr(B:σ->Option (σ⊕ε)):Nat->σ->Option ε
 | 0,_=>none
 |n+1,s=>(B s).bind (Sum.elim (kr B n) some)
theorem lD(B:σ->Option (σ⊕ε)): ∀ {n m:Nat} {s:σ} {e:ε},n<=m->kr B n s=some e->kr B m s=some e
 | 0,_,_,_,_,h=>by cases h
 |n+1,0,_,_,hm,_=>by omega
 |n+1,m+1,s,e,hm,h=>by
  unfold kr at h ⊢;cases hB:B s with
  |none=>rw[hB] at h;cases h
  |some x=>
   rw[hB] at h;cases x with
   |inl s'=>exact lD B (by omega) h
   |inr e'=>exact h
theorem pi{p:Nat->Prop}(h: ∃n,p n): ∃n,p n/\ ∀m,p m->n<=m:=by
 obtain⟨n,hn⟩:=h
 induction n using Nat.strongRecOn with
 | _ n ih=>
   by_cases hx: ∃m,m<n/\p m
   ·obtain⟨m,hm,hp⟩:=hx;exact ih m hm hp
   ·exact⟨n,hn,λm hm=>Nat.le_of_not_lt λhlt=>hx ⟨m,hlt,hm⟩⟩
noncomputable def mh(B:σ->Option (σ⊕ε))(s:σ):Option ε:=open Classical in if h: ∃n,(kr B n s).isSome=true then kr B (Classical.choose h) s else none
noncomputable def zD(B:σ->Option (σ⊕ε))(s:σ):Nat:=open Classical in if h: ∃n,(kr B n s).isSome=true then Classical.choose (pi h) else 0
theorem jh{B:σ->Option (σ⊕ε)}{s:σ}{e:ε}:mh B s=some e↔ ∃n,kr B n s=some e:=by
 classical
 constructor
 ·intro h;unfold mh at h;split at h
  ·rename_i hx;exact⟨_,h⟩
  ·cases h
 ·rintro⟨n,h⟩
  have hx: ∃n,(kr B n s).isSome=true:=⟨n,by rw[h];rfl⟩
  unfold mh;rw[dif_pos hx];obtain⟨e',he⟩:=aV.1 (Classical.choose_spec hx);have h1:=lD B (Nat.le_max_left (Classical.choose hx) n) he;have h2:=lD B (Nat.le_max_right (Classical.choose hx) n) h;rw[h1] at h2;cases h2;exact he
theorem jg(B:σ->Option (σ⊕ε))(s:σ):mh B s=(B s).bind (Sum.elim (mh B) some):=by
 apply Option.ext;intro e;rw[jh];constructor
 ·rintro⟨n,h⟩
  cases n with
  |zero=>cases h
  |succ n=>
   unfold kr at h;cases hB:B s with
   |none=>rw[hB] at h;cases h
   |some x=>
    rw[hB] at h;cases x with
    |inl s'=>exact jh.2 ⟨n,h⟩
    |inr e'=>exact h
 ·intro h;cases hB:B s with
  |none=>rw[hB] at h;cases h
  |some x=>
   rw[hB] at h;cases x with
   |inl s'=>obtain⟨n,h⟩:=jh.1 (show mh B s'=some e from h);exact⟨n+1,by unfold kr;rw[hB];exact h⟩
   |inr e'=>exact⟨1,by unfold kr;rw[hB];exact h⟩
theorem uG(B:σ->Option (σ⊕ε))(s:σ)(e:ε)(h:mh B s=some e):ve (mh B) (zD B) s e (B s):=by
 classical
 have h0:=h;rw[jg] at h;cases hB:B s with
 |none=>rw[hB] at h;cases h
 |some x=>
  rw[hB] at h;cases x with
  |inl s'=>
   refine⟨?_,h⟩
   have hx: ∃n,(kr B n s).isSome=true:=by obtain⟨n,hn⟩:=jh.1 h0;exact⟨n,by rw[hn];rfl⟩
   have hx': ∃n,(kr B n s').isSome=true:=by obtain⟨n,hn⟩:=jh.1 (show mh B s'=some e from h);exact⟨n,by rw[hn];rfl⟩
   unfold zD;rw[dif_pos hx,dif_pos hx'];have:=(Classical.choose_spec (pi hx)).1;cases hn:Classical.choose (pi hx) with
   |zero=>rw[hn] at this;cases this
   |succ n=>rw[hn] at this;unfold kr at this;rw[hB] at this;exact Nat.lt_succ_of_le ((Classical.choose_spec (pi hx')).2 n this)
  |inr e'=>exact (Option.some.inj h)
end
inductive js where
 |ty (t:Ty)|pr (t:Ty)|fc (g:Nat)|fn (g:Nat) (caps:List Ty)|nl
abbrev js.D:js->Type
 | .ty t=>t.D
 | .pr t=>t.D
 | .fc _=>Unit
 | .fn _ caps=>fG.D caps
 | .nl=>Unit
abbrev fQ.D:List js->Type
 | [] =>Unit
 |p::l=>p.D×fQ.D l
def o4: (l:List Ty)->fG.D l->List Cl
 | [],_=> []
 |t::l,x=> .pro (t.flat x.1)::o4 l x.2
def js.v1: (p:js)->p.D->V1
 | .ty t,x=>sZ t x
 | .pr t,x=> .cl (.pro (t.flat x))
 | .fc g,_=> .cl (.c (.sc (.func (.func g) #[] #[])))
 | .fn g caps,x=> .fn g (o4 caps x)
 | .nl,_=> .cl .em
def fk: (l:List js)->fQ.D l->List V1
 | [],_=> []
 |p::l,x=>p.v1 x.1::fk l x.2
def yA{ρ:Type}(t:Ty)(c:Cl)(κ:t.D->Option ρ):Option ρ:=match c with
 | .pro xs=>(match t.unflat xs with |some x=>κ x|none=>none)
 | _=>none
def lJ{ρ:Type}: (l:List Ty)->List Cl->(fG.D l->Option ρ)->Option ρ
 | [],[],κ=>κ ()
 |t::l,c::cs,κ=>yA t c λx=>lJ l cs λy=>κ (x,y)
 | _,_,_=>none
def BI{ρ:Type}: (t:Ty)->V1->(t.D->Option ρ)->Option ρ
 | .ls _,.cl .em,κ=>κ []
 |t,a,κ=>un t a κ
def BJ{ρ:Type}: (p:js)->V1->(p.D->Option ρ)->Option ρ
 | .ty t,a,κ=>BI t a κ
 | .pr t,.cl c,κ=>yA t c κ
 | .fc g,.cl (.c (.sc (.func (.func g') cs ts))),κ=>bif Nat.beq g' g&&Nat.beq cs.size 0&&Nat.beq ts.size 0 then κ () else none
 | .fn g caps,.fn g' cs,κ=>bif Nat.beq g' g then lJ caps cs κ else none
 | .nl,.cl .em,κ=>κ ()
 | _,_,_=>none
def pQ{ρ:Type}: (l:List js)->List V1->(fQ.D l->Option ρ)->Option ρ
 | [],[],κ=>κ ()
 |p::l,a::as,κ=>BJ p a λx=>pQ l as λy=>κ (x,y)
 | _,_,_=>none
def uq(ps:List js)(rs:List Ty)(G:fQ.D ps->Option (fG.D rs)):uY:=λargs _ κ=>pQ ps args λx=>(G x).bind λy=>ret (fo rs y) κ
theorem oM{ρ:Type}{t:Ty}{c:Cl}{κ:t.D->Option ρ}{r:ρ}(h:yA t c κ=some r): ∃x,c= .pro (t.flat x)/\κ x=some r:=by
 unfold yA at h;split at h
 ·split at h
  ·rename_i x hx;exact⟨x,by rw[t.unflat_some _ _ hx],h⟩
  ·cases h
 ·cases h
theorem l6{ρ:Type}: ∀ {l:List Ty} {cs:List Cl} {κ:fG.D l->Option ρ} {r:ρ},lJ l cs κ=some r-> ∃x,cs=o4 l x/\κ x=some r
 | [],[],κ,r,h=>⟨(),rfl,h⟩
 |t::l,c::cs,κ,r,h=>by unfold lJ at h;obtain⟨x,h1,h⟩:=oM h;obtain⟨y,h2,h⟩:=l6 h;exact⟨(x,y),by rw[h1,h2];rfl,h⟩
 | [],_::_,κ,r,h=>by simp[lJ] at h
 | _::_,[],κ,r,h=>by simp[lJ] at h
theorem wK{ρ:Type}{t:Ty}{a:V1}{κ:t.D->Option ρ}{r:ρ}(h:BI t a κ=some r): ∃x,(a.av=(sZ t x).av\/(a.av= .em/\ ∃s,(sZ t x).av= .ro s []))/\κ x=some r:=by
 unfold BI at h;split at h
 ·exact⟨[],.inr ⟨rfl,_,rfl⟩,h⟩
 ·obtain⟨x,e,h'⟩:=un_some h;exact⟨x,.inl (by rw[e]),h'⟩
theorem wL{ρ:Type}{p:js}{a:V1}{κ:p.D->Option ρ}{r:ρ}(h:BJ p a κ=some r): ∃x,(a.av=(p.v1 x).av\/(a.av= .em/\ ∃s,(p.v1 x).av= .ro s []))/\κ x=some r:=by
 unfold BJ at h;split at h
 ·exact wK h
 ·obtain⟨x,h1,h⟩:=oM h;exact⟨x,.inl (by rw[h1];rfl),h⟩
 ·obtain⟨h1,h⟩:=dj h;simp only[aj] at h1;obtain⟨⟨h1,h2⟩,h3⟩:=h1;have h1:=ak h1;have h2:=b8 (ak h2);have h3:=b8 (ak h3);exact⟨(),.inl (by rw[h1,h2,h3];rfl),h⟩
 ·obtain⟨h1,h⟩:=dj h;obtain⟨x,h2,h⟩:=l6 h;exact⟨x,.inl (by rw[ak h1,h2];rfl),h⟩
 ·exact⟨(),.inl rfl,h⟩
 ·cases h
theorem fF{ρ:Type}: ∀ {l:List js} {as:List V1} {κ:fQ.D l->Option ρ} {r:ρ},pQ l as κ=some r-> ∃x,rI (as.map V1.av) ((fk l x).map V1.av)/\κ x=some r
 | [],[],κ,r,h=>⟨(),rI.refl _,h⟩
 |p::l,a::as,κ,r,h=>by unfold pQ at h;obtain⟨x,h1,h⟩:=wL h;obtain⟨y,h2,h⟩:=fF h;exact⟨(x,y),rI.cons h1 h2,h⟩
 | [],_::_,κ,r,h=>by simp[pQ] at h
 | _::_,[],κ,r,h=>by simp[pQ] at h
theorem oo(G:List (Option dw)): ∀ (l:List Ty) (x:fG.D l),∀c∈o4 l x,c.ok G
 | [],x,c,h=>by cases h
 |t::l,x,c,h=>by
  rcases aU.1 h with rfl|h
  ·trivial
  ·exact oo G l x.2 c h
theorem js.ok(p:js)(x:p.D): (p.v1 x).ok [] :=by
 cases p with
 |ty t=>exact zh t x
 |pr t=>trivial
 |fc g=>trivial
 |fn g caps=>exact oo [] caps x
 |nl=>trivial
theorem iu: ∀ (l:List js) (x:fQ.D l),∀a∈fk l x,a.ok []
 | [],x,a,h=>by cases h
 |p::l,x,a,h=>by
  rcases aU.1 h with rfl|h
  ·exact p.ok x.1
  ·exact iu l x.2 a h
section
theorem xw[dp]{P:Program}{Θ:ft}{Y:kA}{Λ:fH}(hΘ:dQ P Θ)(hY:eV P Y)(hm:P.follows .mixedOrders=true){f:FuncId}{fn:Func}(hf:pR P f=some fn)(hL: ∀c,fn.body=some c->eg P Λ (dK c)){ps:List js}{rs:List Ty}{G:fQ.D ps->Option (fG.D rs)}(hk:Nat.blt f 1048576=true)
  (F:fQ.D ps->Option (fG.D rs)) (hF: ∀x,Bb Θ Y Λ fn (fk ps x) (λv g=>some (v,g))=(F x).bind λy=>ret (fo rs y) (λv g=>some (v,g))) (hG: ∀x y,G x=some y->F x=some y):mu P f (uq ps rs G):=by
 intro args ρ κ r hr;unfold uq at hr;obtain⟨x,hn,hr2⟩:=fF hr;obtain⟨y,h1,hr3⟩:=af.1 hr2;exact⟨_,_,.of_fn (gy.norm hn (zp hΘ hY hm hf hL (iu ps x) (by rw[hF,hG x y h1];rfl))) (aq hk),sC _,hr3⟩
def zl(el:Ty)(ps:List js)(rs:List Ty)(G:List el.D->fQ.D ps->Option (fG.D rs)):uY:=λargs _ κ=>match args with
 | .cl (.c (.ls t l))::as=>(match jb t el l with
   |some l=>pQ ps as λx=>(G l x).bind λy=>ret (fo rs y) κ
   |none=>none)
 | _=>none
def wm{ρ:Type}(el:Ty)(rs:List Ty)(y:List el.D×fG.D rs)(κ:V->List dw->Option ρ):Option ρ:=κ (pA (jS 1 (fo rs y.2))) (⟨el,y.1,none⟩::iX (fo rs y.2))
def qo(el:Ty)(ps:List js)(rs:List Ty)(G:List el.D->fQ.D ps->Option (List el.D×fG.D rs)):uY:=λargs _ κ=>match args with
 | .cl (.c (.ls t l))::as=>(match jb t el l with
   |some l=>pQ ps as λx=>(G l x).bind λy=>wm el rs y κ
   |none=>none)
 | _=>none
theorem xt[dp]{P:Program}{Θ:ft}{Y:kA}{Λ:fH}{f:FuncId}(hk:Nat.blt f 1048576=true)(hΘ:dQ P Θ)(hY:eV P Y)(hm:P.follows .mixedOrders=true){fn:Func}(hf:pR P f=some fn)(hL: ∀c,fn.body=some c->eg P Λ (dK c)){el:Ty}{ps:List js}{rs:List Ty}{G:List el.D->fQ.D ps->Option (fG.D rs)}
  (F:List el.D->fQ.D ps->Option (fG.D rs)) (hF: ∀l x,vA Θ Y Λ fn 0 el l (fk ps x) (λv g=>some (v,g))=(F l x).bind λy=>ret (fo rs y) (λv g=>some (v,g))) (hG: ∀l x y,G l x=some y->F l x=some y):mu P (n9 f) (zl el ps rs G):=by
 intro args ρ κ r hr;unfold zl at hr;split at hr
 ·rename_i t l as;split at hr
  ·rename_i l' hl;obtain⟨e,hl⟩:=dV hl;subst e;have hl:l=l':=hl;subst hl;obtain⟨x,hn,hr2⟩:=fF hr;obtain⟨y,h1,hr3⟩:=af.1 hr2;exact⟨_,_,.of_mv ⟨.ls _,l,_,rfl,ew.norm (rI.cons (.inl rfl) hn) (tB hΘ hY hm hf hL (bL 1) (iu ps x) (by rw[hF,hG l x y h1];rfl))⟩ (aq hk),sC _,hr3⟩
  ·cases hr
 ·cases hr
theorem pF(el:Ty)(l:List el.D)(ys:List ((t:Ty)×t.D)): (pA (jS 1 ys)).ok ((⟨el,l,none⟩::iX ys).map some):=by
 have h:=nr ys [⟨el,l,none⟩];simp only[cm,List.singleton_append] at h
 match jS 1 ys,h with
 | [],_=>exactλx hx=>by cases hx
 | [v],h=>exact h v aF
 |v::u::vs,h=>exact h
theorem xq[dp]{P:Program}{Θ:ft}{Y:kA}{Λ:fH}(hΘ:dQ P Θ)(hY:eV P Y)(hm:P.follows .mixedOrders=true){f:FuncId}{fn:Func}(hf:pR P f=some fn)(hL: ∀c,fn.body=some c->eg P Λ (dK c)){el:Ty}{ps:List js}{rs:List Ty}{G:List el.D->fQ.D ps->Option (List el.D×fG.D rs)}(hk:Nat.blt f 1048576=true)
  (F:List el.D->fQ.D ps->Option (List el.D×fG.D rs)) (hF: ∀l x,vA Θ Y Λ fn 1 el l (fk ps x) (λv g=>some (v,g))=(F l x).bind λy=>wm el rs y (λv g=>some (v,g))) (hG: ∀l x y,G l x=some y->F l x=some y):mu P (l9 f) (qo el ps rs G):=by
 intro args ρ κ r hr;unfold qo at hr;split at hr
 ·rename_i t l as;split at hr
  ·rename_i l' hl;obtain⟨e,hl⟩:=dV hl;subst e;have hl:l=l':=hl;subst hl;obtain⟨x,hn,hr2⟩:=fF hr;obtain⟨y,h1,hr3⟩:=af.1 hr2;exact⟨_,_,.of_io ⟨.ls _,l,_,rfl,ew.norm (rI.cons (.inl rfl) hn) (tB hΘ hY hm hf hL (au 1) (iu ps x) (by rw[hF,hG l x y h1];rfl))⟩ (aq hk),pF _ _ (fo rs y.2),hr3⟩
  ·cases hr
 ·cases hr
theorem xx[dp]{P:Program}{Θ:ft}{Y:kA}{Λ:fH}(hΘ:dQ P Θ)(hY:eV P Y)(hm:P.follows .mixedOrders=true){f:FuncId}{fn:Func}(hf:pR P f=some fn)(hL: ∀c,fn.body=some c->eg P Λ (dK c)){el:Ty}{ps:List js}{rs:List Ty}{G:List el.D->fQ.D ps->Option (List el.D×fG.D rs)}(hk:Nat.blt f 1048576=true)
  (F:List el.D->fQ.D ps->Option (List el.D×fG.D rs)) (hF: ∀l x,zq Θ Y Λ fn el l (fk ps x) (λv g=>some (v,g))=(F l x).bind λy=>wm el rs y (λv g=>some (v,g))) (hG: ∀l x y,G l x=some y->F l x=some y):mu P (np f) (qo el ps rs G):=by
 intro args ρ κ r hr;unfold qo at hr;split at hr
 ·rename_i t l as;split at hr
  ·rename_i l' hl;obtain⟨e,hl⟩:=dV hl;subst e;have hl:l=l':=hl;subst hl;obtain⟨x,hn,hr2⟩:=fF hr;obtain⟨y,h1,hr3⟩:=af.1 hr2;exact⟨_,_,.of_pt ⟨_,l,_,rfl,ew.norm (rI.cons (.inl rfl) hn) (xJ hΘ hY hm hf hL (iu ps x) (by rw[hF,hG l x y h1];rfl))⟩ (aq hk),pF _ _ (fo rs y.2),hr3⟩
  ·cases hr
 ·cases hr
def BC{ρ:Type}(el:Ty)(rs:List Ty)(y:List el.D×fG.D rs)(κ:V->List dw->Option ρ):Option ρ:=κ (pA (.cl (.ptrT ⟨0,[]⟩ el.width 0 0)::jS 1 (fo rs y.2))) (⟨el,y.1,none⟩::iX (fo rs y.2))
def Aj(el:Ty)(ps:List js)(rs:List Ty)(G:fQ.D ps->Option (List el.D×fG.D rs)):uY:=λargs _ κ=>pQ ps args λx=>(G x).bind λy=>BC el rs y κ
end
def fU(fn:Func):Code:=match fn.body with |some c=>c|none=> .skip
def zE(c:Code)(n:Nat):Code:=(fR (dK c) n).getD .skip
theorem Aq[dp]{P:Program}{Λ:fH}{fn:Func}{cs:List Code}(h:dK (fU fn)=cs)(H:eg P Λ cs)(c:Code)(hc:fn.body=some c):eg P Λ (dK c):=by
 have :fU fn=c:=by unfold fU;rw[hc]
 rw[<-this,h];exact H
end
section
open Go
inductive Kc where|i (k:IntKind)|b|s|h|ls (t:Ty)
 deriving DecidableEq
def uF:List (Option Ty)->List Value->List Kc
 |some t::l,_::m=> .ls t::uF l m
 |none::l,.int k _::m=> .i k::uF l m
 |none::l,.bool _::m=> .b::uF l m
 |none::l,.nilFunc::m=> .h::uF l m
 |none::l,_::m=> .s::uF l m
 | _,_=> []
def Ty.kc(t:Ty):List Kc:=uF t.csh t.zvs
def gC:List Kc->List C->Prop
 | [],[] =>True
 | .i k::l,c::m=>(∃n,c= .sc (.int k n))/\gC l m
 | .b::l,c::m=>(∃v,c= .sc (.bool v))/\gC l m
 | .s::l,c::m=>(∃v,c= .sc (.string v))/\gC l m
 | .h::l,c::m=>(∃v:Hd,c= .sc (.slice v.a v.n v.c))/\gC l m
 | .ls t::l,c::m=>(∃v,c= .ls t v)/\gC l m
 | _,_=>False
theorem jw{cs:List C}(h:gC [] cs):cs= [] :=by cases cs with |nil=>rfl|cons=>exact h.elim
theorem yL{k:IntKind}{l:List Kc}{cs:List C}(h:gC (.i k::l) cs): ∃n r,cs= .sc (.int k n)::r/\gC l r:=by
 cases cs with
 |nil=>exact h.elim
 |cons c r=>obtain⟨⟨n,rfl⟩,h⟩:=h;exact⟨n,r,rfl,h⟩
theorem yJ{l:List Kc}{cs:List C}(h:gC (.b::l) cs): ∃n r,cs= .sc (.bool n)::r/\gC l r:=by
 cases cs with
 |nil=>exact h.elim
 |cons c r=>obtain⟨⟨n,rfl⟩,h⟩:=h;exact⟨n,r,rfl,h⟩
theorem yN{l:List Kc}{cs:List C}(h:gC (.s::l) cs): ∃n r,cs= .sc (.string n)::r/\gC l r:=by
 cases cs with
 |nil=>exact h.elim
 |cons c r=>obtain⟨⟨n,rfl⟩,h⟩:=h;exact⟨n,r,rfl,h⟩
theorem yK{l:List Kc}{cs:List C}(h:gC (.h::l) cs): ∃ (n:Hd) (r:List C),cs= .sc (.slice n.a n.n n.c)::r/\gC l r:=by
 cases cs with
 |nil=>exact h.elim
 |cons c r=>obtain⟨⟨n,rfl⟩,h⟩:=h;exact⟨n,r,rfl,h⟩
theorem yM{t:Ty}{l:List Kc}{cs:List C}(h:gC (.ls t::l) cs): ∃n r,cs= .ls t n::r/\gC l r:=by
 cases cs with
 |nil=>exact h.elim
 |cons c r=>obtain⟨⟨n,rfl⟩,h⟩:=h;exact⟨n,r,rfl,h⟩
theorem oO(t:Ty){cs:List C}(h:gC t.kc cs): ∃x,t.flat x=cs:=by
 have : (t.unflat cs).isSome=true:=by
  cases t with
  |st n=>
   cases n
   all_goals
    repeat ((first |replace h:=yL h|replace h:=yJ h|replace h:=yM h|replace h:=yN h|replace h:=yK h);obtain⟨_,_,rfl,h⟩:=h)
    cases jw h;rfl
  |i k=>replace h:=yL h;obtain⟨_,_,rfl,h⟩:=h;cases jw h;simp[Ty.unflat,gI,gN]
  |b=>replace h:=yJ h;obtain⟨_,_,rfl,h⟩:=h;cases jw h;rfl
  |h=>replace h:=yK h;obtain⟨_,_,rfl,h⟩:=h;cases jw h;rfl
  |s=>replace h:=yN h;obtain⟨_,_,rfl,h⟩:=h;cases jw h;rfl
  |ls u=>replace h:=yM h;obtain⟨_,_,rfl,h⟩:=h;cases jw h;simp[Ty.unflat,gL,gN]
 obtain⟨x,hx⟩:=aV.1 this;exact⟨x,t.unflat_some _ _ hx⟩
inductive T.bd:T->Prop where
 |int {k:IntKind} {n:Int} (h:k.min<=n/\n<=k.max):T.bd (.sc (.int k n))
 |bool (v:Bool):T.bd (.sc (.bool v))
 |str (v:ByteArray):T.bd (.sc (.string v))
 |sl {sz:Nat} {rows:List (List T)} (hl:rows.length<=maxLen) (h: ∀r∈rows,∀x∈r,T.bd x):T.bd (.sl sz rows)
def Bo(t:Ty)(x:t.D):Prop:=∀y∈t.row x,T.bd y
def pO(P:Program)(e:TypeId->List Kc->Bool):List Field->Nat->List Kc->Bool
 | [],_,[] =>true
 | [],_,_::_=>false
 |f::fs,off,ks=>Nat.beq f.offset off&&Nat.ble (P.cellsOf f.type) ks.length&&e f.type (ks.take (P.cellsOf f.type))&&pO P e fs (off+P.cellsOf f.type) (ks.drop (P.cellsOf f.type))
def l5(P:Program)(Θ:ft):Nat->TypeId->List Kc->Bool
 | 0,_,_=>false
 |d+1,t,ks=>match P.underlying t with
  |some (.int k)=>decide (ks= [.i k])
  |some .bool=>decide (ks= [.b])
  |some (.slice e)=>(match eT Θ e with
   |some ti=>decide (ks= [.ls ti.ty])&&l5 P Θ d e ti.ty.kc&&Nat.beq (P.cellsOf e) ti.ty.width&&Nat.blt 0 ti.ty.width
   |none=>false)
  |some (.struct fs)=>pO P (l5 P Θ d) fs.toList 0 ks&&Nat.beq (P.cellsOf t) ks.length
  | _=>false
theorem qw: ∀ {k l:List Kc} {cs ds:List C},gC k cs->gC l ds->gC (k++l) (cs++ds)
 | [],l,[],ds,_,h=>h
 | [],_,_::_,_,h,_=>h.elim
 |a::k,_,[],_,h,_=>by cases a<;>exact h.elim
 |a::k,l,c::cs,ds,h,h2=>by cases a<;>exact⟨h.1,qw h.2 h2⟩
theorem lU: ∀ {k:List Kc} {cs:List C},gC k cs->cs.length=k.length
 | [],[],_=>rfl
 | [],_::_,h=>h.elim
 |a::k,[],h=>by cases a<;>exact h.elim
 |a::k,c::cs,h=>by cases a<;>simp[lU h.2]
section
variable {H:Type} {enc:TypeId×Value->H} {P:Program} {w:World} {base:Nat} {sp:Nat->Bool} {held:Bool} {Θ:ft}
structure Cs (w:World) (cs:List Value) (Xs:List C):Prop where
 len:Xs.length=cs.length
 one: ∀u∈cs,u.oneCell'=true
 ro: ∀ (k:Nat) (c:C) (u:Value),Xs[k]? =some c->cs[k]? =some u->RO w (λb=>b<w.heap.size) c.tree u
 bd: ∀c∈Xs,T.bd c.tree
theorem Cs.nil:Cs w [] [] :=⟨rfl,λ_ h=>(by cases h),λ_ _ _ h=>(by cases h),λ_ h=>(by cases h)⟩
theorem Cs.one_mk{u:Value}{c:C}(h1:u.oneCell'=true)(h2:RO w (λb=>b<w.heap.size) c.tree u)(h3:T.bd c.tree):Cs w [u] [c] :=by
 refine⟨rfl,λv hv=> ?_,λk c' u' hk hu=> ?_,λc' hc=> ?_⟩
 ·rw[aH.1 hv];exact h1
 ·cases k with
  |zero=>cases hk;cases hu;exact h2
  |succ k=>simp at hk
 ·rw[aH.1 hc];exact h3
theorem Cs.app{cs ds:List Value}{Xs Ys:List C}(h:Cs w cs Xs)(k:Cs w ds Ys):Cs w (cs++ds) (Xs++Ys):=by
 refine⟨by rw[bH,bH,h.len,k.len],λu hu=> ?_,λj c u hj hu=> ?_,λc hc=> ?_⟩
 ·rcases bq.1 hu with hu|hu
  ·exact h.one u hu
  ·exact k.one u hu
 ·by_cases hlt:j<Xs.length
  ·rw[aQ hlt] at hj;rw[aQ (by rw[<-h.len];exact hlt)] at hu;exact h.ro j c u hj hu
  ·rw[aY (by omega)] at hj;rw[aY (by rw[<-h.len];omega),<-h.len] at hu;exact k.ro _ c u hj hu
 ·rcases bq.1 hc with hc|hc
  ·exact h.bd c hc
  ·exact k.bd c hc
theorem pP(hΘ:dQ P Θ): ∀ (d:Nat) {t:TypeId} {ks:List Kc} {n:Nat} {cs:List Value} {y:DataW H×List MemPlace},l5 P Θ d t ks=true->DataW.trod enc P w base sp held n t cs=some y-> ∃Xs:List C,gC ks Xs/\Cs w cs Xs
 | 0,t,ks,n,cs,y,hb,_=>by cases hb
 |d+1,t,ks,n,cs,y,hb,h=>by
  unfold l5 at hb;split at hb
  ·rename_i k hu;have:=of_decide_eq_true hb;subst this;obtain⟨v,rfl,_,hw⟩:=DataW.trod_int hu h;simp only[Lit.wf,aj,decide_eq_true_eq] at hw;exact⟨[.sc (.int k v)],⟨⟨v,rfl⟩,trivial⟩,Cs.one_mk rfl (.sc rfl) (.int hw)⟩
  ·rename_i hu;have:=of_decide_eq_true hb;subst this;obtain⟨v,rfl,_⟩:=DataW.trod_bool hu h;exact⟨[.sc (.bool v)],⟨⟨v,rfl⟩,trivial⟩,Cs.one_mk rfl (.sc rfl) (.bool v)⟩
  ·rename_i e hu;split at hb
   ·rename_i ti hti;simp only[aj,decide_eq_true_eq] at hb;obtain⟨⟨⟨rfl,hb⟩,hw⟩,hpos⟩:=hb;have hw:=ak hw;have hpos:0<ti.ty.width:=aq hpos;rcases Go.Deep.open_slice hu h with ⟨rfl,_⟩| ⟨ad,len,cap,m,n',D,Pl,rfl,_,hl,hm,hmm,_,hx⟩
    ·exact⟨[.ls ti.ty []],⟨⟨[],rfl⟩,trivial⟩,Cs.one_mk rfl (.em _ _ _) (.sl (bL _) λr hr=>by cases hr)⟩
    ·have hlm:len<=m:=by rw[hmm];split<;>omega
     have each: ∀i:Fin len,∃z:ti.ty.D,∃cs',w.cells? base (ad.add (i.1*P.cellsOf e)) (P.cellsOf e)=some cs'/\Cs w cs' (ti.ty.flat z):=by intro i;obtain⟨cs',h1,h2⟩:=hx i.1 (by have:=i.2;omega);obtain⟨Xs,h3,h4⟩:=pP hΘ d hb h2;obtain⟨z,rfl⟩:=oO _ h3;exact⟨z,cs',h1,h4⟩
     let l:List ti.ty.D:=List.ofFn λi=>(each i).choose
     have hll:l.length=len:=by simp[l]
     have row: ∀ (i:Nat) (r:List T),(l.map ti.ty.row)[i]? =some r-> ∃hi:i<len,∃cs',w.cells? base (ad.add (i*P.cellsOf e)) (P.cellsOf e)=some cs'/\ ∃z,r=(ti.ty.flat z).map C.tree/\Cs w cs' (ti.ty.flat z):=by
      intro i r hr;rw[ap,ai] at hr;obtain⟨z,hz,rfl⟩:=hr;obtain⟨h1,h2⟩:=ah.1 hz;have hi:i<len:=by rw[hll] at h1;exact h1
      refine⟨hi,(each ⟨i,hi⟩).choose_spec.choose,(each ⟨i,hi⟩).choose_spec.choose_spec.1,z,ti.ty.row_flat z,?_⟩;have e1:z=(each ⟨i,hi⟩).choose:=by rw[<-h2];simp[l]
      rw[e1];exact (each ⟨i,hi⟩).choose_spec.choose_spec.2
     refine⟨[.ls ti.ty l],⟨⟨l,rfl⟩,trivial⟩,Cs.one_mk rfl ?_ ?_⟩
     ·show RO w _ (.sl ti.ty.width (l.map ti.ty.row)) _;by_cases h0:len=0
      ·have :l= [] :=cP.1 (by rw[hll,h0]);rw[this,h0];exact .em _ _ _
      ·have hlr: (l.map ti.ty.row).length=len:=by rw[aD,hll]
       have hlen: ∀ (i:Nat) (r:List T),(l.map ti.ty.row)[i]? =some r->r.length=ti.ty.width:=by intro i r hr;obtain⟨hi,cs',h1,z,rfl,h2⟩:=row i r hr;obtain⟨_,h3,_⟩:=World.cells?_some h1;rw[aD,h2.len,h3,hw]
       have hcell: ∀ (i:Nat) (r:List T) (j:Nat) (x:T),(l.map ti.ty.row)[i]? =some r->r[j]? =some x-> ∃u,w.cell? (ad.add (i*ti.ty.width+j))=some u/\RO w (λb=>b<w.heap.size) x u:=by
        intro i r j x hr hx;obtain⟨hi,cs',h1,z,rfl,h2⟩:=row i r hr;obtain⟨_,h3,h4⟩:=World.cells?_some h1;rw[ap,ai] at hx;obtain⟨c,hc,rfl⟩:=hx;have hj:j<cs'.length:=by rw[<-h2.len];exact (ah.1 hc).1
        refine⟨cs'[j],?_,h2.ro j c _ hc (an hj)⟩;rw[<-Go.Deep.add_add,<-hw,h4 j (by omega),an hj]
       have hne: ∃u,w.cell? ad=some u:=by
        obtain⟨r,hr⟩: ∃r,(l.map ti.ty.row)[0]? =some r:=⟨_,an (by omega)⟩
        have h5:=hlen 0 r hr;obtain⟨x,hx⟩: ∃x,r[0]? =some x:=⟨_,an (by omega)⟩
        obtain⟨u,hu',_⟩:=hcell 0 r 0 x hr hx;simp only[bN,aL,Addr.add,if_true] at hu';exact⟨u,hu'⟩
       obtain⟨u0,hu0⟩:=hne;rw[<-hlr];refine .sl (λi j=>((w.cell? (ad.add (i*ti.ty.width+j))).getD undef)) (by omega) ?_ (World.block_lt_of_cell? w _ hu0) hlen ?_ ?_
       ·cases hsp:ad.spot with
        |none=>rfl
        |some s=>
         unfold World.cell? at hu0;rw[hsp] at hu0;split at hu0
         ·simp at hu0
         ·cases hu0
       ·intro i r j x hr hx;obtain⟨u,h1,_⟩:=hcell i r j x hr hx;rw[h1];rfl
       ·intro i r j x hr hx;obtain⟨u,h1,h2⟩:=hcell i r j x hr hx;rw[h1];exact h2
     ·refine .sl (by rw[aD,hll];unfold maxLen at hm ⊢;omega) λr hr x hx=> ?_;obtain⟨i,hi⟩:=List.getElem?_of_mem hr;obtain⟨_,cs',_,z,rfl,h2⟩:=row i r hi;obtain⟨c,hc,rfl⟩:=aB.1 hx;exact h2.bd c hc
   ·cases hb
  ·rename_i fs hu;simp only[aj] at hb;obtain⟨hb,hkl0⟩:=hb;have hkl0:=ak hkl0;obtain⟨xs,m,_,_,hl,hlen,hf⟩:=DataW.trod_struct hu h
   have eU: ∀ (gs:List Field) (off i0:Nat) (ks:List Kc),pO P (l5 P Θ d) gs off ks=true->(∀ (i:Nat) (f:Field),gs[i]? =some f->fs[i0+i]? =some f)-> ∃Xs:List C,gC ks Xs/\Cs w ((cs.drop off).take ks.length) Xs/\off+ks.length<=max off cs.length:=by
    intro gs
    induction gs with
    |nil=>
     intro off i0 ks hk _;cases ks with
     |nil=>exact⟨[],trivial,by simpa using Cs.nil,by simp;omega⟩
     |cons=>cases hk
    |cons f gs ih=>
     intro off i0 ks hk hg;simp only[pO,aj] at hk;obtain⟨⟨⟨ho,hle⟩,h1⟩,h2⟩:=hk;have ho:=ak ho;have hle:P.cellsOf f.type<=ks.length:=aq hle;have hfi:fs[i0]? =some f:=by have:=hg 0 f rfl;simpa using this
     have hi0:i0<xs.length:=by rw[hlen];exact (ay.1 hfi).1
     have h3:=hf i0 f hfi;rw[an hi0,ho] at h3;obtain⟨Xs,k1,k2⟩:=pP hΘ d h1 h3;obtain⟨Ys,k3,k4,k5⟩:=ih (off+P.cellsOf f.type) (i0+1) _ h2 (λi g hgi=>by have:=hg (i+1) g hgi;rw[show i0+1+i=i0+(i+1) by omega];exact this);have hkl:=lU k1;have hcl:=k2.len;rw[cH,cd,hkl,cH] at hcl;have hq:P.cellsOf f.type<=cs.length-off:=by omega
     refine⟨Xs++Ys,?_,?_,?_⟩
     ·have:=qw k1 k3
      rwa [List.take_append_drop] at this
     ·have hsplit: (cs.drop off).take ks.length=((cs.drop off).take (P.cellsOf f.type))++((cs.drop (off+P.cellsOf f.type)).take (ks.drop (P.cellsOf f.type)).length):=by
       rw[cd,<-cc];have :ks.length=P.cellsOf f.type+(ks.length-P.cellsOf f.type):=by omega
       conv=>lhs;rw[this]
       exact List.take_add
      rw[hsplit];exact k2.app k4
     ·rw[cd] at k5;omega
   obtain⟨Xs,k1,k2,k3⟩:=eU fs.toList 0 0 ks hb (λi f hi=>by rw[cj] at hi;simpa using hi);refine⟨Xs,k1,?_⟩
   have hfull: (cs.drop 0).take ks.length=cs:=by rw[ct];exact bS (by omega)
   rwa [hfull] at k2
  ·cases hb
end
end
section
open Go Go.ChangeShapes Go.WideShapes Go.RowKit
def BO: (l:List Ty)->fQ.D (l.map .ty)->Prop
 | [],_=>True
 |t::l,x=>Bo t x.1/\BO l x.2
def ye(P:Program)(Θ:ft)(t:TypeId)(τ:Ty):Bool:=l5 P Θ 9 t τ.kc&&(match eT Θ t with |some ti=>decide (ti.ty=τ)|none=>false)&&P.readableRec t&&Nat.blt t P.types.size
def oE(P:Program)(Θ:ft):List TypeId->List Ty->Bool
 | [],[] =>true
 |t::ts,τ::τs=>ye P Θ t τ&&oE P Θ ts τs
 | _,_=>false
section
variable {H:Type} {enc:TypeId×Value->H} {P:Program} {W:World} {Θ:ft} {base:Nat}
theorem C.VR{c:C}{u:Value}{bt:Bt}(hA:bt.A=λb=>b<W.heap.size)(h:RO W (λb=>b<W.heap.size) c.tree u)(hg:c.good=true):En.VR W bt c.av u:=by
 cases c with
 |sc v=>
  cases h with
  |sc h=>exact .sc h
 |ls t l=>exact .ro (by rw[hA];exact h)
theorem zg(hΘ:dQ P Θ){bt:Bt}(hA:bt.A=λb=>b<W.heap.size){t:TypeId}{τ:Ty}{v:Value}{d:DataW H}{p:List MemPlace}(hp:ye P Θ t τ=true)(hv:Value.okWide P W .any base t v)(h:DataW.Trod enc P W 0 (λ_=>true) true t v d p):
  ∃x:τ.D,VR W bt (sZ τ x).av v/\Bo τ x:=by
 unfold ye at hp;simp only[aj] at hp;obtain⟨⟨⟨h1,h2⟩,h3⟩,h4⟩:=hp;split at h2
 case h_2=>cases h2
 rename_i ti hti;have h2:=of_decide_eq_true h2;subst h2;have hok:=hΘ t ti hti;obtain⟨n,hn⟩:=h;obtain⟨Xs,k1,k2⟩:=pP hΘ 9 h1 hn;obtain⟨x,rfl⟩:=oO _ k1
 have bd:Bo ti.ty x:=by intro y hy;rw[Ty.row_flat] at hy;obtain⟨c,hc,rfl⟩:=aB.1 hy;exact k2.bd c hc
 have good: ∀c∈ti.ty.flat x,c.good=true:=by
  intro c hc;have:=k2.bd c hc;cases c with
  |sc v=>cases this<;>rfl
  |ls t l=>rfl
 refine⟨x,?_,bd⟩;have hag:=hok.ag;unfold sZ;cases ha:ti.ty.ag with
 |true=>
  rw[ha] at hag
  have hst: ∃fs,P.underlying t=some (.struct fs):=by
   have hpl:=hok.pl ha;unfold l5 at h1;split at h1
   ·rename_i hu;simp[nP,hu] at hag
   ·rename_i hu;simp[nP,hu] at hag
   ·rename_i hu;simp[nP,hu] at hag
   ·rename_i fs hu;exact⟨fs,hu⟩
   ·cases h1
  obtain⟨fs,hu⟩:=hst;obtain⟨us,rfl,_⟩:=okWide_struct hu hv;simp only[cond_true,V1.av];have : (Value.agg us)= .agg us.toList.toArray:=by simp
  rw[this];have hus: (Value.agg us).cells.toList=us.toList:=rfl;rw[hus] at k2;refine .agg (by simp[k2.len]) k2.one λk c u hk hu=> ?_;simp only[aW,ap,ai] at hk;obtain⟨c',hc,rfl⟩:=hk;exact C.VR hA (k2.ro k c' u hc hu) (good c' (aw hc))
 |false=>
  rw[ha] at hag
  have hcells:v.cells.toList= [v] :=by
   unfold l5 at h1;split at h1
   ·rename_i hu;obtain⟨_,rfl⟩:=okWide_int hu hv;rfl
   ·rename_i hu;obtain⟨_,rfl⟩:=okWide_bool hu hv;rfl
   ·rename_i hu;obtain⟨_,_,_,rfl⟩:=okWide_slice hu hv;rfl
   ·rename_i fs hu;simp[nP,hu] at hag
   ·cases h1
  rw[hcells] at k2;have hl:=k2.len;obtain⟨c,hc⟩:=List.length_eq_one_iff.1 hl;simp only[cond_false,hc,aK,cg,V1.av];exact C.VR hA (k2.ro 0 c v (by rw[hc];rfl) rfl) (good c (by rw[hc];exact aH.2 rfl))
theorem s8(hΘ:dQ P Θ){bt:Bt}(hA:bt.A=λb=>b<W.heap.size): ∀ {ts:List TypeId} {τs:List Ty} {vs:List Value} {ds:List (DataW H)} {p:List MemPlace},oE P Θ ts τs=true->(∀ (j:Nat) t v,ts[j]? =some t->vs[j]? =some v->Value.okWide P W .any base t v)->DataW.TrodAll enc P W 0 (λ_=>true) true ts vs ds p->
  ∃x:fQ.D (τs.map .ty),vs.length=τs.length/\(∀ (k:Nat) (v:AV) (u:Value),((fk (τs.map .ty) x).map V1.av)[k]? =some v->vs[k]? =some u->VR W bt v u)/\BO τs x
 | [],[],vs,ds,p,_,_,h=>by obtain⟨rfl,_,_⟩:=trodAll_nil h;exact⟨(),rfl,λk v u hk hu=>(by cases hu),trivial⟩
 |t::ts,τ::τs,vs,ds,p,hb,hv,h=>by
  obtain⟨v,vs',d,ds',q,q',rfl,rfl,rfl,h1,h2⟩:=trodAll_cons h;unfold oE at hb;simp only[aj] at hb;obtain⟨x,k1,k2⟩:=zg hΘ hA hb.1 (hv 0 t v rfl rfl) h1;obtain⟨y,k3,k4,k5⟩:=s8 hΘ hA hb.2 (λj t' v' ht hv'=>hv (j+1) t' v' ht hv') h2;refine⟨(x,y),by simp[k3],λk v' u hk hu=> ?_,k2,k5⟩;cases k with
  |zero=>have hk:some (sZ τ x).av=some v':=hk;cases hk;cases hu;exact k1
  |succ k=>exact k4 k v' u hk hu
 | [],_::_,_,_,_,hb,_,_=>by cases hb
 | _::_,[],_,_,_,hb,_,_=>by cases hb
theorem oe{W':World}(hl:laidOutB P=true)(hb:Below W.heap.size W W'): ∀ {ts:List TypeId} {τs:List Ty} {vs:List Value} {ds:List (DataW H)} {p:List MemPlace},oE P Θ ts τs=true->DataW.TrodAll enc P W 0 (λ_=>true) true ts vs ds p->DataW.TrodAll enc P W' 0 (λb=>decide (b<W.heap.size)) true ts vs ds p
 | [],[],vs,ds,p,_,h=>by obtain⟨rfl,rfl,rfl⟩:=trodAll_nil h;exact rfl
 |t::ts,τ::τs,vs,ds,p,hp,h=>by obtain⟨v,vs',d,ds',q,q',rfl,rfl,rfl,h1,h2⟩:=trodAll_cons h;unfold oE ye at hp;simp only[aj] at hp;obtain⟨⟨⟨_,hr⟩,hs⟩,hrest⟩:=hp;refine trodAll_cons_mk (Below.trod hl hr (aq hs) h1 hb ?_) (oe hl hb hrest h2);intro x hx;obtain⟨m,hm⟩:=h1;exact DataW.trod_lt m _ _ _ hm x hx
 | [],_::_,_,_,_,hb,_=>by cases hb
 | _::_,[],_,_,_,hb,_=>by cases hb
end
end
section
open Go
section
variable {α β σ ε:Type}
theorem Az{B:σ->Option (σ⊕ε)}(l:List α)(mk:Nat->β->σ)(J:Nat->β->Prop)(g:Nat->List α->β->ε)
  (hn: ∀b,J l.length b->B (mk l.length b)=some (.inr (g l.length [] b)))
  (hc: ∀k b x,l[k]? =some x->J k b->(∃b',B (mk k b)=some (.inl (mk (k+1) b'))/\J (k+1) b'/\g k (x::l.drop (k+1)) b=g (k+1) (l.drop (k+1)) b')\/B (mk k b)=some (.inr (g k (x::l.drop (k+1)) b))):
  ∀k b,k<=l.length->J k b->mh B (mk k b)=some (g k (l.drop k) b):=by
 intro k b hk hJ;generalize hn0:l.length-k=n
 induction n generalizing k b with
 |zero=>
  obtain rfl:k=l.length:=by omega
  rw[jg,hn b hJ,List.drop_length];rfl
 |succ n ih=>
  have hlt:k<l.length:=by omega
  rw[b7 hlt];rcases hc k b l[k] (an hlt) hJ with ⟨b',h1,h2,h3⟩|h1
  ·rw[jg,h1,h3];exact ih (k+1) b' (by omega) h2 (by omega)
  ·rw[jg,h1];rfl
theorem Bd{B:σ->Option (σ⊕ε)}(I:σ->Prop)(μ:σ->Nat)(E:ε->Prop)
  (h: ∀s,I s->(∃s',B s=some (.inl s')/\I s'/\μ s'<μ s)\/ ∃e,B s=some (.inr e)/\E e) {s:σ} (hs:I s): ∃e,mh B s=some e/\E e:=by
 generalize hn:μ s=n
 induction n using Nat.strongRecOn generalizing s with
 | _ n ih=>
   rcases h s hs with ⟨s',h1,h2,h3⟩| ⟨e,h1,h2⟩
   ·rw[jg,h1];exact ih (μ s') (by omega) h2 rfl
   ·exact⟨e,by rw[jg,h1];rfl,h2⟩
theorem A7(x y:α):br true x y=x:=rfl
theorem Af(x y:α):br false x y=y:=rfl
theorem Br(b:Bool)(x y:α):br b x y=if b=true then x else y:=by cases b<;>rfl
theorem Bq(p:Prop)[Decidable p](x y:α):br (decide p) x y=if p then x else y:=by unfold br;by_cases h:p<;>simp[h]
theorem Ax{p:Prop}[Decidable p](h:p)(x y:α):iteP p x y=x:=if_pos h
theorem Aw{p:Prop}[Decidable p](h: ¬p)(x y:α):iteP p x y=y:=if_neg h
theorem Av(p:Prop)[Decidable p](x y:α):iteP p x y=if p then x else y:=rfl
end
theorem uc{n:Int}(h1: -9223372036854775808<=n)(h2:n<9223372036854775808):IntKind.wrap .i64 n=n:=by
 simp only[IntKind.wrap,IntKind.bits,IntKind.signed,df];split
 ·rename_i h;have h:=of_decide_eq_true h;omega
 ·rename_i h;have h: ¬ (n % 2 ^ 64≥2 ^ (64-1)):=λhh=>h (decide_eq_true hh);omega
theorem Bz{α:Type}{l:List α}{k:Nat}{x:α}(h:l[k]? =some x):k<l.length:=(ah.1 h).1
theorem wS{α:Type}{l:List α}{k:Nat}(y:α)(h:k<l.length): (l.set k y).take (k+1)=l.take k++ [y] :=by rw[List.take_add_one,List.getElem?_set_self h];simp[List.take_set_of_le]
theorem xk{α ρ:Type}(l:List α)(n:Nat)(κ:List α×Unit->Option ρ):zI l (wY (κ ([],())) (iteP ((([]:List α)++l).length*n<=2 ^ 40) (κ (([]:List α)++l,())) none) none) (iteP ((([]:List α)++l).length*n<=2 ^ 40) (κ (([]:List α)++l,())) none)=(iteP (l.length*n<=2 ^ 40) (some (l,())) none).bind κ:=by
 cases l with
 |nil=>
  have :iteP ((([]:List α)++ []).length*n<=2 ^ 40) (κ (([]:List α)++ [],())) none=κ ([],()):=by unfold iteP;rw[if_pos (by simp)];rfl
  rw[this];show wY _ _ _=_;rw[vg];unfold iteP;rw[if_pos (by simp)];rfl
 |cons x l=>show iteP _ _ _=_;simp only[bC];unfold iteP;split<;>rfl
end
section
open Go
section
variable {σ ε σ1 ε1 σ2 ε2 α β:Type}
theorem kM{B:σ->Option (σ⊕ε)}{s:σ}{e:ε}(h:B s=some (.inr e)):mh B s=some e:=by rw[jg,h];rfl
theorem qJ{B:σ->Option (σ⊕ε)}{s s':σ}(h:B s=some (.inl s')):mh B s=mh B s':=by rw[jg,h];rfl
theorem Be{B1:σ1->Option (σ1⊕ε1)}{B2:σ2->Option (σ2⊕ε2)}(n:Nat)(m1:Nat->σ1)(m2:Nat->σ2)(t1:ε1)(t2:ε2)(f1:Nat->ε1)(f2:Nat->ε2)(P Q:Nat->Prop)
  (h1:B1 (m1 n)=some (.inr t1)) (h2:B2 (m2 n)=some (.inr t2))
  (h: ∀k,k<n->(B1 (m1 k)=some (.inl (m1 (k+1)))/\B2 (m2 k)=some (.inl (m2 (k+1)))/\P k)\/(B1 (m1 k)=some (.inr (f1 k))/\B2 (m2 k)=some (.inr (f2 k))/\Q k)):
  (mh B1 (m1 0)=some t1/\mh B2 (m2 0)=some t2/\ ∀k,k<n->P k)\/ ∃k,k<n/\mh B1 (m1 0)=some (f1 k)/\mh B2 (m2 0)=some (f2 k)/\Q k:=by
 have eU: ∀d j,j+d=n->(mh B1 (m1 j)=some t1/\mh B2 (m2 j)=some t2/\ ∀k,j<=k->k<n->P k)\/ ∃k,k<n/\mh B1 (m1 j)=some (f1 k)/\mh B2 (m2 j)=some (f2 k)/\Q k:=by
  intro d
  induction d with
  |zero=>
   intro j hj;have :j=n:=by omega
   subst this;exact .inl ⟨kM h1,kM h2,λk a b=>by omega⟩
  |succ d ih=>
   intro j hj;rcases h j (by omega) with ⟨g1,g2,g3⟩| ⟨g1,g2,g3⟩
   ·rw[qJ g1,qJ g2];rcases ih (j+1) (by omega) with ⟨k1,k2,k3⟩|k
    ·refine .inl ⟨k1,k2,λk a b=> ?_⟩;rcases Nat.eq_or_lt_of_le a with rfl|a
     ·exact g3
     ·exact k3 k a b
    ·exact .inr k
   ·exact .inr ⟨j,by omega,kM g1,kM g2,g3⟩
 rcases eU n 0 (by omega) with ⟨a,b,c⟩|h
 ·exact .inl ⟨a,b,λk hk=>c k (bL _) hk⟩
 ·exact .inr h
def BK(x y:Option (β×Unit)):Prop:=∃b,x=some (b,())/\y=some (b,())
theorem Ad{n k:Nat}(hn:n<=maxLen)(hk:k<n):IntKind.wrap .i64 ((k:Int)+1)=((k+1:Nat):Int):=by unfold maxLen at hn;rw[uc (by omega) (by omega)];rfl
theorem Aa{k:Nat}(hk:0<k)(h:k<=maxLen):IntKind.wrap .i64 ((k:Int)-1)=((k-1:Nat):Int):=by unfold maxLen at h;rw[uc (by omega) (by omega)];omega
end
end
end Go.Proofs.YtkghndikalnipabGreat.En
