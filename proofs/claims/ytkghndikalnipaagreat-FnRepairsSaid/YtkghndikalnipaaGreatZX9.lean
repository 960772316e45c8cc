import Derived.Test.YtkghndikalnipaaGreatZX8
import Derived.ProofKit
import Derived.ChangeOld
import Derived.Deep.Slices
import Derived.OpenShut
import Derived.Below
import Derived.Carry
import Derived.WideShapes
set_option linter.unusedSimpArgs false
set_option linter.unusedVariables false
namespace Go.Proofs.YtkghndikalnipaaGreat.En
section
open Go
inductive Sh where
 |int (k:IntKind)|bl|str|ro (t:Ty)|own (r:Nat) (t:Ty)|ptr (n j:Nat)|em|dead|pro (t:Ty)|fc (g:Nat)|sub (r:Nat) (t:Ty)|pt (r w:Nat)|row (r j w:Nat)|hd
abbrev Sh.D:Sh->Type
 | .int _=>Int| .bl=>Bool| .str=>ByteArray| .ro t=>List t.D| .pro t=>t.D| .sub _ _=>Nat×Nat| .row _ _ _=>Nat×Nat×Nat| .hd=>Hd| _=>Unit
abbrev jy.D:List Sh->Type
 | [] =>Unit
 |s::l=>s.D×jy.D l
inductive lh where
 |cl (s:Sh)|agg (l:List Sh)|st (n:Sn)|fn (f:FuncId) (l:List Sh)
abbrev lh.D:lh->Type
 | .cl s=>s.D| .agg l=>jy.D l| .st n=>n.D| .fn _ l=>jy.D l
abbrev nZ.D:List (Nat×lh)->Type
 | [] =>Unit
 |x::l=>x.2.D×nZ.D l
abbrev nY.D:List (List Sh)->Type
 | [] =>Unit
 |x::l=>jy.D x×nY.D l
abbrev ig.D:List Ty->Type
 | [] =>Unit
 |t::l=>List t.D×ig.D l
structure jR where
 env:List (Nat×lh)
 bx:List (List Sh)
 gh:List Ty
 fz:Nat
 nt:Nat
abbrev jR.D(L:jR):Type:=nZ.D L.env×nY.D L.bx×ig.D L.gh
def zK(G:List (Option dx))(r:Nat):Nat:=match fU G r with |some (some tr)=>tr.l.length| _=>0
def Sh.mk(G:List (Option dx)): (s:Sh)->s.D->Cl
 | .int k,n=> .c (.sc (.int k n))| .bl,v=> .c (.sc (.bool v))| .str,v=> .c (.sc (.string v))| .ro t,l=> .c (.ls t l)
 | .own r t,_=> .own ⟨r,[]⟩ t.width 0 (zK G r) true| .ptr n j,_=> .ptrB n j| .em,_=> .em| .dead,_=> .dead| .pro t,x=> .pro (t.flat x)| .fc g,_=> .c (.sc (.func (.func g) #[] #[]))| .sub r t,x=> .own ⟨r,[]⟩ t.width x.1 x.2 false| .pt r w,_=> .ptrT ⟨r,[]⟩ w 0 0| .row r j w,x=> .own ⟨r,[(x.1,j)]⟩ w x.2.1 x.2.2 false| .hd,x=> .c (.sc (.slice x.a x.n x.c))
def jy.mk(G:List (Option dx)): (l:List Sh)->jy.D l->List Cl
 | [],_=> []
 |s::l,x=>s.mk G x.1::jy.mk G l x.2
def lh.mk(G:List (Option dx)): (v:lh)->v.D->V
 | .cl s,x=> .v (.cl (s.mk G x))| .agg l,x=> .v (.agg (jy.mk G l x))| .st n,x=> .v (.agg ((n.flat x).map .c))| .fn f l,x=> .v (.fn f (jy.mk G l x))
def nZ.mk(G:List (Option dx)): (l:List (Nat×lh))->nZ.D l->List (Nat×V)
 | [],_=> []
 |x::l,d=>(x.1,x.2.mk G d.1)::nZ.mk G l d.2
def nY.mk(G:List (Option dx)): (l:List (List Sh))->nY.D l->List (List Cl)
 | [],_=> []
 |x::l,d=>jy.mk G x d.1::nY.mk G l d.2
def ig.mk: (l:List Ty)->ig.D l->List (Option dx)
 | [],_=> []
 |t::l,d=>some ⟨t,d.1,none⟩::ig.mk l d.2
def jR.mk'(L:jR)(d:L.D):TS:={ env:=nZ.mk (ig.mk L.gh d.2.2) L.env d.1,bx:=nY.mk (ig.mk L.gh d.2.2) L.bx d.2.1,gh:=ig.mk L.gh d.2.2,fz:=L.fz,nt:=L.nt }
section
variable {ρ:Type}
def Sh.un: (s:Sh)->Cl->(s.D->Option ρ)->Option ρ
 | .int k,.c (.sc (.int k' n)),κ=>bif decide (k'=k) then κ n else none
 | .bl,.c (.sc (.bool v)),κ=>κ v
 | .str,.c (.sc (.string v)),κ=>κ v
 | .ro t,.c (.ls t' l),κ=>match jf t' t l with |some l=>κ l|none=>none
 | .own r t,.own p sz _ _ w,κ=>match p.l with | [] =>(bif w&&Nat.beq p.r r&&Nat.beq sz t.width then κ () else none)| _=>none
 | .ptr n i,.ptrB m j,κ=>bif Nat.beq m n&&Nat.beq j i then κ () else none
 | .em,.em,κ=>κ ()
 | .dead,.dead,κ=>κ ()
 | .pro t,.pro xs,κ=>(match t.unflat xs with |some x=>κ x|none=>none)
 | .fc g,.c (.sc (.func (.func g') cs ts)),κ=>bif Nat.beq g' g&&Nat.beq cs.size 0&&Nat.beq ts.size 0 then κ () else none
 | .sub r t,.own p sz lo len w,κ=>match p.l with | [] =>(bif !w&&Nat.beq p.r r&&Nat.beq sz t.width then κ (lo,len) else none)| _=>none
 | .pt r w,.ptrT p sz i j,κ=>match p.l with | [] =>(bif Nat.beq p.r r&&Nat.beq sz w&&Nat.beq i 0&&Nat.beq j 0 then κ () else none)| _=>none
 | .hd,.c (.sc (.slice a n c)),κ=>κ ⟨a,n,c⟩
 | .row r j n,.own p sz lo len w,κ=>match p.l with | [x] =>(bif !w&&Nat.beq p.r r&&Nat.beq sz n&&Nat.beq x.2 j then κ (x.1,lo,len) else none)| _=>none
 | _,_,_=>none
def jy.un: (l:List Sh)->List Cl->(jy.D l->Option ρ)->Option ρ
 | [],[],κ=>κ ()
 |s::l,c::cs,κ=>s.un c λx=>jy.un l cs λy=>κ (x,y)
 | _,_,_=>none
def lh.un: (v:lh)->V->(v.D->Option ρ)->Option ρ
 | .cl s,.v (.cl c),κ=>s.un c κ
 | .agg l,.v (.agg cs),κ=>jy.un l cs κ
 | .st n,.v (.agg cs),κ=>match sZ cs with |some xs=>(match n.unflat xs with |some x=>κ x|none=>none)|none=>none
 | .fn f l,.v (.fn g cs),κ=>bif Nat.beq f g then jy.un l cs κ else none
 | _,_,_=>none
def nZ.un: (l:List (Nat×lh))->List (Nat×V)->(nZ.D l->Option ρ)->Option ρ
 | [],[],κ=>κ ()
 |x::l,y::m,κ=>bif Nat.beq x.1 y.1 then x.2.un y.2 λa=>nZ.un l m λb=>κ (a,b) else none
 | _,_,_=>none
def nY.un: (l:List (List Sh))->List (List Cl)->(nY.D l->Option ρ)->Option ρ
 | [],[],κ=>κ ()
 |x::l,y::m,κ=>jy.un x y λa=>nY.un l m λb=>κ (a,b)
 | _,_,_=>none
def ig.un: (l:List Ty)->List (Option dx)->(ig.D l->Option ρ)->Option ρ
 | [],[],κ=>κ ()
 |t::l,some tr::m,κ=>match tr.hole with
  |none=>(match jf tr.t t tr.l with |some a=>ig.un l m λb=>κ (a,b)|none=>none)
  |some _=>none
 | _,_,_=>none
def jR.un(L:jR)(S:TS)(κ:L.D->Option ρ):Option ρ:=ig.un L.gh S.gh λg=>nZ.un L.env S.env λe=>nY.un L.bx S.bx λb=>bif Nat.beq S.fz L.fz&&Nat.beq S.nt L.nt then κ (e,b,g) else none
theorem Sh.un_some{G:List (Option dx)}(hG: ∀r,r<G.length-> ∃tr,fU G r=some (some tr)): ∀ {s:Sh} {c:Cl} {κ:s.D->Option ρ} {r:ρ},c.ok G->s.un c κ=some r-> ∃x,c=s.mk G x/\κ x=some r:=by
 intro s c κ r hc h;cases s with
 |int k=>
  cases c with
  |c y=>cases y with
   |sc v=>cases v with
    |int k' n=>simp only[Sh.un] at h;obtain⟨h1,h⟩:=dj h;have:=of_decide_eq_true h1;subst this;exact⟨n,rfl,h⟩
    | _=>simp[Sh.un] at h
   |ls t l=>simp[Sh.un] at h
  | _=>simp[Sh.un] at h
 |bl=>
  cases c with
  |c y=>cases y with
   |sc v=>cases v with
    |bool v=>exact⟨v,rfl,h⟩
    | _=>simp[Sh.un] at h
   |ls t l=>simp[Sh.un] at h
  | _=>simp[Sh.un] at h
 |str=>
  cases c with
  |c y=>cases y with
   |sc v=>cases v with
    |string v=>exact⟨v,rfl,h⟩
    | _=>simp[Sh.un] at h
   |ls t l=>simp[Sh.un] at h
  | _=>simp[Sh.un] at h
 |ro t=>
  cases c with
  |c y=>cases y with
   |sc v=>simp[Sh.un] at h
   |ls t' l=>
    simp only[Sh.un] at h;split at h
    ·rename_i l' hl;obtain⟨e,hl⟩:=dW hl;subst e;simp only at hl;subst hl;exact⟨l,rfl,h⟩
    ·cases h
  | _=>simp[Sh.un] at h
 |own q t=>
  cases c with
  |own p sz lo len w=>
   obtain⟨pr,pl⟩:=p;cases pl with
   |cons a l=>simp[Sh.un] at h
   |nil=>
    simp only[Sh.un] at h;obtain⟨h1,h'⟩:=dj h;clear h;simp only[aj] at h1;obtain⟨⟨h0,h2⟩,h3⟩:=h1;have h2:pr=q:=ak h2;have h3:sz=t.width:=ak h3;subst h0 h2 h3;obtain⟨k1,k2⟩:=hc;obtain⟨_,k3,k4⟩:=k2 rfl
    grind [dx.look,Sh.mk,zK]
  |c y=>cases y<;>simp[Sh.un] at h
  | _=>simp[Sh.un] at h
 |sub q t=>
  cases c with
  |own p sz lo len w=>
   obtain⟨pr,pl⟩:=p;cases pl with
   |cons a l=>simp[Sh.un] at h
   |nil=>simp only[Sh.un] at h;obtain⟨h1,h'⟩:=dj h;clear h;simp only[aj,bD] at h1;obtain⟨⟨h0,h2⟩,h3⟩:=h1;have h2:pr=q:=ak h2;have h3:sz=t.width:=ak h3;subst h0 h2 h3;exact⟨(lo,len),rfl,h'⟩
  |c y=>cases y<;>simp[Sh.un] at h
  | _=>simp[Sh.un] at h
 |hd=>
  cases c with
  |c y=>cases y with
   |sc v=>cases v with
    |slice a n c=>exact⟨⟨a,n,c⟩,rfl,h⟩
    | _=>simp[Sh.un] at h
   |ls t l=>simp[Sh.un] at h
  | _=>simp[Sh.un] at h
 |row q j n=>
  cases c with
  |own p sz lo len w=>
   obtain⟨pr,pl⟩:=p;cases pl with
   |nil=>simp[Sh.un] at h
   |cons a l=>
    cases l with
    |cons b l=>simp[Sh.un] at h
    |nil=>obtain⟨a1,a2⟩:=a;simp only[Sh.un] at h;obtain⟨h1,h'⟩:=dj h;clear h;simp only[aj,bD] at h1;obtain⟨⟨⟨h0,h2⟩,h3⟩,h4⟩:=h1;have h2:pr=q:=ak h2;have h3:sz=n:=ak h3;have h4:a2=j:=ak h4;subst h0 h2 h3 h4;exact⟨(a1,lo,len),rfl,h'⟩
  |c y=>cases y<;>simp[Sh.un] at h
  | _=>simp[Sh.un] at h
 |ptr n i=>
  cases c with
  |ptrB m j=>simp only[Sh.un] at h;obtain⟨h1,h'⟩:=dj h;clear h;simp only[aj] at h1;have h2:=ak h1.1;have h3:=ak h1.2;subst h2 h3;exact⟨(),rfl,h'⟩
  |c y=>cases y<;>simp[Sh.un] at h
  | _=>simp[Sh.un] at h
 |em=>
  cases c with
  |em=>exact⟨(),rfl,h⟩
  |c y=>cases y<;>simp[Sh.un] at h
  | _=>simp[Sh.un] at h
 |dead=>
  cases c with
  |dead=>exact⟨(),rfl,h⟩
  |c y=>cases y<;>simp[Sh.un] at h
  | _=>simp[Sh.un] at h
 |pro t=>
  cases c with
  |pro xs=>
   simp only[Sh.un] at h;split at h
   ·rename_i x hx;exact⟨x,by simp only[Sh.mk];rw[t.unflat_some _ _ hx],h⟩
   ·cases h
  |c y=>cases y<;>simp[Sh.un] at h
  | _=>simp[Sh.un] at h
 |pt q n=>
  cases c with
  |ptrT p sz i j=>
   obtain⟨pr,pl⟩:=p;cases pl with
   |cons a l=>simp[Sh.un] at h
   |nil=>simp only[Sh.un] at h;obtain⟨h1,h'⟩:=dj h;clear h;simp only[aj] at h1;obtain⟨⟨⟨h1,h2⟩,h3⟩,h4⟩:=h1;have h1:pr=q:=ak h1;have h2:sz=n:=ak h2;have h3:i=0:=ak h3;have h4:j=0:=ak h4;subst h1 h2 h3 h4;exact⟨(),rfl,h'⟩
  |c y=>cases y<;>simp[Sh.un] at h
  | _=>simp[Sh.un] at h
 |fc g=>
  unfold Sh.un at h;split at h
  all_goals first | (rename_i hh;cases hh;done)|skip
  all_goals try (rename_i hh _;cases hh;done)
  ·rename_i e;cases e;obtain⟨h1,h'⟩:=dj h;simp only[aj] at h1;obtain⟨⟨h1,h2⟩,h3⟩:=h1;have h1:=ak h1;have h2:=b9 (ak h2);have h3:=b9 (ak h3);exact⟨(),by rw[h1,h2,h3];rfl,h'⟩
  ·cases h
theorem jy.un_some{G:List (Option dx)}(hG: ∀r,r<G.length-> ∃tr,fU G r=some (some tr)): ∀ {l:List Sh} {cs:List Cl} {κ:jy.D l->Option ρ} {r:ρ},(∀c∈cs,c.ok G)->jy.un l cs κ=some r-> ∃x,cs=jy.mk G l x/\κ x=some r
 | [],[],κ,r,_,h=>⟨(),rfl,h⟩
 |s::l,c::cs,κ,r,hc,h=>by unfold jy.un at h;obtain⟨x,h1,h⟩:=Sh.un_some hG (hc c aH) h;obtain⟨y,h2,h⟩:=jy.un_some hG (λz hz=>hc z (aE _ hz)) h;exact⟨(x,y),by rw[h1,h2];rfl,h⟩
 | [],c::cs,κ,r,_,h=>by simp[jy.un] at h
 |s::l,[],κ,r,_,h=>by simp[jy.un] at h
theorem lS: ∀ {cs:List Cl} {xs:List C},sZ cs=some xs->cs=xs.map .c
 | [],xs,h=>by simp_all [sZ]
 |c::cs,xs,h=>by
  cases c with
  |c y=>
   simp only[sZ] at h;split at h
   ·rename_i r hr;simp only[ae] at h;subst h;rw[lS hr];rfl
   ·cases h
  | _=>simp[sZ] at h
theorem lh.un_some{G:List (Option dx)}(hG: ∀r,r<G.length-> ∃tr,fU G r=some (some tr)){s:lh}{v:V}{κ:s.D->Option ρ}{r:ρ}(hv:v.ok G)(h:s.un v κ=some r): ∃x,v=s.mk G x/\κ x=some r:=by
 cases v with
 |tup l=>cases s<;>simp[lh.un] at h
 |v y=>
  cases s with
  |cl s=>cases y with
   |cl c=>obtain⟨x,h1,h⟩:=Sh.un_some hG hv h;exact⟨x,by rw[h1];rfl,h⟩
   | _=>simp[lh.un] at h
  |agg l=>cases y with
   |agg cs=>obtain⟨x,h1,h⟩:=jy.un_some hG hv h;exact⟨x,by rw[h1];rfl,h⟩
   | _=>simp[lh.un] at h
  |st n=>cases y with
   |agg cs=>
    simp only[lh.un] at h;split at h
    ·rename_i xs hxs;split at h
     ·rename_i x hx;exact⟨x,by rw[lS hxs];simp only[lh.mk];rw[n.unflat_some _ _ hx],h⟩
     ·cases h
    ·cases h
   | _=>simp[lh.un] at h
  |fn f l=>cases y with
   |fn g cs=>simp only[lh.un] at h;obtain⟨h0,h'⟩:=dj h;clear h;have h0:=ak h0;subst h0;obtain⟨x,h1,h⟩:=jy.un_some hG hv h';exact⟨x,by rw[h1];rfl,h⟩
   | _=>simp[lh.un] at h
theorem nZ.un_some{G:List (Option dx)}(hG: ∀r,r<G.length-> ∃tr,fU G r=some (some tr)): ∀ {l:List (Nat×lh)} {m:List (Nat×V)} {κ:nZ.D l->Option ρ} {r:ρ},(∀x∈m,x.2.ok G)->nZ.un l m κ=some r-> ∃x,m=nZ.mk G l x/\κ x=some r
 | [],[],κ,r,_,h=>⟨(),rfl,h⟩
 |s::l,c::cs,κ,r,hc,h=>by unfold nZ.un at h;obtain⟨h0,h⟩:=dj h;have h0:=ak h0;obtain⟨x,h1,h⟩:=lh.un_some hG (hc c aH) h;obtain⟨y,h2,h⟩:=nZ.un_some hG (λz hz=>hc z (aE _ hz)) h;refine⟨(x,y),?_,h⟩;rw[h2];obtain⟨c1,c2⟩:=c;simp only at h0 h1;rw[h1,<-h0];rfl
 | [],c::cs,κ,r,_,h=>by simp[nZ.un] at h
 |s::l,[],κ,r,_,h=>by simp[nZ.un] at h
theorem nY.un_some{G:List (Option dx)}(hG: ∀r,r<G.length-> ∃tr,fU G r=some (some tr)): ∀ {l:List (List Sh)} {m:List (List Cl)} {κ:nY.D l->Option ρ} {r:ρ},(∀cs∈m,∀c∈cs,c.ok G)->nY.un l m κ=some r-> ∃x,m=nY.mk G l x/\κ x=some r
 | [],[],κ,r,_,h=>⟨(),rfl,h⟩
 |s::l,c::cs,κ,r,hc,h=>by unfold nY.un at h;obtain⟨x,h1,h⟩:=jy.un_some hG (hc c aH) h;obtain⟨y,h2,h⟩:=nY.un_some hG (λz hz=>hc z (aE _ hz)) h;exact⟨(x,y),by rw[h1,h2];rfl,h⟩
 | [],c::cs,κ,r,_,h=>by simp[nY.un] at h
 |s::l,[],κ,r,_,h=>by simp[nY.un] at h
theorem ig.un_some: ∀ {l:List Ty} {m:List (Option dx)} {κ:ig.D l->Option ρ} {r:ρ},ig.un l m κ=some r-> ∃x,m=ig.mk l x/\κ x=some r
 | [],[],κ,r,h=>⟨(),rfl,h⟩
 |t::l,some tr::m,κ,r,h=>by
  unfold ig.un at h;split at h
  ·rename_i hh;split at h
   ·rename_i a ha;obtain⟨e,hl⟩:=dW ha;obtain⟨y,h2,h⟩:=ig.un_some h;obtain⟨t',l',hole⟩:=tr;simp only at hh e hl ha;subst hh e;simp only at hl;subst hl;exact⟨(l',y),by rw[h2];rfl,h⟩
   ·cases h
  ·cases h
 | [],c::cs,κ,r,h=>by simp[ig.un] at h
 |t::l,[],κ,r,h=>by simp[ig.un] at h
 |t::l,none::m,κ,r,h=>by simp[ig.un] at h
theorem ig.mk_some: ∀ (l:List Ty) (d:ig.D l) (r:Nat),r< (ig.mk l d).length-> ∃tr,fU (ig.mk l d) r=some (some tr)
 | [],d,r,h=>by simp[ig.mk] at h
 |t::l,d,0,h=>⟨_,rfl⟩
 |t::l,d,r+1,h=>by obtain⟨tr,htr⟩:=ig.mk_some l d.2 r (by simpa [ig.mk] using h);exact⟨tr,htr⟩
theorem jR.un_some{L:jR}{S:TS}(hS:S.ok){κ:L.D->Option ρ}{r:ρ}(h:L.un S κ=some r): ∃d,S=L.mk' d/\κ d=some r:=by
 unfold jR.un at h;obtain⟨g,h1,h⟩:=ig.un_some h;have hG: ∀r,r<S.gh.length-> ∃tr,fU S.gh r=some (some tr):=by rw[h1];exact ig.mk_some _ _
 obtain⟨e,h2,h⟩:=nZ.un_some hG hS.env h;obtain⟨b,h3,h⟩:=nY.un_some hG hS.bx h;obtain⟨h4,h⟩:=dj h;simp only[aj] at h4;have h5:=ak h4.1;have h6:=ak h4.2;refine⟨(e,b,g),?_,h⟩;obtain⟨env,bx,gh,fz,nt⟩:=S
 grind [jR.mk']
end
end
section
open Go
def tV(S:TS)(t:Ty):Cl:=.own ⟨S.gh.length,[]⟩ t.width 0 0 true
def tK(n j:Nat)(t:Ty)(S:TS):TS:=match fU S.bx n with
 |some cs=>(match fU cs j with
  |some .em=> { S with bx:=dI S.bx n (dI cs j (tV S t)),gh:=S.gh++ [some ⟨t,[],none⟩] }
  | _=>S)
 |none=>S
def tL(x:Nat)(t:Ty)(S:TS):TS:=match ew S.env x with
 | .v (.cl .em)=> { S with env:=(x,.v (.cl (tV S t)))::S.env,gh:=S.gh++ [some ⟨t,[],none⟩] }
 | _=>S
theorem yW: ∀ (l:List (Nat×Nat)),T.go .dd l= .dd
 | [] =>rfl
 | (_,_)::l=>yW l
theorem zE(w:Nat){l:List (Nat×Nat)}{s:Nat}{rs:List (List T)}(h:T.go (.sl w []) l= .sl s rs):rs= [] :=by
 cases l with
 |nil=>cases h;rfl
 |cons a l=>grind [T.go,T.cell,yW]
theorem oE[dp]{S S':TS}(t:Ty)(henv: ∀u,(ew S'.env u).av=(ew S.env u).av\/((ew S.env u).av= .em/\(ew S'.env u).av= .own ⟨S.gh.length,[]⟩ t.width 0 0))
  (hbx: ∀k cs',S'.st.bx k=some cs'-> ∃cs,S.st.bx k=some cs/\cs'.length=cs.length/\ ∀ (j:Nat) (v:AV),cs'[j]? =some v->cs[j]? =some v\/(cs[j]? =some .em/\v= .own ⟨S.gh.length,[]⟩ t.width 0 0))
  (hgh:S'.gh=S.gh++ [some ⟨t,[],none⟩]) (hfz:S'.fz=S.fz) (hnt:S'.nt=S.nt) (hbl:S'.bx.length=S.bx.length):gb S.st S'.st:=by
 intro w0 W btI SI bt a w hl0;have hl:=hl0.widen (N:=S.gh.length+1) (cA _);have inv:=hl.inv;have hng:S'.st.ng=S.gh.length+1:=by show S'.gh.length=_;rw[hgh];simp
 have ghS: ∀r,S'.st.gh r=if r=S.gh.length then some (.sl t.width []) else S.st.gh r:=by intro r;show (dJ S'.gh r).map dx.tree=_;rw[hgh,eT];split<;>rfl
 have κ0: ∀l,(bt.widen S.st.ng (S.gh.length+1)).κ ⟨S.gh.length,l⟩=0:=by intro l;show (if S.gh.length<S.gh.length then _ else 0)=0;rw[if_neg (dg _)]
 have look: ∀p s rs,S'.st.look p= .sl s rs->(p.r=S.gh.length/\rs= [] /\(bt.widen S.st.ng (S.gh.length+1)).κ p=0)\/(p.r≠S.gh.length/\S.st.look p= .sl s rs):=by
  intro p s rs hp;unfold St.look at hp;rw[ghS] at hp;by_cases hr:p.r=S.gh.length
  ·rw[if_pos hr] at hp;left;refine⟨hr,zE _ hp,?_⟩;obtain⟨pr,pl⟩:=p
   grind
  ·rw[if_neg hr] at hp;exact .inr ⟨hr,hp⟩
 have own0: ∀ {u:Value},VR w (bt.widen S.st.ng (S.gh.length+1)) .em u->VR w (bt.widen S.st.ng (S.gh.length+1)) (.own ⟨S.gh.length,[]⟩ t.width 0 0) u:=by
  intro u hu;cases hu with
  |em ad=>exact .own (cI _) (aw _) (bL _) (λh=>absurd h (dg _))
 refine⟨bt.widen S.st.ng (S.gh.length+1),?_⟩
 refine⟨{ good:=inv.good,os:=inv.os,tape:=inv.tape,output:=inv.output,size:=inv.size,keep:=inv.keep
          nb:=by show _=S'.bx.length;rw[hbl];exact inv.nb
          ng:=by rw[hng];exact inv.ng
          bx:=λn cells hn=> ?_
          gh:=λr x hr=> ?_
          tr:=λp sz rows hp=> ?_
          inj:=λp q s rs s' rs' hp hq hk hk' he=> ?_
          bbinj:=λn m cs cs' hn hm he=> ?_
          bbtr:=λn cs p s rs hn hp hk=> ?_
          alt:=inv.alt
          atr:=λp s rs hp hk=> ?_
          abb:=λn cs hn=> ?_ },⟨?_,λu=> ?_⟩,hl.defers,?_,?_,hl.keep,λr hr hn=> ?_⟩
 ·obtain⟨cs,h1,h2,h3⟩:=hbx n cells hn;obtain⟨g1,g2,arr,e,g3,g4,g5⟩:=inv.bx n cs h1;refine⟨by show n<S'.bx.length;rw[hbl];exact g1,g2,arr,e,g3,by rw[h2];exact g4,λj v hj=> ?_⟩
  grind
 ·rw[hng];rw[ghS] at hr;split at hr
  ·omega
  ·have:=inv.gh r x hr;exact this
 ·rcases look p sz rows hp with ⟨h1,rfl,h3⟩| ⟨h1,h2⟩
  ·grind
  ·exact inv.tr p sz rows h2
 ·rcases look p s rs hp with ⟨h1,_,h3⟩| ⟨h1,h2⟩
  ·omega
  ·rcases look q s' rs' hq with ⟨g1,_,g3⟩| ⟨g1,g2⟩
   ·omega
   ·exact inv.inj _ _ _ _ _ _ h2 g2 hk hk' he
 ·obtain⟨c,h1,_,_⟩:=hbx n cs hn;obtain⟨c',g1,_,_⟩:=hbx m cs' hm;exact inv.bbinj _ _ _ _ h1 g1 he
 ·obtain⟨c,h1,_,_⟩:=hbx n cs hn;rcases look p s rs hp with ⟨_,_,h3⟩| ⟨_,h2⟩
  ·omega
  ·exact inv.bbtr _ _ _ _ _ h1 h2 hk
 ·rcases look p s rs hp with ⟨_,_,h3⟩| ⟨_,h2⟩
  ·omega
  ·exact inv.atr _ _ _ h2 hk
 ·obtain⟨c,h1,_,_⟩:=hbx n cs hn;exact inv.abb _ _ h1
 ·have:=hl.er.1;show _=S'.nt;rw[hnt];exact this
 ·have h1:=hl.er.2 u;show VR w _ (ew S'.env u).av _;rcases henv u with h2| ⟨h2,h3⟩
  ·rw[h2];exact h1
  ·rw[h3];have h1':VR w (bt.widen S.st.ng (S.gh.length+1)) (ew S.env u).av (a.tmps.getD u undef):=h1;rw[h2] at h1';exact own0 h1'
 ·show S'.fz=_;rw[hfz];exact hl.fz
 ·show S'.fz<=S'.gh.length;have:=hl.fzng;have e:S.fz<=S.gh.length+1:=this
  grind
 ·refine hl.gone r hr ?_
  grind
theorem rc(S:TS)(t:Ty): (tV S t).ok (S.gh++ [some ⟨t,[],none⟩]):=by refine⟨by simp,λ_=>⟨rfl,rfl,λtr htr=> ?_⟩⟩;rw[eT,if_pos rfl] at htr;cases htr;rfl
theorem vO[dp]{S:TS}(hS:S.ok)(x:Nat)(t:Ty):gb S.st (tL x t S).st/\(tL x t S).ok:=by
 unfold tL;split
 ·rename_i hx;refine⟨oE t (λu=> ?_) (λk cs' h=>⟨cs',h,rfl,λj v hv=> .inl hv⟩) rfl rfl rfl rfl,⟨λy hy=> ?_,λcs hcs c hc=>Cl.ok_mono (eg.app _ _) (hS.bx cs hcs c hc)⟩⟩
  ·simp only[ew];cases hb:Nat.beq x u with
   |true=>have :x=u:=ak hb;subst this;right;rw[hx];exact⟨rfl,rfl⟩
   |false=>exact .inl rfl
  ·rcases aW.1 hy with rfl|hy
   ·exact rc S t
   ·exact V.ok_mono (eg.app _ _) (hS.env y hy)
 ·exact⟨gb.refl,hS⟩
theorem vN[dp]{S:TS}(hS:S.ok)(n j:Nat)(t:Ty):gb S.st (tK n j t S).st/\(tK n j t S).ok:=by
 unfold tK;split
 ·rename_i cs hcs;split
  ·rename_i hj;rw[dP] at hcs hj;have hn:=(ah.1 hcs).1;refine⟨oE t (λu=> .inl rfl) (λk cs' h=> ?_) rfl rfl rfl (by simp[dZ]),⟨λy hy=>V.ok_mono (eg.app _ _) (hS.env y hy),λcs' hcs' c hc=> ?_⟩⟩
   ·have h': (fU (dI S.bx n (dI cs j (tV S t))) k).map (λcs=>cs.map Cl.av)=some cs':=h;rw[dP,dZ,dZ,bE] at h';by_cases hk:n=k
    ·subst hk;rw[if_pos rfl,if_pos hn] at h';simp only[aB,ae] at h';subst h';refine⟨cs.map Cl.av,by show (fU S.bx n).map _=_;rw[dP,hcs];rfl,by simp,λi v hv=> ?_⟩;rw[aq,bE] at hv;by_cases hi:j=i
     ·subst hi;rw[if_pos rfl,if_pos (ah.1 hj).1] at hv;right;rw[aq,hj];simp only[aB,ae] at hv;exact⟨rfl,hv.symm⟩
     grind
    ·rw[if_neg hk] at h';exact⟨cs',by show (fU S.bx k).map _=_;rw[dP];exact h',rfl,λi v hv=> .inl hv⟩
   ·simp only[dZ] at hcs';rcases cL hcs' with h1|h1
    ·exact Cl.ok_mono (eg.app _ _) (hS.bx _ h1 c hc)
    ·subst h1;rcases cL hc with h2|h2
     ·exact Cl.ok_mono (eg.app _ _) (hS.bx _ (ax hcs) c h2)
     ·subst h2;exact rc S t
  ·exact⟨gb.refl,hS⟩
 ·exact⟨gb.refl,hS⟩
inductive rU where
 |t (x:Nat) (t:Ty)
 |b (n j:Nat) (t:Ty)
def jF:List rU->TS->TS
 | [],S=>S
 | .t x t::l,S=>jF l (tL x t S)
 | .b n j t::l,S=>jF l (tK n j t S)
theorem ke[dp]: ∀ (l:List rU) {S:TS},S.ok->gb S.st (jF l S).st/\(jF l S).ok
 | [],S,hS=>⟨gb.refl,hS⟩
 | .t x t::l,S,hS=>by obtain⟨h1,h2⟩:=vO hS x t;obtain⟨h3,h4⟩:=ke l h2;exact⟨h1.trans h3,h4⟩
 | .b n j t::l,S,hS=>by obtain⟨h1,h2⟩:=vN hS n j t;obtain⟨h3,h4⟩:=ke l h2;exact⟨h1.trans h3,h4⟩
section
variable {P:Program} {Θ:fw} {Y:kF} {Λ:fL}
def rK{ρ:Type}(keepN keepX:List Nat)(κ:X->TS->Option ρ)(x:X)(S:TS):Option ρ:=match x with
 | .nor=>lp keepN S (κ .nor)
 |x=>lp keepX S (κ x)
def vj{σ ε:Type}(G:σ->Option ε)(μ:σ->Nat)(s:σ)(e:ε):Option (σ⊕ε)->Prop
 |some (.inl s')=>μ s'<μ s/\G s'=some e
 |some (.inr e')=>e'=e
 |none=>False
theorem yc[dp](hΘ:dR P Θ)(hY:eY P Y)(hm:P.follows .mixedOrders=true){c:Code}(hc:fe P c=true)(hL:eh P Λ (dL c)){σ ε:Type}{H:σ->TS}{E:ε->X×TS}{B:σ->Option (σ⊕ε)}{keepN keepX:List Nat}
  (hH: ∀s,(H s).ok) (hstep: ∀s,lr Θ Y Λ c (H s) (rK keepN keepX λx S=>some (x,S))=(B s).bind (Sum.elim (λs'=>some (.nor,H s')) λe=>some (E e)))
  (hE: ∀e,(E e).1≠ .nor) {G:σ->Option ε} {μ:σ->Nat} (hG: ∀s e,G s=some e->vj G μ s e (B s))
  {s:σ} {e:ε} (hs:G s=some e):gk P (.loop c) (H s).st (λx S'=>x=(E e).1/\S'=(E e).2.st):=by
 refine gk.loop (λn X=> ∃s,X=(H s).st/\G s=some e/\μ s=n) (λn X hX=> ?_) (n:=μ s) ⟨s,rfl,hs,rfl⟩;obtain⟨s,rfl,hs,rfl⟩:=hX;have hg:=hG s e hs;have hst:=hstep s;cases hB:B s with
 |none=>rw[hB] at hg;exact hg.elim
 |some l=>
  rw[hB] at hg hst;cases l with
  |inl s'=>
   simp only[an,Sum.elim_inl] at hst;refine (pg hΘ hY hm c _ _ _ hc hL (hH s) hst).mono (λx S' hx=> ?_);obtain⟨S1,rfl,h1,h2⟩:=hx
   have eX: ∃S2:TS,gb S1.st S2.st/\x= .nor/\S2=H s':=by
    unfold rK at h2;split at h2
    ·obtain⟨S2,k1,_,k2⟩:=it h1 h2
     grind
    ·grind [it]
   obtain⟨S2,k1,rfl,rfl⟩:=eX;exact⟨_,k1,μ s',hg.1,s',rfl,hg.2,rfl⟩
  |inr e'=>
   simp only[an,Sum.elim_inr] at hst;have hg:e'=e:=hg;subst hg;refine (pg hΘ hY hm c _ _ _ hc hL (hH s) hst).mono (λx S' hx=> ?_);obtain⟨S1,rfl,h1,h2⟩:=hx
   have eX: ∃S2:TS,gb S1.st S2.st/\(x,S2)=E e':=by
    unfold rK at h2;split at h2
    ·grind [it]
    ·grind [it]
   grind
def vX(grow:List rU)(keep:List Nat)(L:jR){ε:Type}(E:ε->X×TS)(G:L.D->Option ε):TS->(ρ:Type)->(X->TS->Option ρ)->Option ρ:=
 λS _ κ=>lp keep (jF grow S) λS1=>L.un S1 λs=>(G s).bind λe=>κ (E e).1 (E e).2
theorem vY[dp]{c:Code}{grow:List rU}{keep:List Nat}{L:jR}{ε:Type}{E:ε->X×TS}{G:L.D->Option ε}(hE: ∀e,(E e).2.ok)
  (h: ∀s e,G s=some e->gk P (.loop c) (L.mk' s).st (λx S'=>x=(E e).1/\S'=(E e).2.st)) {S:TS} {ρ:Type} {κ:X->TS->Option ρ} {r:ρ} (hS:S.ok) (hk:vX grow keep L E G S ρ κ=some r):
  gk P (.loop c) S.st (λx S'=> ∃S1:TS,S'=S1.st/\S1.ok/\κ x S1=some r):=by
 unfold vX at hk;obtain⟨h1,h2⟩:=ke grow hS;obtain⟨S1,h3,h4,hk⟩:=it h2 hk;obtain⟨s,rfl,hk2⟩:=jR.un_some h4 hk;obtain⟨e,h5,hk3⟩:=af.1 hk2;refine gk.weak (h1.trans h3) ((h s e h5).mono (λx S' hx=> ?_));obtain⟨rfl,rfl⟩:=hx;exact⟨_,gb.refl,_,rfl,hE e,hk3⟩
end
end
section
open Go
abbrev fK.D:List Ty->Type
 | [] =>Unit
 |t::l=>t.D×fK.D l
def fr: (l:List Ty)->fK.D l->List ((t:Ty)×t.D)
 | [],_=> []
 |t::l,x=>⟨t,x.1⟩::fr l x.2
def jS[dp](P:Program)(f:FuncId)(e:rS):Prop:=∀args ρ κ r,e args ρ κ=some r-> ∃res out,jT P f args res out/\res.ok (out.map some)/\κ res out=some r
theorem yE[dp](P:Program):eY P (oc []):=λ_ _ _ _ _ h=>by cases h
theorem wQ[dp]{P:Program}{f:FuncId}{e:rS}{l:List (Nat×rS)}(h:jS P f e)(hl:eY P (oc l)):eY P (oc ((f,e)::l)):=by
 intro g args ρ κ r hr;have hr: (bif Nat.beq f g then e args ρ κ else zD l g args ρ κ)=some r:=hr;cases hb:Nat.beq f g with
 |true=>rw[hb] at hr;have:=ak hb;subst this;exact h args ρ κ r hr
 |false=>rw[hb] at hr;exact hl g args ρ κ r hr
def rP(as bs:List AV):Prop:=as.length=bs.length/\ ∀ (k:Nat) (a b:AV),as[k]? =some a->bs[k]? =some b->a=b\/(a= .em/\ ∃s,b= .ro s [])
theorem rP.refl(as:List AV):rP as as:=⟨rfl,λk a b h1 h2=>by rw[h1] at h2;cases h2;exact .inl rfl⟩
theorem rP.cons{a b:AV}{as bs:List AV}(h:a=b\/(a= .em/\ ∃s,b= .ro s []))(hn:rP as bs):rP (a::as) (b::bs):=
 ⟨by simp[hn.1],λk x y h1 h2=>by
  cases k with
  |zero=>grind
  |succ k=>exact hn.2 k x y (by simpa using h1) (by simpa using h2)⟩
theorem rP.VR{as bs:List AV}(hn:rP as bs){w:World}{bt:Bt}{vals:List Value}(h: ∀ (k:Nat) (v:AV) (u:Value),as[k]? =some v->vals[k]? =some u->VR w bt v u)(k:Nat)(v:AV)(u:Value)(hv:bs[k]? =some v)(hu:vals[k]? =some u):VR w bt v u:=by
 have hk:k<as.length:=by rw[hn.1];exact (ah.1 hv).1
 have ha:=ao hk;have hx:=h k _ u ha hu;rcases hn.2 k _ v ha hv with e| ⟨e,s,rfl⟩
 ·rw[<-e];exact hx
 ·rw[e] at hx;cases hx with
  |em b=>exact .ro (.em _ _ _)
theorem eB.norm[dp]{P:Program}{f:FuncId}{as bs:List AV}{gs:List T}{m:Nat}{res:AV}{out:List T}(hn:rP as bs)(h:eB P f bs gs m res out):eB P f as gs m res out:=
 λw W bt0 vals hI hl hv=>h w W bt0 vals hI (hl.trans hn.1) (hn.VR hv)
theorem gD.norm[dp]{P:Program}{f:FuncId}{as bs:List AV}{gs:List T}{res:AV}{out:List T}(hn:rP as bs)(h:gD P f bs gs res out):gD P f as gs res out:=eB.norm hn h
theorem un_some{ρ:Type}{t:Ty}{a:V1}{κ:t.D->Option ρ}{r:ρ}(h:un t a κ=some r): ∃x,a=tf t x/\κ x=some r:=by
 unfold un at h;split at h
 ·rename_i cs;obtain⟨h1,h⟩:=dj h;split at h
  ·rename_i xs hxs;split at h
   ·rename_i x hx;refine⟨x,?_,h⟩;unfold tf;rw[h1,t.unflat_some _ _ hx,lS hxs];rfl
   ·cases h
  ·cases h
 ·rename_i y;cases hag:t.ag with
  |true=>rw[hag] at h;cases h
  |false=>
   rw[hag] at h;simp only[cond_false] at h;split at h
   ·rename_i x hx;refine⟨x,?_,h⟩;unfold tf;rw[hag,t.unflat_some _ _ hx];rfl
   ·cases h
 ·cases h
theorem zp(t:Ty)(x:t.D): (tf t x).ok [] :=by
 unfold tf;cases t.ag with
 |true=>intro c hc;obtain⟨y,_,rfl⟩:=aD.1 hc;trivial
 |false=>
  simp only[cond_false];split
  ·rename_i c hc;have :c∈(t.flat x).map Cl.c:=by rw[hc];exact aI.2 rfl
   obtain⟨y,_,rfl⟩:=aD.1 this;trivial
  ·trivial
theorem pM(lI suf:List dx): ∀ (cs:List C) (mid:List dx),∀c∈kv cs (lI.length+mid.length),c.ok ((lI++mid++gy cs++suf).map some)
 | [],mid,c,h=>by cases h
 | .sc v::cs,mid,c,h=>by
   rcases aW.1 h with rfl|h
   ·trivial
   ·exact pM lI suf cs mid c h
 | .ls t l::cs,mid,c,h=>by
   rcases aW.1 h with rfl|h
   ·refine⟨by simp[gy],λ_=>⟨rfl,rfl,λtr htr=> ?_⟩⟩
    have :dJ ((lI++mid++gy (.ls t l::cs)++suf).map some) (lI.length+mid.length)=some ⟨t,l,none⟩:=by unfold dJ;rw[dP,aq,bf,aZ (by simp)];simp[gy]
    have htr':dJ ((lI++mid++gy (.ls t l::cs)++suf).map some) (lI.length+mid.length)=some tr:=htr;rw[this] at htr';cases htr';rfl
   ·have:=pM lI suf cs (mid++ [⟨t,l,none⟩]) c (by rw[bI,<-Nat.add_assoc];exact h);simp only[gy];simpa using this
theorem yw(t:Ty)(x:t.D)(lI suf:List dx): (uV t x lI.length).ok ((lI++gy (t.flat x)++suf).map some):=by
 have eX:=pM lI suf (t.flat x) [];simp only[bR,bF,bM] at eX;unfold uV;cases t.ag with
 |true=>exact eX
 |false=>
  simp only[cond_false];split
  ·rename_i c hc;exact eX c (by rw[hc];exact aI.2 rfl)
  ·trivial
theorem nB: ∀ (l:List ((t:Ty)×t.D)) (lI:List dx),∀v∈jY lI.length l,v.ok ((lI++i6 l).map some)
 | [],lI,v,h=>by cases h
 | ⟨t,x⟩::l,lI,v,h=>by
   rcases aW.1 h with rfl|h
   ·have:=yw t x lI (i6 l);simpa [i6] using this
   ·have:=nB l (lI++gy (t.flat x)) v (by rw[bI];exact h);simpa [i6] using this
theorem sK(l:List ((t:Ty)×t.D)): (pG (jY 0 l)).ok ((i6 l).map some):=by
 have h:=nB l [];simp only[bR,bC] at h
 match jY 0 l,h with
 | [],_=>exactλx hx=>by cases hx
 | [v],h=>exact h v aH
 |v::u::vs,h=>exact h
end
section
open Go
def Sh.fit(n:Nat):Sh->Bool| .own r _=>Nat.blt r n| .sub r _=>Nat.blt r n| .row r _ _=>Nat.blt r n| .pt r _=>Nat.blt r n| _=>true
def lh.fit(n:Nat):lh->Bool| .cl s=>s.fit n| .agg l=>l.all (Sh.fit n)| .st _=>true| .fn _ l=>l.all (Sh.fit n)
def jR.fit(L:jR):Bool:=L.env.all (λx=>x.2.fit L.gh.length)&&L.bx.all (λl=>l.all (Sh.fit L.gh.length))
theorem ig.mk_length: ∀ (l:List Ty) (d:ig.D l),(ig.mk l d).length=l.length
 | [],_=>rfl
 |t::l,d=>by simp[ig.mk,ig.mk_length l d.2]
theorem Sh.mk_ok{G:List (Option dx)}{s:Sh}(h:s.fit G.length=true)(x:s.D): (s.mk G x).ok G:=by
 cases s with
 |own r t=>
  refine⟨ar h,λ_=>⟨rfl,rfl,λtr htr=> ?_⟩⟩;unfold dJ at htr;unfold zK;have htr': (fU G r).getD none=some tr:=htr;cases hn:fU G r with
  |none=>rw[hn] at htr';cases htr'
  |some y=>grind
 |sub r t=>exact⟨ar h,λe=>by cases e⟩
 |row r j w=>exact⟨ar h,λe=>by cases e⟩
 |pt r w=>exact ar h
 | _=>trivial
theorem jy.mk_ok{G:List (Option dx)}: ∀ {l:List Sh},l.all (Sh.fit G.length)=true-> ∀ (x:jy.D l),∀c∈jy.mk G l x,c.ok G
 | [],_,x,c,hc=>by cases hc
 |s::l,h,x,c,hc=>by
  simp only[bX,aj] at h;rcases aW.1 hc with rfl|hc
  ·exact Sh.mk_ok h.1 x.1
  ·exact jy.mk_ok h.2 x.2 c hc
theorem lh.mk_ok{G:List (Option dx)}{v:lh}(h:v.fit G.length=true)(x:v.D): (v.mk G x).ok G:=by
 cases v with
 |cl s=>exact Sh.mk_ok h x
 |agg l=>exact jy.mk_ok h x
 |st n=>intro c hc;obtain⟨y,_,rfl⟩:=aD.1 hc;trivial
 |fn f l=>exact jy.mk_ok h x
theorem jR.mk'_ok{L:jR}(h:L.fit=true)(d:L.D): (L.mk' d).ok:=by
 unfold jR.fit at h;simp only[aj] at h;have hlen: (ig.mk L.gh d.2.2).length=L.gh.length:=ig.mk_length _ _;rw[<-hlen] at h
 have env: ∀ {l:List (Nat×lh)},l.all (λx=>x.2.fit (ig.mk L.gh d.2.2).length)=true-> ∀ (e:nZ.D l),∀x∈nZ.mk (ig.mk L.gh d.2.2) l e,x.2.ok (ig.mk L.gh d.2.2):=by
  intro l
  induction l with
  |nil=>intro _ e x hx;cases hx
  |cons y l ih=>
   intro h e x hx;simp only[bX,aj] at h;rcases aW.1 hx with rfl|hx
   all_goals grind [lh.mk_ok]
 have bxs: ∀ {l:List (List Sh)},l.all (λl=>l.all (Sh.fit (ig.mk L.gh d.2.2).length))=true-> ∀ (e:nY.D l),∀cs∈nY.mk (ig.mk L.gh d.2.2) l e,∀c∈cs,c.ok (ig.mk L.gh d.2.2):=by
  intro l
  induction l with
  |nil=>intro _ e x hx;cases hx
  |cons y l ih=>
   intro h e x hx;simp only[bX,aj] at h;rcases aW.1 hx with rfl|hx
   all_goals grind [jy.mk_ok]
 exact⟨env h.1 d.1,bxs h.2 d.2.1⟩
abbrev kG.D:List (X×jR)->Type
 | [] =>Empty
 | [x] =>x.2.D
 |x::y::l=>x.2.D⊕kG.D (y::l)
def kG.k{R:Type}: (l:List (X×jR))->kG.D l->(X->TS->R)->R
 | [],e,_=>e.elim
 | [x],d,κ=>κ x.1 (x.2.mk' d)
 |x::y::l,e,κ=>Sum.elim (λd=>κ x.1 (x.2.mk' d)) (λe=>kG.k (y::l) e κ) e
def kG.e(l:List (X×jR))(d:kG.D l):X×TS:=kG.k l d Prod.mk
theorem kG.k_eq{R:Type}: ∀ (l:List (X×jR)) (d:kG.D l) (κ:X->TS->R),kG.k l d κ=κ (kG.e l d).1 (kG.e l d).2
 | [],e,_=>e.elim
 | [_],_,_=>rfl
 | _::_::_,.inl _,_=>rfl
 | _::y::l,.inr e,κ=>kG.k_eq (y::l) e κ
def AB(x:X×jR):Bool:=(match x.1 with | .nor=>false| _=>true)&&x.2.fit
theorem kG.ok: ∀ (l:List (X×jR)) (d:kG.D l),l.all AB=true->(kG.e l d).1≠ .nor/\(kG.e l d).2.ok
 | [],e,_=>e.elim
 | [x],d,h=>by simp only[bX,aj,AB] at h;refine⟨λe=> ?_,jR.mk'_ok h.1.2 d⟩;have e:x.1= .nor:=e;rw[e] at h;cases h.1.1
 |x::_::_,.inl d,h=>by simp only[bX,aj,AB] at h;refine⟨λe=> ?_,jR.mk'_ok h.1.2 d⟩;have e:x.1= .nor:=e;rw[e] at h;cases h.1.1
 | _::y::l,.inr e,h=>kG.ok (y::l) e (by grind)
def vV(grow:List rU)(keep:List Nat)(L:jR)(exs:List (X×jR))(G:L.D->Option (kG.D exs)):TS->(ρ:Type)->(X->TS->Option ρ)->Option ρ:=
 λS _ κ=>lp keep (jF grow S) λS1=>L.un S1 λs=>(G s).bind λe=>kG.k exs e κ
abbrev s8:=TS->(ρ:Type)->(X->TS->Option ρ)->Option ρ
def m8:List (Nat×s8)->fL
 | [],_,_,_,_=>none
 | (q,e)::l,n,S,ρ,κ=>bif Nat.beq q n then e S ρ κ else m8 l n S ρ κ
section
variable {P:Program} {Θ:fw} {Y:kF} {Λ:fL}
def vg[dp](P:Program)(c:Code)(e:s8):Prop:=∀ (S:TS) (ρ:Type) (κ:X->TS->Option ρ) (r:ρ),S.ok->e S ρ κ=some r->gk P (.loop c) S.st (λx S'=> ∃S1:TS,S'=S1.st/\S1.ok/\κ x S1=some r)
theorem vW[dp](hΘ:dR P Θ)(hY:eY P Y)(hm:P.follows .mixedOrders=true){c:Code}(hc:fe P c=true)(hL:eh P Λ (dL c))(grow:List rU)(keep keepX:List Nat)(L:jR)(exs:List (X×jR))(hf: (L.fit&&exs.all AB)=true)
  (B:L.D->Option (L.D⊕kG.D exs)) (hB: ∀s,lr Θ Y Λ c (L.mk' s) (rK keep keepX λx S=>some (x,S))=(B s).bind (Sum.elim (λs'=>some (.nor,L.mk' s')) λe=>some (kG.e exs e)))
  (G:L.D->Option (kG.D exs)) (μ:L.D->Nat) (hG: ∀s e,G s=some e->vj G μ s e (B s)):vg P c (vV grow keep L exs G):=by
 simp only[aj] at hf;intro S ρ κ r hS hk;refine vY (E:=kG.e exs) (λe=>(kG.ok exs e hf.2).2) (λs e hs=>yc hΘ hY hm hc hL (λs=>jR.mk'_ok hf.1 s) hB (λe=>(kG.ok exs e hf.2).1) hG hs) hS ?_ (grow:=grow) (keep:=keep)
 grind [vX,vV,kG.k_eq]
end
end
section
open Go
def xG(P:Program)(e:TypeId->List Value->Bool):List Field->Nat->List Value->Bool
 | [],_,[] =>true
 | [],_,_::_=>false
 |f::fs,off,zs=>f.name != "_" &&Nat.beq f.offset off&&Nat.blt 0 (P.cellsOf f.type)&&Nat.ble (P.cellsOf f.type) zs.length&&(P.info? f.type).isSome&&e f.type (zs.take (P.cellsOf f.type))&&xG P e fs (off+P.cellsOf f.type) (zs.drop (P.cellsOf f.type))
def qx(P:Program):Nat->TypeId->List Value->Bool
 | 0,_,_=>false
 |n+1,t,zs=>match P.underlying t with
  |some .bool=>(match zs with | [.bool _] =>true| _=>false)
  |some (.int _)=>(match zs with | [.int _ _] =>true| _=>false)
  |some (.struct fs)=> !P.stoodInHeld t&&xG P (qx P n) fs.toList 0 zs
  | _=>false
def ow(P:Program)(t:TypeId)(xs:List Value):Value:=match P.underlying t with
 |some (.struct _)=> .agg xs.toArray
 | _=>xs.headD (.bool false)
def eZ:List Value->List Value->Bool
 | [],[] =>true
 | .int k _::zs,.int k' _::cs=>bif decide (k=k') then eZ zs cs else false
 | .bool _::zs,.bool _::cs=>eZ zs cs
 | _,_=>false
def ff:List Value->List Value->Option Bool
 | [],[] =>some true
 |a::l,b::m=>match qy a b,ff l m with
  |some x,some y=>some (x&&y)
  | _,_=>none
 | _,_=>none
theorem nk: ∀ {zs xs:List Value},fb zs (xs.map λx=> .c (.sc x))=true->eZ zs xs=true:=by
 intro zs
 induction zs with
 |nil=>intro xs h;cases xs with
  |nil=>rfl
  |cons=>simp[fb] at h
 |cons z zs ih=>
  intro xs h;cases xs with
  |nil=>cases z<;>simp[fb] at h
  |cons x xs=>
   cases z<;>cases x<;>simp only[aL,fb,eZ,cond_eq_ite,aN] at h ⊢
   ·exact ih h
   ·split at h
    ·rename_i hk;rw[if_pos hk];exact ih h
    ·cases h
theorem uy: ∀ {xs ys:List Value},jA (xs.map λx=> .c (.sc x)) (ys.map λx=> .c (.sc x))=ff xs ys:=by
 intro xs
 induction xs with
 |nil=>intro ys;cases ys<;>rfl
 |cons x xs ih=>
  intro ys;cases ys with
  |nil=>rfl
  |cons y ys=>simp only[aL,jA,ff,ih];cases qy x y<;>cases ff xs ys<;>rfl
theorem gt: ∀ {zs xs:List Value},eZ zs xs=true->xs.length=zs.length:=by
 intro zs
 induction zs with
 |nil=>intro xs h;cases xs with
  |nil=>rfl
  |cons=>simp[eZ] at h
 |cons z zs ih=>
  intro xs h;cases xs with
  |nil=>cases z<;>simp[eZ] at h
  |cons x xs=>
   cases z<;>cases x<;>simp only[eZ,cond_eq_ite,aN] at h
   ·simp[ih h]
   ·split at h
    ·simp[ih h]
    ·cases h
theorem iO: ∀ {zs xs:List Value} (n:Nat),eZ zs xs=true->eZ (zs.take n) (xs.take n)=true/\eZ (zs.drop n) (xs.drop n)=true:=by
 intro zs
 induction zs with
 |nil=>intro xs n h;cases xs with
  |nil=>simp[eZ]
  |cons=>simp[eZ] at h
 |cons z zs ih=>
  intro xs n h;cases xs with
  |nil=>cases z<;>simp[eZ] at h
  |cons x xs=>
   cases n with
   |zero=>exact⟨rfl,h⟩
   |succ n=>
    cases z<;>cases x<;>simp only[eZ,cond_eq_ite,aN] at h
    ·exact ih n h
    ·split at h
     ·rename_i hk;refine⟨?_,(ih n h).2⟩;simp only[List.take_succ_cons,eZ,cond_eq_ite];rw[if_pos (by simpa using hk)];exact (ih n h).1
     ·cases h
theorem pf: ∀ {xs ys:List Value} (n:Nat) {r:Bool},ff xs ys=some r-> ∃a b,ff (xs.take n) (ys.take n)=some a/\ff (xs.drop n) (ys.drop n)=some b/\r=(a&&b):=by
 intro xs
 induction xs with
 |nil=>intro ys n r h;cases ys with
  |nil=>cases h;exact⟨true,true,by simp[ff],by simp[ff],rfl⟩
  |cons=>simp[ff] at h
 |cons x xs ih=>
  intro ys n r h;cases ys with
  |nil=>simp[ff] at h
  |cons y ys=>
   cases n with
   |zero=>exact⟨true,r,rfl,h,rfl⟩
   |succ n=>
    simp only[ff] at h;split at h
    ·rename_i p q hp hq;cases h;obtain⟨a,b,h1,h2,rfl⟩:=ih n hq;exact⟨p&&a,b,by simp[ff,hp,h1],h2,by cases p<;>rfl⟩
    ·cases h
theorem pI{P:Program}{t:TypeId}{i:TypeInfo}(h:P.info? t=some i):dw P (typeInfo t)=some i:=by simp only[typeInfo,dv,program,dw,an,h];rfl
theorem rg{P:Program}{t:TypeId}{i:TypeInfo}(hi:P.info? t=some i){d:TypeDesc}(hd:P.underlying t=some d)(hs: ∀n e,d≠ .array n e){xs:List Value}{off:Nat}{c:Value}(hc:xs[off]? =some c):
  dw P (part t xs.toArray off)=some (ow P t ((xs.drop off).take (P.cellsOf t)))\/P.cellsOf t=0:=by
 by_cases h0:P.cellsOf t=0
 ·exact .inr h0
 refine .inl ?_;have hcell:P.cellsOf t=i.size:=by simp[Program.cellsOf,hi]
 cases hst: (match d with | .struct _=>true| _=>false) with
 |true=>
  have hag:dw P (isAgg t)=some true:=by simp only[isAgg,dv,dG hd,an];cases d<;>simp at hst;rfl
  simp only[part,sizeOf,dv,hag,an,if_true,pI hi,dy,ow,hd];cases d<;>simp at hst;simp[hcell,Nat.add_sub_cancel_left]
 |false=>
  have hag:dw P (isAgg t)=some false:=by
   simp only[isAgg,dv,dG hd,an];cases d<;>simp at hst
   all_goals first |rfl|exact absurd rfl (hs _ _)
  have hv:ow P t ((xs.drop off).take (P.cellsOf t))=c:=by
   have : ((xs.drop off).take (P.cellsOf t)).headD (.bool false)=c:=by
    obtain⟨n,hn⟩: ∃n,P.cellsOf t=n+1:=⟨P.cellsOf t-1,by omega⟩
    have h1:off<xs.length:=(ah.1 hc).1;rw[hn,b8 h1,List.take_succ_cons];exact (ah.1 hc).2
   unfold ow;rw[hd];cases d<;>first |exact this|simp at hst
  rw[hv];simp only[part,dv,hag,an,aN,if_false];have :xs.toArray[off]? =some c:=by simpa using hc
  rw[this];rfl
theorem tB(P:Program): ∀ (n:Nat) {t:TypeId} {zs xs ys:List Value} {r:Bool} (d:Nat),qx P n t zs=true->eZ zs xs=true->eZ zs ys=true->ff xs ys=some r->dw P (Op.equalIn (n+d) t (ow P t xs) (ow P t ys))=some r
 | 0,t,zs,xs,ys,r,d,h,_,_,_=>by cases h
 |n+1,t,zs,xs,ys,r,d,h,hx,hy,he=>by
  have hn:n+1+d=(n+d)+1:=by omega
  rw[hn];unfold qx at h;cases hu:P.underlying t with
  |none=>rw[hu] at h;cases h
  |some D=>
   rw[hu] at h;cases D<;>simp only[aN] at h
   case bool=>
    split at h
    case h_2=>cases h
    obtain⟨x,rfl⟩: ∃x,xs= [.bool x] :=by
     match xs,hx with
     | [.bool x],_=>exact⟨x,rfl⟩
    obtain⟨y,rfl⟩: ∃y,ys= [.bool y] :=by
     match ys,hy with
     | [.bool y],_=>exact⟨y,rfl⟩
    simp only[ff,qy,cR,ae] at he;subst he;simp only[ow,hu,List.headD_cons];rw[Op.equalIn];simp only[dv,dG hu,an,dy]
   case int k=>
    split at h
    case h_2=>cases h
    rename_i k0 _
    obtain⟨x,rfl⟩: ∃x,xs= [.int k0 x] :=by
     match xs,hx with
     | [.int k1 x],hx=>
       simp only[eZ,cond_eq_ite] at hx;split at hx
       ·rename_i hk;simp at hk;subst hk;exact⟨x,rfl⟩
       ·cases hx
     | .int _ _::_::_,hx=>simp[eZ] at hx
    obtain⟨y,rfl⟩: ∃y,ys= [.int k0 y] :=by
     match ys,hy with
     | [.int k1 x],hx=>
       simp only[eZ,cond_eq_ite] at hx;split at hx
       ·rename_i hk;simp at hk;subst hk;exact⟨x,rfl⟩
       ·cases hx
     | .int _ _::_::_,hx=>simp[eZ] at hx
    simp only[ff,qy,cR,ae] at he;subst he;simp only[ow,hu,List.headD_cons];rw[Op.equalIn];simp only[dv,dG hu,an,dy,if_true]
   case struct fs=>
    simp only[aj,bD] at h;obtain⟨hst,h⟩:=h;simp only[ow,hu]
    have eX: ∀ (fs:List Field) (off:Nat) (zs:List Value) (r:Bool),xG P (qx P n) fs off zs=true->eZ zs (xs.drop off)=true->eZ zs (ys.drop off)=true->ff (xs.drop off) (ys.drop off)=some r->
      dw P (Op.eqFields (n+d) xs.toArray ys.toArray fs)=some r:=by
     intro fs
     induction fs with
     |nil=>
      intro off zs r h hx hy he;cases zs with
      |nil=>have h1:=gt hx;have h2:=gt hy;simp only[bR,cP] at h1 h2;rw[h1,h2] at he;cases he;rfl
      |cons=>cases h
     |cons f fs ih=>
      intro off zs r h hx hy he;simp only[xG,aj,bne_iff_ne,ne_eq] at h;obtain⟨⟨⟨⟨⟨⟨hname,hoff⟩,hpos⟩,hle⟩,hi⟩,h1⟩,h2⟩:=h;have hoff:=ak hoff;have hpos:0<P.cellsOf f.type:=ar hpos;have hle:P.cellsOf f.type<=zs.length:=ar hle;have hlx:=gt hx;have hly:=gt hy;rw[cf] at hlx hly;obtain⟨i,hi⟩:=aV.1 hi
      have hu': ∃D,P.underlying f.type=some D/\ ∀n e,D≠ .array n e:=by
       cases hun:P.underlying f.type with
       |none=>cases n<;>simp[qx,hun] at h1
       |some D=>refine⟨D,rfl,λk e he=> ?_⟩;subst he;cases n<;>simp[qx,hun] at h1
      obtain⟨D,hD,hDa⟩:=hu';have px:=rg hi hD hDa (xs:=xs) (off:=off) (ao (by omega));have py:=rg hi hD hDa (xs:=ys) (off:=off) (ao (by omega));have px:=px.resolve_right (by omega);have py:=py.resolve_right (by omega);obtain⟨a,b,ha,hb,rfl⟩:=pf (P.cellsOf f.type) he;have hA:=tB P n d h1 (iO _ hx).1 (iO _ hy).1 ha;rw[Op.eqFields,if_pos hname];simp only[hoff,dv,px,py,an,hA];cases a with
      |false=>rfl
      |true=>
       simp only[cS,aN,if_false,df];simp only[cd] at hb;refine ih _ _ _ h2 ?_ ?_ hb
       ·have:=(iO (P.cellsOf f.type) hx).2;rw[cd] at this;exact this
       ·have:=(iO (P.cellsOf f.type) hy).2;rw[cd] at this;exact this
    have:=eX fs.toList 0 zs r h (by simpa using hx) (by simpa using hy) (by simpa using he);rw[<-this];rw[Op.equalIn];simp only[dv,dG hu,an,program,dw,hst,aN,if_false];rw[<-Array.forIn_toList];generalize fs.toList=fs;clear this eX h hu hst hn
    induction fs with
    |nil=>rfl
    |cons f fs ih=>
     simp only[List.forIn_cons,Op.eqFields];split
     ·simp only[dv];cases dw P (part f.type xs.toArray f.offset) with
      |none=>rfl
      |some a=>
       cases dw P (part f.type ys.toArray f.offset) with
       |none=>rfl
       |some b=>
        simp only[an];cases dw P (Op.equalIn (n+d) f.type a b) with
        |none=>rfl
        |some q=>
         cases q
         ·rfl
         ·simp only[an,cS,aN,if_false,dy];simpa only[dv,Option.bind_assoc] using ih
     ·simp only[dv,dy,an];simpa only[dv,Option.bind_assoc] using ih
theorem Az{P:Program}{t:TypeId}{zs:List Value}{fs:Array Field}(hu:P.underlying t=some (.struct fs))(h:qx P 8 t zs=true)(a b:List Cl)(r:Bool)(xs ys:List Value)(ha:fb zs a=true)(hb:fb zs b=true)(he:jA a b=some r)(hx:a=xs.map (λx=> .c (.sc x)))(hy:b=ys.map (λx=> .c (.sc x))):
  dw P (Op.equal t (.agg xs.toArray) (.agg ys.toArray))=some r:=by
 subst hx hy;have:=tB P 8 9992 h (nk ha) (nk hb) (by rw[<-uy];exact he);unfold ow at this;rw[hu] at this;exact this
end
section
open Go
def Bk(P:Program):List Field->Option (List (Nat×Nat×Bool))
 | [] =>some []
 |f::fs=>match nW P f.type,Bk P fs with
  |some ag,some l=>some ((f.offset,P.cellsOf f.type,ag)::l)
  | _,_=>none
def BG(P:Program)(t:TypeId):Option (List (Nat×Nat×Bool)):=match P.underlying t with |some (.struct fs)=>Bk P fs.toList| _=>none
theorem tD{P:Program}: ∀ {fs:List Field} {l:List (Nat×Nat×Bool)},Bk P fs=some l-> ∀k,(fs[k]?).bind (λf=>(nW P f.type).map λag=>(f.offset,P.cellsOf f.type,ag))=fU l k
 | [],l,h,k=>by cases h;rfl
 |f::fs,l,h,k=>by
  unfold Bk at h;split at h
  ·rename_i ag l' h1 h2;cases h;cases k with
   |zero=>simp[h1,fU]
   |succ k=>show _=fU l' (k+1-1);rw[bJ,<-tD h2 k,cc]
  ·cases h
theorem xN{P:Program}{t:TypeId}{l:List (Nat×Nat×Bool)}(h:BG P t=some l)(k:Nat):vd P t k=fU l k:=by
 unfold BG at h;unfold vd;split at h
 ·rename_i fs hu;simp only[hu];rw[<-tD h k,cj]
 ·cases h
theorem yH(P:Program):dR P [] :=λ_ _ h=>by cases h
theorem dB{P:Program}{t:Nat}{ti:TI}{l:fw}(h:ti.ok P t)(hl:dR P l):dR P ((t,ti)::l):=by
 intro u ui hu;unfold eW at hu;cases hb:Nat.beq t u with
 |true=>rw[hb] at hu;have:=ak hb;subst this;cases hu;exact h
 |false=>rw[hb] at hu;exact hl u ui hu
def AI(P:Program)(t:TypeId):Bool:=match P.underlying t with |some (.struct _)=>true| _=>false
section
variable {P:Program} {t:TypeId}
theorem iA{n:Sn}{fds:List (Nat×Nat×Bool)}{by':Nat}(h1:AI P t=true)(h2:P.cellsOf t=(Ty.st n).width)(h3:fI P 9 t=(Ty.st n).shs)(h4:k9 P t=some (Ty.st n).zvs)(h5:BG P t=some fds)
  (h6:AR P t=some (fds.map λx=>(x.1,x.2.1))) (h7: ((Ty.st n).flatB=true->P.eqGuardType P.depth t=false/\qx P 8 t (Ty.st n).zvs=true)) (hz: (Ty.st n).flatB=false-> ∀xs:List Value,fb (Ty.st n).zvs (xs.map λx=> .c (.sc x))=false):TI.ok P t ⟨.st n,0,fds,by'⟩:=by
 unfold AI at h1;split at h1
 case h_2=>cases h1
 rename_i fs hu;refine⟨?_,h2,h3,h4,xN h5,λ_=>h6,λe he=>(by cases he),λhb=>(by cases hb),λ_ hf=>(h7 hf).1,λ_ a b r xs ys ha hb he hx hy=> ?_,?_,λk hk=>(by cases hk),λk u hk=>(by cases hk)⟩
 ·simp[nW,hu,Ty.ag]
 ·cases hf: (Ty.st n).flatB with
  |true=>exact Az hu (h7 hf).2 a b r xs ys ha hb he hx hy
  |false=>subst hx;have:=hz hf xs;rw[show fb (Ty.st n).zvs _=true from ha] at this;cases this
 ·simp[lQ,hu]
def B6(P:Program)(u:TypeId):Ty->Bool| .i k=>(match P.underlying u with |some (.int k')=>decide (k'=k)| _=>false)| _=>true
theorem ju{e:Ty}{el:Nat}{by':Nat}{u:TypeId}(h1:iB P t=some u)(h2:P.cellsOf t=1)(h4:k9 P t=some [.slice none 0 0])(h5:P.cellsOf u=e.width)(h6:P.bytesOf u=el)(h7:Nat.blt 0 el=true)(h8:fI P 9 u=e.shs)(h9:k9 P u=some e.zvs)(h10:B6 P u e=true):TI.ok P t ⟨.ls e,el,[],by'⟩:=by
 have hu:P.underlying t=some (.slice u):=by
  unfold iB at h1;split at h1
  ·rename_i e hu;cases h1;exact hu
  ·cases h1
 refine⟨?_,h2,?_,h4,λk=> ?_,λh=>(by cases h),λe' he=> ?_,λhb=>(by cases hb),λh=>(by cases h),λh=>(by cases h),?_,λk hk=>(by cases hk),λk u' hk hu'=> ?_⟩
 ·simp[nW,hu,Ty.ag]
 ·simp[fI,hu,Ty.shs,Ty.csh,h5]
 ·simp[vd,hu,fU]
 ·cases he;exact⟨u,h1,h5,h6,ar h7,h8,h9⟩
 ·simp[lQ,hu]
 ·cases hk;rw[h1] at hu';cases hu';unfold B6 at h10;simp only at h10;split at h10
  ·rename_i k' hk';rw[hk',of_decide_eq_true h10]
  ·cases h10
def B7(P:Program)(t:TypeId)(y:Ty):Bool:=match P.underlying t,y with
 |some (.int k),.i k'=>decide (k=k')
 |some .bool,.b=>true
 |some .string,.s=>true
 | _,_=>false
theorem jZ{y:Ty}{by':Nat}(h1:B7 P t y=true)(h2:P.cellsOf t=1)(h4:k9 P t=some y.zvs):TI.ok P t ⟨y,0,[],by'⟩:=by
 unfold B7 at h1;split at h1
 ·rename_i k k' hu;refine⟨(by simp[nW,hu,Ty.ag]),h2,(by simp[fI,hu,Ty.shs,Ty.csh]),h4,λk=>(by simp[vd,hu,fU]),λh=>(by cases h),λe' he=>(by cases he),λhb=>(by cases hb),λh=>(by cases h),λh=>(by cases h),by simp[lQ,hu],λq hq=>(by cases hq;rw[hu];simp only[decide_eq_true_eq] at h1;rw[h1]),λk u hk=>(by cases hk)⟩
 ·rename_i hu;refine⟨(by simp[nW,hu,Ty.ag]),h2,(by simp[fI,hu,Ty.shs,Ty.csh]),h4,λk=>(by simp[vd,hu,fU]),λh=>(by cases h),λe' he=>(by cases he),λhb=>hu,λh=>(by cases h),λh=>(by cases h),by simp[lQ,hu],λq hq=>(by cases hq),λk u hk=>(by cases hk)⟩
 ·rename_i hu;refine⟨(by simp[nW,hu,Ty.ag]),h2,(by simp[fI,hu,Ty.shs,Ty.csh]),h4,λk=>(by simp[vd,hu,fU]),λh=>(by cases h),λe' he=>(by cases he),λhb=>(by cases hb),λh=>(by cases h),λh=>(by cases h),by simp[lQ,hu],λq hq=>(by cases hq),λk u hk=>(by cases hk)⟩
 ·cases h1
end
theorem fB: ∀ {zs:List Value} (xs:List Value),zs.any (λz=>match z with | .int _ _=>false| .bool _=>false| _=>true)=true->fb zs (xs.map λx=> .c (.sc x))=false
 | [],xs,h=>by cases h
 |z::zs,xs,h=>by
  cases hb:fb (z::zs) (xs.map λx=> .c (.sc x)) with
  |false=>rfl
  |true=>
   exfalso;cases xs with
   |nil=>cases z<;>simp[fb] at hb
   |cons x xs=>
    cases z<;>simp only[fb,aL,aN] at hb
    all_goals cases x<;>simp only[fb,cond_eq_ite,aN] at hb
    ·rw[fB xs (by simpa using h)] at hb;cases hb
    ·split at hb
     ·rw[fB xs (by simpa using h)] at hb;cases hb
     ·cases hb
end
section
open Go
section
variable {σ ε:Type}
def kz(B:σ->Option (σ⊕ε)):Nat->σ->Option ε
 | 0,_=>none
 |n+1,s=>(B s).bind (Sum.elim (kz B n) some)
theorem lL(B:σ->Option (σ⊕ε)): ∀ {n m:Nat} {s:σ} {e:ε},n<=m->kz B n s=some e->kz B m s=some e
 | 0,_,_,_,_,h=>by cases h
 |n+1,0,_,_,hm,_=>by omega
 |n+1,m+1,s,e,hm,h=>by
  unfold kz at h ⊢;cases hB:B s with
  |none=>rw[hB] at h;cases h
  |some x=>
   rw[hB] at h;cases x with
   |inl s'=>exact lL B (by omega) h
   |inr e'=>exact h
theorem pq{p:Nat->Prop}(h: ∃n,p n): ∃n,p n/\ ∀m,p m->n<=m:=by
 obtain⟨n,hn⟩:=h
 induction n using Nat.strongRecOn with
 | _ n ih=>
   by_cases hx: ∃m,m<n/\p m
   ·obtain⟨m,hm,hp⟩:=hx;exact ih m hm hp
   ·exact⟨n,hn,λm hm=>Nat.le_of_not_lt λhlt=>hx ⟨m,hlt,hm⟩⟩
noncomputable def mu(B:σ->Option (σ⊕ε))(s:σ):Option ε:=open Classical in if h: ∃n,(kz B n s).isSome=true then kz B (Classical.choose h) s else none
noncomputable def zL(B:σ->Option (σ⊕ε))(s:σ):Nat:=open Classical in if h: ∃n,(kz B n s).isSome=true then Classical.choose (pq h) else 0
theorem jl{B:σ->Option (σ⊕ε)}{s:σ}{e:ε}:mu B s=some e↔ ∃n,kz B n s=some e:=by
 classical
 constructor
 ·intro h;unfold mu at h;split at h
  ·rename_i hx;exact⟨_,h⟩
  ·cases h
 ·rintro⟨n,h⟩
  have hx: ∃n,(kz B n s).isSome=true:=⟨n,by rw[h];rfl⟩
  unfold mu;rw[dif_pos hx];obtain⟨e',he⟩:=aV.1 (Classical.choose_spec hx);have h1:=lL B (Nat.le_max_left (Classical.choose hx) n) he;have h2:=lL B (Nat.le_max_right (Classical.choose hx) n) h;rw[h1] at h2;cases h2;exact he
theorem jk(B:σ->Option (σ⊕ε))(s:σ):mu B s=(B s).bind (Sum.elim (mu B) some):=by
 apply Option.ext;intro e;rw[jl];constructor
 ·rintro⟨n,h⟩
  cases n with
  |zero=>cases h
  |succ n=>
   unfold kz at h;cases hB:B s with
   |none=>rw[hB] at h;cases h
   |some x=>
    rw[hB] at h;cases x with
    |inl s'=>exact jl.2 ⟨n,h⟩
    |inr e'=>exact h
 ·intro h;cases hB:B s with
  |none=>rw[hB] at h;cases h
  |some x=>
   rw[hB] at h;cases x with
   |inl s'=>obtain⟨n,h⟩:=jl.1 (show mu B s'=some e from h);exact⟨n+1,by unfold kz;rw[hB];exact h⟩
   |inr e'=>exact⟨1,by unfold kz;rw[hB];exact h⟩
theorem uM(B:σ->Option (σ⊕ε))(s:σ)(e:ε)(h:mu B s=some e):vj (mu B) (zL B) s e (B s):=by
 classical
 have h0:=h;rw[jk] at h;cases hB:B s with
 |none=>rw[hB] at h;cases h
 |some x=>
  rw[hB] at h;cases x with
  |inl s'=>
   refine⟨?_,h⟩
   have hx: ∃n,(kz B n s).isSome=true:=by obtain⟨n,hn⟩:=jl.1 h0;exact⟨n,by rw[hn];rfl⟩
   have hx': ∃n,(kz B n s').isSome=true:=by obtain⟨n,hn⟩:=jl.1 (show mu B s'=some e from h);exact⟨n,by rw[hn];rfl⟩
   unfold zL;rw[dif_pos hx,dif_pos hx'];have:=(Classical.choose_spec (pq hx)).1;cases hn:Classical.choose (pq hx) with
   |zero=>rw[hn] at this;cases this
   |succ n=>rw[hn] at this;unfold kz at this;rw[hB] at this;exact Nat.lt_succ_of_le ((Classical.choose_spec (pq hx')).2 n this)
  |inr e'=>exact (Option.some.inj h)
end
inductive jx where
 |ty (t:Ty)|pr (t:Ty)|fc (g:Nat)|fn (g:Nat) (caps:List Ty)|nl
abbrev jx.D:jx->Type
 | .ty t=>t.D
 | .pr t=>t.D
 | .fc _=>Unit
 | .fn _ caps=>fK.D caps
 | .nl=>Unit
abbrev fV.D:List jx->Type
 | [] =>Unit
 |p::l=>p.D×fV.D l
def pc: (l:List Ty)->fK.D l->List Cl
 | [],_=> []
 |t::l,x=> .pro (t.flat x.1)::pc l x.2
def jx.v1: (p:jx)->p.D->V1
 | .ty t,x=>tf t x
 | .pr t,x=> .cl (.pro (t.flat x))
 | .fc g,_=> .cl (.c (.sc (.func (.func g) #[] #[])))
 | .fn g caps,x=> .fn g (pc caps x)
 | .nl,_=> .cl .em
def fp: (l:List jx)->fV.D l->List V1
 | [],_=> []
 |p::l,x=>p.v1 x.1::fp l x.2
def yI{ρ:Type}(t:Ty)(c:Cl)(κ:t.D->Option ρ):Option ρ:=match c with
 | .pro xs=>(match t.unflat xs with |some x=>κ x|none=>none)
 | _=>none
def lR{ρ:Type}: (l:List Ty)->List Cl->(fK.D l->Option ρ)->Option ρ
 | [],[],κ=>κ ()
 |t::l,c::cs,κ=>yI t c λx=>lR l cs λy=>κ (x,y)
 | _,_,_=>none
def BR{ρ:Type}: (t:Ty)->V1->(t.D->Option ρ)->Option ρ
 | .ls _,.cl .em,κ=>κ []
 |t,a,κ=>un t a κ
def BS{ρ:Type}: (p:jx)->V1->(p.D->Option ρ)->Option ρ
 | .ty t,a,κ=>BR t a κ
 | .pr t,.cl c,κ=>yI t c κ
 | .fc g,.cl (.c (.sc (.func (.func g') cs ts))),κ=>bif Nat.beq g' g&&Nat.beq cs.size 0&&Nat.beq ts.size 0 then κ () else none
 | .fn g caps,.fn g' cs,κ=>bif Nat.beq g' g then lR caps cs κ else none
 | .nl,.cl .em,κ=>κ ()
 | _,_,_=>none
def pW{ρ:Type}: (l:List jx)->List V1->(fV.D l->Option ρ)->Option ρ
 | [],[],κ=>κ ()
 |p::l,a::as,κ=>BS p a λx=>pW l as λy=>κ (x,y)
 | _,_,_=>none
def ux(ps:List jx)(rs:List Ty)(G:fV.D ps->Option (fK.D rs)):rS:=λargs _ κ=>pW ps args λx=>(G x).bind λy=>ret (fr rs y) κ
theorem oW{ρ:Type}{t:Ty}{c:Cl}{κ:t.D->Option ρ}{r:ρ}(h:yI t c κ=some r): ∃x,c= .pro (t.flat x)/\κ x=some r:=by
 unfold yI at h;split at h
 ·split at h
  ·rename_i x hx;exact⟨x,by rw[t.unflat_some _ _ hx],h⟩
  ·cases h
 ·cases h
theorem me{ρ:Type}: ∀ {l:List Ty} {cs:List Cl} {κ:fK.D l->Option ρ} {r:ρ},lR l cs κ=some r-> ∃x,cs=pc l x/\κ x=some r
 | [],[],κ,r,h=>⟨(),rfl,h⟩
 |t::l,c::cs,κ,r,h=>by unfold lR at h;obtain⟨x,h1,h⟩:=oW h;obtain⟨y,h2,h⟩:=me h;exact⟨(x,y),by rw[h1,h2];rfl,h⟩
 | [],_::_,κ,r,h=>by simp[lR] at h
 | _::_,[],κ,r,h=>by simp[lR] at h
theorem wT{ρ:Type}{t:Ty}{a:V1}{κ:t.D->Option ρ}{r:ρ}(h:BR t a κ=some r): ∃x,(a.av=(tf t x).av\/(a.av= .em/\ ∃s,(tf t x).av= .ro s []))/\κ x=some r:=by
 unfold BR at h;split at h
 ·exact⟨[],.inr ⟨rfl,_,rfl⟩,h⟩
 ·obtain⟨x,e,h'⟩:=un_some h;exact⟨x,.inl (by rw[e]),h'⟩
theorem wU{ρ:Type}{p:jx}{a:V1}{κ:p.D->Option ρ}{r:ρ}(h:BS p a κ=some r): ∃x,(a.av=(p.v1 x).av\/(a.av= .em/\ ∃s,(p.v1 x).av= .ro s []))/\κ x=some r:=by
 unfold BS at h;split at h
 ·exact wT h
 ·obtain⟨x,h1,h⟩:=oW h;exact⟨x,.inl (by rw[h1];rfl),h⟩
 ·obtain⟨h1,h⟩:=dj h;simp only[aj] at h1;obtain⟨⟨h1,h2⟩,h3⟩:=h1;have h1:=ak h1;have h2:=b9 (ak h2);have h3:=b9 (ak h3);exact⟨(),.inl (by rw[h1,h2,h3];rfl),h⟩
 ·obtain⟨h1,h⟩:=dj h;obtain⟨x,h2,h⟩:=me h;exact⟨x,.inl (by rw[ak h1,h2];rfl),h⟩
 ·exact⟨(),.inl rfl,h⟩
 ·cases h
theorem fJ{ρ:Type}: ∀ {l:List jx} {as:List V1} {κ:fV.D l->Option ρ} {r:ρ},pW l as κ=some r-> ∃x,rP (as.map V1.av) ((fp l x).map V1.av)/\κ x=some r
 | [],[],κ,r,h=>⟨(),rP.refl _,h⟩
 |p::l,a::as,κ,r,h=>by unfold pW at h;obtain⟨x,h1,h⟩:=wU h;obtain⟨y,h2,h⟩:=fJ h;exact⟨(x,y),rP.cons h1 h2,h⟩
 | [],_::_,κ,r,h=>by simp[pW] at h
 | _::_,[],κ,r,h=>by simp[pW] at h
theorem oA(G:List (Option dx)): ∀ (l:List Ty) (x:fK.D l),∀c∈pc l x,c.ok G
 | [],x,c,h=>by cases h
 |t::l,x,c,h=>by
  rcases aW.1 h with rfl|h
  ·trivial
  ·exact oA G l x.2 c h
theorem jx.ok(p:jx)(x:p.D): (p.v1 x).ok [] :=by
 cases p with
 |ty t=>exact zp t x
 |pr t=>trivial
 |fc g=>trivial
 |fn g caps=>exact oA [] caps x
 |nl=>trivial
theorem iz: ∀ (l:List jx) (x:fV.D l),∀a∈fp l x,a.ok []
 | [],x,a,h=>by cases h
 |p::l,x,a,h=>by
  rcases aW.1 h with rfl|h
  ·exact p.ok x.1
  ·exact iz l x.2 a h
section
theorem xE[dp]{P:Program}{Θ:fw}{Y:kF}{Λ:fL}(hΘ:dR P Θ)(hY:eY P Y)(hm:P.follows .mixedOrders=true){f:FuncId}{fn:Func}(hf:pY P f=some fn)(hL: ∀c,fn.body=some c->eh P Λ (dL c)){ps:List jx}{rs:List Ty}{G:fV.D ps->Option (fK.D rs)}(hk:Nat.blt f 1048576=true)
  (F:fV.D ps->Option (fK.D rs)) (hF: ∀x,Bl Θ Y Λ fn (fp ps x) (λv g=>some (v,g))=(F x).bind λy=>ret (fr rs y) (λv g=>some (v,g))) (hG: ∀x y,G x=some y->F x=some y):jS P f (ux ps rs G):=by
 intro args ρ κ r hr;unfold ux at hr;obtain⟨x,hn,hr2⟩:=fJ hr;obtain⟨y,h1,hr3⟩:=af.1 hr2;exact⟨_,_,.of_fn (gD.norm hn (zA hΘ hY hm hf hL (iz ps x) (by rw[hF,hG x y h1];rfl))) (ar hk),sK _,hr3⟩
def zw(el:Ty)(ps:List jx)(rs:List Ty)(G:List el.D->fV.D ps->Option (fK.D rs)):rS:=λargs _ κ=>match args with
 | .cl (.c (.ls t l))::as=>(match jf t el l with
   |some l=>pW ps as λx=>(G l x).bind λy=>ret (fr rs y) κ
   |none=>none)
 | _=>none
def wz{ρ:Type}(el:Ty)(rs:List Ty)(y:List el.D×fK.D rs)(κ:V->List dx->Option ρ):Option ρ:=κ (pG (jY 1 (fr rs y.2))) (⟨el,y.1,none⟩::i6 (fr rs y.2))
def qw(el:Ty)(ps:List jx)(rs:List Ty)(G:List el.D->fV.D ps->Option (List el.D×fK.D rs)):rS:=λargs _ κ=>match args with
 | .cl (.c (.ls t l))::as=>(match jf t el l with
   |some l=>pW ps as λx=>(G l x).bind λy=>wz el rs y κ
   |none=>none)
 | _=>none
theorem xD[dp]{P:Program}{Θ:fw}{Y:kF}{Λ:fL}{f:FuncId}(hk:Nat.blt f 1048576=true)(hΘ:dR P Θ)(hY:eY P Y)(hm:P.follows .mixedOrders=true){fn:Func}(hf:pY P f=some fn)(hL: ∀c,fn.body=some c->eh P Λ (dL c)){el:Ty}{ps:List jx}{rs:List Ty}{G:List el.D->fV.D ps->Option (fK.D rs)}
  (F:List el.D->fV.D ps->Option (fK.D rs)) (hF: ∀l x,vJ Θ Y Λ fn 0 el l (fp ps x) (λv g=>some (v,g))=(F l x).bind λy=>ret (fr rs y) (λv g=>some (v,g))) (hG: ∀l x y,G l x=some y->F l x=some y):jS P (og f) (zw el ps rs G):=by
 intro args ρ κ r hr;unfold zw at hr;split at hr
 ·rename_i t l as;split at hr
  ·rename_i l' hl;obtain⟨e,hl⟩:=dW hl;subst e;have hl:l=l':=hl;subst hl;obtain⟨x,hn,hr2⟩:=fJ hr;obtain⟨y,h1,hr3⟩:=af.1 hr2;exact⟨_,_,.of_mv ⟨.ls _,l,_,rfl,eB.norm (rP.cons (.inl rfl) hn) (tH hΘ hY hm hf hL (bL 1) (iz ps x) (by rw[hF,hG l x y h1];rfl))⟩ (ar hk),sK _,hr3⟩
  ·cases hr
 ·cases hr
theorem pL(el:Ty)(l:List el.D)(ys:List ((t:Ty)×t.D)): (pG (jY 1 ys)).ok ((⟨el,l,none⟩::i6 ys).map some):=by
 have h:=nB ys [⟨el,l,none⟩];simp only[cm,List.singleton_append] at h
 match jY 1 ys,h with
 | [],_=>exactλx hx=>by cases hx
 | [v],h=>exact h v aH
 |v::u::vs,h=>exact h
theorem xC[dp]{P:Program}{Θ:fw}{Y:kF}{Λ:fL}(hΘ:dR P Θ)(hY:eY P Y)(hm:P.follows .mixedOrders=true){f:FuncId}{fn:Func}(hf:pY P f=some fn)(hL: ∀c,fn.body=some c->eh P Λ (dL c)){el:Ty}{ps:List jx}{rs:List Ty}{G:List el.D->fV.D ps->Option (List el.D×fK.D rs)}(hk:Nat.blt f 1048576=true)
  (F:List el.D->fV.D ps->Option (List el.D×fK.D rs)) (hF: ∀l x,vJ Θ Y Λ fn 1 el l (fp ps x) (λv g=>some (v,g))=(F l x).bind λy=>wz el rs y (λv g=>some (v,g))) (hG: ∀l x y,G l x=some y->F l x=some y):jS P (mh f) (qw el ps rs G):=by
 intro args ρ κ r hr;unfold qw at hr;split at hr
 ·rename_i t l as;split at hr
  ·rename_i l' hl;obtain⟨e,hl⟩:=dW hl;subst e;have hl:l=l':=hl;subst hl;obtain⟨x,hn,hr2⟩:=fJ hr;obtain⟨y,h1,hr3⟩:=af.1 hr2;exact⟨_,_,.of_io ⟨.ls _,l,_,rfl,eB.norm (rP.cons (.inl rfl) hn) (tH hΘ hY hm hf hL (aw 1) (iz ps x) (by rw[hF,hG l x y h1];rfl))⟩ (ar hk),pL _ _ (fr rs y.2),hr3⟩
  ·cases hr
 ·cases hr
theorem xF[dp]{P:Program}{Θ:fw}{Y:kF}{Λ:fL}(hΘ:dR P Θ)(hY:eY P Y)(hm:P.follows .mixedOrders=true){f:FuncId}{fn:Func}(hf:pY P f=some fn)(hL: ∀c,fn.body=some c->eh P Λ (dL c)){el:Ty}{ps:List jx}{rs:List Ty}{G:List el.D->fV.D ps->Option (List el.D×fK.D rs)}(hk:Nat.blt f 1048576=true)
  (F:List el.D->fV.D ps->Option (List el.D×fK.D rs)) (hF: ∀l x,zB Θ Y Λ fn el l (fp ps x) (λv g=>some (v,g))=(F l x).bind λy=>wz el rs y (λv g=>some (v,g))) (hG: ∀l x y,G l x=some y->F l x=some y):jS P (ny f) (qw el ps rs G):=by
 intro args ρ κ r hr;unfold qw at hr;split at hr
 ·rename_i t l as;split at hr
  ·rename_i l' hl;obtain⟨e,hl⟩:=dW hl;subst e;have hl:l=l':=hl;subst hl;obtain⟨x,hn,hr2⟩:=fJ hr;obtain⟨y,h1,hr3⟩:=af.1 hr2;exact⟨_,_,.of_pt ⟨_,l,_,rfl,eB.norm (rP.cons (.inl rfl) hn) (xR hΘ hY hm hf hL (iz ps x) (by rw[hF,hG l x y h1];rfl))⟩ (ar hk),pL _ _ (fr rs y.2),hr3⟩
  ·cases hr
 ·cases hr
def BL{ρ:Type}(el:Ty)(rs:List Ty)(y:List el.D×fK.D rs)(κ:V->List dx->Option ρ):Option ρ:=κ (pG (.cl (.ptrT ⟨0,[]⟩ el.width 0 0)::jY 1 (fr rs y.2))) (⟨el,y.1,none⟩::i6 (fr rs y.2))
def Ax(el:Ty)(ps:List jx)(rs:List Ty)(G:fV.D ps->Option (List el.D×fK.D rs)):rS:=λargs _ κ=>pW ps args λx=>(G x).bind λy=>BL el rs y κ
def vB(p:List V1->Bool)(e1 e2:rS):rS:=λargs ρ κ=>bif p args then e1 args ρ κ else e2 args ρ κ
theorem vC[dp]{P:Program}{f:FuncId}{p:List V1->Bool}{e1 e2:rS}(h1:jS P f e1)(h2:jS P f e2):jS P f (vB p e1 e2):=by
 intro args ρ κ r hr;unfold vB at hr;cases hp:p args with
 |true=>rw[hp] at hr;exact h1 args ρ κ r hr
 |false=>rw[hp] at hr;exact h2 args ρ κ r hr
end
def AG(n g:Nat)(args:List V1):Bool:=match fU args n with
 |some (.fn g' _)=>Nat.beq g' g
 |some (.cl (.c (.sc (.func (.func g') _ _))))=>Nat.beq g' g
 | _=>false
def fY(fn:Func):Code:=match fn.body with |some c=>c|none=> .skip
def zM(c:Code)(n:Nat):Code:=(fU (dL c) n).getD .skip
theorem AF[dp]{P:Program}{Λ:fL}{fn:Func}{cs:List Code}(h:dL (fY fn)=cs)(H:eh P Λ cs)(c:Code)(hc:fn.body=some c):eh P Λ (dL c):=by
 have :fY fn=c:=by unfold fY;rw[hc]
 rw[<-this,h];exact H
end
section
open Go
inductive Kc where|i (k:IntKind)|b|s|h|ls (t:Ty)
 deriving DecidableEq
def uL:List (Option Ty)->List Value->List Kc
 |some t::l,_::m=> .ls t::uL l m
 |none::l,.int k _::m=> .i k::uL l m
 |none::l,.bool _::m=> .b::uL l m
 |none::l,.nilFunc::m=> .h::uL l m
 |none::l,_::m=> .s::uL l m
 | _,_=> []
def Ty.kc(t:Ty):List Kc:=uL t.csh t.zvs
def gG:List Kc->List C->Prop
 | [],[] =>True
 | .i k::l,c::m=>(∃n,c= .sc (.int k n))/\gG l m
 | .b::l,c::m=>(∃v,c= .sc (.bool v))/\gG l m
 | .s::l,c::m=>(∃v,c= .sc (.string v))/\gG l m
 | .h::l,c::m=>(∃v:Hd,c= .sc (.slice v.a v.n v.c))/\gG l m
 | .ls t::l,c::m=>(∃v,c= .ls t v)/\gG l m
 | _,_=>False
theorem jB{cs:List C}(h:gG [] cs):cs= [] :=by cases cs with |nil=>rfl|cons=>exact h.elim
theorem yS{k:IntKind}{l:List Kc}{cs:List C}(h:gG (.i k::l) cs): ∃n r,cs= .sc (.int k n)::r/\gG l r:=by
 cases cs with
 |nil=>exact h.elim
 |cons c r=>obtain⟨⟨n,rfl⟩,h⟩:=h;exact⟨n,r,rfl,h⟩
theorem yQ{l:List Kc}{cs:List C}(h:gG (.b::l) cs): ∃n r,cs= .sc (.bool n)::r/\gG l r:=by
 cases cs with
 |nil=>exact h.elim
 |cons c r=>obtain⟨⟨n,rfl⟩,h⟩:=h;exact⟨n,r,rfl,h⟩
theorem yU{l:List Kc}{cs:List C}(h:gG (.s::l) cs): ∃n r,cs= .sc (.string n)::r/\gG l r:=by
 cases cs with
 |nil=>exact h.elim
 |cons c r=>obtain⟨⟨n,rfl⟩,h⟩:=h;exact⟨n,r,rfl,h⟩
theorem yR{l:List Kc}{cs:List C}(h:gG (.h::l) cs): ∃ (n:Hd) (r:List C),cs= .sc (.slice n.a n.n n.c)::r/\gG l r:=by
 cases cs with
 |nil=>exact h.elim
 |cons c r=>obtain⟨⟨n,rfl⟩,h⟩:=h;exact⟨n,r,rfl,h⟩
theorem yT{t:Ty}{l:List Kc}{cs:List C}(h:gG (.ls t::l) cs): ∃n r,cs= .ls t n::r/\gG l r:=by
 cases cs with
 |nil=>exact h.elim
 |cons c r=>obtain⟨⟨n,rfl⟩,h⟩:=h;exact⟨n,r,rfl,h⟩
theorem oX(t:Ty){cs:List C}(h:gG t.kc cs): ∃x,t.flat x=cs:=by
 have : (t.unflat cs).isSome=true:=by
  cases t with
  |st n=>
   cases n
   all_goals
    repeat ((first |replace h:=yS h|replace h:=yQ h|replace h:=yT h|replace h:=yU h|replace h:=yR h);obtain⟨_,_,rfl,h⟩:=h)
    cases jB h;rfl
  |i k=>replace h:=yS h;obtain⟨_,_,rfl,h⟩:=h;cases jB h;simp[Ty.unflat,gI,gN]
  |b=>replace h:=yQ h;obtain⟨_,_,rfl,h⟩:=h;cases jB h;rfl
  |h=>replace h:=yR h;obtain⟨_,_,rfl,h⟩:=h;cases jB h;rfl
  |s=>replace h:=yU h;obtain⟨_,_,rfl,h⟩:=h;cases jB h;rfl
  |ls u=>replace h:=yT h;obtain⟨_,_,rfl,h⟩:=h;cases jB h;simp[Ty.unflat,gL,gN]
 obtain⟨x,hx⟩:=aV.1 this;exact⟨x,t.unflat_some _ _ hx⟩
inductive T.bd:T->Prop where
 |int {k:IntKind} {n:Int} (h:k.min<=n/\n<=k.max):T.bd (.sc (.int k n))
 |bool (v:Bool):T.bd (.sc (.bool v))
 |str (v:ByteArray):T.bd (.sc (.string v))
 |sl {sz:Nat} {rows:List (List T)} (hl:rows.length<=maxLen) (h: ∀r∈rows,∀x∈r,T.bd x):T.bd (.sl sz rows)
def Bz(t:Ty)(x:t.D):Prop:=∀y∈t.row x,T.bd y
def pU(P:Program)(e:TypeId->List Kc->Bool):List Field->Nat->List Kc->Bool
 | [],_,[] =>true
 | [],_,_::_=>false
 |f::fs,off,ks=>Nat.beq f.offset off&&Nat.ble (P.cellsOf f.type) ks.length&&e f.type (ks.take (P.cellsOf f.type))&&pU P e fs (off+P.cellsOf f.type) (ks.drop (P.cellsOf f.type))
def md(P:Program)(Θ:fw):Nat->TypeId->List Kc->Bool
 | 0,_,_=>false
 |d+1,t,ks=>match P.underlying t with
  |some (.int k)=>decide (ks= [.i k])
  |some .bool=>decide (ks= [.b])
  |some (.slice e)=>(match eW Θ e with
   |some ti=>decide (ks= [.ls ti.ty])&&md P Θ d e ti.ty.kc&&Nat.beq (P.cellsOf e) ti.ty.width&&Nat.blt 0 ti.ty.width
   |none=>false)
  |some (.struct fs)=>pU P (md P Θ d) fs.toList 0 ks&&Nat.beq (P.cellsOf t) ks.length
  | _=>false
theorem qD: ∀ {k l:List Kc} {cs ds:List C},gG k cs->gG l ds->gG (k++l) (cs++ds)
 | [],l,[],ds,_,h=>h
 | [],_,_::_,_,h,_=>h.elim
 |a::k,_,[],_,h,_=>by cases a<;>exact h.elim
 |a::k,l,c::cs,ds,h,h2=>by cases a<;>exact⟨h.1,qD h.2 h2⟩
theorem l6: ∀ {k:List Kc} {cs:List C},gG k cs->cs.length=k.length
 | [],[],_=>rfl
 | [],_::_,h=>h.elim
 |a::k,[],h=>by cases a<;>exact h.elim
 |a::k,c::cs,h=>by cases a<;>simp[l6 h.2]
section
variable {H:Type} {enc:TypeId×Value->H} {P:Program} {w:World} {base:Nat} {sp:Nat->Bool} {held:Bool} {Θ:fw}
structure Cs (w:World) (cs:List Value) (Xs:List C):Prop where
 len:Xs.length=cs.length
 one: ∀u∈cs,u.oneCell'=true
 ro: ∀ (k:Nat) (c:C) (u:Value),Xs[k]? =some c->cs[k]? =some u->RO w (λb=>b<w.heap.size) c.tree u
 bd: ∀c∈Xs,T.bd c.tree
theorem Cs.nil:Cs w [] [] :=⟨rfl,λ_ h=>(by cases h),λ_ _ _ h=>(by cases h),λ_ h=>(by cases h)⟩
theorem Cs.one_mk{u:Value}{c:C}(h1:u.oneCell'=true)(h2:RO w (λb=>b<w.heap.size) c.tree u)(h3:T.bd c.tree):Cs w [u] [c] :=by
 refine⟨rfl,λv hv=> ?_,λk c' u' hk hu=> ?_,λc' hc=> ?_⟩
 ·rw[aI.1 hv];exact h1
 ·cases k with
  |zero=>cases hk;cases hu;exact h2
  |succ k=>simp at hk
 ·rw[aI.1 hc];exact h3
theorem Cs.app{cs ds:List Value}{Xs Ys:List C}(h:Cs w cs Xs)(k:Cs w ds Ys):Cs w (cs++ds) (Xs++Ys):=by
 refine⟨by rw[bI,bI,h.len,k.len],λu hu=> ?_,λj c u hj hu=> ?_,λc hc=> ?_⟩
 ·rcases bz.1 hu with hu|hu
  ·exact h.one u hu
  ·exact k.one u hu
 ·by_cases hlt:j<Xs.length
  ·rw[aR hlt] at hj;rw[aR (by rw[<-h.len];exact hlt)] at hu;exact h.ro j c u hj hu
  ·rw[aZ (by omega)] at hj;rw[aZ (by rw[<-h.len];omega),<-h.len] at hu;exact k.ro _ c u hj hu
 ·rcases bz.1 hc with hc|hc
  ·exact h.bd c hc
  ·exact k.bd c hc
theorem pV(hΘ:dR P Θ): ∀ (d:Nat) {t:TypeId} {ks:List Kc} {n:Nat} {cs:List Value} {y:DataW H×List MemPlace},md P Θ d t ks=true->DataW.trod enc P w base sp held n t cs=some y-> ∃Xs:List C,gG ks Xs/\Cs w cs Xs
 | 0,t,ks,n,cs,y,hb,_=>by cases hb
 |d+1,t,ks,n,cs,y,hb,h=>by
  unfold md at hb;split at hb
  ·rename_i k hu;have:=of_decide_eq_true hb;subst this;obtain⟨v,rfl,_,hw⟩:=DataW.trod_int hu h;simp only[Lit.wf,aj,decide_eq_true_eq] at hw;exact⟨[.sc (.int k v)],⟨⟨v,rfl⟩,trivial⟩,Cs.one_mk rfl (.sc rfl) (.int hw)⟩
  ·rename_i hu;have:=of_decide_eq_true hb;subst this;obtain⟨v,rfl,_⟩:=DataW.trod_bool hu h;exact⟨[.sc (.bool v)],⟨⟨v,rfl⟩,trivial⟩,Cs.one_mk rfl (.sc rfl) (.bool v)⟩
  ·rename_i e hu;split at hb
   ·rename_i ti hti;simp only[aj,decide_eq_true_eq] at hb;obtain⟨⟨⟨rfl,hb⟩,hw⟩,hpos⟩:=hb;have hw:=ak hw;have hpos:0<ti.ty.width:=ar hpos;rcases Go.Deep.open_slice hu h with ⟨rfl,_⟩| ⟨ad,len,cap,m,n',D,Pl,rfl,_,hl,hm,hmm,_,hx⟩
    ·exact⟨[.ls ti.ty []],⟨⟨[],rfl⟩,trivial⟩,Cs.one_mk rfl (.em _ _ _) (.sl (bL _) λr hr=>by cases hr)⟩
    ·have hlm:len<=m:=by rw[hmm];split<;>omega
     have each: ∀i:Fin len,∃z:ti.ty.D,∃cs',w.cells? base (ad.add (i.1*P.cellsOf e)) (P.cellsOf e)=some cs'/\Cs w cs' (ti.ty.flat z):=by intro i;obtain⟨cs',h1,h2⟩:=hx i.1 (by have:=i.2;omega);obtain⟨Xs,h3,h4⟩:=pV hΘ d hb h2;obtain⟨z,rfl⟩:=oX _ h3;exact⟨z,cs',h1,h4⟩
     let l:List ti.ty.D:=List.ofFn λi=>(each i).choose
     have hll:l.length=len:=by simp[l]
     have row: ∀ (i:Nat) (r:List T),(l.map ti.ty.row)[i]? =some r-> ∃hi:i<len,∃cs',w.cells? base (ad.add (i*P.cellsOf e)) (P.cellsOf e)=some cs'/\ ∃z,r=(ti.ty.flat z).map C.tree/\Cs w cs' (ti.ty.flat z):=by
      intro i r hr;rw[aq,ai] at hr;obtain⟨z,hz,rfl⟩:=hr;obtain⟨h1,h2⟩:=ah.1 hz;have hi:i<len:=by rw[hll] at h1;exact h1
      refine⟨hi,(each ⟨i,hi⟩).choose_spec.choose,(each ⟨i,hi⟩).choose_spec.choose_spec.1,z,ti.ty.row_flat z,?_⟩;have e1:z=(each ⟨i,hi⟩).choose:=by rw[<-h2];simp[l]
      rw[e1];exact (each ⟨i,hi⟩).choose_spec.choose_spec.2
     refine⟨[.ls ti.ty l],⟨⟨l,rfl⟩,trivial⟩,Cs.one_mk rfl ?_ ?_⟩
     ·show RO w _ (.sl ti.ty.width (l.map ti.ty.row)) _;by_cases h0:len=0
      ·have :l= [] :=cP.1 (by rw[hll,h0]);rw[this,h0];exact .em _ _ _
      ·have hlr: (l.map ti.ty.row).length=len:=by rw[aF,hll]
       have hlen: ∀ (i:Nat) (r:List T),(l.map ti.ty.row)[i]? =some r->r.length=ti.ty.width:=by intro i r hr;obtain⟨hi,cs',h1,z,rfl,h2⟩:=row i r hr;obtain⟨_,h3,_⟩:=World.cells?_some h1;rw[aF,h2.len,h3,hw]
       have hcell: ∀ (i:Nat) (r:List T) (j:Nat) (x:T),(l.map ti.ty.row)[i]? =some r->r[j]? =some x-> ∃u,w.cell? (ad.add (i*ti.ty.width+j))=some u/\RO w (λb=>b<w.heap.size) x u:=by
        intro i r j x hr hx;obtain⟨hi,cs',h1,z,rfl,h2⟩:=row i r hr;obtain⟨_,h3,h4⟩:=World.cells?_some h1;rw[aq,ai] at hx;obtain⟨c,hc,rfl⟩:=hx;have hj:j<cs'.length:=by rw[<-h2.len];exact (ah.1 hc).1
        refine⟨cs'[j],?_,h2.ro j c _ hc (ao hj)⟩;rw[<-Go.Deep.add_add,<-hw,h4 j (by omega),ao hj]
       have hne: ∃u,w.cell? ad=some u:=by
        obtain⟨r,hr⟩: ∃r,(l.map ti.ty.row)[0]? =some r:=⟨_,ao (by omega)⟩
        have h5:=hlen 0 r hr;obtain⟨x,hx⟩: ∃x,r[0]? =some x:=⟨_,ao (by omega)⟩
        obtain⟨u,hu',_⟩:=hcell 0 r 0 x hr hx;simp only[bN,aM,Addr.add,if_true] at hu';exact⟨u,hu'⟩
       obtain⟨u0,hu0⟩:=hne;rw[<-hlr];refine .sl (λi j=>((w.cell? (ad.add (i*ti.ty.width+j))).getD undef)) (by omega) ?_ (World.block_lt_of_cell? w _ hu0) hlen ?_ ?_
       ·cases hsp:ad.spot with
        |none=>rfl
        |some s=>
         unfold World.cell? at hu0;rw[hsp] at hu0;split at hu0
         ·simp at hu0
         ·cases hu0
       ·intro i r j x hr hx;obtain⟨u,h1,_⟩:=hcell i r j x hr hx;rw[h1];rfl
       ·intro i r j x hr hx;obtain⟨u,h1,h2⟩:=hcell i r j x hr hx;rw[h1];exact h2
     ·refine .sl (by rw[aF,hll];unfold maxLen at hm ⊢;omega) λr hr x hx=> ?_;obtain⟨i,hi⟩:=List.getElem?_of_mem hr;obtain⟨_,cs',_,z,rfl,h2⟩:=row i r hi;obtain⟨c,hc,rfl⟩:=aD.1 hx;exact h2.bd c hc
   ·cases hb
  ·rename_i fs hu;simp only[aj] at hb;obtain⟨hb,hkl0⟩:=hb;have hkl0:=ak hkl0;obtain⟨xs,m,_,_,hl,hlen,hf⟩:=DataW.trod_struct hu h
   have eX: ∀ (gs:List Field) (off i0:Nat) (ks:List Kc),pU P (md P Θ d) gs off ks=true->(∀ (i:Nat) (f:Field),gs[i]? =some f->fs[i0+i]? =some f)-> ∃Xs:List C,gG ks Xs/\Cs w ((cs.drop off).take ks.length) Xs/\off+ks.length<=max off cs.length:=by
    intro gs
    induction gs with
    |nil=>
     intro off i0 ks hk _;cases ks with
     |nil=>exact⟨[],trivial,by simpa using Cs.nil,by simp;omega⟩
     |cons=>cases hk
    |cons f gs ih=>
     intro off i0 ks hk hg;simp only[pU,aj] at hk;obtain⟨⟨⟨ho,hle⟩,h1⟩,h2⟩:=hk;have ho:=ak ho;have hle:P.cellsOf f.type<=ks.length:=ar hle;have hfi:fs[i0]? =some f:=by have:=hg 0 f rfl;simpa using this
     have hi0:i0<xs.length:=by rw[hlen];exact (az.1 hfi).1
     have h3:=hf i0 f hfi;rw[ao hi0,ho] at h3;obtain⟨Xs,k1,k2⟩:=pV hΘ d h1 h3;obtain⟨Ys,k3,k4,k5⟩:=ih (off+P.cellsOf f.type) (i0+1) _ h2 (λi g hgi=>by have:=hg (i+1) g hgi;rw[show i0+1+i=i0+(i+1) by omega];exact this);have hkl:=l6 k1;have hcl:=k2.len;rw[cH,cf,hkl,cH] at hcl;have hq:P.cellsOf f.type<=cs.length-off:=by omega
     refine⟨Xs++Ys,?_,?_,?_⟩
     ·have:=qD k1 k3
      rwa [List.take_append_drop] at this
     ·have hsplit: (cs.drop off).take ks.length=((cs.drop off).take (P.cellsOf f.type))++((cs.drop (off+P.cellsOf f.type)).take (ks.drop (P.cellsOf f.type)).length):=by
       rw[cf,<-cd];have :ks.length=P.cellsOf f.type+(ks.length-P.cellsOf f.type):=by omega
       conv=>lhs;rw[this]
       exact List.take_add
      rw[hsplit];exact k2.app k4
     ·rw[cf] at k5;omega
   obtain⟨Xs,k1,k2,k3⟩:=eX fs.toList 0 0 ks hb (λi f hi=>by rw[cj] at hi;simpa using hi);refine⟨Xs,k1,?_⟩
   have hfull: (cs.drop 0).take ks.length=cs:=by rw[ct];exact bT (by omega)
   rwa [hfull] at k2
  ·cases hb
end
end
section
open Go Go.ChangeShapes Go.WideShapes Go.RowKit
def BX: (l:List Ty)->fV.D (l.map .ty)->Prop
 | [],_=>True
 |t::l,x=>Bz t x.1/\BX l x.2
def ym(P:Program)(Θ:fw)(t:TypeId)(τ:Ty):Bool:=md P Θ 9 t τ.kc&&(match eW Θ t with |some ti=>decide (ti.ty=τ)|none=>false)&&P.readableRec t&&Nat.blt t P.types.size
def oO(P:Program)(Θ:fw):List TypeId->List Ty->Bool
 | [],[] =>true
 |t::ts,τ::τs=>ym P Θ t τ&&oO P Θ ts τs
 | _,_=>false
section
variable {H:Type} {enc:TypeId×Value->H} {P:Program} {W:World} {Θ:fw} {base:Nat}
theorem C.VR{c:C}{u:Value}{bt:Bt}(hA:bt.A=λb=>b<W.heap.size)(h:RO W (λb=>b<W.heap.size) c.tree u)(hg:c.good=true):En.VR W bt c.av u:=by
 cases c with
 |sc v=>
  cases h with
  |sc h=>exact .sc h
 |ls t l=>exact .ro (by rw[hA];exact h)
theorem zo(hΘ:dR P Θ){bt:Bt}(hA:bt.A=λb=>b<W.heap.size){t:TypeId}{τ:Ty}{v:Value}{d:DataW H}{p:List MemPlace}(hp:ym P Θ t τ=true)(hv:Value.okWide P W .any base t v)(h:DataW.Trod enc P W 0 (λ_=>true) true t v d p):
  ∃x:τ.D,VR W bt (tf τ x).av v/\Bz τ x:=by
 unfold ym at hp;simp only[aj] at hp;obtain⟨⟨⟨h1,h2⟩,h3⟩,h4⟩:=hp;split at h2
 case h_2=>cases h2
 rename_i ti hti;have h2:=of_decide_eq_true h2;subst h2;have hok:=hΘ t ti hti;obtain⟨n,hn⟩:=h;obtain⟨Xs,k1,k2⟩:=pV hΘ 9 h1 hn;obtain⟨x,rfl⟩:=oX _ k1
 have bd:Bz ti.ty x:=by intro y hy;rw[Ty.row_flat] at hy;obtain⟨c,hc,rfl⟩:=aD.1 hy;exact k2.bd c hc
 have good: ∀c∈ti.ty.flat x,c.good=true:=by
  intro c hc;have:=k2.bd c hc;cases c with
  |sc v=>cases this<;>rfl
  |ls t l=>rfl
 refine⟨x,?_,bd⟩;have hag:=hok.ag;unfold tf;cases ha:ti.ty.ag with
 |true=>
  rw[ha] at hag
  have hst: ∃fs,P.underlying t=some (.struct fs):=by
   have hpl:=hok.pl ha;unfold md at h1;split at h1
   ·rename_i hu;simp[nW,hu] at hag
   ·rename_i hu;simp[nW,hu] at hag
   ·rename_i hu;simp[nW,hu] at hag
   ·rename_i fs hu;exact⟨fs,hu⟩
   ·cases h1
  obtain⟨fs,hu⟩:=hst;obtain⟨us,rfl,_⟩:=okWide_struct hu hv;simp only[cond_true,V1.av];have : (Value.agg us)= .agg us.toList.toArray:=by simp
  rw[this];have hus: (Value.agg us).cells.toList=us.toList:=rfl;rw[hus] at k2;refine .agg (by simp[k2.len]) k2.one λk c u hk hu=> ?_;simp only[aX,aq,ai] at hk;obtain⟨c',hc,rfl⟩:=hk;exact C.VR hA (k2.ro k c' u hc hu) (good c' (ax hc))
 |false=>
  rw[ha] at hag
  have hcells:v.cells.toList= [v] :=by
   unfold md at h1;split at h1
   ·rename_i hu;obtain⟨_,rfl⟩:=okWide_int hu hv;rfl
   ·rename_i hu;obtain⟨_,rfl⟩:=okWide_bool hu hv;rfl
   ·rename_i hu;obtain⟨_,_,_,rfl⟩:=okWide_slice hu hv;rfl
   ·rename_i fs hu;simp[nW,hu] at hag
   ·cases h1
  rw[hcells] at k2;have hl:=k2.len;obtain⟨c,hc⟩:=List.length_eq_one_iff.1 hl;simp only[cond_false,hc,aL,ch,V1.av];exact C.VR hA (k2.ro 0 c v (by rw[hc];rfl) rfl) (good c (by rw[hc];exact aI.2 rfl))
theorem tg(hΘ:dR P Θ){bt:Bt}(hA:bt.A=λb=>b<W.heap.size): ∀ {ts:List TypeId} {τs:List Ty} {vs:List Value} {ds:List (DataW H)} {p:List MemPlace},oO P Θ ts τs=true->(∀ (j:Nat) t v,ts[j]? =some t->vs[j]? =some v->Value.okWide P W .any base t v)->DataW.TrodAll enc P W 0 (λ_=>true) true ts vs ds p->
  ∃x:fV.D (τs.map .ty),vs.length=τs.length/\(∀ (k:Nat) (v:AV) (u:Value),((fp (τs.map .ty) x).map V1.av)[k]? =some v->vs[k]? =some u->VR W bt v u)/\BX τs x
 | [],[],vs,ds,p,_,_,h=>by obtain⟨rfl,_,_⟩:=trodAll_nil h;exact⟨(),rfl,λk v u hk hu=>(by cases hu),trivial⟩
 |t::ts,τ::τs,vs,ds,p,hb,hv,h=>by
  obtain⟨v,vs',d,ds',q,q',rfl,rfl,rfl,h1,h2⟩:=trodAll_cons h;unfold oO at hb;simp only[aj] at hb;obtain⟨x,k1,k2⟩:=zo hΘ hA hb.1 (hv 0 t v rfl rfl) h1;obtain⟨y,k3,k4,k5⟩:=tg hΘ hA hb.2 (λj t' v' ht hv'=>hv (j+1) t' v' ht hv') h2;refine⟨(x,y),by simp[k3],λk v' u hk hu=> ?_,k2,k5⟩;cases k with
  |zero=>have hk:some (tf τ x).av=some v':=hk;cases hk;cases hu;exact k1
  |succ k=>exact k4 k v' u hk hu
 | [],_::_,_,_,_,hb,_,_=>by cases hb
 | _::_,[],_,_,_,hb,_,_=>by cases hb
theorem ou{W':World}(hl:laidOutB P=true)(hb:Below W.heap.size W W'): ∀ {ts:List TypeId} {τs:List Ty} {vs:List Value} {ds:List (DataW H)} {p:List MemPlace},oO P Θ ts τs=true->DataW.TrodAll enc P W 0 (λ_=>true) true ts vs ds p->DataW.TrodAll enc P W' 0 (λb=>decide (b<W.heap.size)) true ts vs ds p
 | [],[],vs,ds,p,_,h=>by obtain⟨rfl,rfl,rfl⟩:=trodAll_nil h;exact rfl
 |t::ts,τ::τs,vs,ds,p,hp,h=>by obtain⟨v,vs',d,ds',q,q',rfl,rfl,rfl,h1,h2⟩:=trodAll_cons h;unfold oO ym at hp;simp only[aj] at hp;obtain⟨⟨⟨_,hr⟩,hs⟩,hrest⟩:=hp;refine trodAll_cons_mk (Below.trod hl hr (ar hs) h1 hb ?_) (ou hl hb hrest h2);intro x hx;obtain⟨m,hm⟩:=h1;exact DataW.trod_lt m _ _ _ hm x hx
 | [],_::_,_,_,_,hb,_=>by cases hb
 | _::_,[],_,_,_,hb,_=>by cases hb
end
end
section
open Go
section
variable {α β σ ε:Type}
theorem AN{B:σ->Option (σ⊕ε)}(l:List α)(mk:Nat->β->σ)(J:Nat->β->Prop)(g:Nat->List α->β->ε)
  (hn: ∀b,J l.length b->B (mk l.length b)=some (.inr (g l.length [] b)))
  (hc: ∀k b x,l[k]? =some x->J k b->(∃b',B (mk k b)=some (.inl (mk (k+1) b'))/\J (k+1) b'/\g k (x::l.drop (k+1)) b=g (k+1) (l.drop (k+1)) b')\/B (mk k b)=some (.inr (g k (x::l.drop (k+1)) b))):
  ∀k b,k<=l.length->J k b->mu B (mk k b)=some (g k (l.drop k) b):=by
 intro k b hk hJ;generalize hn0:l.length-k=n
 induction n generalizing k b with
 |zero=>
  obtain rfl:k=l.length:=by omega
  rw[jk,hn b hJ,List.drop_length];rfl
 |succ n ih=>
  have hlt:k<l.length:=by omega
  rw[b8 hlt];rcases hc k b l[k] (ao hlt) hJ with ⟨b',h1,h2,h3⟩|h1
  ·rw[jk,h1,h3];exact ih (k+1) b' (by omega) h2 (by omega)
  ·rw[jk,h1];rfl
theorem Bn{B:σ->Option (σ⊕ε)}(I:σ->Prop)(μ:σ->Nat)(E:ε->Prop)
  (h: ∀s,I s->(∃s',B s=some (.inl s')/\I s'/\μ s'<μ s)\/ ∃e,B s=some (.inr e)/\E e) {s:σ} (hs:I s): ∃e,mu B s=some e/\E e:=by
 generalize hn:μ s=n
 induction n using Nat.strongRecOn generalizing s with
 | _ n ih=>
   rcases h s hs with ⟨s',h1,h2,h3⟩| ⟨e,h1,h2⟩
   ·rw[jk,h1];exact ih (μ s') (by omega) h2 rfl
   ·exact⟨e,by rw[jk,h1];rfl,h2⟩
theorem Bg(x y:α):br true x y=x:=rfl
theorem Ar(x y:α):br false x y=y:=rfl
theorem BC(b:Bool)(x y:α):br b x y=if b=true then x else y:=by cases b<;>rfl
theorem BB(p:Prop)[Decidable p](x y:α):br (decide p) x y=if p then x else y:=by unfold br;by_cases h:p<;>simp[h]
theorem AL{p:Prop}[Decidable p](h:p)(x y:α):iteP p x y=x:=if_pos h
theorem AK{p:Prop}[Decidable p](h: ¬p)(x y:α):iteP p x y=y:=if_neg h
theorem AJ(p:Prop)[Decidable p](x y:α):iteP p x y=if p then x else y:=rfl
end
theorem uj{n:Int}(h1: -9223372036854775808<=n)(h2:n<9223372036854775808):IntKind.wrap .i64 n=n:=by
 simp only[IntKind.wrap,IntKind.bits,IntKind.signed,df];split
 ·rename_i h;have h:=of_decide_eq_true h;omega
 ·rename_i h;have h: ¬ (n % 2 ^ 64≥2 ^ (64-1)):=λhh=>h (decide_eq_true hh);omega
theorem BI{α:Type}{l:List α}{k:Nat}{x:α}(h:l[k]? =some x):k<l.length:=(ah.1 h).1
theorem w7{α:Type}{l:List α}{k:Nat}(y:α)(h:k<l.length): (l.set k y).take (k+1)=l.take k++ [y] :=by rw[List.take_add_one,List.getElem?_set_self h];simp[List.take_set_of_le]
theorem xy{α ρ:Type}(l:List α)(n:Nat)(κ:List α×Unit->Option ρ):zQ l (xf (κ ([],())) (iteP ((([]:List α)++l).length*n<=2 ^ 40) (κ (([]:List α)++l,())) none) none) (iteP ((([]:List α)++l).length*n<=2 ^ 40) (κ (([]:List α)++l,())) none)=(iteP (l.length*n<=2 ^ 40) (some (l,())) none).bind κ:=by
 cases l with
 |nil=>
  have :iteP ((([]:List α)++ []).length*n<=2 ^ 40) (κ (([]:List α)++ [],())) none=κ ([],()):=by unfold iteP;rw[if_pos (by simp)];rfl
  rw[this];show xf _ _ _=_;rw[vm];unfold iteP;rw[if_pos (by simp)];rfl
 |cons x l=>show iteP _ _ _=_;simp only[bC];unfold iteP;split<;>rfl
end
section
open Go
section
variable {σ ε σ1 ε1 σ2 ε2 α β:Type}
theorem kT{B:σ->Option (σ⊕ε)}{s:σ}{e:ε}(h:B s=some (.inr e)):mu B s=some e:=by rw[jk,h];rfl
theorem qR{B:σ->Option (σ⊕ε)}{s s':σ}(h:B s=some (.inl s')):mu B s=mu B s':=by rw[jk,h];rfl
theorem Bo{B1:σ1->Option (σ1⊕ε1)}{B2:σ2->Option (σ2⊕ε2)}(n:Nat)(m1:Nat->σ1)(m2:Nat->σ2)(t1:ε1)(t2:ε2)(f1:Nat->ε1)(f2:Nat->ε2)(P Q:Nat->Prop)
  (h1:B1 (m1 n)=some (.inr t1)) (h2:B2 (m2 n)=some (.inr t2))
  (h: ∀k,k<n->(B1 (m1 k)=some (.inl (m1 (k+1)))/\B2 (m2 k)=some (.inl (m2 (k+1)))/\P k)\/(B1 (m1 k)=some (.inr (f1 k))/\B2 (m2 k)=some (.inr (f2 k))/\Q k)):
  (mu B1 (m1 0)=some t1/\mu B2 (m2 0)=some t2/\ ∀k,k<n->P k)\/ ∃k,k<n/\mu B1 (m1 0)=some (f1 k)/\mu B2 (m2 0)=some (f2 k)/\Q k:=by
 have eX: ∀d j,j+d=n->(mu B1 (m1 j)=some t1/\mu B2 (m2 j)=some t2/\ ∀k,j<=k->k<n->P k)\/ ∃k,k<n/\mu B1 (m1 j)=some (f1 k)/\mu B2 (m2 j)=some (f2 k)/\Q k:=by
  intro d
  induction d with
  |zero=>
   intro j hj;have :j=n:=by omega
   subst this;exact .inl ⟨kT h1,kT h2,λk a b=>by omega⟩
  |succ d ih=>
   intro j hj;rcases h j (by omega) with ⟨g1,g2,g3⟩| ⟨g1,g2,g3⟩
   ·rw[qR g1,qR g2];rcases ih (j+1) (by omega) with ⟨k1,k2,k3⟩|k
    ·refine .inl ⟨k1,k2,λk a b=> ?_⟩;rcases Nat.eq_or_lt_of_le a with rfl|a
     ·exact g3
     ·exact k3 k a b
    ·exact .inr k
   ·exact .inr ⟨j,by omega,kT g1,kT g2,g3⟩
 rcases eX n 0 (by omega) with ⟨a,b,c⟩|h
 ·exact .inl ⟨a,b,λk hk=>c k (bL _) hk⟩
 ·exact .inr h
def BT(x y:Option (β×Unit)):Prop:=∃b,x=some (b,())/\y=some (b,())
theorem Ap{n k:Nat}(hn:n<=maxLen)(hk:k<n):IntKind.wrap .i64 ((k:Int)+1)=((k+1:Nat):Int):=by unfold maxLen at hn;rw[uj (by omega) (by omega)];rfl
theorem Ao{k:Nat}(hk:0<k)(h:k<=maxLen):IntKind.wrap .i64 ((k:Int)-1)=((k-1:Nat):Int):=by unfold maxLen at h;rw[uj (by omega) (by omega)];omega
end
end
end Go.Proofs.YtkghndikalnipaaGreat.En
