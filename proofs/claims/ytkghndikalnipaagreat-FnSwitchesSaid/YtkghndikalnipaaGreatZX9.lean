import Derived.Test.YtkghndikalnipaaGreatZX8
import Derived.ProofKit
import Derived.ChangeOld
import Derived.Deep.Slices
import Derived.OpenShut
import Derived.Below
import Derived.Carry
import Derived.WideShapes
set_option linter.unusedSimpArgs false
set_option linter.unusedVariables false
namespace Go.Proofs.YtkghndikalnipaaGreat.En
section
open Go
inductive Sh where
 |int (k:IntKind)|bl|str|ro (t:Ty)|own (r:Nat) (t:Ty)|ptr (n j:Nat)|em|dead|pro (t:Ty)|fc (g:Nat)|sub (r:Nat) (t:Ty)|pt (r w:Nat)|row (r j w:Nat)|hd
abbrev Sh.D:Sh->Type
 | .int _=>Int| .bl=>Bool| .str=>ByteArray| .ro t=>List t.D| .pro t=>t.D| .sub _ _=>Nat×Nat| .row _ _ _=>Nat×Nat×Nat| .hd=>Hd| _=>Unit
abbrev j8.D:List Sh->Type
 | [] =>Unit
 |s::l=>s.D×j8.D l
inductive lY where
 |cl (s:Sh)|agg (l:List Sh)|st (n:Sn)|fn (f:FuncId) (l:List Sh)
abbrev lY.D:lY->Type
 | .cl s=>s.D| .agg l=>j8.D l| .st n=>n.D| .fn _ l=>j8.D l
abbrev pg.D:List (Nat×lY)->Type
 | [] =>Unit
 |x::l=>x.2.D×pg.D l
abbrev pd.D:List (List Sh)->Type
 | [] =>Unit
 |x::l=>j8.D x×pd.D l
abbrev iM.D:List Ty->Type
 | [] =>Unit
 |t::l=>List t.D×iM.D l
structure kB where
 env:List (Nat×lY)
 bx:List (List Sh)
 gh:List Ty
 fz:Nat
 nt:Nat
abbrev kB.D(L:kB):Type:=pg.D L.env×pd.D L.bx×iM.D L.gh
def BA(G:List (Option dJ))(r:Nat):Nat:=match gA G r with |some (some tr)=>tr.l.length| _=>0
def Sh.mk(G:List (Option dJ)): (s:Sh)->s.D->Cl
 | .int k,n=> .c (.sc (.int k n))| .bl,v=> .c (.sc (.bool v))| .str,v=> .c (.sc (.string v))| .ro t,l=> .c (.ls t l)
 | .own r t,_=> .own ⟨r,[]⟩ t.width 0 (BA G r) true| .ptr n j,_=> .ptrB n j| .em,_=> .em| .dead,_=> .dead| .pro t,x=> .pro (t.flat x)| .fc g,_=> .c (.sc (.func (.func g) #[] #[]))| .sub r t,x=> .own ⟨r,[]⟩ t.width x.1 x.2 false| .pt r w,_=> .ptrT ⟨r,[]⟩ w 0 0| .row r j w,x=> .own ⟨r,[(x.1,j)]⟩ w x.2.1 x.2.2 false| .hd,x=> .c (.sc (.slice x.a x.n x.c))
def j8.mk(G:List (Option dJ)): (l:List Sh)->j8.D l->List Cl
 | [],_=> []
 |s::l,x=>s.mk G x.1::j8.mk G l x.2
def lY.mk(G:List (Option dJ)): (v:lY)->v.D->V
 | .cl s,x=> .v (.cl (s.mk G x))| .agg l,x=> .v (.agg (j8.mk G l x))| .st n,x=> .v (.agg ((n.flat x).map .c))| .fn f l,x=> .v (.fn f (j8.mk G l x))
def pg.mk(G:List (Option dJ)): (l:List (Nat×lY))->pg.D l->List (Nat×V)
 | [],_=> []
 |x::l,d=>(x.1,x.2.mk G d.1)::pg.mk G l d.2
def pd.mk(G:List (Option dJ)): (l:List (List Sh))->pd.D l->List (List Cl)
 | [],_=> []
 |x::l,d=>j8.mk G x d.1::pd.mk G l d.2
def iM.mk: (l:List Ty)->iM.D l->List (Option dJ)
 | [],_=> []
 |t::l,d=>some ⟨t,d.1,none⟩::iM.mk l d.2
def kB.mk'(L:kB)(d:L.D):TS:={ env:=pg.mk (iM.mk L.gh d.2.2) L.env d.1,bx:=pd.mk (iM.mk L.gh d.2.2) L.bx d.2.1,gh:=iM.mk L.gh d.2.2,fz:=L.fz,nt:=L.nt }
section
variable {ρ:Type}
def Sh.un: (s:Sh)->Cl->(s.D->Option ρ)->Option ρ
 | .int k,.c (.sc (.int k' n)),κ=>bif decide (k'=k) then κ n else none
 | .bl,.c (.sc (.bool v)),κ=>κ v
 | .str,.c (.sc (.string v)),κ=>κ v
 | .ro t,.c (.ls t' l),κ=>match jH t' t l with |some l=>κ l|none=>none
 | .own r t,.own p sz _ _ w,κ=>match p.l with | [] =>(bif w&&Nat.beq p.r r&&Nat.beq sz t.width then κ () else none)| _=>none
 | .ptr n i,.ptrB m j,κ=>bif Nat.beq m n&&Nat.beq j i then κ () else none
 | .em,.em,κ=>κ ()
 | .dead,.dead,κ=>κ ()
 | .pro t,.pro xs,κ=>(match t.unflat xs with |some x=>κ x|none=>none)
 | .fc g,.c (.sc (.func (.func g') cs ts)),κ=>bif Nat.beq g' g&&Nat.beq cs.size 0&&Nat.beq ts.size 0 then κ () else none
 | .sub r t,.own p sz lo len w,κ=>match p.l with | [] =>(bif !w&&Nat.beq p.r r&&Nat.beq sz t.width then κ (lo,len) else none)| _=>none
 | .pt r w,.ptrT p sz i j,κ=>match p.l with | [] =>(bif Nat.beq p.r r&&Nat.beq sz w&&Nat.beq i 0&&Nat.beq j 0 then κ () else none)| _=>none
 | .hd,.c (.sc (.slice a n c)),κ=>κ ⟨a,n,c⟩
 | .row r j n,.own p sz lo len w,κ=>match p.l with | [x] =>(bif !w&&Nat.beq p.r r&&Nat.beq sz n&&Nat.beq x.2 j then κ (x.1,lo,len) else none)| _=>none
 | _,_,_=>none
def j8.un: (l:List Sh)->List Cl->(j8.D l->Option ρ)->Option ρ
 | [],[],κ=>κ ()
 |s::l,c::cs,κ=>s.un c λx=>j8.un l cs λy=>κ (x,y)
 | _,_,_=>none
def lY.un: (v:lY)->V->(v.D->Option ρ)->Option ρ
 | .cl s,.v (.cl c),κ=>s.un c κ
 | .agg l,.v (.agg cs),κ=>j8.un l cs κ
 | .st n,.v (.agg cs),κ=>match uL cs with |some xs=>(match n.unflat xs with |some x=>κ x|none=>none)|none=>none
 | .fn f l,.v (.fn g cs),κ=>bif Nat.beq f g then j8.un l cs κ else none
 | _,_,_=>none
def pg.un: (l:List (Nat×lY))->List (Nat×V)->(pg.D l->Option ρ)->Option ρ
 | [],[],κ=>κ ()
 |x::l,y::m,κ=>bif Nat.beq x.1 y.1 then x.2.un y.2 λa=>pg.un l m λb=>κ (a,b) else none
 | _,_,_=>none
def pd.un: (l:List (List Sh))->List (List Cl)->(pd.D l->Option ρ)->Option ρ
 | [],[],κ=>κ ()
 |x::l,y::m,κ=>j8.un x y λa=>pd.un l m λb=>κ (a,b)
 | _,_,_=>none
def iM.un: (l:List Ty)->List (Option dJ)->(iM.D l->Option ρ)->Option ρ
 | [],[],κ=>κ ()
 |t::l,some tr::m,κ=>match tr.hole with
  |none=>(match jH tr.t t tr.l with |some a=>iM.un l m λb=>κ (a,b)|none=>none)
  |some _=>none
 | _,_,_=>none
def kB.un(L:kB)(S:TS)(κ:L.D->Option ρ):Option ρ:=iM.un L.gh S.gh λg=>pg.un L.env S.env λe=>pd.un L.bx S.bx λb=>bif Nat.beq S.fz L.fz&&Nat.beq S.nt L.nt then κ (e,b,g) else none
theorem Sh.un_some{G:List (Option dJ)}(hG: ∀r,r<G.length-> ∃tr,gA G r=some (some tr)): ∀ {s:Sh} {c:Cl} {κ:s.D->Option ρ} {r:ρ},c.ok G->s.un c κ=some r-> ∃x,c=s.mk G x/\κ x=some r:=by
 intro s c κ r hc h;cases s with
 |int k=>
  cases c with
  |c y=>cases y with
   |sc v=>cases v with
    |int k' n=>simp only[Sh.un] at h;obtain⟨h1,h⟩:=dC h;have:=of_decide_eq_true h1;subst this;exact⟨n,rfl,h⟩
    | _=>simp[Sh.un] at h
   |ls t l=>simp[Sh.un] at h
  | _=>simp[Sh.un] at h
 |bl=>
  cases c with
  |c y=>cases y with
   |sc v=>cases v with
    |bool v=>exact⟨v,rfl,h⟩
    | _=>simp[Sh.un] at h
   |ls t l=>simp[Sh.un] at h
  | _=>simp[Sh.un] at h
 |str=>
  cases c with
  |c y=>cases y with
   |sc v=>cases v with
    |string v=>exact⟨v,rfl,h⟩
    | _=>simp[Sh.un] at h
   |ls t l=>simp[Sh.un] at h
  | _=>simp[Sh.un] at h
 |ro t=>
  cases c with
  |c y=>cases y with
   |sc v=>simp[Sh.un] at h
   |ls t' l=>
    simp only[Sh.un] at h;split at h
    ·rename_i l' hl;obtain⟨e,hl⟩:=eD hl;subst e;simp only at hl;subst hl;exact⟨l,rfl,h⟩
    ·cases h
  | _=>simp[Sh.un] at h
 |own q t=>
  cases c with
  |own p sz lo len w=>
   obtain⟨pr,pl⟩:=p;cases pl with
   |cons a l=>simp[Sh.un] at h
   |nil=>
    simp only[Sh.un] at h;obtain⟨h1,h'⟩:=dC h;clear h;simp only[ak] at h1;obtain⟨⟨h0,h2⟩,h3⟩:=h1;have h2:pr=q:=an h2;have h3:sz=t.width:=an h3;subst h0 h2 h3;obtain⟨k1,k2⟩:=hc;obtain⟨_,k3,k4⟩:=k2 rfl
    grind [dJ.look,Sh.mk,BA]
  |c y=>cases y<;>simp[Sh.un] at h
  | _=>simp[Sh.un] at h
 |sub q t=>
  cases c with
  |own p sz lo len w=>
   obtain⟨pr,pl⟩:=p;cases pl with
   |cons a l=>simp[Sh.un] at h
   |nil=>simp only[Sh.un] at h;obtain⟨h1,h'⟩:=dC h;clear h;simp only[ak,bE] at h1;obtain⟨⟨h0,h2⟩,h3⟩:=h1;have h2:pr=q:=an h2;have h3:sz=t.width:=an h3;subst h0 h2 h3;exact⟨(lo,len),rfl,h'⟩
  |c y=>cases y<;>simp[Sh.un] at h
  | _=>simp[Sh.un] at h
 |hd=>
  cases c with
  |c y=>cases y with
   |sc v=>cases v with
    |slice a n c=>exact⟨⟨a,n,c⟩,rfl,h⟩
    | _=>simp[Sh.un] at h
   |ls t l=>simp[Sh.un] at h
  | _=>simp[Sh.un] at h
 |row q j n=>
  cases c with
  |own p sz lo len w=>
   obtain⟨pr,pl⟩:=p;cases pl with
   |nil=>simp[Sh.un] at h
   |cons a l=>
    cases l with
    |cons b l=>simp[Sh.un] at h
    |nil=>obtain⟨a1,a2⟩:=a;simp only[Sh.un] at h;obtain⟨h1,h'⟩:=dC h;clear h;simp only[ak,bE] at h1;obtain⟨⟨⟨h0,h2⟩,h3⟩,h4⟩:=h1;have h2:pr=q:=an h2;have h3:sz=n:=an h3;have h4:a2=j:=an h4;subst h0 h2 h3 h4;exact⟨(a1,lo,len),rfl,h'⟩
  |c y=>cases y<;>simp[Sh.un] at h
  | _=>simp[Sh.un] at h
 |ptr n i=>
  cases c with
  |ptrB m j=>simp only[Sh.un] at h;obtain⟨h1,h'⟩:=dC h;clear h;simp only[ak] at h1;have h2:=an h1.1;have h3:=an h1.2;subst h2 h3;exact⟨(),rfl,h'⟩
  |c y=>cases y<;>simp[Sh.un] at h
  | _=>simp[Sh.un] at h
 |em=>
  cases c with
  |em=>exact⟨(),rfl,h⟩
  |c y=>cases y<;>simp[Sh.un] at h
  | _=>simp[Sh.un] at h
 |dead=>
  cases c with
  |dead=>exact⟨(),rfl,h⟩
  |c y=>cases y<;>simp[Sh.un] at h
  | _=>simp[Sh.un] at h
 |pro t=>
  cases c with
  |pro xs=>
   simp only[Sh.un] at h;split at h
   ·rename_i x hx;exact⟨x,by simp only[Sh.mk];rw[t.unflat_some _ _ hx],h⟩
   ·cases h
  |c y=>cases y<;>simp[Sh.un] at h
  | _=>simp[Sh.un] at h
 |pt q n=>
  cases c with
  |ptrT p sz i j=>
   obtain⟨pr,pl⟩:=p;cases pl with
   |cons a l=>simp[Sh.un] at h
   |nil=>simp only[Sh.un] at h;obtain⟨h1,h'⟩:=dC h;clear h;simp only[ak] at h1;obtain⟨⟨⟨h1,h2⟩,h3⟩,h4⟩:=h1;have h1:pr=q:=an h1;have h2:sz=n:=an h2;have h3:i=0:=an h3;have h4:j=0:=an h4;subst h1 h2 h3 h4;exact⟨(),rfl,h'⟩
  |c y=>cases y<;>simp[Sh.un] at h
  | _=>simp[Sh.un] at h
 |fc g=>
  unfold Sh.un at h;split at h
  all_goals first | (rename_i hh;cases hh;done)|skip
  all_goals try (rename_i hh _;cases hh;done)
  ·rename_i e;cases e;obtain⟨h1,h'⟩:=dC h;simp only[ak] at h1;obtain⟨⟨h1,h2⟩,h3⟩:=h1;have h1:=an h1;have h2:=ch (an h2);have h3:=ch (an h3);exact⟨(),by rw[h1,h2,h3];rfl,h'⟩
  ·cases h
theorem j8.un_some{G:List (Option dJ)}(hG: ∀r,r<G.length-> ∃tr,gA G r=some (some tr)): ∀ {l:List Sh} {cs:List Cl} {κ:j8.D l->Option ρ} {r:ρ},(∀c∈cs,c.ok G)->j8.un l cs κ=some r-> ∃x,cs=j8.mk G l x/\κ x=some r
 | [],[],κ,r,_,h=>⟨(),rfl,h⟩
 |s::l,c::cs,κ,r,hc,h=>by unfold j8.un at h;obtain⟨x,h1,h⟩:=Sh.un_some hG (hc c aK) h;obtain⟨y,h2,h⟩:=j8.un_some hG (λz hz=>hc z (aI _ hz)) h;exact⟨(x,y),by rw[h1,h2];rfl,h⟩
 | [],c::cs,κ,r,_,h=>by simp[j8.un] at h
 |s::l,[],κ,r,_,h=>by simp[j8.un] at h
theorem mJ: ∀ {cs:List Cl} {xs:List C},uL cs=some xs->cs=xs.map .c
 | [],xs,h=>by simp_all [uL]
 |c::cs,xs,h=>by
  cases c with
  |c y=>
   simp only[uL] at h;split at h
   ·rename_i r hr;simp only[af] at h;subst h;rw[mJ hr];rfl
   ·cases h
  | _=>simp[uL] at h
theorem lY.un_some{G:List (Option dJ)}(hG: ∀r,r<G.length-> ∃tr,gA G r=some (some tr)){s:lY}{v:V}{κ:s.D->Option ρ}{r:ρ}(hv:v.ok G)(h:s.un v κ=some r): ∃x,v=s.mk G x/\κ x=some r:=by
 cases v with
 |tup l=>cases s<;>simp[lY.un] at h
 |v y=>
  cases s with
  |cl s=>cases y with
   |cl c=>obtain⟨x,h1,h⟩:=Sh.un_some hG hv h;exact⟨x,by rw[h1];rfl,h⟩
   | _=>simp[lY.un] at h
  |agg l=>cases y with
   |agg cs=>obtain⟨x,h1,h⟩:=j8.un_some hG hv h;exact⟨x,by rw[h1];rfl,h⟩
   | _=>simp[lY.un] at h
  |st n=>cases y with
   |agg cs=>
    simp only[lY.un] at h;split at h
    ·rename_i xs hxs;split at h
     ·rename_i x hx;exact⟨x,by rw[mJ hxs];simp only[lY.mk];rw[n.unflat_some _ _ hx],h⟩
     ·cases h
    ·cases h
   | _=>simp[lY.un] at h
  |fn f l=>cases y with
   |fn g cs=>simp only[lY.un] at h;obtain⟨h0,h'⟩:=dC h;clear h;have h0:=an h0;subst h0;obtain⟨x,h1,h⟩:=j8.un_some hG hv h';exact⟨x,by rw[h1];rfl,h⟩
   | _=>simp[lY.un] at h
theorem pg.un_some{G:List (Option dJ)}(hG: ∀r,r<G.length-> ∃tr,gA G r=some (some tr)): ∀ {l:List (Nat×lY)} {m:List (Nat×V)} {κ:pg.D l->Option ρ} {r:ρ},(∀x∈m,x.2.ok G)->pg.un l m κ=some r-> ∃x,m=pg.mk G l x/\κ x=some r
 | [],[],κ,r,_,h=>⟨(),rfl,h⟩
 |s::l,c::cs,κ,r,hc,h=>by unfold pg.un at h;obtain⟨h0,h⟩:=dC h;have h0:=an h0;obtain⟨x,h1,h⟩:=lY.un_some hG (hc c aK) h;obtain⟨y,h2,h⟩:=pg.un_some hG (λz hz=>hc z (aI _ hz)) h;refine⟨(x,y),?_,h⟩;rw[h2];obtain⟨c1,c2⟩:=c;simp only at h0 h1;rw[h1,<-h0];rfl
 | [],c::cs,κ,r,_,h=>by simp[pg.un] at h
 |s::l,[],κ,r,_,h=>by simp[pg.un] at h
theorem pd.un_some{G:List (Option dJ)}(hG: ∀r,r<G.length-> ∃tr,gA G r=some (some tr)): ∀ {l:List (List Sh)} {m:List (List Cl)} {κ:pd.D l->Option ρ} {r:ρ},(∀cs∈m,∀c∈cs,c.ok G)->pd.un l m κ=some r-> ∃x,m=pd.mk G l x/\κ x=some r
 | [],[],κ,r,_,h=>⟨(),rfl,h⟩
 |s::l,c::cs,κ,r,hc,h=>by unfold pd.un at h;obtain⟨x,h1,h⟩:=j8.un_some hG (hc c aK) h;obtain⟨y,h2,h⟩:=pd.un_some hG (λz hz=>hc z (aI _ hz)) h;exact⟨(x,y),by rw[h1,h2];rfl,h⟩
 | [],c::cs,κ,r,_,h=>by simp[pd.un] at h
 |s::l,[],κ,r,_,h=>by simp[pd.un] at h
theorem iM.un_some: ∀ {l:List Ty} {m:List (Option dJ)} {κ:iM.D l->Option ρ} {r:ρ},iM.un l m κ=some r-> ∃x,m=iM.mk l x/\κ x=some r
 | [],[],κ,r,h=>⟨(),rfl,h⟩
 |t::l,some tr::m,κ,r,h=>by
  unfold iM.un at h;split at h
  ·rename_i hh;split at h
   ·rename_i a ha;obtain⟨e,hl⟩:=eD ha;obtain⟨y,h2,h⟩:=iM.un_some h;obtain⟨t',l',hole⟩:=tr;simp only at hh e hl ha;subst hh e;simp only at hl;subst hl;exact⟨(l',y),by rw[h2];rfl,h⟩
   ·cases h
  ·cases h
 | [],c::cs,κ,r,h=>by simp[iM.un] at h
 |t::l,[],κ,r,h=>by simp[iM.un] at h
 |t::l,none::m,κ,r,h=>by simp[iM.un] at h
theorem iM.mk_some: ∀ (l:List Ty) (d:iM.D l) (r:Nat),r< (iM.mk l d).length-> ∃tr,gA (iM.mk l d) r=some (some tr)
 | [],d,r,h=>by simp[iM.mk] at h
 |t::l,d,0,h=>⟨_,rfl⟩
 |t::l,d,r+1,h=>by obtain⟨tr,htr⟩:=iM.mk_some l d.2 r (by simpa [iM.mk] using h);exact⟨tr,htr⟩
theorem kB.un_some{L:kB}{S:TS}(hS:S.ok){κ:L.D->Option ρ}{r:ρ}(h:L.un S κ=some r): ∃d,S=L.mk' d/\κ d=some r:=by
 unfold kB.un at h;obtain⟨g,h1,h⟩:=iM.un_some h;have hG: ∀r,r<S.gh.length-> ∃tr,gA S.gh r=some (some tr):=by rw[h1];exact iM.mk_some _ _
 obtain⟨e,h2,h⟩:=pg.un_some hG hS.env h;obtain⟨b,h3,h⟩:=pd.un_some hG hS.bx h;obtain⟨h4,h⟩:=dC h;simp only[ak] at h4;have h5:=an h4.1;have h6:=an h4.2;refine⟨(e,b,g),?_,h⟩;obtain⟨env,bx,gh,fz,nt⟩:=S
 grind [kB.mk']
end
end
section
open Go
def vy(S:TS)(t:Ty):Cl:=.own ⟨S.gh.length,[]⟩ t.width 0 0 true
def vj(n j:Nat)(t:Ty)(S:TS):TS:=match gA S.bx n with
 |some cs=>(match gA cs j with
  |some .em=> { S with bx:=dW S.bx n (dW cs j (vy S t)),gh:=S.gh++ [some ⟨t,[],none⟩] }
  | _=>S)
 |none=>S
def vk(x:Nat)(t:Ty)(S:TS):TS:=match eS S.env x with
 | .v (.cl .em)=> { S with env:=(x,.v (.cl (vy S t)))::S.env,gh:=S.gh++ [some ⟨t,[],none⟩] }
 | _=>S
theorem AZ: ∀ (l:List (Nat×Nat)),T.go .dd l= .dd
 | [] =>rfl
 | (_,_)::l=>AZ l
theorem Bs(w:Nat){l:List (Nat×Nat)}{s:Nat}{rs:List (List T)}(h:T.go (.sl w []) l= .sl s rs):rs= [] :=by
 cases l with
 |nil=>cases h;rfl
 |cons a l=>grind [T.go,T.cell,AZ]
theorem pO[dE]{S S':TS}(t:Ty)(henv: ∀u,(eS S'.env u).av=(eS S.env u).av\/((eS S.env u).av= .em/\(eS S'.env u).av= .own ⟨S.gh.length,[]⟩ t.width 0 0))
  (hbx: ∀k cs',S'.st.bx k=some cs'-> ∃cs,S.st.bx k=some cs/\cs'.length=cs.length/\ ∀ (j:Nat) (v:AV),cs'[j]? =some v->cs[j]? =some v\/(cs[j]? =some .em/\v= .own ⟨S.gh.length,[]⟩ t.width 0 0))
  (hgh:S'.gh=S.gh++ [some ⟨t,[],none⟩]) (hfz:S'.fz=S.fz) (hnt:S'.nt=S.nt) (hbl:S'.bx.length=S.bx.length):gK S.st S'.st:=by
 intro w0 W btI SI bt a w hl0;have hl:=hl0.widen (N:=S.gh.length+1) (cL _);have inv:=hl.inv;have hng:S'.st.ng=S.gh.length+1:=by show S'.gh.length=_;rw[hgh];simp
 have ghS: ∀r,S'.st.gh r=if r=S.gh.length then some (.sl t.width []) else S.st.gh r:=by intro r;show (dX S'.gh r).map dJ.tree=_;rw[hgh,ft];split<;>rfl
 have κ0: ∀l,(bt.widen S.st.ng (S.gh.length+1)).κ ⟨S.gh.length,l⟩=0:=by intro l;show (if S.gh.length<S.gh.length then _ else 0)=0;rw[if_neg (dA _)]
 have look: ∀p s rs,S'.st.look p= .sl s rs->(p.r=S.gh.length/\rs= [] /\(bt.widen S.st.ng (S.gh.length+1)).κ p=0)\/(p.r≠S.gh.length/\S.st.look p= .sl s rs):=by
  intro p s rs hp;unfold St.look at hp;rw[ghS] at hp;by_cases hr:p.r=S.gh.length
  ·rw[if_pos hr] at hp;left;refine⟨hr,Bs _ hp,?_⟩;obtain⟨pr,pl⟩:=p
   grind
  ·rw[if_neg hr] at hp;exact .inr ⟨hr,hp⟩
 have own0: ∀ {u:Value},VR w (bt.widen S.st.ng (S.gh.length+1)) .em u->VR w (bt.widen S.st.ng (S.gh.length+1)) (.own ⟨S.gh.length,[]⟩ t.width 0 0) u:=by
  intro u hu;cases hu with
  |em ad=>exact .own (cU _) (az _) (bO _) (λh=>absurd h (dA _))
 refine⟨bt.widen S.st.ng (S.gh.length+1),?_⟩
 refine⟨{ good:=inv.good,os:=inv.os,tape:=inv.tape,output:=inv.output,size:=inv.size,keep:=inv.keep
          nb:=by show _=S'.bx.length;rw[hbl];exact inv.nb
          ng:=by rw[hng];exact inv.ng
          bx:=λn cells hn=> ?_
          gh:=λr x hr=> ?_
          tr:=λp sz rows hp=> ?_
          inj:=λp q s rs s' rs' hp hq hk hk' he=> ?_
          bbinj:=λn m cs cs' hn hm he=> ?_
          bbtr:=λn cs p s rs hn hp hk=> ?_
          alt:=inv.alt
          atr:=λp s rs hp hk=> ?_
          abb:=λn cs hn=> ?_ },⟨?_,λu=> ?_⟩,hl.defers,?_,?_,hl.keep,λr hr hn=> ?_⟩
 ·obtain⟨cs,h1,h2,h3⟩:=hbx n cells hn;obtain⟨g1,g2,arr,e,g3,g4,g5⟩:=inv.bx n cs h1;refine⟨by show n<S'.bx.length;rw[hbl];exact g1,g2,arr,e,g3,by rw[h2];exact g4,λj v hj=> ?_⟩
  grind
 ·rw[hng];rw[ghS] at hr;split at hr
  ·omega
  ·have:=inv.gh r x hr;exact this
 ·rcases look p sz rows hp with ⟨h1,rfl,h3⟩| ⟨h1,h2⟩
  ·grind
  ·exact inv.tr p sz rows h2
 ·rcases look p s rs hp with ⟨h1,_,h3⟩| ⟨h1,h2⟩
  ·omega
  ·rcases look q s' rs' hq with ⟨g1,_,g3⟩| ⟨g1,g2⟩
   ·omega
   ·exact inv.inj _ _ _ _ _ _ h2 g2 hk hk' he
 ·obtain⟨c,h1,_,_⟩:=hbx n cs hn;obtain⟨c',g1,_,_⟩:=hbx m cs' hm;exact inv.bbinj _ _ _ _ h1 g1 he
 ·obtain⟨c,h1,_,_⟩:=hbx n cs hn;rcases look p s rs hp with ⟨_,_,h3⟩| ⟨_,h2⟩
  ·omega
  ·exact inv.bbtr _ _ _ _ _ h1 h2 hk
 ·rcases look p s rs hp with ⟨_,_,h3⟩| ⟨_,h2⟩
  ·omega
  ·exact inv.atr _ _ _ h2 hk
 ·obtain⟨c,h1,_,_⟩:=hbx n cs hn;exact inv.abb _ _ h1
 ·have:=hl.er.1;show _=S'.nt;rw[hnt];exact this
 ·have h1:=hl.er.2 u;show VR w _ (eS S'.env u).av _;rcases henv u with h2| ⟨h2,h3⟩
  ·rw[h2];exact h1
  ·rw[h3];have h1':VR w (bt.widen S.st.ng (S.gh.length+1)) (eS S.env u).av (a.tmps.getD u undef):=h1;rw[h2] at h1';exact own0 h1'
 ·show S'.fz=_;rw[hfz];exact hl.fz
 ·show S'.fz<=S'.gh.length;have:=hl.fzng;have e:S.fz<=S.gh.length+1:=this
  grind
 ·refine hl.gone r hr ?_
  grind
theorem sL(S:TS)(t:Ty): (vy S t).ok (S.gh++ [some ⟨t,[],none⟩]):=by refine⟨by simp,λ_=>⟨rfl,rfl,λtr htr=> ?_⟩⟩;rw[ft,if_pos rfl] at htr;cases htr;rfl
theorem xE[dE]{S:TS}(hS:S.ok)(x:Nat)(t:Ty):gK S.st (vk x t S).st/\(vk x t S).ok:=by
 unfold vk;split
 ·rename_i hx;refine⟨pO t (λu=> ?_) (λk cs' h=>⟨cs',h,rfl,λj v hv=> .inl hv⟩) rfl rfl rfl rfl,⟨λy hy=> ?_,λcs hcs c hc=>Cl.ok_mono (eL.app _ _) (hS.bx cs hcs c hc)⟩⟩
  ·simp only[eS];cases hb:Nat.beq x u with
   |true=>have :x=u:=an hb;subst this;right;rw[hx];exact⟨rfl,rfl⟩
   |false=>exact .inl rfl
  ·rcases aZ.1 hy with rfl|hy
   ·exact sL S t
   ·exact V.ok_mono (eL.app _ _) (hS.env y hy)
 ·exact⟨gK.refl,hS⟩
theorem xD[dE]{S:TS}(hS:S.ok)(n j:Nat)(t:Ty):gK S.st (vj n j t S).st/\(vj n j t S).ok:=by
 unfold vj;split
 ·rename_i cs hcs;split
  ·rename_i hj;rw[eg] at hcs hj;have hn:=(ai.1 hcs).1;refine⟨pO t (λu=> .inl rfl) (λk cs' h=> ?_) rfl rfl rfl (by simp[eG]),⟨λy hy=>V.ok_mono (eL.app _ _) (hS.env y hy),λcs' hcs' c hc=> ?_⟩⟩
   ·have h': (gA (dW S.bx n (dW cs j (vy S t))) k).map (λcs=>cs.map Cl.av)=some cs':=h;rw[eg,eG,eG,bH] at h';by_cases hk:n=k
    ·subst hk;rw[if_pos rfl,if_pos hn] at h';simp only[aF,af] at h';subst h';refine⟨cs.map Cl.av,by show (gA S.bx n).map _=_;rw[eg,hcs];rfl,by simp,λi v hv=> ?_⟩;rw[aw,bH] at hv;by_cases hi:j=i
     ·subst hi;rw[if_pos rfl,if_pos (ai.1 hj).1] at hv;right;rw[aw,hj];simp only[aF,af] at hv;exact⟨rfl,hv.symm⟩
     grind
    ·rw[if_neg hk] at h';exact⟨cs',by show (gA S.bx k).map _=_;rw[eg];exact h',rfl,λi v hv=> .inl hv⟩
   ·simp only[eG] at hcs';rcases cY hcs' with h1|h1
    ·exact Cl.ok_mono (eL.app _ _) (hS.bx _ h1 c hc)
    ·subst h1;rcases cY hc with h2|h2
     ·exact Cl.ok_mono (eL.app _ _) (hS.bx _ (aA hcs) c h2)
     ·subst h2;exact sL S t
  ·exact⟨gK.refl,hS⟩
 ·exact⟨gK.refl,hS⟩
inductive tP where
 |t (x:Nat) (t:Ty)
 |b (n j:Nat) (t:Ty)
def ki:List tP->TS->TS
 | [],S=>S
 | .t x t::l,S=>ki l (vk x t S)
 | .b n j t::l,S=>ki l (vj n j t S)
theorem kP[dE]: ∀ (l:List tP) {S:TS},S.ok->gK S.st (ki l S).st/\(ki l S).ok
 | [],S,hS=>⟨gK.refl,hS⟩
 | .t x t::l,S,hS=>by obtain⟨h1,h2⟩:=xE hS x t;obtain⟨h3,h4⟩:=kP l h2;exact⟨h1.trans h3,h4⟩
 | .b n j t::l,S,hS=>by obtain⟨h1,h2⟩:=xD hS n j t;obtain⟨h3,h4⟩:=kP l h2;exact⟨h1.trans h3,h4⟩
section
variable {P:Program} {Θ:fV} {Y:lz} {Λ:gn}
def tF{ρ:Type}(keepN keepX:List Nat)(κ:X->TS->Option ρ)(x:X)(S:TS):Option ρ:=match x with
 | .nor=>l8 keepN S (κ .nor)
 |x=>l8 keepX S (κ x)
def wY{σ ε:Type}(G:σ->Option ε)(μ:σ->Nat)(s:σ)(e:ε):Option (σ⊕ε)->Prop
 |some (.inl s')=>μ s'<μ s/\G s'=some e
 |some (.inr e')=>e'=e
 |none=>False
theorem Aa[dE](hΘ:ek P Θ)(hY:fC P Y)(hm:P.follows .mixedOrders=true){c:Code}(hc:fF P c=true)(hL:eM P Λ (dZ c)){σ ε:Type}{H:σ->TS}{E:ε->X×TS}{B:σ->Option (σ⊕ε)}{keepN keepX:List Nat}
  (hH: ∀s,(H s).ok) (hstep: ∀s,ma Θ Y Λ c (H s) (tF keepN keepX λx S=>some (x,S))=(B s).bind (Sum.elim (λs'=>some (.nor,H s')) λe=>some (E e)))
  (hE: ∀e,(E e).1≠ .nor) {G:σ->Option ε} {μ:σ->Nat} (hG: ∀s e,G s=some e->wY G μ s e (B s))
  {s:σ} {e:ε} (hs:G s=some e):gQ P (.loop c) (H s).st (λx S'=>x=(E e).1/\S'=(E e).2.st):=by
 refine gQ.loop (λn X=> ∃s,X=(H s).st/\G s=some e/\μ s=n) (λn X hX=> ?_) (n:=μ s) ⟨s,rfl,hs,rfl⟩;obtain⟨s,rfl,hs,rfl⟩:=hX;have hg:=hG s e hs;have hst:=hstep s;cases hB:B s with
 |none=>rw[hB] at hg;exact hg.elim
 |some l=>
  rw[hB] at hg hst;cases l with
  |inl s'=>
   simp only[ao,Sum.elim_inl] at hst;refine (qz hΘ hY hm c _ _ _ hc hL (hH s) hst).mono (λx S' hx=> ?_);obtain⟨S1,rfl,h1,h2⟩:=hx
   have fB: ∃S2:TS,gK S1.st S2.st/\x= .nor/\S2=H s':=by
    unfold tF at h2;split at h2
    ·obtain⟨S2,k1,_,k2⟩:=iV h1 h2
     grind
    ·grind [iV]
   obtain⟨S2,k1,rfl,rfl⟩:=fB;exact⟨_,k1,μ s',hg.1,s',rfl,hg.2,rfl⟩
  |inr e'=>
   simp only[ao,Sum.elim_inr] at hst;have hg:e'=e:=hg;subst hg;refine (qz hΘ hY hm c _ _ _ hc hL (hH s) hst).mono (λx S' hx=> ?_);obtain⟨S1,rfl,h1,h2⟩:=hx
   have fB: ∃S2:TS,gK S1.st S2.st/\(x,S2)=E e':=by
    unfold tF at h2;split at h2
    ·grind [iV]
    ·grind [iV]
   grind
def xN(grow:List tP)(keep:List Nat)(L:kB){ε:Type}(E:ε->X×TS)(G:L.D->Option ε):TS->(ρ:Type)->(X->TS->Option ρ)->Option ρ:=
 λS _ κ=>l8 keep (ki grow S) λS1=>L.un S1 λs=>(G s).bind λe=>κ (E e).1 (E e).2
theorem xO[dE]{c:Code}{grow:List tP}{keep:List Nat}{L:kB}{ε:Type}{E:ε->X×TS}{G:L.D->Option ε}(hE: ∀e,(E e).2.ok)
  (h: ∀s e,G s=some e->gQ P (.loop c) (L.mk' s).st (λx S'=>x=(E e).1/\S'=(E e).2.st)) {S:TS} {ρ:Type} {κ:X->TS->Option ρ} {r:ρ} (hS:S.ok) (hk:xN grow keep L E G S ρ κ=some r):
  gQ P (.loop c) S.st (λx S'=> ∃S1:TS,S'=S1.st/\S1.ok/\κ x S1=some r):=by
 unfold xN at hk;obtain⟨h1,h2⟩:=kP grow hS;obtain⟨S1,h3,h4,hk⟩:=iV h2 hk;obtain⟨s,rfl,hk2⟩:=kB.un_some h4 hk;obtain⟨e,h5,hk3⟩:=ah.1 hk2;refine gQ.weak (h1.trans h3) ((h s e h5).mono (λx S' hx=> ?_));obtain⟨rfl,rfl⟩:=hx;exact⟨_,gK.refl,_,rfl,hE e,hk3⟩
end
end
section
open Go
abbrev gm.D:List Ty->Type
 | [] =>Unit
 |t::l=>t.D×gm.D l
def fR: (l:List Ty)->gm.D l->List ((t:Ty)×t.D)
 | [],_=> []
 |t::l,x=>⟨t,x.1⟩::fR l x.2
def kC[dE](P:Program)(f:FuncId)(e:tN):Prop:=∀args ρ κ r,e args ρ κ=some r-> ∃res out,kD P f args res out/\res.ok (out.map some)/\κ res out=some r
theorem AD[dE](P:Program):fC P (pq []):=λ_ _ _ _ _ h=>by cases h
theorem yK[dE]{P:Program}{f:FuncId}{e:tN}{l:List (Nat×tN)}(h:kC P f e)(hl:fC P (pq l)):fC P (pq ((f,e)::l)):=by
 intro g args ρ κ r hr;have hr: (bif Nat.beq f g then e args ρ κ else Br l g args ρ κ)=some r:=hr;cases hb:Nat.beq f g with
 |true=>rw[hb] at hr;have:=an hb;subst this;exact h args ρ κ r hr
 |false=>rw[hb] at hr;exact hl g args ρ κ r hr
def tK(as bs:List AV):Prop:=as.length=bs.length/\ ∀ (k:Nat) (a b:AV),as[k]? =some a->bs[k]? =some b->a=b\/(a= .em/\ ∃s,b= .ro s [])
theorem tK.refl(as:List AV):tK as as:=⟨rfl,λk a b h1 h2=>by rw[h1] at h2;cases h2;exact .inl rfl⟩
theorem tK.cons{a b:AV}{as bs:List AV}(h:a=b\/(a= .em/\ ∃s,b= .ro s []))(hn:tK as bs):tK (a::as) (b::bs):=
 ⟨by simp[hn.1],λk x y h1 h2=>by
  cases k with
  |zero=>grind
  |succ k=>exact hn.2 k x y (by simpa using h1) (by simpa using h2)⟩
theorem tK.VR{as bs:List AV}(hn:tK as bs){w:World}{bt:Bt}{vals:List Value}(h: ∀ (k:Nat) (v:AV) (u:Value),as[k]? =some v->vals[k]? =some u->VR w bt v u)(k:Nat)(v:AV)(u:Value)(hv:bs[k]? =some v)(hu:vals[k]? =some u):VR w bt v u:=by
 have hk:k<as.length:=by rw[hn.1];exact (ai.1 hv).1
 have ha:=aq hk;have hx:=h k _ u ha hu;rcases hn.2 k _ v ha hv with e| ⟨e,s,rfl⟩
 ·rw[<-e];exact hx
 ·rw[e] at hx;cases hx with
  |em b=>exact .ro (.em _ _ _)
theorem eV.norm[dE]{P:Program}{f:FuncId}{as bs:List AV}{gs:List T}{m:Nat}{res:AV}{out:List T}(hn:tK as bs)(h:eV P f bs gs m res out):eV P f as gs m res out:=
 λw W bt0 vals hI hl hv=>h w W bt0 vals hI (hl.trans hn.1) (hn.VR hv)
theorem ig.norm[dE]{P:Program}{f:FuncId}{as bs:List AV}{gs:List T}{res:AV}{out:List T}(hn:tK as bs)(h:ig P f bs gs res out):ig P f as gs res out:=eV.norm hn h
theorem un_some{ρ:Type}{t:Ty}{a:V1}{κ:t.D->Option ρ}{r:ρ}(h:un t a κ=some r): ∃x,a=uT t x/\κ x=some r:=by
 unfold un at h;split at h
 ·rename_i cs;obtain⟨h1,h⟩:=dC h;split at h
  ·rename_i xs hxs;split at h
   ·rename_i x hx;refine⟨x,?_,h⟩;unfold uT;rw[h1,t.unflat_some _ _ hx,mJ hxs];rfl
   ·cases h
  ·cases h
 ·rename_i y;cases hag:t.ag with
  |true=>rw[hag] at h;cases h
  |false=>
   rw[hag] at h;simp only[cond_false] at h;split at h
   ·rename_i x hx;refine⟨x,?_,h⟩;unfold uT;rw[hag,t.unflat_some _ _ hx];rfl
   ·cases h
 ·cases h
theorem Bf(t:Ty)(x:t.D): (uT t x).ok [] :=by
 unfold uT;cases t.ag with
 |true=>intro c hc;obtain⟨y,_,rfl⟩:=aG.1 hc;trivial
 |false=>
  simp only[cond_false];split
  ·rename_i c hc;have :c∈(t.flat x).map Cl.c:=by rw[hc];exact aL.2 rfl
   obtain⟨y,_,rfl⟩:=aG.1 this;trivial
  ·trivial
theorem qY(mu suf:List dJ): ∀ (cs:List C) (mid:List dJ),∀c∈lf cs (mu.length+mid.length),c.ok ((mu++mid++hU cs++suf).map some)
 | [],mid,c,h=>by cases h
 | .sc v::cs,mid,c,h=>by
   rcases aZ.1 h with rfl|h
   ·trivial
   ·exact qY mu suf cs mid c h
 | .ls t l::cs,mid,c,h=>by
   rcases aZ.1 h with rfl|h
   ·refine⟨by simp[hU],λ_=>⟨rfl,rfl,λtr htr=> ?_⟩⟩
    have :dX ((mu++mid++hU (.ls t l::cs)++suf).map some) (mu.length+mid.length)=some ⟨t,l,none⟩:=by unfold dX;rw[eg,aw,bk,be (by simp)];simp[hU]
    have htr':dX ((mu++mid++hU (.ls t l::cs)++suf).map some) (mu.length+mid.length)=some tr:=htr;rw[this] at htr';cases htr';rfl
   ·have:=qY mu suf cs (mid++ [⟨t,l,none⟩]) c (by rw[bL,<-Nat.add_assoc];exact h);simp only[hU];simpa using this
theorem Au(t:Ty)(x:t.D)(mu suf:List dJ): (wF t x mu.length).ok ((mu++hU (t.flat x)++suf).map some):=by
 have fB:=qY mu suf (t.flat x) [];simp only[bU,bI,bP] at fB;unfold wF;cases t.ag with
 |true=>exact fB
 |false=>
  simp only[cond_false];split
  ·rename_i c hc;exact fB c (by rw[hc];exact aL.2 rfl)
  ·trivial
theorem oG: ∀ (l:List ((t:Ty)×t.D)) (mu:List dJ),∀v∈kJ mu.length l,v.ok ((mu++jx l).map some)
 | [],mu,v,h=>by cases h
 | ⟨t,x⟩::l,mu,v,h=>by
   rcases aZ.1 h with rfl|h
   ·have:=Au t x mu (jx l);simpa [jx] using this
   ·have:=oG l (mu++hU (t.flat x)) v (by rw[bL];exact h);simpa [jx] using this
theorem ux(l:List ((t:Ty)×t.D)): (qS (kJ 0 l)).ok ((jx l).map some):=by
 have h:=oG l [];simp only[bU,bG] at h
 match kJ 0 l,h with
 | [],_=>exactλx hx=>by cases hx
 | [v],h=>exact h v aK
 |v::u::vs,h=>exact h
end
section
open Go
def Sh.fit(n:Nat):Sh->Bool| .own r _=>Nat.blt r n| .sub r _=>Nat.blt r n| .row r _ _=>Nat.blt r n| .pt r _=>Nat.blt r n| _=>true
def lY.fit(n:Nat):lY->Bool| .cl s=>s.fit n| .agg l=>l.all (Sh.fit n)| .st _=>true| .fn _ l=>l.all (Sh.fit n)
def kB.fit(L:kB):Bool:=L.env.all (λx=>x.2.fit L.gh.length)&&L.bx.all (λl=>l.all (Sh.fit L.gh.length))
theorem iM.mk_length: ∀ (l:List Ty) (d:iM.D l),(iM.mk l d).length=l.length
 | [],_=>rfl
 |t::l,d=>by simp[iM.mk,iM.mk_length l d.2]
theorem Sh.mk_ok{G:List (Option dJ)}{s:Sh}(h:s.fit G.length=true)(x:s.D): (s.mk G x).ok G:=by
 cases s with
 |own r t=>
  refine⟨ax h,λ_=>⟨rfl,rfl,λtr htr=> ?_⟩⟩;unfold dX at htr;unfold BA;have htr': (gA G r).getD none=some tr:=htr;cases hn:gA G r with
  |none=>rw[hn] at htr';cases htr'
  |some y=>grind
 |sub r t=>exact⟨ax h,λe=>by cases e⟩
 |row r j w=>exact⟨ax h,λe=>by cases e⟩
 |pt r w=>exact ax h
 | _=>trivial
theorem j8.mk_ok{G:List (Option dJ)}: ∀ {l:List Sh},l.all (Sh.fit G.length)=true-> ∀ (x:j8.D l),∀c∈j8.mk G l x,c.ok G
 | [],_,x,c,hc=>by cases hc
 |s::l,h,x,c,hc=>by
  simp only[b8,ak] at h;rcases aZ.1 hc with rfl|hc
  ·exact Sh.mk_ok h.1 x.1
  ·exact j8.mk_ok h.2 x.2 c hc
theorem lY.mk_ok{G:List (Option dJ)}{v:lY}(h:v.fit G.length=true)(x:v.D): (v.mk G x).ok G:=by
 cases v with
 |cl s=>exact Sh.mk_ok h x
 |agg l=>exact j8.mk_ok h x
 |st n=>intro c hc;obtain⟨y,_,rfl⟩:=aG.1 hc;trivial
 |fn f l=>exact j8.mk_ok h x
theorem kB.mk'_ok{L:kB}(h:L.fit=true)(d:L.D): (L.mk' d).ok:=by
 unfold kB.fit at h;simp only[ak] at h;have hlen: (iM.mk L.gh d.2.2).length=L.gh.length:=iM.mk_length _ _;rw[<-hlen] at h
 have env: ∀ {l:List (Nat×lY)},l.all (λx=>x.2.fit (iM.mk L.gh d.2.2).length)=true-> ∀ (e:pg.D l),∀x∈pg.mk (iM.mk L.gh d.2.2) l e,x.2.ok (iM.mk L.gh d.2.2):=by
  intro l
  induction l with
  |nil=>intro _ e x hx;cases hx
  |cons y l ih=>
   intro h e x hx;simp only[b8,ak] at h;rcases aZ.1 hx with rfl|hx
   all_goals grind [lY.mk_ok]
 have bxs: ∀ {l:List (List Sh)},l.all (λl=>l.all (Sh.fit (iM.mk L.gh d.2.2).length))=true-> ∀ (e:pd.D l),∀cs∈pd.mk (iM.mk L.gh d.2.2) l e,∀c∈cs,c.ok (iM.mk L.gh d.2.2):=by
  intro l
  induction l with
  |nil=>intro _ e x hx;cases hx
  |cons y l ih=>
   intro h e x hx;simp only[b8,ak] at h;rcases aZ.1 hx with rfl|hx
   all_goals grind [j8.mk_ok]
 exact⟨env h.1 d.1,bxs h.2 d.2.1⟩
abbrev lC.D:List (X×kB)->Type
 | [] =>Empty
 | [x] =>x.2.D
 |x::y::l=>x.2.D⊕lC.D (y::l)
def lC.k{R:Type}: (l:List (X×kB))->lC.D l->(X->TS->R)->R
 | [],e,_=>e.elim
 | [x],d,κ=>κ x.1 (x.2.mk' d)
 |x::y::l,e,κ=>Sum.elim (λd=>κ x.1 (x.2.mk' d)) (λe=>lC.k (y::l) e κ) e
def lC.e(l:List (X×kB))(d:lC.D l):X×TS:=lC.k l d Prod.mk
theorem lC.k_eq{R:Type}: ∀ (l:List (X×kB)) (d:lC.D l) (κ:X->TS->R),lC.k l d κ=κ (lC.e l d).1 (lC.e l d).2
 | [],e,_=>e.elim
 | [_],_,_=>rfl
 | _::_::_,.inl _,_=>rfl
 | _::y::l,.inr e,κ=>lC.k_eq (y::l) e κ
def Cq(x:X×kB):Bool:=(match x.1 with | .nor=>false| _=>true)&&x.2.fit
theorem lC.ok: ∀ (l:List (X×kB)) (d:lC.D l),l.all Cq=true->(lC.e l d).1≠ .nor/\(lC.e l d).2.ok
 | [],e,_=>e.elim
 | [x],d,h=>by simp only[b8,ak,Cq] at h;refine⟨λe=> ?_,kB.mk'_ok h.1.2 d⟩;have e:x.1= .nor:=e;rw[e] at h;cases h.1.1
 |x::_::_,.inl d,h=>by simp only[b8,ak,Cq] at h;refine⟨λe=> ?_,kB.mk'_ok h.1.2 d⟩;have e:x.1= .nor:=e;rw[e] at h;cases h.1.1
 | _::y::l,.inr e,h=>lC.ok (y::l) e (by grind)
def xL(grow:List tP)(keep:List Nat)(L:kB)(exs:List (X×kB))(G:L.D->Option (lC.D exs)):TS->(ρ:Type)->(X->TS->Option ρ)->Option ρ:=
 λS _ κ=>l8 keep (ki grow S) λS1=>L.un S1 λs=>(G s).bind λe=>lC.k exs e κ
abbrev uO:=TS->(ρ:Type)->(X->TS->Option ρ)->Option ρ
def oa:List (Nat×uO)->gn
 | [],_,_,_,_=>none
 | (q,e)::l,n,S,ρ,κ=>bif Nat.beq q n then e S ρ κ else oa l n S ρ κ
section
variable {P:Program} {Θ:fV} {Y:lz} {Λ:gn}
def wV[dE](P:Program)(c:Code)(e:uO):Prop:=∀ (S:TS) (ρ:Type) (κ:X->TS->Option ρ) (r:ρ),S.ok->e S ρ κ=some r->gQ P (.loop c) S.st (λx S'=> ∃S1:TS,S'=S1.st/\S1.ok/\κ x S1=some r)
theorem xM[dE](hΘ:ek P Θ)(hY:fC P Y)(hm:P.follows .mixedOrders=true){c:Code}(hc:fF P c=true)(hL:eM P Λ (dZ c))(grow:List tP)(keep keepX:List Nat)(L:kB)(exs:List (X×kB))(hf: (L.fit&&exs.all Cq)=true)
  (B:L.D->Option (L.D⊕lC.D exs)) (hB: ∀s,ma Θ Y Λ c (L.mk' s) (tF keep keepX λx S=>some (x,S))=(B s).bind (Sum.elim (λs'=>some (.nor,L.mk' s')) λe=>some (lC.e exs e)))
  (G:L.D->Option (lC.D exs)) (μ:L.D->Nat) (hG: ∀s e,G s=some e->wY G μ s e (B s)):wV P c (xL grow keep L exs G):=by
 simp only[ak] at hf;intro S ρ κ r hS hk;refine xO (E:=lC.e exs) (λe=>(lC.ok exs e hf.2).2) (λs e hs=>Aa hΘ hY hm hc hL (λs=>kB.mk'_ok hf.1 s) hB (λe=>(lC.ok exs e hf.2).1) hG hs) hS ?_ (grow:=grow) (keep:=keep)
 grind [xN,xL,lC.k_eq]
end
end
section
open Go
def zG(P:Program)(e:TypeId->List Value->Bool):List Field->Nat->List Value->Bool
 | [],_,[] =>true
 | [],_,_::_=>false
 |f::fs,off,zs=>f.name != "_" &&Nat.beq f.offset off&&Nat.blt 0 (P.cellsOf f.type)&&Nat.ble (P.cellsOf f.type) zs.length&&(P.info? f.type).isSome&&e f.type (zs.take (P.cellsOf f.type))&&zG P e fs (off+P.cellsOf f.type) (zs.drop (P.cellsOf f.type))
def rO(P:Program):Nat->TypeId->List Value->Bool
 | 0,_,_=>false
 |n+1,t,zs=>match P.underlying t with
  |some .bool=>(match zs with | [.bool _] =>true| _=>false)
  |some (.int _)=>(match zs with | [.int _ _] =>true| _=>false)
  |some (.struct fs)=> !P.stoodInHeld t&&zG P (rO P n) fs.toList 0 zs
  | _=>false
def pG(P:Program)(t:TypeId)(xs:List Value):Value:=match P.underlying t with
 |some (.struct _)=> .agg xs.toArray
 | _=>xs.headD (.bool false)
def fD:List Value->List Value->Bool
 | [],[] =>true
 | .int k _::zs,.int k' _::cs=>bif decide (k=k') then fD zs cs else false
 | .bool _::zs,.bool _::cs=>fD zs cs
 | _,_=>false
def fG:List Value->List Value->Option Bool
 | [],[] =>some true
 |a::l,b::m=>match rP a b,fG l m with
  |some x,some y=>some (x&&y)
  | _,_=>none
 | _,_=>none
theorem ot: ∀ {zs xs:List Value},fE zs (xs.map λx=> .c (.sc x))=true->fD zs xs=true:=by
 intro zs
 induction zs with
 |nil=>intro xs h;cases xs with
  |nil=>rfl
  |cons=>simp[fE] at h
 |cons z zs ih=>
  intro xs h;cases xs with
  |nil=>cases z<;>simp[fE] at h
  |cons x xs=>
   cases z<;>cases x<;>simp only[aO,fE,fD,cond_eq_ite,aQ] at h ⊢
   ·exact ih h
   ·split at h
    ·rename_i hk;rw[if_pos hk];exact ih h
    ·cases h
theorem v5: ∀ {xs ys:List Value},kb (xs.map λx=> .c (.sc x)) (ys.map λx=> .c (.sc x))=fG xs ys:=by
 intro xs
 induction xs with
 |nil=>intro ys;cases ys<;>rfl
 |cons x xs ih=>
  intro ys;cases ys with
  |nil=>rfl
  |cons y ys=>simp only[aO,kb,fG,ih];cases rP x y<;>cases fG xs ys<;>rfl
theorem gY: ∀ {zs xs:List Value},fD zs xs=true->xs.length=zs.length:=by
 intro zs
 induction zs with
 |nil=>intro xs h;cases xs with
  |nil=>rfl
  |cons=>simp[fD] at h
 |cons z zs ih=>
  intro xs h;cases xs with
  |nil=>cases z<;>simp[fD] at h
  |cons x xs=>
   cases z<;>cases x<;>simp only[fD,cond_eq_ite,aQ] at h
   ·simp[ih h]
   ·split at h
    ·simp[ih h]
    ·cases h
theorem jj: ∀ {zs xs:List Value} (n:Nat),fD zs xs=true->fD (zs.take n) (xs.take n)=true/\fD (zs.drop n) (xs.drop n)=true:=by
 intro zs
 induction zs with
 |nil=>intro xs n h;cases xs with
  |nil=>simp[fD]
  |cons=>simp[fD] at h
 |cons z zs ih=>
  intro xs n h;cases xs with
  |nil=>cases z<;>simp[fD] at h
  |cons x xs=>
   cases n with
   |zero=>exact⟨rfl,h⟩
   |succ n=>
    cases z<;>cases x<;>simp only[fD,cond_eq_ite,aQ] at h
    ·exact ih n h
    ·split at h
     ·rename_i hk;refine⟨?_,(ih n h).2⟩;simp only[List.take_succ_cons,fD,cond_eq_ite];rw[if_pos (by simpa using hk)];exact (ih n h).1
     ·cases h
theorem qy: ∀ {xs ys:List Value} (n:Nat) {r:Bool},fG xs ys=some r-> ∃a b,fG (xs.take n) (ys.take n)=some a/\fG (xs.drop n) (ys.drop n)=some b/\r=(a&&b):=by
 intro xs
 induction xs with
 |nil=>intro ys n r h;cases ys with
  |nil=>cases h;exact⟨true,true,by simp[fG],by simp[fG],rfl⟩
  |cons=>simp[fG] at h
 |cons x xs ih=>
  intro ys n r h;cases ys with
  |nil=>simp[fG] at h
  |cons y ys=>
   cases n with
   |zero=>exact⟨true,r,rfl,h,rfl⟩
   |succ n=>
    simp only[fG] at h;split at h
    ·rename_i p q hp hq;cases h;obtain⟨a,b,h1,h2,rfl⟩:=ih n hq;exact⟨p&&a,b,by simp[fG,hp,h1],h2,by cases p<;>rfl⟩
    ·cases h
theorem qU{P:Program}{t:TypeId}{i:TypeInfo}(h:P.info? t=some i):dI P (typeInfo t)=some i:=by simp only[typeInfo,dH,program,dI,ao,h];rfl
theorem sO{P:Program}{t:TypeId}{i:TypeInfo}(hi:P.info? t=some i){d:TypeDesc}(hd:P.underlying t=some d)(hs: ∀n e,d≠ .array n e){xs:List Value}{off:Nat}{c:Value}(hc:xs[off]? =some c):
  dI P (part t xs.toArray off)=some (pG P t ((xs.drop off).take (P.cellsOf t)))\/P.cellsOf t=0:=by
 by_cases h0:P.cellsOf t=0
 ·exact .inr h0
 refine .inl ?_;have hcell:P.cellsOf t=i.size:=by simp[Program.cellsOf,hi]
 cases hst: (match d with | .struct _=>true| _=>false) with
 |true=>
  have hag:dI P (isAgg t)=some true:=by simp only[isAgg,dH,dU hd,ao];cases d<;>simp at hst;rfl
  simp only[part,sizeOf,dH,hag,ao,if_true,qU hi,dK,pG,hd];cases d<;>simp at hst;simp[hcell,Nat.add_sub_cancel_left]
 |false=>
  have hag:dI P (isAgg t)=some false:=by
   simp only[isAgg,dH,dU hd,ao];cases d<;>simp at hst
   all_goals first |rfl|exact absurd rfl (hs _ _)
  have hv:pG P t ((xs.drop off).take (P.cellsOf t))=c:=by
   have : ((xs.drop off).take (P.cellsOf t)).headD (.bool false)=c:=by
    obtain⟨n,hn⟩: ∃n,P.cellsOf t=n+1:=⟨P.cellsOf t-1,by omega⟩
    have h1:off<xs.length:=(ai.1 hc).1;rw[hn,cg h1,List.take_succ_cons];exact (ai.1 hc).2
   unfold pG;rw[hd];cases d<;>first |exact this|simp at hst
  rw[hv];simp only[part,dH,hag,ao,aQ,if_false];have :xs.toArray[off]? =some c:=by simpa using hc
  rw[this];rfl
theorem u9(P:Program): ∀ (n:Nat) {t:TypeId} {zs xs ys:List Value} {r:Bool} (d:Nat),rO P n t zs=true->fD zs xs=true->fD zs ys=true->fG xs ys=some r->dI P (Op.equalIn (n+d) t (pG P t xs) (pG P t ys))=some r
 | 0,t,zs,xs,ys,r,d,h,_,_,_=>by cases h
 |n+1,t,zs,xs,ys,r,d,h,hx,hy,he=>by
  have hn:n+1+d=(n+d)+1:=by omega
  rw[hn];unfold rO at h;cases hu:P.underlying t with
  |none=>rw[hu] at h;cases h
  |some D=>
   rw[hu] at h;cases D<;>simp only[aQ] at h
   case bool=>
    split at h
    case h_2=>cases h
    obtain⟨x,rfl⟩: ∃x,xs= [.bool x] :=by
     match xs,hx with
     | [.bool x],_=>exact⟨x,rfl⟩
    obtain⟨y,rfl⟩: ∃y,ys= [.bool y] :=by
     match ys,hy with
     | [.bool y],_=>exact⟨y,rfl⟩
    simp only[fG,rP,df,af] at he;subst he;simp only[pG,hu,List.headD_cons];rw[Op.equalIn];simp only[dH,dU hu,ao,dK]
   case int k=>
    split at h
    case h_2=>cases h
    rename_i k0 _
    obtain⟨x,rfl⟩: ∃x,xs= [.int k0 x] :=by
     match xs,hx with
     | [.int k1 x],hx=>
       simp only[fD,cond_eq_ite] at hx;split at hx
       ·rename_i hk;simp at hk;subst hk;exact⟨x,rfl⟩
       ·cases hx
     | .int _ _::_::_,hx=>simp[fD] at hx
    obtain⟨y,rfl⟩: ∃y,ys= [.int k0 y] :=by
     match ys,hy with
     | [.int k1 x],hx=>
       simp only[fD,cond_eq_ite] at hx;split at hx
       ·rename_i hk;simp at hk;subst hk;exact⟨x,rfl⟩
       ·cases hx
     | .int _ _::_::_,hx=>simp[fD] at hx
    simp only[fG,rP,df,af] at he;subst he;simp only[pG,hu,List.headD_cons];rw[Op.equalIn];simp only[dH,dU hu,ao,dK,if_true]
   case struct fs=>
    simp only[ak,bE] at h;obtain⟨hst,h⟩:=h;simp only[pG,hu]
    have fB: ∀ (fs:List Field) (off:Nat) (zs:List Value) (r:Bool),zG P (rO P n) fs off zs=true->fD zs (xs.drop off)=true->fD zs (ys.drop off)=true->fG (xs.drop off) (ys.drop off)=some r->
      dI P (Op.eqFields (n+d) xs.toArray ys.toArray fs)=some r:=by
     intro fs
     induction fs with
     |nil=>
      intro off zs r h hx hy he;cases zs with
      |nil=>have h1:=gY hx;have h2:=gY hy;simp only[bU,db] at h1 h2;rw[h1,h2] at he;cases he;rfl
      |cons=>cases h
     |cons f fs ih=>
      intro off zs r h hx hy he;simp only[zG,ak,bne_iff_ne,ne_eq] at h;obtain⟨⟨⟨⟨⟨⟨hname,hoff⟩,hpos⟩,hle⟩,hi⟩,h1⟩,h2⟩:=h;have hoff:=an hoff;have hpos:0<P.cellsOf f.type:=ax hpos;have hle:P.cellsOf f.type<=zs.length:=ax hle;have hlx:=gY hx;have hly:=gY hy;rw[co] at hlx hly;obtain⟨i,hi⟩:=aY.1 hi
      have hu': ∃D,P.underlying f.type=some D/\ ∀n e,D≠ .array n e:=by
       cases hun:P.underlying f.type with
       |none=>cases n<;>simp[rO,hun] at h1
       |some D=>refine⟨D,rfl,λk e he=> ?_⟩;subst he;cases n<;>simp[rO,hun] at h1
      obtain⟨D,hD,hDa⟩:=hu';have px:=sO hi hD hDa (xs:=xs) (off:=off) (aq (by omega));have py:=sO hi hD hDa (xs:=ys) (off:=off) (aq (by omega));have px:=px.resolve_right (by omega);have py:=py.resolve_right (by omega);obtain⟨a,b,ha,hb,rfl⟩:=qy (P.cellsOf f.type) he;have hA:=u9 P n d h1 (jj _ hx).1 (jj _ hy).1 ha;rw[Op.eqFields,if_pos hname];simp only[hoff,dH,px,py,ao,hA];cases a with
      |false=>rfl
      |true=>
       simp only[dg,aQ,if_false,dz];simp only[cn] at hb;refine ih _ _ _ h2 ?_ ?_ hb
       ·have:=(jj (P.cellsOf f.type) hx).2;rw[cn] at this;exact this
       ·have:=(jj (P.cellsOf f.type) hy).2;rw[cn] at this;exact this
    have:=fB fs.toList 0 zs r h (by simpa using hx) (by simpa using hy) (by simpa using he);rw[<-this];rw[Op.equalIn];simp only[dH,dU hu,ao,program,dI,hst,aQ,if_false];rw[<-Array.forIn_toList];generalize fs.toList=fs;clear this fB h hu hst hn
    induction fs with
    |nil=>rfl
    |cons f fs ih=>
     simp only[List.forIn_cons,Op.eqFields];split
     ·simp only[dH];cases dI P (part f.type xs.toArray f.offset) with
      |none=>rfl
      |some a=>
       cases dI P (part f.type ys.toArray f.offset) with
       |none=>rfl
       |some b=>
        simp only[ao];cases dI P (Op.equalIn (n+d) f.type a b) with
        |none=>rfl
        |some q=>
         cases q
         ·rfl
         ·simp only[ao,dg,aQ,if_false,dK];simpa only[dH,Option.bind_assoc] using ih
     ·simp only[dH,dK,ao];simpa only[dH,Option.bind_assoc] using ih
theorem Cn{P:Program}{t:TypeId}{zs:List Value}{fs:Array Field}(hu:P.underlying t=some (.struct fs))(h:rO P 8 t zs=true)(a b:List Cl)(r:Bool)(xs ys:List Value)(ha:fE zs a=true)(hb:fE zs b=true)(he:kb a b=some r)(hx:a=xs.map (λx=> .c (.sc x)))(hy:b=ys.map (λx=> .c (.sc x))):
  dI P (Op.equal t (.agg xs.toArray) (.agg ys.toArray))=some r:=by
 subst hx hy;have:=u9 P 8 9992 h (ot ha) (ot hb) (by rw[<-v5];exact he);unfold pG at this;rw[hu] at this;exact this
end
section
open Go
def C6(P:Program):List Field->Option (List (Nat×Nat×Bool))
 | [] =>some []
 |f::fs=>match pa P f.type,C6 P fs with
  |some ag,some l=>some ((f.offset,P.cellsOf f.type,ag)::l)
  | _,_=>none
def Ds(P:Program)(t:TypeId):Option (List (Nat×Nat×Bool)):=match P.underlying t with |some (.struct fs)=>C6 P fs.toList| _=>none
theorem vb{P:Program}: ∀ {fs:List Field} {l:List (Nat×Nat×Bool)},C6 P fs=some l-> ∀k,(fs[k]?).bind (λf=>(pa P f.type).map λag=>(f.offset,P.cellsOf f.type,ag))=gA l k
 | [],l,h,k=>by cases h;rfl
 |f::fs,l,h,k=>by
  unfold C6 at h;split at h
  ·rename_i ag l' h1 h2;cases h;cases k with
   |zero=>simp[h1,gA]
   |succ k=>show _=gA l' (k+1-1);rw[bM,<-vb h2 k,cj]
  ·cases h
theorem zN{P:Program}{t:TypeId}{l:List (Nat×Nat×Bool)}(h:Ds P t=some l)(k:Nat):wR P t k=gA l k:=by
 unfold Ds at h;unfold wR;split at h
 ·rename_i fs hu;simp only[hu];rw[<-vb h k,cw]
 ·cases h
theorem AG(P:Program):ek P [] :=λ_ _ h=>by cases h
theorem dN{P:Program}{t:Nat}{ti:TI}{l:fV}(h:ti.ok P t)(hl:ek P l):ek P ((t,ti)::l):=by
 intro u ui hu;unfold fA at hu;cases hb:Nat.beq t u with
 |true=>rw[hb] at hu;have:=an hb;subst this;cases hu;exact h
 |false=>rw[hb] at hu;exact hl u ui hu
def Cx(P:Program)(t:TypeId):Bool:=match P.underlying t with |some (.struct _)=>true| _=>false
section
variable {P:Program} {t:TypeId}
theorem i7{n:Sn}{fds:List (Nat×Nat×Bool)}{by':Nat}(h1:Cx P t=true)(h2:P.cellsOf t=(Ty.st n).width)(h3:gk P 9 t=(Ty.st n).shs)(h4:lV P t=some (Ty.st n).zvs)(h5:Ds P t=some fds)
  (h6:CG P t=some (fds.map λx=>(x.1,x.2.1))) (h7: ((Ty.st n).flatB=true->P.eqGuardType P.depth t=false/\rO P 8 t (Ty.st n).zvs=true)) (hz: (Ty.st n).flatB=false-> ∀xs:List Value,fE (Ty.st n).zvs (xs.map λx=> .c (.sc x))=false):TI.ok P t ⟨.st n,0,fds,by'⟩:=by
 unfold Cx at h1;split at h1
 case h_2=>cases h1
 rename_i fs hu;refine⟨?_,h2,h3,h4,zN h5,λ_=>h6,λe he=>(by cases he),λhb=>(by cases hb),λ_ hf=>(h7 hf).1,λ_ a b r xs ys ha hb he hx hy=> ?_,?_,λk hk=>(by cases hk),λk u hk=>(by cases hk)⟩
 ·simp[pa,hu,Ty.ag]
 ·cases hf: (Ty.st n).flatB with
  |true=>exact Cn hu (h7 hf).2 a b r xs ys ha hb he hx hy
  |false=>subst hx;have:=hz hf xs;rw[show fE (Ty.st n).zvs _=true from ha] at this;cases this
 ·simp[mG,hu]
def DP(P:Program)(u:TypeId):Ty->Bool| .i k=>(match P.underlying u with |some (.int k')=>decide (k'=k)| _=>false)| _=>true
theorem jX{e:Ty}{el:Nat}{by':Nat}{u:TypeId}(h1:i8 P t=some u)(h2:P.cellsOf t=1)(h4:lV P t=some [.slice none 0 0])(h5:P.cellsOf u=e.width)(h6:P.bytesOf u=el)(h7:Nat.blt 0 el=true)(h8:gk P 9 u=e.shs)(h9:lV P u=some e.zvs)(h10:DP P u e=true):TI.ok P t ⟨.ls e,el,[],by'⟩:=by
 have hu:P.underlying t=some (.slice u):=by
  unfold i8 at h1;split at h1
  ·rename_i e hu;cases h1;exact hu
  ·cases h1
 refine⟨?_,h2,?_,h4,λk=> ?_,λh=>(by cases h),λe' he=> ?_,λhb=>(by cases hb),λh=>(by cases h),λh=>(by cases h),?_,λk hk=>(by cases hk),λk u' hk hu'=> ?_⟩
 ·simp[pa,hu,Ty.ag]
 ·simp[gk,hu,Ty.shs,Ty.csh,h5]
 ·simp[wR,hu,gA]
 ·cases he;exact⟨u,h1,h5,h6,ax h7,h8,h9⟩
 ·simp[mG,hu]
 ·cases hk;rw[h1] at hu';cases hu';unfold DP at h10;simp only at h10;split at h10
  ·rename_i k' hk';rw[hk',of_decide_eq_true h10]
  ·cases h10
def DQ(P:Program)(t:TypeId)(y:Ty):Bool:=match P.underlying t,y with
 |some (.int k),.i k'=>decide (k=k')
 |some .bool,.b=>true
 |some .string,.s=>true
 | _,_=>false
theorem kK{y:Ty}{by':Nat}(h1:DQ P t y=true)(h2:P.cellsOf t=1)(h4:lV P t=some y.zvs):TI.ok P t ⟨y,0,[],by'⟩:=by
 unfold DQ at h1;split at h1
 ·rename_i k k' hu;refine⟨(by simp[pa,hu,Ty.ag]),h2,(by simp[gk,hu,Ty.shs,Ty.csh]),h4,λk=>(by simp[wR,hu,gA]),λh=>(by cases h),λe' he=>(by cases he),λhb=>(by cases hb),λh=>(by cases h),λh=>(by cases h),by simp[mG,hu],λq hq=>(by cases hq;rw[hu];simp only[decide_eq_true_eq] at h1;rw[h1]),λk u hk=>(by cases hk)⟩
 ·rename_i hu;refine⟨(by simp[pa,hu,Ty.ag]),h2,(by simp[gk,hu,Ty.shs,Ty.csh]),h4,λk=>(by simp[wR,hu,gA]),λh=>(by cases h),λe' he=>(by cases he),λhb=>hu,λh=>(by cases h),λh=>(by cases h),by simp[mG,hu],λq hq=>(by cases hq),λk u hk=>(by cases hk)⟩
 ·rename_i hu;refine⟨(by simp[pa,hu,Ty.ag]),h2,(by simp[gk,hu,Ty.shs,Ty.csh]),h4,λk=>(by simp[wR,hu,gA]),λh=>(by cases h),λe' he=>(by cases he),λhb=>(by cases hb),λh=>(by cases h),λh=>(by cases h),by simp[mG,hu],λq hq=>(by cases hq),λk u hk=>(by cases hk)⟩
 ·cases h1
end
theorem fX: ∀ {zs:List Value} (xs:List Value),zs.any (λz=>match z with | .int _ _=>false| .bool _=>false| _=>true)=true->fE zs (xs.map λx=> .c (.sc x))=false
 | [],xs,h=>by cases h
 |z::zs,xs,h=>by
  cases hb:fE (z::zs) (xs.map λx=> .c (.sc x)) with
  |false=>rfl
  |true=>
   exfalso;cases xs with
   |nil=>cases z<;>simp[fE] at hb
   |cons x xs=>
    cases z<;>simp only[fE,aO,aQ] at hb
    all_goals cases x<;>simp only[fE,cond_eq_ite,aQ] at hb
    ·rw[fX xs (by simpa using h)] at hb;cases hb
    ·split at hb
     ·rw[fX xs (by simpa using h)] at hb;cases hb
     ·cases hb
end
section
open Go
section
variable {σ ε:Type}
def lj(B:σ->Option (σ⊕ε)):Nat->σ->Option ε
 | 0,_=>none
 |n+1,s=>(B s).bind (Sum.elim (lj B n) some)
theorem mz(B:σ->Option (σ⊕ε)): ∀ {n m:Nat} {s:σ} {e:ε},n<=m->lj B n s=some e->lj B m s=some e
 | 0,_,_,_,_,h=>by cases h
 |n+1,0,_,_,hm,_=>by omega
 |n+1,m+1,s,e,hm,h=>by
  unfold lj at h ⊢;cases hB:B s with
  |none=>rw[hB] at h;cases h
  |some x=>
   rw[hB] at h;cases x with
   |inl s'=>exact mz B (by omega) h
   |inr e'=>exact h
theorem qI{p:Nat->Prop}(h: ∃n,p n): ∃n,p n/\ ∀m,p m->n<=m:=by
 obtain⟨n,hn⟩:=h
 induction n using Nat.strongRecOn with
 | _ n ih=>
   by_cases hx: ∃m,m<n/\p m
   ·obtain⟨m,hm,hp⟩:=hx;exact ih m hm hp
   ·exact⟨n,hn,λm hm=>Nat.le_of_not_lt λhlt=>hx ⟨m,hlt,hm⟩⟩
noncomputable def ny(B:σ->Option (σ⊕ε))(s:σ):Option ε:=open Classical in if h: ∃n,(lj B n s).isSome=true then lj B (Classical.choose h) s else none
noncomputable def BB(B:σ->Option (σ⊕ε))(s:σ):Nat:=open Classical in if h: ∃n,(lj B n s).isSome=true then Classical.choose (qI h) else 0
theorem jP{B:σ->Option (σ⊕ε)}{s:σ}{e:ε}:ny B s=some e↔ ∃n,lj B n s=some e:=by
 classical
 constructor
 ·intro h;unfold ny at h;split at h
  ·rename_i hx;exact⟨_,h⟩
  ·cases h
 ·rintro⟨n,h⟩
  have hx: ∃n,(lj B n s).isSome=true:=⟨n,by rw[h];rfl⟩
  unfold ny;rw[dif_pos hx];obtain⟨e',he⟩:=aY.1 (Classical.choose_spec hx);have h1:=mz B (Nat.le_max_left (Classical.choose hx) n) he;have h2:=mz B (Nat.le_max_right (Classical.choose hx) n) h;rw[h1] at h2;cases h2;exact he
theorem jO(B:σ->Option (σ⊕ε))(s:σ):ny B s=(B s).bind (Sum.elim (ny B) some):=by
 apply Option.ext;intro e;rw[jP];constructor
 ·rintro⟨n,h⟩
  cases n with
  |zero=>cases h
  |succ n=>
   unfold lj at h;cases hB:B s with
   |none=>rw[hB] at h;cases h
   |some x=>
    rw[hB] at h;cases x with
    |inl s'=>exact jP.2 ⟨n,h⟩
    |inr e'=>exact h
 ·intro h;cases hB:B s with
  |none=>rw[hB] at h;cases h
  |some x=>
   rw[hB] at h;cases x with
   |inl s'=>obtain⟨n,h⟩:=jP.1 (show ny B s'=some e from h);exact⟨n+1,by unfold lj;rw[hB];exact h⟩
   |inr e'=>exact⟨1,by unfold lj;rw[hB];exact h⟩
theorem wu(B:σ->Option (σ⊕ε))(s:σ)(e:ε)(h:ny B s=some e):wY (ny B) (BB B) s e (B s):=by
 classical
 have h0:=h;rw[jO] at h;cases hB:B s with
 |none=>rw[hB] at h;cases h
 |some x=>
  rw[hB] at h;cases x with
  |inl s'=>
   refine⟨?_,h⟩
   have hx: ∃n,(lj B n s).isSome=true:=by obtain⟨n,hn⟩:=jP.1 h0;exact⟨n,by rw[hn];rfl⟩
   have hx': ∃n,(lj B n s').isSome=true:=by obtain⟨n,hn⟩:=jP.1 (show ny B s'=some e from h);exact⟨n,by rw[hn];rfl⟩
   unfold BB;rw[dif_pos hx,dif_pos hx'];have:=(Classical.choose_spec (qI hx)).1;cases hn:Classical.choose (qI hx) with
   |zero=>rw[hn] at this;cases this
   |succ n=>rw[hn] at this;unfold lj at this;rw[hB] at this;exact Nat.lt_succ_of_le ((Classical.choose_spec (qI hx')).2 n this)
  |inr e'=>exact (Option.some.inj h)
end
inductive j6 where
 |ty (t:Ty)|pr (t:Ty)|fc (g:Nat)|fn (g:Nat) (caps:List Ty)|nl
abbrev j6.D:j6->Type
 | .ty t=>t.D
 | .pr t=>t.D
 | .fc _=>Unit
 | .fn _ caps=>gm.D caps
 | .nl=>Unit
abbrev gC.D:List j6->Type
 | [] =>Unit
 |p::l=>p.D×gC.D l
def qu: (l:List Ty)->gm.D l->List Cl
 | [],_=> []
 |t::l,x=> .pro (t.flat x.1)::qu l x.2
def j6.v1: (p:j6)->p.D->V1
 | .ty t,x=>uT t x
 | .pr t,x=> .cl (.pro (t.flat x))
 | .fc g,_=> .cl (.c (.sc (.func (.func g) #[] #[])))
 | .fn g caps,x=> .fn g (qu caps x)
 | .nl,_=> .cl .em
def fP: (l:List j6)->gC.D l->List V1
 | [],_=> []
 |p::l,x=>p.v1 x.1::fP l x.2
def AH{ρ:Type}(t:Ty)(c:Cl)(κ:t.D->Option ρ):Option ρ:=match c with
 | .pro xs=>(match t.unflat xs with |some x=>κ x|none=>none)
 | _=>none
def mH{ρ:Type}: (l:List Ty)->List Cl->(gm.D l->Option ρ)->Option ρ
 | [],[],κ=>κ ()
 |t::l,c::cs,κ=>AH t c λx=>mH l cs λy=>κ (x,y)
 | _,_,_=>none
def DD{ρ:Type}: (t:Ty)->V1->(t.D->Option ρ)->Option ρ
 | .ls _,.cl .em,κ=>κ []
 |t,a,κ=>un t a κ
def DE{ρ:Type}: (p:j6)->V1->(p.D->Option ρ)->Option ρ
 | .ty t,a,κ=>DD t a κ
 | .pr t,.cl c,κ=>AH t c κ
 | .fc g,.cl (.c (.sc (.func (.func g') cs ts))),κ=>bif Nat.beq g' g&&Nat.beq cs.size 0&&Nat.beq ts.size 0 then κ () else none
 | .fn g caps,.fn g' cs,κ=>bif Nat.beq g' g then mH caps cs κ else none
 | .nl,.cl .em,κ=>κ ()
 | _,_,_=>none
def rj{ρ:Type}: (l:List j6)->List V1->(gC.D l->Option ρ)->Option ρ
 | [],[],κ=>κ ()
 |p::l,a::as,κ=>DE p a λx=>rj l as λy=>κ (x,y)
 | _,_,_=>none
def vZ(ps:List j6)(rs:List Ty)(G:gC.D ps->Option (gm.D rs)):tN:=λargs _ κ=>rj ps args λx=>(G x).bind λy=>ret (fR rs y) κ
theorem qe{ρ:Type}{t:Ty}{c:Cl}{κ:t.D->Option ρ}{r:ρ}(h:AH t c κ=some r): ∃x,c= .pro (t.flat x)/\κ x=some r:=by
 unfold AH at h;split at h
 ·split at h
  ·rename_i x hx;exact⟨x,by rw[t.unflat_some _ _ hx],h⟩
  ·cases h
 ·cases h
theorem nh{ρ:Type}: ∀ {l:List Ty} {cs:List Cl} {κ:gm.D l->Option ρ} {r:ρ},mH l cs κ=some r-> ∃x,cs=qu l x/\κ x=some r
 | [],[],κ,r,h=>⟨(),rfl,h⟩
 |t::l,c::cs,κ,r,h=>by unfold mH at h;obtain⟨x,h1,h⟩:=qe h;obtain⟨y,h2,h⟩:=nh h;exact⟨(x,y),by rw[h1,h2];rfl,h⟩
 | [],_::_,κ,r,h=>by simp[mH] at h
 | _::_,[],κ,r,h=>by simp[mH] at h
theorem yN{ρ:Type}{t:Ty}{a:V1}{κ:t.D->Option ρ}{r:ρ}(h:DD t a κ=some r): ∃x,(a.av=(uT t x).av\/(a.av= .em/\ ∃s,(uT t x).av= .ro s []))/\κ x=some r:=by
 unfold DD at h;split at h
 ·exact⟨[],.inr ⟨rfl,_,rfl⟩,h⟩
 ·obtain⟨x,e,h'⟩:=un_some h;exact⟨x,.inl (by rw[e]),h'⟩
theorem yO{ρ:Type}{p:j6}{a:V1}{κ:p.D->Option ρ}{r:ρ}(h:DE p a κ=some r): ∃x,(a.av=(p.v1 x).av\/(a.av= .em/\ ∃s,(p.v1 x).av= .ro s []))/\κ x=some r:=by
 unfold DE at h;split at h
 ·exact yN h
 ·obtain⟨x,h1,h⟩:=qe h;exact⟨x,.inl (by rw[h1];rfl),h⟩
 ·obtain⟨h1,h⟩:=dC h;simp only[ak] at h1;obtain⟨⟨h1,h2⟩,h3⟩:=h1;have h1:=an h1;have h2:=ch (an h2);have h3:=ch (an h3);exact⟨(),.inl (by rw[h1,h2,h3];rfl),h⟩
 ·obtain⟨h1,h⟩:=dC h;obtain⟨x,h2,h⟩:=nh h;exact⟨x,.inl (by rw[an h1,h2];rfl),h⟩
 ·exact⟨(),.inl rfl,h⟩
 ·cases h
theorem gl{ρ:Type}: ∀ {l:List j6} {as:List V1} {κ:gC.D l->Option ρ} {r:ρ},rj l as κ=some r-> ∃x,tK (as.map V1.av) ((fP l x).map V1.av)/\κ x=some r
 | [],[],κ,r,h=>⟨(),tK.refl _,h⟩
 |p::l,a::as,κ,r,h=>by unfold rj at h;obtain⟨x,h1,h⟩:=yO h;obtain⟨y,h2,h⟩:=gl h;exact⟨(x,y),tK.cons h1 h2,h⟩
 | [],_::_,κ,r,h=>by simp[rj] at h
 | _::_,[],κ,r,h=>by simp[rj] at h
theorem pK(G:List (Option dJ)): ∀ (l:List Ty) (x:gm.D l),∀c∈qu l x,c.ok G
 | [],x,c,h=>by cases h
 |t::l,x,c,h=>by
  rcases aZ.1 h with rfl|h
  ·trivial
  ·exact pK G l x.2 c h
theorem j6.ok(p:j6)(x:p.D): (p.v1 x).ok [] :=by
 cases p with
 |ty t=>exact Bf t x
 |pr t=>trivial
 |fc g=>trivial
 |fn g caps=>exact pK [] caps x
 |nl=>trivial
theorem i6: ∀ (l:List j6) (x:gC.D l),∀a∈fP l x,a.ok []
 | [],x,a,h=>by cases h
 |p::l,x,a,h=>by
  rcases aZ.1 h with rfl|h
  ·exact p.ok x.1
  ·exact i6 l x.2 a h
section
theorem zE[dE]{P:Program}{Θ:fV}{Y:lz}{Λ:gn}(hΘ:ek P Θ)(hY:fC P Y)(hm:P.follows .mixedOrders=true){f:FuncId}{fn:Func}(hf:rn P f=some fn)(hL: ∀c,fn.body=some c->eM P Λ (dZ c)){ps:List j6}{rs:List Ty}{G:gC.D ps->Option (gm.D rs)}(hk:Nat.blt f 1048576=true)
  (F:gC.D ps->Option (gm.D rs)) (hF: ∀x,C7 Θ Y Λ fn (fP ps x) (λv g=>some (v,g))=(F x).bind λy=>ret (fR rs y) (λv g=>some (v,g))) (hG: ∀x y,G x=some y->F x=some y):kC P f (vZ ps rs G):=by
 intro args ρ κ r hr;unfold vZ at hr;obtain⟨x,hn,hr2⟩:=gl hr;obtain⟨y,h1,hr3⟩:=ah.1 hr2;exact⟨_,_,.of_fn (ig.norm hn (Bo hΘ hY hm hf hL (i6 ps x) (by rw[hF,hG x y h1];rfl))) (ax hk),ux _,hr3⟩
def Bk(el:Ty)(ps:List j6)(rs:List Ty)(G:List el.D->gC.D ps->Option (gm.D rs)):tN:=λargs _ κ=>match args with
 | .cl (.c (.ls t l))::as=>(match jH t el l with
   |some l=>rj ps as λx=>(G l x).bind λy=>ret (fR rs y) κ
   |none=>none)
 | _=>none
def yq{ρ:Type}(el:Ty)(rs:List Ty)(y:List el.D×gm.D rs)(κ:V->List dJ->Option ρ):Option ρ:=κ (qS (kJ 1 (fR rs y.2))) (⟨el,y.1,none⟩::jx (fR rs y.2))
def rN(el:Ty)(ps:List j6)(rs:List Ty)(G:List el.D->gC.D ps->Option (List el.D×gm.D rs)):tN:=λargs _ κ=>match args with
 | .cl (.c (.ls t l))::as=>(match jH t el l with
   |some l=>rj ps as λx=>(G l x).bind λy=>yq el rs y κ
   |none=>none)
 | _=>none
theorem zD[dE]{P:Program}{Θ:fV}{Y:lz}{Λ:gn}{f:FuncId}(hk:Nat.blt f 1048576=true)(hΘ:ek P Θ)(hY:fC P Y)(hm:P.follows .mixedOrders=true){fn:Func}(hf:rn P f=some fn)(hL: ∀c,fn.body=some c->eM P Λ (dZ c)){el:Ty}{ps:List j6}{rs:List Ty}{G:List el.D->gC.D ps->Option (gm.D rs)}
  (F:List el.D->gC.D ps->Option (gm.D rs)) (hF: ∀l x,xz Θ Y Λ fn 0 el l (fP ps x) (λv g=>some (v,g))=(F l x).bind λy=>ret (fR rs y) (λv g=>some (v,g))) (hG: ∀l x y,G l x=some y->F l x=some y):kC P (pA f) (Bk el ps rs G):=by
 intro args ρ κ r hr;unfold Bk at hr;split at hr
 ·rename_i t l as;split at hr
  ·rename_i l' hl;obtain⟨e,hl⟩:=eD hl;subst e;have hl:l=l':=hl;subst hl;obtain⟨x,hn,hr2⟩:=gl hr;obtain⟨y,h1,hr3⟩:=ah.1 hr2;exact⟨_,_,.of_mv ⟨.ls _,l,_,rfl,eV.norm (tK.cons (.inl rfl) hn) (vg hΘ hY hm hf hL (bO 1) (i6 ps x) (by rw[hF,hG l x y h1];rfl))⟩ (ax hk),ux _,hr3⟩
  ·cases hr
 ·cases hr
theorem qX(el:Ty)(l:List el.D)(ys:List ((t:Ty)×t.D)): (qS (kJ 1 ys)).ok ((⟨el,l,none⟩::jx ys).map some):=by
 have h:=oG ys [⟨el,l,none⟩];simp only[cy,List.singleton_append] at h
 match kJ 1 ys,h with
 | [],_=>exactλx hx=>by cases hx
 | [v],h=>exact h v aK
 |v::u::vs,h=>exact h
theorem zC[dE]{P:Program}{Θ:fV}{Y:lz}{Λ:gn}(hΘ:ek P Θ)(hY:fC P Y)(hm:P.follows .mixedOrders=true){f:FuncId}{fn:Func}(hf:rn P f=some fn)(hL: ∀c,fn.body=some c->eM P Λ (dZ c)){el:Ty}{ps:List j6}{rs:List Ty}{G:List el.D->gC.D ps->Option (List el.D×gm.D rs)}(hk:Nat.blt f 1048576=true)
  (F:List el.D->gC.D ps->Option (List el.D×gm.D rs)) (hF: ∀l x,xz Θ Y Λ fn 1 el l (fP ps x) (λv g=>some (v,g))=(F l x).bind λy=>yq el rs y (λv g=>some (v,g))) (hG: ∀l x y,G l x=some y->F l x=some y):kC P (nk f) (rN el ps rs G):=by
 intro args ρ κ r hr;unfold rN at hr;split at hr
 ·rename_i t l as;split at hr
  ·rename_i l' hl;obtain⟨e,hl⟩:=eD hl;subst e;have hl:l=l':=hl;subst hl;obtain⟨x,hn,hr2⟩:=gl hr;obtain⟨y,h1,hr3⟩:=ah.1 hr2;exact⟨_,_,.of_io ⟨.ls _,l,_,rfl,eV.norm (tK.cons (.inl rfl) hn) (vg hΘ hY hm hf hL (az 1) (i6 ps x) (by rw[hF,hG l x y h1];rfl))⟩ (ax hk),qX _ _ (fR rs y.2),hr3⟩
  ·cases hr
 ·cases hr
theorem zF[dE]{P:Program}{Θ:fV}{Y:lz}{Λ:gn}(hΘ:ek P Θ)(hY:fC P Y)(hm:P.follows .mixedOrders=true){f:FuncId}{fn:Func}(hf:rn P f=some fn)(hL: ∀c,fn.body=some c->eM P Λ (dZ c)){el:Ty}{ps:List j6}{rs:List Ty}{G:List el.D->gC.D ps->Option (List el.D×gm.D rs)}(hk:Nat.blt f 1048576=true)
  (F:List el.D->gC.D ps->Option (List el.D×gm.D rs)) (hF: ∀l x,Bp Θ Y Λ fn el l (fP ps x) (λv g=>some (v,g))=(F l x).bind λy=>yq el rs y (λv g=>some (v,g))) (hG: ∀l x y,G l x=some y->F l x=some y):kC P (oE f) (rN el ps rs G):=by
 intro args ρ κ r hr;unfold rN at hr;split at hr
 ·rename_i t l as;split at hr
  ·rename_i l' hl;obtain⟨e,hl⟩:=eD hl;subst e;have hl:l=l':=hl;subst hl;obtain⟨x,hn,hr2⟩:=gl hr;obtain⟨y,h1,hr3⟩:=ah.1 hr2;exact⟨_,_,.of_pt ⟨_,l,_,rfl,eV.norm (tK.cons (.inl rfl) hn) (zR hΘ hY hm hf hL (i6 ps x) (by rw[hF,hG l x y h1];rfl))⟩ (ax hk),qX _ _ (fR rs y.2),hr3⟩
  ·cases hr
 ·cases hr
def Dx{ρ:Type}(el:Ty)(rs:List Ty)(y:List el.D×gm.D rs)(κ:V->List dJ->Option ρ):Option ρ:=κ (qS (.cl (.ptrT ⟨0,[]⟩ el.width 0 0)::kJ 1 (fR rs y.2))) (⟨el,y.1,none⟩::jx (fR rs y.2))
def Ci(el:Ty)(ps:List j6)(rs:List Ty)(G:gC.D ps->Option (List el.D×gm.D rs)):tN:=λargs _ κ=>rj ps args λx=>(G x).bind λy=>Dx el rs y κ
def xm(p:List V1->Bool)(e1 e2:tN):tN:=λargs ρ κ=>bif p args then e1 args ρ κ else e2 args ρ κ
theorem xn[dE]{P:Program}{f:FuncId}{p:List V1->Bool}{e1 e2:tN}(h1:kC P f e1)(h2:kC P f e2):kC P f (xm p e1 e2):=by
 intro args ρ κ r hr;unfold xm at hr;cases hp:p args with
 |true=>rw[hp] at hr;exact h1 args ρ κ r hr
 |false=>rw[hp] at hr;exact h2 args ρ κ r hr
end
def Cv(n g:Nat)(args:List V1):Bool:=match gA args n with
 |some (.fn g' _)=>Nat.beq g' g
 |some (.cl (.c (.sc (.func (.func g') _ _))))=>Nat.beq g' g
 | _=>false
def gE(fn:Func):Code:=match fn.body with |some c=>c|none=> .skip
def BC(c:Code)(n:Nat):Code:=(gA (dZ c) n).getD .skip
theorem Cu[dE]{P:Program}{Λ:gn}{fn:Func}{cs:List Code}(h:dZ (gE fn)=cs)(H:eM P Λ cs)(c:Code)(hc:fn.body=some c):eM P Λ (dZ c):=by
 have :gE fn=c:=by unfold gE;rw[hc]
 rw[<-this,h];exact H
end
section
open Go
inductive Kc where|i (k:IntKind)|b|s|h|ls (t:Ty)
 deriving DecidableEq
def wq:List (Option Ty)->List Value->List Kc
 |some t::l,_::m=> .ls t::wq l m
 |none::l,.int k _::m=> .i k::wq l m
 |none::l,.bool _::m=> .b::wq l m
 |none::l,.nilFunc::m=> .h::wq l m
 |none::l,_::m=> .s::wq l m
 | _,_=> []
def Ty.kc(t:Ty):List Kc:=wq t.csh t.zvs
def ik:List Kc->List C->Prop
 | [],[] =>True
 | .i k::l,c::m=>(∃n,c= .sc (.int k n))/\ik l m
 | .b::l,c::m=>(∃v,c= .sc (.bool v))/\ik l m
 | .s::l,c::m=>(∃v,c= .sc (.string v))/\ik l m
 | .h::l,c::m=>(∃v:Hd,c= .sc (.slice v.a v.n v.c))/\ik l m
 | .ls t::l,c::m=>(∃v,c= .ls t v)/\ik l m
 | _,_=>False
theorem ke{cs:List C}(h:ik [] cs):cs= [] :=by cases cs with |nil=>rfl|cons=>exact h.elim
theorem AU{k:IntKind}{l:List Kc}{cs:List C}(h:ik (.i k::l) cs): ∃n r,cs= .sc (.int k n)::r/\ik l r:=by
 cases cs with
 |nil=>exact h.elim
 |cons c r=>obtain⟨⟨n,rfl⟩,h⟩:=h;exact⟨n,r,rfl,h⟩
theorem AQ{l:List Kc}{cs:List C}(h:ik (.b::l) cs): ∃n r,cs= .sc (.bool n)::r/\ik l r:=by
 cases cs with
 |nil=>exact h.elim
 |cons c r=>obtain⟨⟨n,rfl⟩,h⟩:=h;exact⟨n,r,rfl,h⟩
theorem AX{l:List Kc}{cs:List C}(h:ik (.s::l) cs): ∃n r,cs= .sc (.string n)::r/\ik l r:=by
 cases cs with
 |nil=>exact h.elim
 |cons c r=>obtain⟨⟨n,rfl⟩,h⟩:=h;exact⟨n,r,rfl,h⟩
theorem AR{l:List Kc}{cs:List C}(h:ik (.h::l) cs): ∃ (n:Hd) (r:List C),cs= .sc (.slice n.a n.n n.c)::r/\ik l r:=by
 cases cs with
 |nil=>exact h.elim
 |cons c r=>obtain⟨⟨n,rfl⟩,h⟩:=h;exact⟨n,r,rfl,h⟩
theorem AW{t:Ty}{l:List Kc}{cs:List C}(h:ik (.ls t::l) cs): ∃n r,cs= .ls t n::r/\ik l r:=by
 cases cs with
 |nil=>exact h.elim
 |cons c r=>obtain⟨⟨n,rfl⟩,h⟩:=h;exact⟨n,r,rfl,h⟩
theorem qf(t:Ty){cs:List C}(h:ik t.kc cs): ∃x,t.flat x=cs:=by
 have : (t.unflat cs).isSome=true:=by
  cases t with
  |st n=>
   cases n
   all_goals
    repeat ((first |replace h:=AU h|replace h:=AQ h|replace h:=AW h|replace h:=AX h|replace h:=AR h);obtain⟨_,_,rfl,h⟩:=h)
    cases ke h;rfl
  |i k=>replace h:=AU h;obtain⟨_,_,rfl,h⟩:=h;cases ke h;simp[Ty.unflat,gI,gN]
  |b=>replace h:=AQ h;obtain⟨_,_,rfl,h⟩:=h;cases ke h;rfl
  |h=>replace h:=AR h;obtain⟨_,_,rfl,h⟩:=h;cases ke h;rfl
  |s=>replace h:=AX h;obtain⟨_,_,rfl,h⟩:=h;cases ke h;rfl
  |ls u=>replace h:=AW h;obtain⟨_,_,rfl,h⟩:=h;cases ke h;simp[Ty.unflat,gL,gN]
 obtain⟨x,hx⟩:=aY.1 this;exact⟨x,t.unflat_some _ _ hx⟩
inductive T.bd:T->Prop where
 |int {k:IntKind} {n:Int} (h:k.min<=n/\n<=k.max):T.bd (.sc (.int k n))
 |bool (v:Bool):T.bd (.sc (.bool v))
 |str (v:ByteArray):T.bd (.sc (.string v))
 |sl {sz:Nat} {rows:List (List T)} (hl:rows.length<=maxLen) (h: ∀r∈rows,∀x∈r,T.bd x):T.bd (.sl sz rows)
def Dj(t:Ty)(x:t.D):Prop:=∀y∈t.row x,T.bd y
def rh(P:Program)(e:TypeId->List Kc->Bool):List Field->Nat->List Kc->Bool
 | [],_,[] =>true
 | [],_,_::_=>false
 |f::fs,off,ks=>Nat.beq f.offset off&&Nat.ble (P.cellsOf f.type) ks.length&&e f.type (ks.take (P.cellsOf f.type))&&rh P e fs (off+P.cellsOf f.type) (ks.drop (P.cellsOf f.type))
def nc(P:Program)(Θ:fV):Nat->TypeId->List Kc->Bool
 | 0,_,_=>false
 |d+1,t,ks=>match P.underlying t with
  |some (.int k)=>decide (ks= [.i k])
  |some .bool=>decide (ks= [.b])
  |some (.slice e)=>(match fA Θ e with
   |some ti=>decide (ks= [.ls ti.ty])&&nc P Θ d e ti.ty.kc&&Nat.beq (P.cellsOf e) ti.ty.width&&Nat.blt 0 ti.ty.width
   |none=>false)
  |some (.struct fs)=>rh P (nc P Θ d) fs.toList 0 ks&&Nat.beq (P.cellsOf t) ks.length
  | _=>false
theorem rU: ∀ {k l:List Kc} {cs ds:List C},ik k cs->ik l ds->ik (k++l) (cs++ds)
 | [],l,[],ds,_,h=>h
 | [],_,_::_,_,h,_=>h.elim
 |a::k,_,[],_,h,_=>by cases a<;>exact h.elim
 |a::k,l,c::cs,ds,h,h2=>by cases a<;>exact⟨h.1,rU h.2 h2⟩
theorem mX: ∀ {k:List Kc} {cs:List C},ik k cs->cs.length=k.length
 | [],[],_=>rfl
 | [],_::_,h=>h.elim
 |a::k,[],h=>by cases a<;>exact h.elim
 |a::k,c::cs,h=>by cases a<;>simp[mX h.2]
section
variable {H:Type} {enc:TypeId×Value->H} {P:Program} {w:World} {base:Nat} {sp:Nat->Bool} {held:Bool} {Θ:fV}
structure Cs (w:World) (cs:List Value) (Xs:List C):Prop where
 len:Xs.length=cs.length
 one: ∀u∈cs,u.oneCell'=true
 ro: ∀ (k:Nat) (c:C) (u:Value),Xs[k]? =some c->cs[k]? =some u->RO w (λb=>b<w.heap.size) c.tree u
 bd: ∀c∈Xs,T.bd c.tree
theorem Cs.nil:Cs w [] [] :=⟨rfl,λ_ h=>(by cases h),λ_ _ _ h=>(by cases h),λ_ h=>(by cases h)⟩
theorem Cs.one_mk{u:Value}{c:C}(h1:u.oneCell'=true)(h2:RO w (λb=>b<w.heap.size) c.tree u)(h3:T.bd c.tree):Cs w [u] [c] :=by
 refine⟨rfl,λv hv=> ?_,λk c' u' hk hu=> ?_,λc' hc=> ?_⟩
 ·rw[aL.1 hv];exact h1
 ·cases k with
  |zero=>cases hk;cases hu;exact h2
  |succ k=>simp at hk
 ·rw[aL.1 hc];exact h3
theorem Cs.app{cs ds:List Value}{Xs Ys:List C}(h:Cs w cs Xs)(k:Cs w ds Ys):Cs w (cs++ds) (Xs++Ys):=by
 refine⟨by rw[bL,bL,h.len,k.len],λu hu=> ?_,λj c u hj hu=> ?_,λc hc=> ?_⟩
 ·rcases bC.1 hu with hu|hu
  ·exact h.one u hu
  ·exact k.one u hu
 ·by_cases hlt:j<Xs.length
  ·rw[aW hlt] at hj;rw[aW (by rw[<-h.len];exact hlt)] at hu;exact h.ro j c u hj hu
  ·rw[be (by omega)] at hj;rw[be (by rw[<-h.len];omega),<-h.len] at hu;exact k.ro _ c u hj hu
 ·rcases bC.1 hc with hc|hc
  ·exact h.bd c hc
  ·exact k.bd c hc
theorem ri(hΘ:ek P Θ): ∀ (d:Nat) {t:TypeId} {ks:List Kc} {n:Nat} {cs:List Value} {y:DataW H×List MemPlace},nc P Θ d t ks=true->DataW.trod enc P w base sp held n t cs=some y-> ∃Xs:List C,ik ks Xs/\Cs w cs Xs
 | 0,t,ks,n,cs,y,hb,_=>by cases hb
 |d+1,t,ks,n,cs,y,hb,h=>by
  unfold nc at hb;split at hb
  ·rename_i k hu;have:=of_decide_eq_true hb;subst this;obtain⟨v,rfl,_,hw⟩:=DataW.trod_int hu h;simp only[Lit.wf,ak,decide_eq_true_eq] at hw;exact⟨[.sc (.int k v)],⟨⟨v,rfl⟩,trivial⟩,Cs.one_mk rfl (.sc rfl) (.int hw)⟩
  ·rename_i hu;have:=of_decide_eq_true hb;subst this;obtain⟨v,rfl,_⟩:=DataW.trod_bool hu h;exact⟨[.sc (.bool v)],⟨⟨v,rfl⟩,trivial⟩,Cs.one_mk rfl (.sc rfl) (.bool v)⟩
  ·rename_i e hu;split at hb
   ·rename_i ti hti;simp only[ak,decide_eq_true_eq] at hb;obtain⟨⟨⟨rfl,hb⟩,hw⟩,hpos⟩:=hb;have hw:=an hw;have hpos:0<ti.ty.width:=ax hpos;rcases Go.Deep.open_slice hu h with ⟨rfl,_⟩| ⟨ad,len,cap,m,n',D,Pl,rfl,_,hl,hm,hmm,_,hx⟩
    ·exact⟨[.ls ti.ty []],⟨⟨[],rfl⟩,trivial⟩,Cs.one_mk rfl (.em _ _ _) (.sl (bO _) λr hr=>by cases hr)⟩
    ·have hlm:len<=m:=by rw[hmm];split<;>omega
     have each: ∀i:Fin len,∃z:ti.ty.D,∃cs',w.cells? base (ad.add (i.1*P.cellsOf e)) (P.cellsOf e)=some cs'/\Cs w cs' (ti.ty.flat z):=by intro i;obtain⟨cs',h1,h2⟩:=hx i.1 (by have:=i.2;omega);obtain⟨Xs,h3,h4⟩:=ri hΘ d hb h2;obtain⟨z,rfl⟩:=qf _ h3;exact⟨z,cs',h1,h4⟩
     let l:List ti.ty.D:=List.ofFn λi=>(each i).choose
     have hll:l.length=len:=by simp[l]
     have row: ∀ (i:Nat) (r:List T),(l.map ti.ty.row)[i]? =some r-> ∃hi:i<len,∃cs',w.cells? base (ad.add (i*P.cellsOf e)) (P.cellsOf e)=some cs'/\ ∃z,r=(ti.ty.flat z).map C.tree/\Cs w cs' (ti.ty.flat z):=by
      intro i r hr;rw[aw,aj] at hr;obtain⟨z,hz,rfl⟩:=hr;obtain⟨h1,h2⟩:=ai.1 hz;have hi:i<len:=by rw[hll] at h1;exact h1
      refine⟨hi,(each ⟨i,hi⟩).choose_spec.choose,(each ⟨i,hi⟩).choose_spec.choose_spec.1,z,ti.ty.row_flat z,?_⟩;have e1:z=(each ⟨i,hi⟩).choose:=by rw[<-h2];simp[l]
      rw[e1];exact (each ⟨i,hi⟩).choose_spec.choose_spec.2
     refine⟨[.ls ti.ty l],⟨⟨l,rfl⟩,trivial⟩,Cs.one_mk rfl ?_ ?_⟩
     ·show RO w _ (.sl ti.ty.width (l.map ti.ty.row)) _;by_cases h0:len=0
      ·have :l= [] :=db.1 (by rw[hll,h0]);rw[this,h0];exact .em _ _ _
      ·have hlr: (l.map ti.ty.row).length=len:=by rw[aH,hll]
       have hlen: ∀ (i:Nat) (r:List T),(l.map ti.ty.row)[i]? =some r->r.length=ti.ty.width:=by intro i r hr;obtain⟨hi,cs',h1,z,rfl,h2⟩:=row i r hr;obtain⟨_,h3,_⟩:=World.cells?_some h1;rw[aH,h2.len,h3,hw]
       have hcell: ∀ (i:Nat) (r:List T) (j:Nat) (x:T),(l.map ti.ty.row)[i]? =some r->r[j]? =some x-> ∃u,w.cell? (ad.add (i*ti.ty.width+j))=some u/\RO w (λb=>b<w.heap.size) x u:=by
        intro i r j x hr hx;obtain⟨hi,cs',h1,z,rfl,h2⟩:=row i r hr;obtain⟨_,h3,h4⟩:=World.cells?_some h1;rw[aw,aj] at hx;obtain⟨c,hc,rfl⟩:=hx;have hj:j<cs'.length:=by rw[<-h2.len];exact (ai.1 hc).1
        refine⟨cs'[j],?_,h2.ro j c _ hc (aq hj)⟩;rw[<-Go.Deep.add_add,<-hw,h4 j (by omega),aq hj]
       have hne: ∃u,w.cell? ad=some u:=by
        obtain⟨r,hr⟩: ∃r,(l.map ti.ty.row)[0]? =some r:=⟨_,aq (by omega)⟩
        have h5:=hlen 0 r hr;obtain⟨x,hx⟩: ∃x,r[0]? =some x:=⟨_,aq (by omega)⟩
        obtain⟨u,hu',_⟩:=hcell 0 r 0 x hr hx;simp only[bQ,aP,Addr.add,if_true] at hu';exact⟨u,hu'⟩
       obtain⟨u0,hu0⟩:=hne;rw[<-hlr];refine .sl (λi j=>((w.cell? (ad.add (i*ti.ty.width+j))).getD undef)) (by omega) ?_ (World.block_lt_of_cell? w _ hu0) hlen ?_ ?_
       ·cases hsp:ad.spot with
        |none=>rfl
        |some s=>
         unfold World.cell? at hu0;rw[hsp] at hu0;split at hu0
         ·simp at hu0
         ·cases hu0
       ·intro i r j x hr hx;obtain⟨u,h1,_⟩:=hcell i r j x hr hx;rw[h1];rfl
       ·intro i r j x hr hx;obtain⟨u,h1,h2⟩:=hcell i r j x hr hx;rw[h1];exact h2
     ·refine .sl (by rw[aH,hll];unfold maxLen at hm ⊢;omega) λr hr x hx=> ?_;obtain⟨i,hi⟩:=List.getElem?_of_mem hr;obtain⟨_,cs',_,z,rfl,h2⟩:=row i r hi;obtain⟨c,hc,rfl⟩:=aG.1 hx;exact h2.bd c hc
   ·cases hb
  ·rename_i fs hu;simp only[ak] at hb;obtain⟨hb,hkl0⟩:=hb;have hkl0:=an hkl0;obtain⟨xs,m,_,_,hl,hlen,hf⟩:=DataW.trod_struct hu h
   have fB: ∀ (gs:List Field) (off i0:Nat) (ks:List Kc),rh P (nc P Θ d) gs off ks=true->(∀ (i:Nat) (f:Field),gs[i]? =some f->fs[i0+i]? =some f)-> ∃Xs:List C,ik ks Xs/\Cs w ((cs.drop off).take ks.length) Xs/\off+ks.length<=max off cs.length:=by
    intro gs
    induction gs with
    |nil=>
     intro off i0 ks hk _;cases ks with
     |nil=>exact⟨[],trivial,by simpa using Cs.nil,by simp;omega⟩
     |cons=>cases hk
    |cons f gs ih=>
     intro off i0 ks hk hg;simp only[rh,ak] at hk;obtain⟨⟨⟨ho,hle⟩,h1⟩,h2⟩:=hk;have ho:=an ho;have hle:P.cellsOf f.type<=ks.length:=ax hle;have hfi:fs[i0]? =some f:=by have:=hg 0 f rfl;simpa using this
     have hi0:i0<xs.length:=by rw[hlen];exact (aD.1 hfi).1
     have h3:=hf i0 f hfi;rw[aq hi0,ho] at h3;obtain⟨Xs,k1,k2⟩:=ri hΘ d h1 h3;obtain⟨Ys,k3,k4,k5⟩:=ih (off+P.cellsOf f.type) (i0+1) _ h2 (λi g hgi=>by have:=hg (i+1) g hgi;rw[show i0+1+i=i0+(i+1) by omega];exact this);have hkl:=mX k1;have hcl:=k2.len;rw[cR,co,hkl,cR] at hcl;have hq:P.cellsOf f.type<=cs.length-off:=by omega
     refine⟨Xs++Ys,?_,?_,?_⟩
     ·have:=rU k1 k3
      rwa [List.take_append_drop] at this
     ·have hsplit: (cs.drop off).take ks.length=((cs.drop off).take (P.cellsOf f.type))++((cs.drop (off+P.cellsOf f.type)).take (ks.drop (P.cellsOf f.type)).length):=by
       rw[co,<-cn];have :ks.length=P.cellsOf f.type+(ks.length-P.cellsOf f.type):=by omega
       conv=>lhs;rw[this]
       exact List.take_add
      rw[hsplit];exact k2.app k4
     ·rw[co] at k5;omega
   obtain⟨Xs,k1,k2,k3⟩:=fB fs.toList 0 0 ks hb (λi f hi=>by rw[cw] at hi;simpa using hi);refine⟨Xs,k1,?_⟩
   have hfull: (cs.drop 0).take ks.length=cs:=by rw[cE];exact bW (by omega)
   rwa [hfull] at k2
  ·cases hb
end
end
section
open Go Go.ChangeShapes Go.WideShapes Go.RowKit
def DJ: (l:List Ty)->gC.D (l.map .ty)->Prop
 | [],_=>True
 |t::l,x=>Dj t x.1/\DJ l x.2
def Al(P:Program)(Θ:fV)(t:TypeId)(τ:Ty):Bool:=nc P Θ 9 t τ.kc&&(match fA Θ t with |some ti=>decide (ti.ty=τ)|none=>false)&&P.readableRec t&&Nat.blt t P.types.size
def pW(P:Program)(Θ:fV):List TypeId->List Ty->Bool
 | [],[] =>true
 |t::ts,τ::τs=>Al P Θ t τ&&pW P Θ ts τs
 | _,_=>false
section
variable {H:Type} {enc:TypeId×Value->H} {P:Program} {W:World} {Θ:fV} {base:Nat}
theorem C.VR{c:C}{u:Value}{bt:Bt}(hA:bt.A=λb=>b<W.heap.size)(h:RO W (λb=>b<W.heap.size) c.tree u)(hg:c.good=true):En.VR W bt c.av u:=by
 cases c with
 |sc v=>
  cases h with
  |sc h=>exact .sc h
 |ls t l=>exact .ro (by rw[hA];exact h)
theorem Be(hΘ:ek P Θ){bt:Bt}(hA:bt.A=λb=>b<W.heap.size){t:TypeId}{τ:Ty}{v:Value}{d:DataW H}{p:List MemPlace}(hp:Al P Θ t τ=true)(hv:Value.okWide P W .any base t v)(h:DataW.Trod enc P W 0 (λ_=>true) true t v d p):
  ∃x:τ.D,VR W bt (uT τ x).av v/\Dj τ x:=by
 unfold Al at hp;simp only[ak] at hp;obtain⟨⟨⟨h1,h2⟩,h3⟩,h4⟩:=hp;split at h2
 case h_2=>cases h2
 rename_i ti hti;have h2:=of_decide_eq_true h2;subst h2;have hok:=hΘ t ti hti;obtain⟨n,hn⟩:=h;obtain⟨Xs,k1,k2⟩:=ri hΘ 9 h1 hn;obtain⟨x,rfl⟩:=qf _ k1
 have bd:Dj ti.ty x:=by intro y hy;rw[Ty.row_flat] at hy;obtain⟨c,hc,rfl⟩:=aG.1 hy;exact k2.bd c hc
 have good: ∀c∈ti.ty.flat x,c.good=true:=by
  intro c hc;have:=k2.bd c hc;cases c with
  |sc v=>cases this<;>rfl
  |ls t l=>rfl
 refine⟨x,?_,bd⟩;have hag:=hok.ag;unfold uT;cases ha:ti.ty.ag with
 |true=>
  rw[ha] at hag
  have hst: ∃fs,P.underlying t=some (.struct fs):=by
   have hpl:=hok.pl ha;unfold nc at h1;split at h1
   ·rename_i hu;simp[pa,hu] at hag
   ·rename_i hu;simp[pa,hu] at hag
   ·rename_i hu;simp[pa,hu] at hag
   ·rename_i fs hu;exact⟨fs,hu⟩
   ·cases h1
  obtain⟨fs,hu⟩:=hst;obtain⟨us,rfl,_⟩:=okWide_struct hu hv;simp only[cond_true,V1.av];have : (Value.agg us)= .agg us.toList.toArray:=by simp
  rw[this];have hus: (Value.agg us).cells.toList=us.toList:=rfl;rw[hus] at k2;refine .agg (by simp[k2.len]) k2.one λk c u hk hu=> ?_;simp only[ba,aw,aj] at hk;obtain⟨c',hc,rfl⟩:=hk;exact C.VR hA (k2.ro k c' u hc hu) (good c' (aA hc))
 |false=>
  rw[ha] at hag
  have hcells:v.cells.toList= [v] :=by
   unfold nc at h1;split at h1
   ·rename_i hu;obtain⟨_,rfl⟩:=okWide_int hu hv;rfl
   ·rename_i hu;obtain⟨_,rfl⟩:=okWide_bool hu hv;rfl
   ·rename_i hu;obtain⟨_,_,_,rfl⟩:=okWide_slice hu hv;rfl
   ·rename_i fs hu;simp[pa,hu] at hag
   ·cases h1
  rw[hcells] at k2;have hl:=k2.len;obtain⟨c,hc⟩:=List.length_eq_one_iff.1 hl;simp only[cond_false,hc,aO,ct,V1.av];exact C.VR hA (k2.ro 0 c v (by rw[hc];rfl) rfl) (good c (by rw[hc];exact aL.2 rfl))
theorem uU(hΘ:ek P Θ){bt:Bt}(hA:bt.A=λb=>b<W.heap.size): ∀ {ts:List TypeId} {τs:List Ty} {vs:List Value} {ds:List (DataW H)} {p:List MemPlace},pW P Θ ts τs=true->(∀ (j:Nat) t v,ts[j]? =some t->vs[j]? =some v->Value.okWide P W .any base t v)->DataW.TrodAll enc P W 0 (λ_=>true) true ts vs ds p->
  ∃x:gC.D (τs.map .ty),vs.length=τs.length/\(∀ (k:Nat) (v:AV) (u:Value),((fP (τs.map .ty) x).map V1.av)[k]? =some v->vs[k]? =some u->VR W bt v u)/\DJ τs x
 | [],[],vs,ds,p,_,_,h=>by obtain⟨rfl,_,_⟩:=trodAll_nil h;exact⟨(),rfl,λk v u hk hu=>(by cases hu),trivial⟩
 |t::ts,τ::τs,vs,ds,p,hb,hv,h=>by
  obtain⟨v,vs',d,ds',q,q',rfl,rfl,rfl,h1,h2⟩:=trodAll_cons h;unfold pW at hb;simp only[ak] at hb;obtain⟨x,k1,k2⟩:=Be hΘ hA hb.1 (hv 0 t v rfl rfl) h1;obtain⟨y,k3,k4,k5⟩:=uU hΘ hA hb.2 (λj t' v' ht hv'=>hv (j+1) t' v' ht hv') h2;refine⟨(x,y),by simp[k3],λk v' u hk hu=> ?_,k2,k5⟩;cases k with
  |zero=>have hk:some (uT τ x).av=some v':=hk;cases hk;cases hu;exact k1
  |succ k=>exact k4 k v' u hk hu
 | [],_::_,_,_,_,hb,_,_=>by cases hb
 | _::_,[],_,_,_,hb,_,_=>by cases hb
theorem pF{W':World}(hl:laidOutB P=true)(hb:Below W.heap.size W W'): ∀ {ts:List TypeId} {τs:List Ty} {vs:List Value} {ds:List (DataW H)} {p:List MemPlace},pW P Θ ts τs=true->DataW.TrodAll enc P W 0 (λ_=>true) true ts vs ds p->DataW.TrodAll enc P W' 0 (λb=>decide (b<W.heap.size)) true ts vs ds p
 | [],[],vs,ds,p,_,h=>by obtain⟨rfl,rfl,rfl⟩:=trodAll_nil h;exact rfl
 |t::ts,τ::τs,vs,ds,p,hp,h=>by obtain⟨v,vs',d,ds',q,q',rfl,rfl,rfl,h1,h2⟩:=trodAll_cons h;unfold pW Al at hp;simp only[ak] at hp;obtain⟨⟨⟨_,hr⟩,hs⟩,hrest⟩:=hp;refine trodAll_cons_mk (Below.trod hl hr (ax hs) h1 hb ?_) (pF hl hb hrest h2);intro x hx;obtain⟨m,hm⟩:=h1;exact DataW.trod_lt m _ _ _ hm x hx
 | [],_::_,_,_,_,hb,_=>by cases hb
 | _::_,[],_,_,_,hb,_=>by cases hb
end
end
section
open Go
section
variable {α β σ ε:Type}
theorem CC{B:σ->Option (σ⊕ε)}(l:List α)(mk:Nat->β->σ)(J:Nat->β->Prop)(g:Nat->List α->β->ε)
  (hn: ∀b,J l.length b->B (mk l.length b)=some (.inr (g l.length [] b)))
  (hc: ∀k b x,l[k]? =some x->J k b->(∃b',B (mk k b)=some (.inl (mk (k+1) b'))/\J (k+1) b'/\g k (x::l.drop (k+1)) b=g (k+1) (l.drop (k+1)) b')\/B (mk k b)=some (.inr (g k (x::l.drop (k+1)) b))):
  ∀k b,k<=l.length->J k b->ny B (mk k b)=some (g k (l.drop k) b):=by
 intro k b hk hJ;generalize hn0:l.length-k=n
 induction n generalizing k b with
 |zero=>
  obtain rfl:k=l.length:=by omega
  rw[jO,hn b hJ,List.drop_length];rfl
 |succ n ih=>
  have hlt:k<l.length:=by omega
  rw[cg hlt];rcases hc k b l[k] (aq hlt) hJ with ⟨b',h1,h2,h3⟩|h1
  ·rw[jO,h1,h3];exact ih (k+1) b' (by omega) h2 (by omega)
  ·rw[jO,h1];rfl
theorem C9{B:σ->Option (σ⊕ε)}(I:σ->Prop)(μ:σ->Nat)(E:ε->Prop)
  (h: ∀s,I s->(∃s',B s=some (.inl s')/\I s'/\μ s'<μ s)\/ ∃e,B s=some (.inr e)/\E e) {s:σ} (hs:I s): ∃e,ny B s=some e/\E e:=by
 generalize hn:μ s=n
 induction n using Nat.strongRecOn generalizing s with
 | _ n ih=>
   rcases h s hs with ⟨s',h1,h2,h3⟩| ⟨e,h1,h2⟩
   ·rw[jO,h1];exact ih (μ s') (by omega) h2 rfl
   ·exact⟨e,by rw[jO,h1];rfl,h2⟩
theorem C3(x y:α):br true x y=x:=rfl
theorem Ce(x y:α):br false x y=y:=rfl
theorem Dm(b:Bool)(x y:α):br b x y=if b=true then x else y:=by cases b<;>rfl
theorem Dl(p:Prop)[Decidable p](x y:α):br (decide p) x y=if p then x else y:=by unfold br;by_cases h:p<;>simp[h]
theorem CA{p:Prop}[Decidable p](h:p)(x y:α):iteP p x y=x:=if_pos h
theorem Cz{p:Prop}[Decidable p](h: ¬p)(x y:α):iteP p x y=y:=if_neg h
theorem Cy(p:Prop)[Decidable p](x y:α):iteP p x y=if p then x else y:=rfl
end
theorem vP{n:Int}(h1: -9223372036854775808<=n)(h2:n<9223372036854775808):IntKind.wrap .i64 n=n:=by
 simp only[IntKind.wrap,IntKind.bits,IntKind.signed,dz];split
 ·rename_i h;have h:=of_decide_eq_true h;omega
 ·rename_i h;have h: ¬ (n % 2 ^ 64≥2 ^ (64-1)):=λhh=>h (decide_eq_true hh);omega
theorem Du{α:Type}{l:List α}{k:Nat}{x:α}(h:l[k]? =some x):k<l.length:=(ai.1 h).1
theorem yV{α:Type}{l:List α}{k:Nat}(y:α)(h:k<l.length): (l.set k y).take (k+1)=l.take k++ [y] :=by rw[List.take_add_one,List.getElem?_set_self h];simp[List.take_set_of_le]
theorem zy{α ρ:Type}(l:List α)(n:Nat)(κ:List α×Unit->Option ρ):BG l (zb (κ ([],())) (iteP ((([]:List α)++l).length*n<=2 ^ 40) (κ (([]:List α)++l,())) none) none) (iteP ((([]:List α)++l).length*n<=2 ^ 40) (κ (([]:List α)++l,())) none)=(iteP (l.length*n<=2 ^ 40) (some (l,())) none).bind κ:=by
 cases l with
 |nil=>
  have :iteP ((([]:List α)++ []).length*n<=2 ^ 40) (κ (([]:List α)++ [],())) none=κ ([],()):=by unfold iteP;rw[if_pos (by simp)];rfl
  rw[this];show zb _ _ _=_;rw[w6];unfold iteP;rw[if_pos (by simp)];rfl
 |cons x l=>show iteP _ _ _=_;simp only[bG];unfold iteP;split<;>rfl
end
section
open Go
section
variable {σ ε σ1 ε1 σ2 ε2 α β:Type}
theorem lO{B:σ->Option (σ⊕ε)}{s:σ}{e:ε}(h:B s=some (.inr e)):ny B s=some e:=by rw[jO,h];rfl
theorem sy{B:σ->Option (σ⊕ε)}{s s':σ}(h:B s=some (.inl s')):ny B s=ny B s':=by rw[jO,h];rfl
theorem Da{B1:σ1->Option (σ1⊕ε1)}{B2:σ2->Option (σ2⊕ε2)}(n:Nat)(m1:Nat->σ1)(m2:Nat->σ2)(t1:ε1)(t2:ε2)(f1:Nat->ε1)(f2:Nat->ε2)(P Q:Nat->Prop)
  (h1:B1 (m1 n)=some (.inr t1)) (h2:B2 (m2 n)=some (.inr t2))
  (h: ∀k,k<n->(B1 (m1 k)=some (.inl (m1 (k+1)))/\B2 (m2 k)=some (.inl (m2 (k+1)))/\P k)\/(B1 (m1 k)=some (.inr (f1 k))/\B2 (m2 k)=some (.inr (f2 k))/\Q k)):
  (ny B1 (m1 0)=some t1/\ny B2 (m2 0)=some t2/\ ∀k,k<n->P k)\/ ∃k,k<n/\ny B1 (m1 0)=some (f1 k)/\ny B2 (m2 0)=some (f2 k)/\Q k:=by
 have fB: ∀d j,j+d=n->(ny B1 (m1 j)=some t1/\ny B2 (m2 j)=some t2/\ ∀k,j<=k->k<n->P k)\/ ∃k,k<n/\ny B1 (m1 j)=some (f1 k)/\ny B2 (m2 j)=some (f2 k)/\Q k:=by
  intro d
  induction d with
  |zero=>
   intro j hj;have :j=n:=by omega
   subst this;exact .inl ⟨lO h1,lO h2,λk a b=>by omega⟩
  |succ d ih=>
   intro j hj;rcases h j (by omega) with ⟨g1,g2,g3⟩| ⟨g1,g2,g3⟩
   ·rw[sy g1,sy g2];rcases ih (j+1) (by omega) with ⟨k1,k2,k3⟩|k
    ·refine .inl ⟨k1,k2,λk a b=> ?_⟩;rcases Nat.eq_or_lt_of_le a with rfl|a
     ·exact g3
     ·exact k3 k a b
    ·exact .inr k
   ·exact .inr ⟨j,by omega,lO g1,lO g2,g3⟩
 rcases fB n 0 (by omega) with ⟨a,b,c⟩|h
 ·exact .inl ⟨a,b,λk hk=>c k (bO _) hk⟩
 ·exact .inr h
def DF(x y:Option (β×Unit)):Prop:=∃b,x=some (b,())/\y=some (b,())
theorem Cb{n k:Nat}(hn:n<=maxLen)(hk:k<n):IntKind.wrap .i64 ((k:Int)+1)=((k+1:Nat):Int):=by unfold maxLen at hn;rw[vP (by omega) (by omega)];rfl
theorem B9{k:Nat}(hk:0<k)(h:k<=maxLen):IntKind.wrap .i64 ((k:Int)-1)=((k-1:Nat):Int):=by unfold maxLen at h;rw[vP (by omega) (by omega)];omega
end
end
end Go.Proofs.YtkghndikalnipaaGreat.En
