import Derived.Test.YtkghndikalnipaaGreatZX8
import Derived.ProofKit
import Derived.ChangeOld
import Derived.Deep.Slices
import Derived.OpenShut
import Derived.Below
import Derived.Carry
import Derived.WideShapes
set_option linter.unusedSimpArgs false
set_option linter.unusedVariables false
namespace Go.Proofs.YtkghndikalnipaaGreat.En
section
open Go
inductive Sh where
 |int (k:IntKind)|bl|str|ro (t:Ty)|own (r:Nat) (t:Ty)|ptr (n j:Nat)|em|dead|pro (t:Ty)|fc (g:Nat)|sub (r:Nat) (t:Ty)|pt (r w:Nat)|row (r j w:Nat)|hd
abbrev Sh.D:Sh->Type
 | .int _=>Int| .bl=>Bool| .str=>ByteArray| .ro t=>List t.D| .pro t=>t.D| .sub _ _=>Nat×Nat| .row _ _ _=>Nat×Nat×Nat| .hd=>Hd| _=>Unit
abbrev xO.D:List Sh->Type
 | [] =>Unit
 |s::l=>s.D×xO.D l
inductive ki where
 |cl (s:Sh)|agg (l:List Sh)|st (n:Sn)|fn (f:FuncId) (l:List Sh)
abbrev ki.D:ki->Type
 | .cl s=>s.D| .agg l=>xO.D l| .st n=>n.D| .fn _ l=>xO.D l
abbrev FE.D:List (Nat×ki)->Type
 | [] =>Unit
 |x::l=>x.2.D×FE.D l
abbrev FF.D:List (List Sh)->Type
 | [] =>Unit
 |x::l=>xO.D x×FF.D l
abbrev tV.D:List Ty->Type
 | [] =>Unit
 |t::l=>List t.D×tV.D l
structure yc where
 env:List (Nat×ki)
 bx:List (List Sh)
 gh:List Ty
 fz:Nat
 nt:Nat
abbrev yc.D(L:yc):Type:=FE.D L.env×FF.D L.bx×tV.D L.gh
def Wx(G:List (Option eU))(r:Nat):Nat:=match pF G r with |some (some tr)=>tr.l.length| _=>0
def Sh.mk(G:List (Option eU)): (s:Sh)->s.D->Cl
 | .int k,n=> .c (.sc (.int k n))| .bl,v=> .c (.sc (.bool v))| .str,v=> .c (.sc (.string v))| .ro t,l=> .c (.ls t l)
 | .own r t,_=> .own ⟨r,[]⟩ t.width 0 (Wx G r) true| .ptr n j,_=> .ptrB n j| .em,_=> .em| .dead,_=> .dead| .pro t,x=> .pro (t.flat x)| .fc g,_=> .c (.sc (.func (.func g) #[] #[]))| .sub r t,x=> .own ⟨r,[]⟩ t.width x.1 x.2 false| .pt r w,_=> .ptrT ⟨r,[]⟩ w 0 0| .row r j w,x=> .own ⟨r,[(x.1,j)]⟩ w x.2.1 x.2.2 false| .hd,x=> .c (.sc (.slice x.a x.n x.c))
def xO.mk(G:List (Option eU)): (l:List Sh)->xO.D l->List Cl
 | [],_=> []
 |s::l,x=>s.mk G x.1::xO.mk G l x.2
def ki.mk(G:List (Option eU)): (v:ki)->v.D->V
 | .cl s,x=> .v (.cl (s.mk G x))| .agg l,x=> .v (.agg (xO.mk G l x))| .st n,x=> .v (.agg ((n.flat x).map .c))| .fn f l,x=> .v (.fn f (xO.mk G l x))
def FE.mk(G:List (Option eU)): (l:List (Nat×ki))->FE.D l->List (Nat×V)
 | [],_=> []
 |x::l,d=>(x.1,x.2.mk G d.1)::FE.mk G l d.2
def FF.mk(G:List (Option eU)): (l:List (List Sh))->FF.D l->List (List Cl)
 | [],_=> []
 |x::l,d=>xO.mk G x d.1::FF.mk G l d.2
def tV.mk: (l:List Ty)->tV.D l->List (Option eU)
 | [],_=> []
 |t::l,d=>some ⟨t,d.1,none⟩::tV.mk l d.2
def yc.mk'(L:yc)(d:L.D):TS:={ env:=FE.mk (tV.mk L.gh d.2.2) L.env d.1,bx:=FF.mk (tV.mk L.gh d.2.2) L.bx d.2.1,gh:=tV.mk L.gh d.2.2,fz:=L.fz,nt:=L.nt }
section
variable {ρ:Type}
def Sh.un: (s:Sh)->Cl->(s.D->Option ρ)->Option ρ
 | .int k,.c (.sc (.int k' n)),κ=>bif decide (k'=k) then κ n else none
 | .bl,.c (.sc (.bool v)),κ=>κ v
 | .str,.c (.sc (.string v)),κ=>κ v
 | .ro t,.c (.ls t' l),κ=>match wB t' t l with |some l=>κ l|none=>none
 | .own r t,.own p sz _ _ w,κ=>match p.l with | [] =>(bif w&&Nat.beq p.r r&&Nat.beq sz t.width then κ () else none)| _=>none
 | .ptr n i,.ptrB m j,κ=>bif Nat.beq m n&&Nat.beq j i then κ () else none
 | .em,.em,κ=>κ ()
 | .dead,.dead,κ=>κ ()
 | .pro t,.pro xs,κ=>(match t.unflat xs with |some x=>κ x|none=>none)
 | .fc g,.c (.sc (.func (.func g') cs ts)),κ=>bif Nat.beq g' g&&Nat.beq cs.size 0&&Nat.beq ts.size 0 then κ () else none
 | .sub r t,.own p sz lo len w,κ=>match p.l with | [] =>(bif !w&&Nat.beq p.r r&&Nat.beq sz t.width then κ (lo,len) else none)| _=>none
 | .pt r w,.ptrT p sz i j,κ=>match p.l with | [] =>(bif Nat.beq p.r r&&Nat.beq sz w&&Nat.beq i 0&&Nat.beq j 0 then κ () else none)| _=>none
 | .hd,.c (.sc (.slice a n c)),κ=>κ ⟨a,n,c⟩
 | .row r j n,.own p sz lo len w,κ=>match p.l with | [x] =>(bif !w&&Nat.beq p.r r&&Nat.beq sz n&&Nat.beq x.2 j then κ (x.1,lo,len) else none)| _=>none
 | _,_,_=>none
def xO.un: (l:List Sh)->List Cl->(xO.D l->Option ρ)->Option ρ
 | [],[],κ=>κ ()
 |s::l,c::cs,κ=>s.un c λx=>xO.un l cs λy=>κ (x,y)
 | _,_,_=>none
def ki.un: (v:ki)->V->(v.D->Option ρ)->Option ρ
 | .cl s,.v (.cl c),κ=>s.un c κ
 | .agg l,.v (.agg cs),κ=>xO.un l cs κ
 | .st n,.v (.agg cs),κ=>match LY cs with |some xs=>(match n.unflat xs with |some x=>κ x|none=>none)|none=>none
 | .fn f l,.v (.fn g cs),κ=>bif Nat.beq f g then xO.un l cs κ else none
 | _,_,_=>none
def FE.un: (l:List (Nat×ki))->List (Nat×V)->(FE.D l->Option ρ)->Option ρ
 | [],[],κ=>κ ()
 |x::l,y::m,κ=>bif Nat.beq x.1 y.1 then x.2.un y.2 λa=>FE.un l m λb=>κ (a,b) else none
 | _,_,_=>none
def FF.un: (l:List (List Sh))->List (List Cl)->(FF.D l->Option ρ)->Option ρ
 | [],[],κ=>κ ()
 |x::l,y::m,κ=>xO.un x y λa=>FF.un l m λb=>κ (a,b)
 | _,_,_=>none
def tV.un: (l:List Ty)->List (Option eU)->(tV.D l->Option ρ)->Option ρ
 | [],[],κ=>κ ()
 |t::l,some tr::m,κ=>match tr.hole with
  |none=>(match wB tr.t t tr.l with |some a=>tV.un l m λb=>κ (a,b)|none=>none)
  |some _=>none
 | _,_,_=>none
def yc.un(L:yc)(S:TS)(κ:L.D->Option ρ):Option ρ:=tV.un L.gh S.gh λg=>FE.un L.env S.env λe=>FF.un L.bx S.bx λb=>bif Nat.beq S.fz L.fz&&Nat.beq S.nt L.nt then κ (e,b,g) else none
theorem Sh.un_some{G:List (Option eU)}(hG: ∀r,r<G.length-> ∃tr,pF G r=some (some tr)): ∀ {s:Sh} {c:Cl} {κ:s.D->Option ρ} {r:ρ},c.ok G->s.un c κ=some r-> ∃x,c=s.mk G x/\κ x=some r:=by
 intro s c κ r hc h;cases s with
 |int k=>
  cases c with
  |c y=>cases y with
   |sc v=>cases v with
    |int k' n=>simp only[Sh.un] at h;obtain⟨h1,h⟩:=eB h;have:=of_decide_eq_true h1;subst this;exact⟨n,rfl,h⟩
    | _=>simp[Sh.un] at h
   |ls t l=>simp[Sh.un] at h
  | _=>simp[Sh.un] at h
 |bl=>
  cases c with
  |c y=>cases y with
   |sc v=>cases v with
    |bool v=>exact⟨v,rfl,h⟩
    | _=>simp[Sh.un] at h
   |ls t l=>simp[Sh.un] at h
  | _=>simp[Sh.un] at h
 |str=>
  cases c with
  |c y=>cases y with
   |sc v=>cases v with
    |string v=>exact⟨v,rfl,h⟩
    | _=>simp[Sh.un] at h
   |ls t l=>simp[Sh.un] at h
  | _=>simp[Sh.un] at h
 |ro t=>
  cases c with
  |c y=>cases y with
   |sc v=>simp[Sh.un] at h
   |ls t' l=>
    simp only[Sh.un] at h;split at h
    ·rename_i l' hl;obtain⟨e,hl⟩:=gR hl;subst e;simp only at hl;subst hl;exact⟨l,rfl,h⟩
    ·cases h
  | _=>simp[Sh.un] at h
 |own q t=>
  cases c with
  |own p sz lo len w=>
   obtain⟨pr,pl⟩:=p;cases pl with
   |cons a l=>simp[Sh.un] at h
   |nil=>
    simp only[Sh.un] at h;obtain⟨h1,h'⟩:=eB h;clear h;simp only[al] at h1;obtain⟨⟨h0,h2⟩,h3⟩:=h1;have h2:pr=q:=an h2;have h3:sz=t.width:=an h3;subst h0 h2 h3;obtain⟨k1,k2⟩:=hc;obtain⟨_,k3,k4⟩:=k2 rfl
    grind [eU.look,Sh.mk,Wx]
  |c y=>cases y<;>simp[Sh.un] at h
  | _=>simp[Sh.un] at h
 |sub q t=>
  cases c with
  |own p sz lo len w=>
   obtain⟨pr,pl⟩:=p;cases pl with
   |cons a l=>simp[Sh.un] at h
   |nil=>simp only[Sh.un] at h;obtain⟨h1,h'⟩:=eB h;clear h;simp only[al,b6] at h1;obtain⟨⟨h0,h2⟩,h3⟩:=h1;have h2:pr=q:=an h2;have h3:sz=t.width:=an h3;subst h0 h2 h3;exact⟨(lo,len),rfl,h'⟩
  |c y=>cases y<;>simp[Sh.un] at h
  | _=>simp[Sh.un] at h
 |hd=>
  cases c with
  |c y=>cases y with
   |sc v=>cases v with
    |slice a n c=>exact⟨⟨a,n,c⟩,rfl,h⟩
    | _=>simp[Sh.un] at h
   |ls t l=>simp[Sh.un] at h
  | _=>simp[Sh.un] at h
 |row q j n=>
  cases c with
  |own p sz lo len w=>
   obtain⟨pr,pl⟩:=p;cases pl with
   |nil=>simp[Sh.un] at h
   |cons a l=>
    cases l with
    |cons b l=>simp[Sh.un] at h
    |nil=>obtain⟨a1,a2⟩:=a;simp only[Sh.un] at h;obtain⟨h1,h'⟩:=eB h;clear h;simp only[al,b6] at h1;obtain⟨⟨⟨h0,h2⟩,h3⟩,h4⟩:=h1;have h2:pr=q:=an h2;have h3:sz=n:=an h3;have h4:a2=j:=an h4;subst h0 h2 h3 h4;exact⟨(a1,lo,len),rfl,h'⟩
  |c y=>cases y<;>simp[Sh.un] at h
  | _=>simp[Sh.un] at h
 |ptr n i=>
  cases c with
  |ptrB m j=>simp only[Sh.un] at h;obtain⟨h1,h'⟩:=eB h;clear h;simp only[al] at h1;have h2:=an h1.1;have h3:=an h1.2;subst h2 h3;exact⟨(),rfl,h'⟩
  |c y=>cases y<;>simp[Sh.un] at h
  | _=>simp[Sh.un] at h
 |em=>
  cases c with
  |em=>exact⟨(),rfl,h⟩
  |c y=>cases y<;>simp[Sh.un] at h
  | _=>simp[Sh.un] at h
 |dead=>
  cases c with
  |dead=>exact⟨(),rfl,h⟩
  |c y=>cases y<;>simp[Sh.un] at h
  | _=>simp[Sh.un] at h
 |pro t=>
  cases c with
  |pro xs=>
   simp only[Sh.un] at h;split at h
   ·rename_i x hx;exact⟨x,by simp only[Sh.mk];rw[t.unflat_some _ _ hx],h⟩
   ·cases h
  |c y=>cases y<;>simp[Sh.un] at h
  | _=>simp[Sh.un] at h
 |pt q n=>
  cases c with
  |ptrT p sz i j=>
   obtain⟨pr,pl⟩:=p;cases pl with
   |cons a l=>simp[Sh.un] at h
   |nil=>simp only[Sh.un] at h;obtain⟨h1,h'⟩:=eB h;clear h;simp only[al] at h1;obtain⟨⟨⟨h1,h2⟩,h3⟩,h4⟩:=h1;have h1:pr=q:=an h1;have h2:sz=n:=an h2;have h3:i=0:=an h3;have h4:j=0:=an h4;subst h1 h2 h3 h4;exact⟨(),rfl,h'⟩
  |c y=>cases y<;>simp[Sh.un] at h
  | _=>simp[Sh.un] at h
 |fc g=>
  unfold Sh.un at h;split at h
  all_goals first | (rename_i hh;cases hh;done)|skip
  all_goals try (rename_i hh _;cases hh;done)
  ·rename_i e;cases e;obtain⟨h1,h'⟩:=eB h;simp only[al] at h1;obtain⟨⟨h1,h2⟩,h3⟩:=h1;have h1:=an h1;have h2:=cG (an h2);have h3:=cG (an h3);exact⟨(),by rw[h1,h2,h3];rfl,h'⟩
  ·cases h
theorem xO.un_some{G:List (Option eU)}(hG: ∀r,r<G.length-> ∃tr,pF G r=some (some tr)): ∀ {l:List Sh} {cs:List Cl} {κ:xO.D l->Option ρ} {r:ρ},(∀c∈cs,c.ok G)->xO.un l cs κ=some r-> ∃x,cs=xO.mk G l x/\κ x=some r
 | [],[],κ,r,_,h=>⟨(),rfl,h⟩
 |s::l,c::cs,κ,r,hc,h=>by unfold xO.un at h;obtain⟨x,h1,h⟩:=Sh.un_some hG (hc c aF) h;obtain⟨y,h2,h⟩:=xO.un_some hG (λz hz=>hc z (aO _ hz)) h;exact⟨(x,y),by rw[h1,h2];rfl,h⟩
 | [],c::cs,κ,r,_,h=>by simp[xO.un] at h
 |s::l,[],κ,r,_,h=>by simp[xO.un] at h
theorem Bi: ∀ {cs:List Cl} {xs:List C},LY cs=some xs->cs=xs.map .c
 | [],xs,h=>by simp_all [LY]
 |c::cs,xs,h=>by
  cases c with
  |c y=>
   simp only[LY] at h;split at h
   ·rename_i r hr;simp only[af] at h;subst h;rw[Bi hr];rfl
   ·cases h
  | _=>simp[LY] at h
theorem ki.un_some{G:List (Option eU)}(hG: ∀r,r<G.length-> ∃tr,pF G r=some (some tr)){s:ki}{v:V}{κ:s.D->Option ρ}{r:ρ}(hv:v.ok G)(h:s.un v κ=some r): ∃x,v=s.mk G x/\κ x=some r:=by
 cases v with
 |tup l=>cases s<;>simp[ki.un] at h
 |v y=>
  cases s with
  |cl s=>cases y with
   |cl c=>obtain⟨x,h1,h⟩:=Sh.un_some hG hv h;exact⟨x,by rw[h1];rfl,h⟩
   | _=>simp[ki.un] at h
  |agg l=>cases y with
   |agg cs=>obtain⟨x,h1,h⟩:=xO.un_some hG hv h;exact⟨x,by rw[h1];rfl,h⟩
   | _=>simp[ki.un] at h
  |st n=>cases y with
   |agg cs=>
    simp only[ki.un] at h;split at h
    ·rename_i xs hxs;split at h
     ·rename_i x hx;exact⟨x,by rw[Bi hxs];simp only[ki.mk];rw[n.unflat_some _ _ hx],h⟩
     ·cases h
    ·cases h
   | _=>simp[ki.un] at h
  |fn f l=>cases y with
   |fn g cs=>simp only[ki.un] at h;obtain⟨h0,h'⟩:=eB h;clear h;have h0:=an h0;subst h0;obtain⟨x,h1,h⟩:=xO.un_some hG hv h';exact⟨x,by rw[h1];rfl,h⟩
   | _=>simp[ki.un] at h
theorem FE.un_some{G:List (Option eU)}(hG: ∀r,r<G.length-> ∃tr,pF G r=some (some tr)): ∀ {l:List (Nat×ki)} {m:List (Nat×V)} {κ:FE.D l->Option ρ} {r:ρ},(∀x∈m,x.2.ok G)->FE.un l m κ=some r-> ∃x,m=FE.mk G l x/\κ x=some r
 | [],[],κ,r,_,h=>⟨(),rfl,h⟩
 |s::l,c::cs,κ,r,hc,h=>by unfold FE.un at h;obtain⟨h0,h⟩:=eB h;have h0:=an h0;obtain⟨x,h1,h⟩:=ki.un_some hG (hc c aF) h;obtain⟨y,h2,h⟩:=FE.un_some hG (λz hz=>hc z (aO _ hz)) h;refine⟨(x,y),?_,h⟩;rw[h2];obtain⟨c1,c2⟩:=c;simp only at h0 h1;rw[h1,<-h0];rfl
 | [],c::cs,κ,r,_,h=>by simp[FE.un] at h
 |s::l,[],κ,r,_,h=>by simp[FE.un] at h
theorem FF.un_some{G:List (Option eU)}(hG: ∀r,r<G.length-> ∃tr,pF G r=some (some tr)): ∀ {l:List (List Sh)} {m:List (List Cl)} {κ:FF.D l->Option ρ} {r:ρ},(∀cs∈m,∀c∈cs,c.ok G)->FF.un l m κ=some r-> ∃x,m=FF.mk G l x/\κ x=some r
 | [],[],κ,r,_,h=>⟨(),rfl,h⟩
 |s::l,c::cs,κ,r,hc,h=>by unfold FF.un at h;obtain⟨x,h1,h⟩:=xO.un_some hG (hc c aF) h;obtain⟨y,h2,h⟩:=FF.un_some hG (λz hz=>hc z (aO _ hz)) h;exact⟨(x,y),by rw[h1,h2];rfl,h⟩
 | [],c::cs,κ,r,_,h=>by simp[FF.un] at h
 |s::l,[],κ,r,_,h=>by simp[FF.un] at h
theorem tV.un_some: ∀ {l:List Ty} {m:List (Option eU)} {κ:tV.D l->Option ρ} {r:ρ},tV.un l m κ=some r-> ∃x,m=tV.mk l x/\κ x=some r
 | [],[],κ,r,h=>⟨(),rfl,h⟩
 |t::l,some tr::m,κ,r,h=>by
  unfold tV.un at h;split at h
  ·rename_i hh;split at h
   ·rename_i a ha;obtain⟨e,hl⟩:=gR ha;obtain⟨y,h2,h⟩:=tV.un_some h;obtain⟨t',l',hole⟩:=tr;simp only at hh e hl ha;subst hh e;simp only at hl;subst hl;exact⟨(l',y),by rw[h2];rfl,h⟩
   ·cases h
  ·cases h
 | [],c::cs,κ,r,h=>by simp[tV.un] at h
 |t::l,[],κ,r,h=>by simp[tV.un] at h
 |t::l,none::m,κ,r,h=>by simp[tV.un] at h
theorem tV.mk_some: ∀ (l:List Ty) (d:tV.D l) (r:Nat),r< (tV.mk l d).length-> ∃tr,pF (tV.mk l d) r=some (some tr)
 | [],d,r,h=>by simp[tV.mk] at h
 |t::l,d,0,h=>⟨_,rfl⟩
 |t::l,d,r+1,h=>by obtain⟨tr,htr⟩:=tV.mk_some l d.2 r (by simpa [tV.mk] using h);exact⟨tr,htr⟩
theorem yc.un_some{L:yc}{S:TS}(hS:S.ok){κ:L.D->Option ρ}{r:ρ}(h:L.un S κ=some r): ∃d,S=L.mk' d/\κ d=some r:=by
 unfold yc.un at h;obtain⟨g,h1,h⟩:=tV.un_some h;have hG: ∀r,r<S.gh.length-> ∃tr,pF S.gh r=some (some tr):=by rw[h1];exact tV.mk_some _ _
 obtain⟨e,h2,h⟩:=FE.un_some hG hS.env h;obtain⟨b,h3,h⟩:=FF.un_some hG hS.bx h;obtain⟨h4,h⟩:=eB h;simp only[al] at h4;have h5:=an h4.1;have h6:=an h4.2;refine⟨(e,b,g),?_,h⟩;obtain⟨env,bx,gh,fz,nt⟩:=S
 grind [yc.mk']
end
end
section
open Go
def NH(S:TS)(t:Ty):Cl:=.own ⟨S.gh.length,[]⟩ t.width 0 0 true
def NI(n j:Nat)(t:Ty)(S:TS):TS:=match pF S.bx n with
 |some cs=>(match pF cs j with
  |some .em=> { S with bx:=fR S.bx n (fR cs j (NH S t)),gh:=S.gh++ [some ⟨t,[],none⟩] }
  | _=>S)
 |none=>S
def NJ(x:Nat)(t:Ty)(S:TS):TS:=match jE S.env x with
 | .v (.cl .em)=> { S with env:=(x,.v (.cl (NH S t)))::S.env,gh:=S.gh++ [some ⟨t,[],none⟩] }
 | _=>S
theorem U6: ∀ (l:List (Nat×Nat)),T.go .dd l= .dd
 | [] =>rfl
 | (_,_)::l=>U6 l
theorem Wy(w:Nat){l:List (Nat×Nat)}{s:Nat}{rs:List (List T)}(h:T.go (.sl w []) l= .sl s rs):rs= [] :=by
 cases l with
 |nil=>cases h;rfl
 |cons a l=>grind [T.go,T.cell,U6]
theorem GI[eg]{S S':TS}(t:Ty)(henv: ∀u,(jE S'.env u).av=(jE S.env u).av\/((jE S.env u).av= .em/\(jE S'.env u).av= .own ⟨S.gh.length,[]⟩ t.width 0 0))
  (hbx: ∀k cs',S'.st.bx k=some cs'-> ∃cs,S.st.bx k=some cs/\cs'.length=cs.length/\ ∀ (j:Nat) (v:AV),cs'[j]? =some v->cs[j]? =some v\/(cs[j]? =some .em/\v= .own ⟨S.gh.length,[]⟩ t.width 0 0))
  (hgh:S'.gh=S.gh++ [some ⟨t,[],none⟩]) (hfz:S'.fz=S.fz) (hnt:S'.nt=S.nt) (hbl:S'.bx.length=S.bx.length):qz S.st S'.st:=by
 intro w0 W btI SI bt a w hl0;have hl:=hl0.widen (N:=S.gh.length+1) (ci _);have inv:=hl.inv;have hng:S'.st.ng=S.gh.length+1:=by show S'.gh.length=_;rw[hgh];simp
 have ghS: ∀r,S'.st.gh r=if r=S.gh.length then some (.sl t.width []) else S.st.gh r:=by intro r;show (f9 S'.gh r).map eU.tree=_;rw[hgh,lL];split<;>rfl
 have κ0: ∀l,(bt.widen S.st.ng (S.gh.length+1)).κ ⟨S.gh.length,l⟩=0:=by intro l;show (if S.gh.length<S.gh.length then _ else 0)=0;rw[if_neg (cU _)]
 have look: ∀p s rs,S'.st.look p= .sl s rs->(p.r=S.gh.length/\rs= [] /\(bt.widen S.st.ng (S.gh.length+1)).κ p=0)\/(p.r≠S.gh.length/\S.st.look p= .sl s rs):=by
  intro p s rs hp;unfold St.look at hp;rw[ghS] at hp;by_cases hr:p.r=S.gh.length
  ·rw[if_pos hr] at hp;left;refine⟨hr,Wy _ hp,?_⟩;obtain⟨pr,pl⟩:=p
   grind
  ·rw[if_neg hr] at hp;exact .inr ⟨hr,hp⟩
 have own0: ∀ {u:Value},VR w (bt.widen S.st.ng (S.gh.length+1)) .em u->VR w (bt.widen S.st.ng (S.gh.length+1)) (.own ⟨S.gh.length,[]⟩ t.width 0 0) u:=by
  intro u hu;cases hu with
  |em ad=>exact .own (dw _) (au _) (aB _) (λh=>absurd h (cU _))
 refine⟨bt.widen S.st.ng (S.gh.length+1),?_⟩
 refine⟨{ good:=inv.good,os:=inv.os,tape:=inv.tape,output:=inv.output,size:=inv.size,keep:=inv.keep
          nb:=by show _=S'.bx.length;rw[hbl];exact inv.nb
          ng:=by rw[hng];exact inv.ng
          bx:=λn cells hn=> ?_
          gh:=λr x hr=> ?_
          tr:=λp sz rows hp=> ?_
          inj:=λp q s rs s' rs' hp hq hk hk' he=> ?_
          bbinj:=λn m cs cs' hn hm he=> ?_
          bbtr:=λn cs p s rs hn hp hk=> ?_
          alt:=inv.alt
          atr:=λp s rs hp hk=> ?_
          abb:=λn cs hn=> ?_ },⟨?_,λu=> ?_⟩,hl.defers,?_,?_,hl.keep,λr hr hn=> ?_⟩
 ·obtain⟨cs,h1,h2,h3⟩:=hbx n cells hn;obtain⟨g1,g2,arr,e,g3,g4,g5⟩:=inv.bx n cs h1;refine⟨by show n<S'.bx.length;rw[hbl];exact g1,g2,arr,e,g3,by rw[h2];exact g4,λj v hj=> ?_⟩
  grind
 ·rw[hng];rw[ghS] at hr;split at hr
  ·omega
  ·have:=inv.gh r x hr;exact this
 ·rcases look p sz rows hp with ⟨h1,rfl,h3⟩| ⟨h1,h2⟩
  ·grind
  ·exact inv.tr p sz rows h2
 ·rcases look p s rs hp with ⟨h1,_,h3⟩| ⟨h1,h2⟩
  ·omega
  ·rcases look q s' rs' hq with ⟨g1,_,g3⟩| ⟨g1,g2⟩
   ·omega
   ·exact inv.inj _ _ _ _ _ _ h2 g2 hk hk' he
 ·obtain⟨c,h1,_,_⟩:=hbx n cs hn;obtain⟨c',g1,_,_⟩:=hbx m cs' hm;exact inv.bbinj _ _ _ _ h1 g1 he
 ·obtain⟨c,h1,_,_⟩:=hbx n cs hn;rcases look p s rs hp with ⟨_,_,h3⟩| ⟨_,h2⟩
  ·omega
  ·exact inv.bbtr _ _ _ _ _ h1 h2 hk
 ·rcases look p s rs hp with ⟨_,_,h3⟩| ⟨_,h2⟩
  ·omega
  ·exact inv.atr _ _ _ h2 hk
 ·obtain⟨c,h1,_,_⟩:=hbx n cs hn;exact inv.abb _ _ h1
 ·have:=hl.er.1;show _=S'.nt;rw[hnt];exact this
 ·have h1:=hl.er.2 u;show VR w _ (jE S'.env u).av _;rcases henv u with h2| ⟨h2,h3⟩
  ·rw[h2];exact h1
  ·rw[h3];have h1':VR w (bt.widen S.st.ng (S.gh.length+1)) (jE S.env u).av (a.tmps.getD u undef):=h1;rw[h2] at h1';exact own0 h1'
 ·show S'.fz=_;rw[hfz];exact hl.fz
 ·show S'.fz<=S'.gh.length;have:=hl.fzng;have e:S.fz<=S.gh.length+1:=this
  grind
 ·refine hl.gone r hr ?_
  grind
theorem Kb(S:TS)(t:Ty): (NH S t).ok (S.gh++ [some ⟨t,[],none⟩]):=by refine⟨by simp,λ_=>⟨rfl,rfl,λtr htr=> ?_⟩⟩;rw[lL,if_pos rfl] at htr;cases htr;rfl
theorem Q5[eg]{S:TS}(hS:S.ok)(x:Nat)(t:Ty):qz S.st (NJ x t S).st/\(NJ x t S).ok:=by
 unfold NJ;split
 ·rename_i hx;refine⟨GI t (λu=> ?_) (λk cs' h=>⟨cs',h,rfl,λj v hv=> .inl hv⟩) rfl rfl rfl rfl,⟨λy hy=> ?_,λcs hcs c hc=>Cl.ok_mono (ji.app _ _) (hS.bx cs hcs c hc)⟩⟩
  ·simp only[jE];cases hb:Nat.beq x u with
   |true=>have :x=u:=an hb;subst this;right;rw[hx];exact⟨rfl,rfl⟩
   |false=>exact .inl rfl
  ·rcases aV.1 hy with rfl|hy
   ·exact Kb S t
   ·exact V.ok_mono (ji.app _ _) (hS.env y hy)
 ·exact⟨qz.refl,hS⟩
theorem Q6[eg]{S:TS}(hS:S.ok)(n j:Nat)(t:Ty):qz S.st (NI n j t S).st/\(NI n j t S).ok:=by
 unfold NI;split
 ·rename_i cs hcs;split
  ·rename_i hj;rw[gy] at hcs hj;have hn:=(aj.1 hcs).1;refine⟨GI t (λu=> .inl rfl) (λk cs' h=> ?_) rfl rfl rfl (by simp[ir]),⟨λy hy=>V.ok_mono (ji.app _ _) (hS.env y hy),λcs' hcs' c hc=> ?_⟩⟩
   ·have h': (pF (fR S.bx n (fR cs j (NH S t))) k).map (λcs=>cs.map Cl.av)=some cs':=h;rw[gy,ir,ir,cg] at h';by_cases hk:n=k
    ·subst hk;rw[if_pos rfl,if_pos hn] at h';simp only[aI,af] at h';subst h';refine⟨cs.map Cl.av,by show (pF S.bx n).map _=_;rw[gy,hcs];rfl,by simp,λi v hv=> ?_⟩;rw[aq,cg] at hv;by_cases hi:j=i
     ·subst hi;rw[if_pos rfl,if_pos (aj.1 hj).1] at hv;right;rw[aq,hj];simp only[aI,af] at hv;exact⟨rfl,hv.symm⟩
     grind
    ·rw[if_neg hk] at h';exact⟨cs',by show (pF S.bx k).map _=_;rw[gy];exact h',rfl,λi v hv=> .inl hv⟩
   ·simp only[ir] at hcs';rcases cf hcs' with h1|h1
    ·exact Cl.ok_mono (ji.app _ _) (hS.bx _ h1 c hc)
    ·subst h1;rcases cf hc with h2|h2
     ·exact Cl.ok_mono (ji.app _ _) (hS.bx _ (ap hcs) c h2)
     ·subst h2;exact Kb S t
  ·exact⟨qz.refl,hS⟩
 ·exact⟨qz.refl,hS⟩
inductive L8 where
 |t (x:Nat) (t:Ty)
 |b (n j:Nat) (t:Ty)
def xP:List L8->TS->TS
 | [],S=>S
 | .t x t::l,S=>xP l (NJ x t S)
 | .b n j t::l,S=>xP l (NI n j t S)
theorem zp[eg]: ∀ (l:List L8) {S:TS},S.ok->qz S.st (xP l S).st/\(xP l S).ok
 | [],S,hS=>⟨qz.refl,hS⟩
 | .t x t::l,S,hS=>by obtain⟨h1,h2⟩:=Q5 hS x t;obtain⟨h3,h4⟩:=zp l h2;exact⟨h1.trans h3,h4⟩
 | .b n j t::l,S,hS=>by obtain⟨h1,h2⟩:=Q6 hS n j t;obtain⟨h3,h4⟩:=zp l h2;exact⟨h1.trans h3,h4⟩
section
variable {P:Program} {Θ:n8} {Y:zh} {Λ:ow}
def Kd{ρ:Type}(keepN keepX:List Nat)(κ:X->TS->Option ρ)(x:X)(S:TS):Option ρ:=match x with
 | .nor=>Bg keepN S (κ .nor)
 |x=>Bg keepX S (κ x)
def Q7{σ ε:Type}(G:σ->Option ε)(μ:σ->Nat)(s:σ)(e:ε):Option (σ⊕ε)->Prop
 |some (.inl s')=>μ s'<μ s/\G s'=some e
 |some (.inr e')=>e'=e
 |none=>False
theorem TZ[eg](hΘ:gz P Θ)(hY:lM P Y)(hm:P.follows .mixedOrders=true){c:Code}(hc:mB P c=true)(hL:i5 P Λ (fV c)){σ ε:Type}{H:σ->TS}{E:ε->X×TS}{B:σ->Option (σ⊕ε)}{keepN keepX:List Nat}
  (hH: ∀s,(H s).ok) (hstep: ∀s,Ba Θ Y Λ c (H s) (Kd keepN keepX λx S=>some (x,S))=(B s).bind (Sum.elim (λs'=>some (.nor,H s')) λe=>some (E e)))
  (hE: ∀e,(E e).1≠ .nor) {G:σ->Option ε} {μ:σ->Nat} (hG: ∀s e,G s=some e->Q7 G μ s e (B s))
  {s:σ} {e:ε} (hs:G s=some e):qV P (.loop c) (H s).st (λx S'=>x=(E e).1/\S'=(E e).2.st):=by
 refine qV.loop (λn X=> ∃s,X=(H s).st/\G s=some e/\μ s=n) (λn X hX=> ?_) (n:=μ s) ⟨s,rfl,hs,rfl⟩;obtain⟨s,rfl,hs,rfl⟩:=hX;have hg:=hG s e hs;have hst:=hstep s;cases hB:B s with
 |none=>rw[hB] at hg;exact hg.elim
 |some l=>
  rw[hB] at hg hst;cases l with
  |inl s'=>
   simp only[ae,cQ] at hst;refine (HH hΘ hY hm c _ _ _ hc hL (hH s) hst).mono (λx S' hx=> ?_);obtain⟨S1,rfl,h1,h2⟩:=hx
   have gC: ∃S2:TS,qz S1.st S2.st/\x= .nor/\S2=H s':=by
    unfold Kd at h2;split at h2
    ·obtain⟨S2,k1,_,k2⟩:=ul h1 h2
     grind
    ·grind [ul]
   obtain⟨S2,k1,rfl,rfl⟩:=gC;exact⟨_,k1,μ s',hg.1,s',rfl,hg.2,rfl⟩
  |inr e'=>
   simp only[ae,cH] at hst;have hg:e'=e:=hg;subst hg;refine (HH hΘ hY hm c _ _ _ hc hL (hH s) hst).mono (λx S' hx=> ?_);obtain⟨S1,rfl,h1,h2⟩:=hx
   have gC: ∃S2:TS,qz S1.st S2.st/\(x,S2)=E e':=by
    unfold Kd at h2;split at h2
    ·grind [ul]
    ·grind [ul]
   grind
def Q8(grow:List L8)(keep:List Nat)(L:yc){ε:Type}(E:ε->X×TS)(G:L.D->Option ε):TS->(ρ:Type)->(X->TS->Option ρ)->Option ρ:=
 λS _ κ=>Bg keep (xP grow S) λS1=>L.un S1 λs=>(G s).bind λe=>κ (E e).1 (E e).2
theorem Q9[eg]{c:Code}{grow:List L8}{keep:List Nat}{L:yc}{ε:Type}{E:ε->X×TS}{G:L.D->Option ε}(hE: ∀e,(E e).2.ok)
  (h: ∀s e,G s=some e->qV P (.loop c) (L.mk' s).st (λx S'=>x=(E e).1/\S'=(E e).2.st)) {S:TS} {ρ:Type} {κ:X->TS->Option ρ} {r:ρ} (hS:S.ok) (hk:Q8 grow keep L E G S ρ κ=some r):
  qV P (.loop c) S.st (λx S'=> ∃S1:TS,S'=S1.st/\S1.ok/\κ x S1=some r):=by
 unfold Q8 at hk;obtain⟨h1,h2⟩:=zp grow hS;obtain⟨S1,h3,h4,hk⟩:=ul h2 hk;obtain⟨s,rfl,hk2⟩:=yc.un_some h4 hk;obtain⟨e,h5,hk3⟩:=ai.1 hk2;refine qV.weak (h1.trans h3) ((h s e h5).mono (λx S' hx=> ?_));obtain⟨rfl,rfl⟩:=hx;exact⟨_,qz.refl,_,rfl,hE e,hk3⟩
end
end
section
open Go
abbrev nu.D:List Ty->Type
 | [] =>Unit
 |t::l=>t.D×nu.D l
def lN: (l:List Ty)->nu.D l->List ((t:Ty)×t.D)
 | [],_=> []
 |t::l,x=>⟨t,x.1⟩::lN l x.2
def Ca[eg](P:Program)(f:FuncId)(e:PM):Prop:=∀args ρ κ r,e args ρ κ=some r-> ∃res out,yn P f args res out/\res.ok (out.map some)/\κ res out=some r
theorem T0[eg](P:Program):lM P (DS []):=λ_ _ _ _ _ h=>by cases h
theorem Ra[eg]{P:Program}{f:FuncId}{e:PM}{l:List (Nat×PM)}(h:Ca P f e)(hl:lM P (DS l)):lM P (DS ((f,e)::l)):=by
 intro g args ρ κ r hr;have hr: (bif Nat.beq f g then e args ρ κ else Wt l g args ρ κ)=some r:=hr;cases hb:Nat.beq f g with
 |true=>rw[hb] at hr;have:=an hb;subst this;exact h args ρ κ r hr
 |false=>rw[hb] at hr;exact hl g args ρ κ r hr
def Ke(as bs:List AV):Prop:=as.length=bs.length/\ ∀ (k:Nat) (a b:AV),as[k]? =some a->bs[k]? =some b->a=b\/(a= .em/\ ∃s,b= .ro s [])
theorem Ke.refl(as:List AV):Ke as as:=⟨rfl,λk a b h1 h2=>by rw[h1] at h2;cases h2;exact .inl rfl⟩
theorem Ke.cons{a b:AV}{as bs:List AV}(h:a=b\/(a= .em/\ ∃s,b= .ro s []))(hn:Ke as bs):Ke (a::as) (b::bs):=
 ⟨by simp[hn.1],λk x y h1 h2=>by
  cases k with
  |zero=>grind
  |succ k=>exact hn.2 k x y (by simpa using h1) (by simpa using h2)⟩
theorem Ke.VR{as bs:List AV}(hn:Ke as bs){w:World}{bt:Bt}{vals:List Value}(h: ∀ (k:Nat) (v:AV) (u:Value),as[k]? =some v->vals[k]? =some u->VR w bt v u)(k:Nat)(v:AV)(u:Value)(hv:bs[k]? =some v)(hu:vals[k]? =some u):VR w bt v u:=by
 have hk:k<as.length:=by rw[hn.1];exact (aj.1 hv).1
 have ha:=ah hk;have hx:=h k _ u ha hu;rcases hn.2 k _ v ha hv with e| ⟨e,s,rfl⟩
 ·rw[<-e];exact hx
 ·rw[e] at hx;cases hx with
  |em b=>exact .ro (.em _ _ _)
theorem jk.norm[eg]{P:Program}{f:FuncId}{as bs:List AV}{gs:List T}{m:Nat}{res:AV}{out:List T}(hn:Ke as bs)(h:jk P f bs gs m res out):jk P f as gs m res out:=
 λw W bt0 vals hI hl hv=>h w W bt0 vals hI (hl.trans hn.1) (hn.VR hv)
theorem qT.norm[eg]{P:Program}{f:FuncId}{as bs:List AV}{gs:List T}{res:AV}{out:List T}(hn:Ke as bs)(h:qT P f bs gs res out):qT P f as gs res out:=jk.norm hn h
theorem un_some{ρ:Type}{t:Ty}{a:V1}{κ:t.D->Option ρ}{r:ρ}(h:un t a κ=some r): ∃x,a=Nm t x/\κ x=some r:=by
 unfold un at h;split at h
 ·rename_i cs;obtain⟨h1,h⟩:=eB h;split at h
  ·rename_i xs hxs;split at h
   ·rename_i x hx;refine⟨x,?_,h⟩;unfold Nm;rw[h1,t.unflat_some _ _ hx,Bi hxs];rfl
   ·cases h
  ·cases h
 ·rename_i y;cases hag:t.ag with
  |true=>rw[hag] at h;cases h
  |false=>
   rw[hag] at h;simp only[cond_false] at h;split at h
   ·rename_i x hx;refine⟨x,?_,h⟩;unfold Nm;rw[hag,t.unflat_some _ _ hx];rfl
   ·cases h
 ·cases h
theorem Wz(t:Ty)(x:t.D): (Nm t x).ok [] :=by
 unfold Nm;cases t.ag with
 |true=>intro c hc;obtain⟨y,_,rfl⟩:=aN.1 hc;trivial
 |false=>
  simp only[cond_false];split
  ·rename_i c hc;have :c∈(t.flat x).map Cl.c:=by rw[hc];exact aD.2 rfl
   obtain⟨y,_,rfl⟩:=aN.1 this;trivial
  ·trivial
theorem HL(AQ suf:List eU): ∀ (cs:List C) (mid:List eU),∀c∈zj cs (AQ.length+mid.length),c.ok ((AQ++mid++rt cs++suf).map some)
 | [],mid,c,h=>by cases h
 | .sc v::cs,mid,c,h=>by
   rcases aV.1 h with rfl|h
   ·trivial
   ·exact HL AQ suf cs mid c h
 | .ls t l::cs,mid,c,h=>by
   rcases aV.1 h with rfl|h
   ·refine⟨by simp[rt],λ_=>⟨rfl,rfl,λtr htr=> ?_⟩⟩
    have :f9 ((AQ++mid++rt (.ls t l::cs)++suf).map some) (AQ.length+mid.length)=some ⟨t,l,none⟩:=by unfold f9;rw[gy,aq,bn,bc (by simp)];simp[rt]
    have htr':f9 ((AQ++mid++rt (.ls t l::cs)++suf).map some) (AQ.length+mid.length)=some tr:=htr;rw[this] at htr';cases htr';rfl
   ·have:=HL AQ suf cs (mid++ [⟨t,l,none⟩]) c (by rw[ax,<-Nat.add_assoc];exact h);simp only[rt];simpa using this
theorem T2(t:Ty)(x:t.D)(AQ suf:List eU): (OT t x AQ.length).ok ((AQ++rt (t.flat x)++suf).map some):=by
 have gC:=HL AQ suf (t.flat x) [];simp only[ck,b7,bS] at gC;unfold OT;cases t.ag with
 |true=>exact gC
 |false=>
  simp only[cond_false];split
  ·rename_i c hc;exact gC c (by rw[hc];exact aD.2 rfl)
  ·trivial
theorem Aa: ∀ (l:List ((t:Ty)×t.D)) (AQ:List eU),∀v∈vS AQ.length l,v.ok ((AQ++uj l).map some)
 | [],AQ,v,h=>by cases h
 | ⟨t,x⟩::l,AQ,v,h=>by
   rcases aV.1 h with rfl|h
   ·have:=T2 t x AQ (uj l);simpa [uj] using this
   ·have:=Aa l (AQ++rt (t.flat x)) v (by rw[ax];exact h);simpa [uj] using this
theorem HM(l:List ((t:Ty)×t.D)): (HA (vS 0 l)).ok ((uj l).map some):=by
 have h:=Aa l [];simp only[ck,be] at h
 match vS 0 l,h with
 | [],_=>exactλx hx=>by cases hx
 | [v],h=>exact h v aF
 |v::u::vs,h=>exact h
end
section
open Go
def Sh.fit(n:Nat):Sh->Bool| .own r _=>Nat.blt r n| .sub r _=>Nat.blt r n| .row r _ _=>Nat.blt r n| .pt r _=>Nat.blt r n| _=>true
def ki.fit(n:Nat):ki->Bool| .cl s=>s.fit n| .agg l=>l.all (Sh.fit n)| .st _=>true| .fn _ l=>l.all (Sh.fit n)
def yc.fit(L:yc):Bool:=L.env.all (λx=>x.2.fit L.gh.length)&&L.bx.all (λl=>l.all (Sh.fit L.gh.length))
theorem tV.mk_length: ∀ (l:List Ty) (d:tV.D l),(tV.mk l d).length=l.length
 | [],_=>rfl
 |t::l,d=>by simp[tV.mk,tV.mk_length l d.2]
theorem Sh.mk_ok{G:List (Option eU)}{s:Sh}(h:s.fit G.length=true)(x:s.D): (s.mk G x).ok G:=by
 cases s with
 |own r t=>
  refine⟨ar h,λ_=>⟨rfl,rfl,λtr htr=> ?_⟩⟩;unfold f9 at htr;unfold Wx;have htr': (pF G r).getD none=some tr:=htr;cases hn:pF G r with
  |none=>rw[hn] at htr';cases htr'
  |some y=>grind
 |sub r t=>exact⟨ar h,λe=>by cases e⟩
 |row r j w=>exact⟨ar h,λe=>by cases e⟩
 |pt r w=>exact ar h
 | _=>trivial
theorem xO.mk_ok{G:List (Option eU)}: ∀ {l:List Sh},l.all (Sh.fit G.length)=true-> ∀ (x:xO.D l),∀c∈xO.mk G l x,c.ok G
 | [],_,x,c,hc=>by cases hc
 |s::l,h,x,c,hc=>by
  simp only[cA,al] at h;rcases aV.1 hc with rfl|hc
  ·exact Sh.mk_ok h.1 x.1
  ·exact xO.mk_ok h.2 x.2 c hc
theorem ki.mk_ok{G:List (Option eU)}{v:ki}(h:v.fit G.length=true)(x:v.D): (v.mk G x).ok G:=by
 cases v with
 |cl s=>exact Sh.mk_ok h x
 |agg l=>exact xO.mk_ok h x
 |st n=>intro c hc;obtain⟨y,_,rfl⟩:=aN.1 hc;trivial
 |fn f l=>exact xO.mk_ok h x
theorem yc.mk'_ok{L:yc}(h:L.fit=true)(d:L.D): (L.mk' d).ok:=by
 unfold yc.fit at h;simp only[al] at h;have hlen: (tV.mk L.gh d.2.2).length=L.gh.length:=tV.mk_length _ _;rw[<-hlen] at h
 have env: ∀ {l:List (Nat×ki)},l.all (λx=>x.2.fit (tV.mk L.gh d.2.2).length)=true-> ∀ (e:FE.D l),∀x∈FE.mk (tV.mk L.gh d.2.2) l e,x.2.ok (tV.mk L.gh d.2.2):=by
  intro l
  induction l with
  |nil=>intro _ e x hx;cases hx
  |cons y l ih=>
   intro h e x hx;simp only[cA,al] at h;rcases aV.1 hx with rfl|hx
   all_goals grind [ki.mk_ok]
 have bxs: ∀ {l:List (List Sh)},l.all (λl=>l.all (Sh.fit (tV.mk L.gh d.2.2).length))=true-> ∀ (e:FF.D l),∀cs∈FF.mk (tV.mk L.gh d.2.2) l e,∀c∈cs,c.ok (tV.mk L.gh d.2.2):=by
  intro l
  induction l with
  |nil=>intro _ e x hx;cases hx
  |cons y l ih=>
   intro h e x hx;simp only[cA,al] at h;rcases aV.1 hx with rfl|hx
   all_goals grind [xO.mk_ok]
 exact⟨env h.1 d.1,bxs h.2 d.2.1⟩
abbrev Ab.D:List (X×yc)->Type
 | [] =>Empty
 | [x] =>x.2.D
 |x::y::l=>x.2.D⊕Ab.D (y::l)
def Ab.k{R:Type}: (l:List (X×yc))->Ab.D l->(X->TS->R)->R
 | [],e,_=>e.elim
 | [x],d,κ=>κ x.1 (x.2.mk' d)
 |x::y::l,e,κ=>Sum.elim (λd=>κ x.1 (x.2.mk' d)) (λe=>Ab.k (y::l) e κ) e
def Ab.e(l:List (X×yc))(d:Ab.D l):X×TS:=Ab.k l d Prod.mk
theorem Ab.k_eq{R:Type}: ∀ (l:List (X×yc)) (d:Ab.D l) (κ:X->TS->R),Ab.k l d κ=κ (Ab.e l d).1 (Ab.e l d).2
 | [],e,_=>e.elim
 | [_],_,_=>rfl
 | _::_::_,.inl _,_=>rfl
 | _::y::l,.inr e,κ=>Ab.k_eq (y::l) e κ
def XA(x:X×yc):Bool:=(match x.1 with | .nor=>false| _=>true)&&x.2.fit
theorem Ab.ok: ∀ (l:List (X×yc)) (d:Ab.D l),l.all XA=true->(Ab.e l d).1≠ .nor/\(Ab.e l d).2.ok
 | [],e,_=>e.elim
 | [x],d,h=>by simp only[cA,al,XA] at h;refine⟨λe=> ?_,yc.mk'_ok h.1.2 d⟩;have e:x.1= .nor:=e;rw[e] at h;cases h.1.1
 |x::_::_,.inl d,h=>by simp only[cA,al,XA] at h;refine⟨λe=> ?_,yc.mk'_ok h.1.2 d⟩;have e:x.1= .nor:=e;rw[e] at h;cases h.1.1
 | _::y::l,.inr e,h=>Ab.ok (y::l) e (by grind)
def Rb(grow:List L8)(keep:List Nat)(L:yc)(exs:List (X×yc))(G:L.D->Option (Ab.D exs)):TS->(ρ:Type)->(X->TS->Option ρ)->Option ρ:=
 λS _ κ=>Bg keep (xP grow S) λS1=>L.un S1 λs=>(G s).bind λe=>Ab.k exs e κ
abbrev NK:=TS->(ρ:Type)->(X->TS->Option ρ)->Option ρ
def CH:List (Nat×NK)->ow
 | [],_,_,_,_=>none
 | (q,e)::l,n,S,ρ,κ=>bif Nat.beq q n then e S ρ κ else CH l n S ρ κ
section
variable {P:Program} {Θ:n8} {Y:zh} {Λ:ow}
def Rc[eg](P:Program)(c:Code)(e:NK):Prop:=∀ (S:TS) (ρ:Type) (κ:X->TS->Option ρ) (r:ρ),S.ok->e S ρ κ=some r->qV P (.loop c) S.st (λx S'=> ∃S1:TS,S'=S1.st/\S1.ok/\κ x S1=some r)
theorem Rd[eg](hΘ:gz P Θ)(hY:lM P Y)(hm:P.follows .mixedOrders=true){c:Code}(hc:mB P c=true)(hL:i5 P Λ (fV c))(grow:List L8)(keep keepX:List Nat)(L:yc)(exs:List (X×yc))(hf: (L.fit&&exs.all XA)=true)
  (B:L.D->Option (L.D⊕Ab.D exs)) (hB: ∀s,Ba Θ Y Λ c (L.mk' s) (Kd keep keepX λx S=>some (x,S))=(B s).bind (Sum.elim (λs'=>some (.nor,L.mk' s')) λe=>some (Ab.e exs e)))
  (G:L.D->Option (Ab.D exs)) (μ:L.D->Nat) (hG: ∀s e,G s=some e->Q7 G μ s e (B s)):Rc P c (Rb grow keep L exs G):=by
 simp only[al] at hf;intro S ρ κ r hS hk;refine Q9 (E:=Ab.e exs) (λe=>(Ab.ok exs e hf.2).2) (λs e hs=>TZ hΘ hY hm hc hL (λs=>yc.mk'_ok hf.1 s) hB (λe=>(Ab.ok exs e hf.2).1) hG hs) hS ?_ (grow:=grow) (keep:=keep)
 grind [Q8,Rb,Ab.k_eq]
end
end
section
open Go
def T3(P:Program)(e:TypeId->List Value->Bool):List Field->Nat->List Value->Bool
 | [],_,[] =>true
 | [],_,_::_=>false
 |f::fs,off,zs=>f.name != "_" &&Nat.beq f.offset off&&Nat.blt 0 (P.cellsOf f.type)&&Nat.ble (P.cellsOf f.type) zs.length&&(P.info? f.type).isSome&&e f.type (zs.take (P.cellsOf f.type))&&T3 P e fs (off+P.cellsOf f.type) (zs.drop (P.cellsOf f.type))
def Kf(P:Program):Nat->TypeId->List Value->Bool
 | 0,_,_=>false
 |n+1,t,zs=>match P.underlying t with
  |some .bool=>(match zs with | [.bool _] =>true| _=>false)
  |some (.int _)=>(match zs with | [.int _ _] =>true| _=>false)
  |some (.struct fs)=> !P.stoodInHeld t&&T3 P (Kf P n) fs.toList 0 zs
  | _=>false
def FG(P:Program)(t:TypeId)(xs:List Value):Value:=match P.underlying t with
 |some (.struct _)=> .agg xs.toArray
 | _=>xs.headD (.bool false)
def mn:List Value->List Value->Bool
 | [],[] =>true
 | .int k _::zs,.int k' _::cs=>bif decide (k=k') then mn zs cs else false
 | .bool _::zs,.bool _::cs=>mn zs cs
 | _,_=>false
def mC:List Value->List Value->Option Bool
 | [],[] =>some true
 |a::l,b::m=>match JF a b,mC l m with
  |some x,some y=>some (x&&y)
  | _,_=>none
 | _,_=>none
theorem Ee: ∀ {zs xs:List Value},mu zs (xs.map λx=> .c (.sc x))=true->mn zs xs=true:=by
 intro zs
 induction zs with
 |nil=>intro xs h;cases xs with
  |nil=>rfl
  |cons=>simp[mu] at h
 |cons z zs ih=>
  intro xs h;cases xs with
  |nil=>cases z<;>simp[mu] at h
  |cons x xs=>
   cases z<;>cases x<;>simp only[aY,mu,mn,cond_eq_ite,bh] at h ⊢
   ·exact ih h
   ·split at h
    ·rename_i hk;rw[if_pos hk];exact ih h
    ·cases h
theorem O5: ∀ {xs ys:List Value},xE (xs.map λx=> .c (.sc x)) (ys.map λx=> .c (.sc x))=mC xs ys:=by
 intro xs
 induction xs with
 |nil=>intro ys;cases ys<;>rfl
 |cons x xs ih=>
  intro ys;cases ys with
  |nil=>rfl
  |cons y ys=>simp only[aY,xE,mC,ih];cases JF x y<;>cases mC xs ys<;>rfl
theorem ru: ∀ {zs xs:List Value},mn zs xs=true->xs.length=zs.length:=by
 intro zs
 induction zs with
 |nil=>intro xs h;cases xs with
  |nil=>rfl
  |cons=>simp[mn] at h
 |cons z zs ih=>
  intro xs h;cases xs with
  |nil=>cases z<;>simp[mn] at h
  |cons x xs=>
   cases z<;>cases x<;>simp only[mn,cond_eq_ite,bh] at h
   ·simp[ih h]
   ·split at h
    ·simp[ih h]
    ·cases h
theorem vt: ∀ {zs xs:List Value} (n:Nat),mn zs xs=true->mn (zs.take n) (xs.take n)=true/\mn (zs.drop n) (xs.drop n)=true:=by
 intro zs
 induction zs with
 |nil=>intro xs n h;cases xs with
  |nil=>simp[mn]
  |cons=>simp[mn] at h
 |cons z zs ih=>
  intro xs n h;cases xs with
  |nil=>cases z<;>simp[mn] at h
  |cons x xs=>
   cases n with
   |zero=>exact⟨rfl,h⟩
   |succ n=>
    cases z<;>cases x<;>simp only[mn,cond_eq_ite,bh] at h
    ·exact ih n h
    ·split at h
     ·rename_i hk;refine⟨?_,(ih n h).2⟩;simp only[List.take_succ_cons,mn,cond_eq_ite];rw[if_pos (by simpa using hk)];exact (ih n h).1
     ·cases h
theorem HN: ∀ {xs ys:List Value} (n:Nat) {r:Bool},mC xs ys=some r-> ∃a b,mC (xs.take n) (ys.take n)=some a/\mC (xs.drop n) (ys.drop n)=some b/\r=(a&&b):=by
 intro xs
 induction xs with
 |nil=>intro ys n r h;cases ys with
  |nil=>cases h;exact⟨true,true,by simp[mC],by simp[mC],rfl⟩
  |cons=>simp[mC] at h
 |cons x xs ih=>
  intro ys n r h;cases ys with
  |nil=>simp[mC] at h
  |cons y ys=>
   cases n with
   |zero=>exact⟨true,r,rfl,h,rfl⟩
   |succ n=>
    simp only[mC] at h;split at h
    ·rename_i p q hp hq;cases h;obtain⟨a,b,h1,h2,rfl⟩:=ih n hq;exact⟨p&&a,b,by simp[mC,hp,h1],h2,by cases p<;>rfl⟩
    ·cases h
theorem HO{P:Program}{t:TypeId}{i:TypeInfo}(h:P.info? t=some i):eR P (typeInfo t)=some i:=by simp only[typeInfo,eO,program,eR,ae,h];rfl
theorem Kg{P:Program}{t:TypeId}{i:TypeInfo}(hi:P.info? t=some i){d:TypeDesc}(hd:P.underlying t=some d)(hs: ∀n e,d≠ .array n e){xs:List Value}{off:Nat}{c:Value}(hc:xs[off]? =some c):
  eR P (part t xs.toArray off)=some (FG P t ((xs.drop off).take (P.cellsOf t)))\/P.cellsOf t=0:=by
 by_cases h0:P.cellsOf t=0
 ·exact .inr h0
 refine .inl ?_;have hcell:P.cellsOf t=i.size:=by simp[Program.cellsOf,hi]
 cases hst: (match d with | .struct _=>true| _=>false) with
 |true=>
  have hag:eR P (isAgg t)=some true:=by simp only[isAgg,eO,fM hd,ae];cases d<;>simp at hst;rfl
  simp only[part,sizeOf,eO,hag,ae,if_true,HO hi,eV,FG,hd];cases d<;>simp at hst;simp[hcell,Nat.add_sub_cancel_left]
 |false=>
  have hag:eR P (isAgg t)=some false:=by
   simp only[isAgg,eO,fM hd,ae];cases d<;>simp at hst
   all_goals first |rfl|exact absurd rfl (hs _ _)
  have hv:FG P t ((xs.drop off).take (P.cellsOf t))=c:=by
   have : ((xs.drop off).take (P.cellsOf t)).headD (.bool false)=c:=by
    obtain⟨n,hn⟩: ∃n,P.cellsOf t=n+1:=⟨P.cellsOf t-1,by omega⟩
    have h1:off<xs.length:=(aj.1 hc).1;rw[hn,bV h1,List.take_succ_cons];exact (aj.1 hc).2
   unfold FG;rw[hd];cases d<;>first |exact this|simp at hst
  rw[hv];simp only[part,eO,hag,ae,bh,if_false];have :xs.toArray[off]? =some c:=by simpa using hc
  rw[this];rfl
theorem NL(P:Program): ∀ (n:Nat) {t:TypeId} {zs xs ys:List Value} {r:Bool} (d:Nat),Kf P n t zs=true->mn zs xs=true->mn zs ys=true->mC xs ys=some r->eR P (Op.equalIn (n+d) t (FG P t xs) (FG P t ys))=some r
 | 0,t,zs,xs,ys,r,d,h,_,_,_=>by cases h
 |n+1,t,zs,xs,ys,r,d,h,hx,hy,he=>by
  have hn:n+1+d=(n+d)+1:=by omega
  rw[hn];unfold Kf at h;cases hu:P.underlying t with
  |none=>rw[hu] at h;cases h
  |some D=>
   rw[hu] at h;cases D<;>simp only[bh] at h
   case bool=>
    split at h
    case h_2=>cases h
    obtain⟨x,rfl⟩: ∃x,xs= [.bool x] :=by
     match xs,hx with
     | [.bool x],_=>exact⟨x,rfl⟩
    obtain⟨y,rfl⟩: ∃y,ys= [.bool y] :=by
     match ys,hy with
     | [.bool y],_=>exact⟨y,rfl⟩
    simp only[mC,JF,dH,af] at he;subst he;simp only[FG,hu,List.headD_cons];rw[Op.equalIn];simp only[eO,fM hu,ae,eV]
   case int k=>
    split at h
    case h_2=>cases h
    rename_i k0 _
    obtain⟨x,rfl⟩: ∃x,xs= [.int k0 x] :=by
     match xs,hx with
     | [.int k1 x],hx=>
       simp only[mn,cond_eq_ite] at hx;split at hx
       ·rename_i hk;simp at hk;subst hk;exact⟨x,rfl⟩
       ·cases hx
     | .int _ _::_::_,hx=>simp[mn] at hx
    obtain⟨y,rfl⟩: ∃y,ys= [.int k0 y] :=by
     match ys,hy with
     | [.int k1 x],hx=>
       simp only[mn,cond_eq_ite] at hx;split at hx
       ·rename_i hk;simp at hk;subst hk;exact⟨x,rfl⟩
       ·cases hx
     | .int _ _::_::_,hx=>simp[mn] at hx
    simp only[mC,JF,dH,af] at he;subst he;simp only[FG,hu,List.headD_cons];rw[Op.equalIn];simp only[eO,fM hu,ae,eV,if_true]
   case struct fs=>
    simp only[al,b6] at h;obtain⟨hst,h⟩:=h;simp only[FG,hu]
    have gC: ∀ (fs:List Field) (off:Nat) (zs:List Value) (r:Bool),T3 P (Kf P n) fs off zs=true->mn zs (xs.drop off)=true->mn zs (ys.drop off)=true->mC (xs.drop off) (ys.drop off)=some r->
      eR P (Op.eqFields (n+d) xs.toArray ys.toArray fs)=some r:=by
     intro fs
     induction fs with
     |nil=>
      intro off zs r h hx hy he;cases zs with
      |nil=>have h1:=ru hx;have h2:=ru hy;simp only[ck,dg] at h1 h2;rw[h1,h2] at he;cases he;rfl
      |cons=>cases h
     |cons f fs ih=>
      intro off zs r h hx hy he;simp only[T3,al,bne_iff_ne,ne_eq] at h;obtain⟨⟨⟨⟨⟨⟨hname,hoff⟩,hpos⟩,hle⟩,hi⟩,h1⟩,h2⟩:=h;have hoff:=an hoff;have hpos:0<P.cellsOf f.type:=ar hpos;have hle:P.cellsOf f.type<=zs.length:=ar hle;have hlx:=ru hx;have hly:=ru hy;rw[bf] at hlx hly;obtain⟨i,hi⟩:=bF.1 hi
      have hu': ∃D,P.underlying f.type=some D/\ ∀n e,D≠ .array n e:=by
       cases hun:P.underlying f.type with
       |none=>cases n<;>simp[Kf,hun] at h1
       |some D=>refine⟨D,rfl,λk e he=> ?_⟩;subst he;cases n<;>simp[Kf,hun] at h1
      obtain⟨D,hD,hDa⟩:=hu';have px:=Kg hi hD hDa (xs:=xs) (off:=off) (ah (by omega));have py:=Kg hi hD hDa (xs:=ys) (off:=off) (ah (by omega));have px:=px.resolve_right (by omega);have py:=py.resolve_right (by omega);obtain⟨a,b,ha,hb,rfl⟩:=HN (P.cellsOf f.type) he;have hA:=NL P n d h1 (vt _ hx).1 (vt _ hy).1 ha;rw[Op.eqFields,if_pos hname];simp only[hoff,eO,px,py,ae,hA];cases a with
      |false=>rfl
      |true=>
       simp only[bQ,bh,if_false,dG];simp only[cu] at hb;refine ih _ _ _ h2 ?_ ?_ hb
       ·have:=(vt (P.cellsOf f.type) hx).2;rw[cu] at this;exact this
       ·have:=(vt (P.cellsOf f.type) hy).2;rw[cu] at this;exact this
    have:=gC fs.toList 0 zs r h (by simpa using hx) (by simpa using hy) (by simpa using he);rw[<-this];rw[Op.equalIn];simp only[eO,fM hu,ae,program,eR,hst,bh,if_false];rw[<-Array.forIn_toList];generalize fs.toList=fs;clear this gC h hu hst hn
    induction fs with
    |nil=>rfl
    |cons f fs ih=>
     simp only[List.forIn_cons,Op.eqFields];split
     ·simp only[eO];cases eR P (part f.type xs.toArray f.offset) with
      |none=>rfl
      |some a=>
       cases eR P (part f.type ys.toArray f.offset) with
       |none=>rfl
       |some b=>
        simp only[ae];cases eR P (Op.equalIn (n+d) f.type a b) with
        |none=>rfl
        |some q=>
         cases q
         ·rfl
         ·simp only[ae,bQ,bh,if_false,eV];simpa only[eO,Option.bind_assoc] using ih
     ·simp only[eO,eV,ae];simpa only[eO,Option.bind_assoc] using ih
theorem XB{P:Program}{t:TypeId}{zs:List Value}{fs:Array Field}(hu:P.underlying t=some (.struct fs))(h:Kf P 8 t zs=true)(a b:List Cl)(r:Bool)(xs ys:List Value)(ha:mu zs a=true)(hb:mu zs b=true)(he:xE a b=some r)(hx:a=xs.map (λx=> .c (.sc x)))(hy:b=ys.map (λx=> .c (.sc x))):
  eR P (Op.equal t (.agg xs.toArray) (.agg ys.toArray))=some r:=by
 subst hx hy;have:=NL P 8 9992 h (Ee ha) (Ee hb) (by rw[<-O5];exact he);unfold FG at this;rw[hu] at this;exact this
end
section
open Go
def Yu(P:Program):List Field->Option (List (Nat×Nat×Bool))
 | [] =>some []
 |f::fs=>match Fo P f.type,Yu P fs with
  |some ag,some l=>some ((f.offset,P.cellsOf f.type,ag)::l)
  | _,_=>none
def YE(P:Program)(t:TypeId):Option (List (Nat×Nat×Bool)):=match P.underlying t with |some (.struct fs)=>Yu P fs.toList| _=>none
theorem NM{P:Program}: ∀ {fs:List Field} {l:List (Nat×Nat×Bool)},Yu P fs=some l-> ∀k,(fs[k]?).bind (λf=>(Fo P f.type).map λag=>(f.offset,P.cellsOf f.type,ag))=pF l k
 | [],l,h,k=>by cases h;rfl
 |f::fs,l,h,k=>by
  unfold Yu at h;split at h
  ·rename_i ag l' h1 h2;cases h;cases k with
   |zero=>simp[h1,pF]
   |succ k=>show _=pF l' (k+1-1);rw[b9,<-NM h2 k,cJ]
  ·cases h
theorem T4{P:Program}{t:TypeId}{l:List (Nat×Nat×Bool)}(h:YE P t=some l)(k:Nat):PK P t k=pF l k:=by
 unfold YE at h;unfold PK;split at h
 ·rename_i fs hu;simp only[hu];rw[<-NM h k,bX]
 ·cases h
theorem T5(P:Program):gz P [] :=λ_ _ h=>by cases h
theorem fp{P:Program}{t:Nat}{ti:TI}{l:n8}(h:ti.ok P t)(hl:gz P l):gz P ((t,ti)::l):=by
 intro u ui hu;unfold mt at hu;cases hb:Nat.beq t u with
 |true=>rw[hb] at hu;have:=an hb;subst this;cases hu;exact h
 |false=>rw[hb] at hu;exact hl u ui hu
def XC(P:Program)(t:TypeId):Bool:=match P.underlying t with |some (.struct _)=>true| _=>false
section
variable {P:Program} {t:TypeId}
theorem uo{n:Sn}{fds:List (Nat×Nat×Bool)}{by':Nat}(h1:XC P t=true)(h2:P.cellsOf t=(Ty.st n).width)(h3:oH P 9 t=(Ty.st n).shs)(h4:AO P t=some (Ty.st n).zvs)(h5:YE P t=some fds)
  (h6:Xi P t=some (fds.map λx=>(x.1,x.2.1))) (h7: ((Ty.st n).flatB=true->P.eqGuardType P.depth t=false/\Kf P 8 t (Ty.st n).zvs=true)) (hz: (Ty.st n).flatB=false-> ∀xs:List Value,mu (Ty.st n).zvs (xs.map λx=> .c (.sc x))=false):TI.ok P t ⟨.st n,0,fds,by'⟩:=by
 unfold XC at h1;split at h1
 case h_2=>cases h1
 rename_i fs hu;refine⟨?_,h2,h3,h4,T4 h5,λ_=>h6,λe he=>(by cases he),λhb=>(by cases hb),λ_ hf=>(h7 hf).1,λ_ a b r xs ys ha hb he hx hy=> ?_,?_,λk hk=>(by cases hk),λk u hk=>(by cases hk)⟩
 ·simp[Fo,hu,Ty.ag]
 ·cases hf: (Ty.st n).flatB with
  |true=>exact XB hu (h7 hf).2 a b r xs ys ha hb he hx hy
  |false=>subst hx;have:=hz hf xs;rw[show mu (Ty.st n).zvs _=true from ha] at this;cases this
 ·simp[AP,hu]
def Y6(P:Program)(u:TypeId):Ty->Bool| .i k=>(match P.underlying u with |some (.int k')=>decide (k'=k)| _=>false)| _=>true
theorem wI{e:Ty}{el:Nat}{by':Nat}{u:TypeId}(h1:vb P t=some u)(h2:P.cellsOf t=1)(h4:AO P t=some [.slice none 0 0])(h5:P.cellsOf u=e.width)(h6:P.bytesOf u=el)(h7:Nat.blt 0 el=true)(h8:oH P 9 u=e.shs)(h9:AO P u=some e.zvs)(h10:Y6 P u e=true):TI.ok P t ⟨.ls e,el,[],by'⟩:=by
 have hu:P.underlying t=some (.slice u):=by
  unfold vb at h1;split at h1
  ·rename_i e hu;cases h1;exact hu
  ·cases h1
 refine⟨?_,h2,?_,h4,λk=> ?_,λh=>(by cases h),λe' he=> ?_,λhb=>(by cases hb),λh=>(by cases h),λh=>(by cases h),?_,λk hk=>(by cases hk),λk u' hk hu'=> ?_⟩
 ·simp[Fo,hu,Ty.ag]
 ·simp[oH,hu,Ty.shs,Ty.csh,h5]
 ·simp[PK,hu,pF]
 ·cases he;exact⟨u,h1,h5,h6,ar h7,h8,h9⟩
 ·simp[AP,hu]
 ·cases hk;rw[h1] at hu';cases hu';unfold Y6 at h10;simp only at h10;split at h10
  ·rename_i k' hk';rw[hk',of_decide_eq_true h10]
  ·cases h10
def Y7(P:Program)(t:TypeId)(y:Ty):Bool:=match P.underlying t,y with
 |some (.int k),.i k'=>decide (k=k')
 |some .bool,.b=>true
 |some .string,.s=>true
 | _,_=>false
theorem yp{y:Ty}{by':Nat}(h1:Y7 P t y=true)(h2:P.cellsOf t=1)(h4:AO P t=some y.zvs):TI.ok P t ⟨y,0,[],by'⟩:=by
 unfold Y7 at h1;split at h1
 ·rename_i k k' hu;refine⟨(by simp[Fo,hu,Ty.ag]),h2,(by simp[oH,hu,Ty.shs,Ty.csh]),h4,λk=>(by simp[PK,hu,pF]),λh=>(by cases h),λe' he=>(by cases he),λhb=>(by cases hb),λh=>(by cases h),λh=>(by cases h),by simp[AP,hu],λq hq=>(by cases hq;rw[hu];simp only[decide_eq_true_eq] at h1;rw[h1]),λk u hk=>(by cases hk)⟩
 ·rename_i hu;refine⟨(by simp[Fo,hu,Ty.ag]),h2,(by simp[oH,hu,Ty.shs,Ty.csh]),h4,λk=>(by simp[PK,hu,pF]),λh=>(by cases h),λe' he=>(by cases he),λhb=>hu,λh=>(by cases h),λh=>(by cases h),by simp[AP,hu],λq hq=>(by cases hq),λk u hk=>(by cases hk)⟩
 ·rename_i hu;refine⟨(by simp[Fo,hu,Ty.ag]),h2,(by simp[oH,hu,Ty.shs,Ty.csh]),h4,λk=>(by simp[PK,hu,pF]),λh=>(by cases h),λe' he=>(by cases he),λhb=>(by cases hb),λh=>(by cases h),λh=>(by cases h),by simp[AP,hu],λq hq=>(by cases hq),λk u hk=>(by cases hk)⟩
 ·cases h1
end
theorem oa: ∀ {zs:List Value} (xs:List Value),zs.any (λz=>match z with | .int _ _=>false| .bool _=>false| _=>true)=true->mu zs (xs.map λx=> .c (.sc x))=false
 | [],xs,h=>by cases h
 |z::zs,xs,h=>by
  cases hb:mu (z::zs) (xs.map λx=> .c (.sc x)) with
  |false=>rfl
  |true=>
   exfalso;cases xs with
   |nil=>cases z<;>simp[mu] at hb
   |cons x xs=>
    cases z<;>simp only[mu,aY,bh] at hb
    all_goals cases x<;>simp only[mu,cond_eq_ite,bh] at hb
    ·rw[oa xs (by simpa using h)] at hb;cases hb
    ·split at hb
     ·rw[oa xs (by simpa using h)] at hb;cases hb
     ·cases hb
end
section
open Go
section
variable {σ ε:Type}
def yd(B:σ->Option (σ⊕ε)):Nat->σ->Option ε
 | 0,_=>none
 |n+1,s=>(B s).bind (Sum.elim (yd B n) some)
theorem Bk(B:σ->Option (σ⊕ε)): ∀ {n m:Nat} {s:σ} {e:ε},n<=m->yd B n s=some e->yd B m s=some e
 | 0,_,_,_,_,h=>by cases h
 |n+1,0,_,_,hm,_=>by omega
 |n+1,m+1,s,e,hm,h=>by
  unfold yd at h ⊢;cases hB:B s with
  |none=>rw[hB] at h;cases h
  |some x=>
   rw[hB] at h;cases x with
   |inl s'=>exact Bk B (by omega) h
   |inr e'=>exact h
theorem HP{p:Nat->Prop}(h: ∃n,p n): ∃n,p n/\ ∀m,p m->n<=m:=by
 obtain⟨n,hn⟩:=h
 induction n using Nat.strongRecOn with
 | _ n ih=>
   by_cases hx: ∃m,m<n/\p m
   ·obtain⟨m,hm,hp⟩:=hx;exact ih m hm hp
   ·exact⟨n,hn,λm hm=>Nat.le_of_not_lt λhlt=>hx ⟨m,hlt,hm⟩⟩
noncomputable def hO(B:σ->Option (σ⊕ε))(s:σ):Option ε:=open Classical in if h: ∃n,(yd B n s).isSome=true then yd B (Classical.choose h) s else none
noncomputable def WA(B:σ->Option (σ⊕ε))(s:σ):Nat:=open Classical in if h: ∃n,(yd B n s).isSome=true then Classical.choose (HP h) else 0
theorem uq{B:σ->Option (σ⊕ε)}{s:σ}{e:ε}:hO B s=some e↔ ∃n,yd B n s=some e:=by
 classical
 constructor
 ·intro h;unfold hO at h;split at h
  ·rename_i hx;exact⟨_,h⟩
  ·cases h
 ·rintro⟨n,h⟩
  have hx: ∃n,(yd B n s).isSome=true:=⟨n,by rw[h];rfl⟩
  unfold hO;rw[dif_pos hx];obtain⟨e',he⟩:=bF.1 (Classical.choose_spec hx);have h1:=Bk B (Nat.le_max_left (Classical.choose hx) n) he;have h2:=Bk B (Nat.le_max_right (Classical.choose hx) n) h;rw[h1] at h2;cases h2;exact he
theorem sk(B:σ->Option (σ⊕ε))(s:σ):hO B s=(B s).bind (Sum.elim (hO B) some):=by
 apply Option.ext;intro e;rw[uq];constructor
 ·rintro⟨n,h⟩
  cases n with
  |zero=>cases h
  |succ n=>
   unfold yd at h;cases hB:B s with
   |none=>rw[hB] at h;cases h
   |some x=>
    rw[hB] at h;cases x with
    |inl s'=>exact uq.2 ⟨n,h⟩
    |inr e'=>exact h
 ·intro h;cases hB:B s with
  |none=>rw[hB] at h;cases h
  |some x=>
   rw[hB] at h;cases x with
   |inl s'=>obtain⟨n,h⟩:=uq.1 (show hO B s'=some e from h);exact⟨n+1,by unfold yd;rw[hB];exact h⟩
   |inr e'=>exact⟨1,by unfold yd;rw[hB];exact h⟩
theorem O6(B:σ->Option (σ⊕ε))(s:σ)(e:ε)(h:hO B s=some e):Q7 (hO B) (WA B) s e (B s):=by
 classical
 have h0:=h;rw[sk] at h;cases hB:B s with
 |none=>rw[hB] at h;cases h
 |some x=>
  rw[hB] at h;cases x with
  |inl s'=>
   refine⟨?_,h⟩
   have hx: ∃n,(yd B n s).isSome=true:=by obtain⟨n,hn⟩:=uq.1 h0;exact⟨n,by rw[hn];rfl⟩
   have hx': ∃n,(yd B n s').isSome=true:=by obtain⟨n,hn⟩:=uq.1 (show hO B s'=some e from h);exact⟨n,by rw[hn];rfl⟩
   unfold WA;rw[dif_pos hx,dif_pos hx'];have:=(Classical.choose_spec (HP hx)).1;cases hn:Classical.choose (HP hx) with
   |zero=>rw[hn] at this;cases this
   |succ n=>rw[hn] at this;unfold yd at this;rw[hB] at this;exact Nat.lt_succ_of_le ((Classical.choose_spec (HP hx')).2 n this)
  |inr e'=>exact (Option.some.inj h)
end
inductive mY where
 |ty (t:Ty)|pr (t:Ty)|fc (g:Nat)|fn (g:Nat) (caps:List Ty)|nl
abbrev mY.D:mY->Type
 | .ty t=>t.D
 | .pr t=>t.D
 | .fc _=>Unit
 | .fn _ caps=>nu.D caps
 | .nl=>Unit
abbrev oc.D:List mY->Type
 | [] =>Unit
 |p::l=>p.D×oc.D l
def HQ: (l:List Ty)->nu.D l->List Cl
 | [],_=> []
 |t::l,x=> .pro (t.flat x.1)::HQ l x.2
def mY.v1: (p:mY)->p.D->V1
 | .ty t,x=>Nm t x
 | .pr t,x=> .cl (.pro (t.flat x))
 | .fc g,_=> .cl (.c (.sc (.func (.func g) #[] #[])))
 | .fn g caps,x=> .fn g (HQ caps x)
 | .nl,_=> .cl .em
def mh: (l:List mY)->oc.D l->List V1
 | [],_=> []
 |p::l,x=>p.v1 x.1::mh l x.2
def T6{ρ:Type}(t:Ty)(c:Cl)(κ:t.D->Option ρ):Option ρ:=match c with
 | .pro xs=>(match t.unflat xs with |some x=>κ x|none=>none)
 | _=>none
def Bl{ρ:Type}: (l:List Ty)->List Cl->(nu.D l->Option ρ)->Option ρ
 | [],[],κ=>κ ()
 |t::l,c::cs,κ=>T6 t c λx=>Bl l cs λy=>κ (x,y)
 | _,_,_=>none
def YF{ρ:Type}: (t:Ty)->V1->(t.D->Option ρ)->Option ρ
 | .ls _,.cl .em,κ=>κ []
 |t,a,κ=>un t a κ
def YG{ρ:Type}: (p:mY)->V1->(p.D->Option ρ)->Option ρ
 | .ty t,a,κ=>YF t a κ
 | .pr t,.cl c,κ=>T6 t c κ
 | .fc g,.cl (.c (.sc (.func (.func g') cs ts))),κ=>bif Nat.beq g' g&&Nat.beq cs.size 0&&Nat.beq ts.size 0 then κ () else none
 | .fn g caps,.fn g' cs,κ=>bif Nat.beq g' g then Bl caps cs κ else none
 | .nl,.cl .em,κ=>κ ()
 | _,_,_=>none
def HS{ρ:Type}: (l:List mY)->List V1->(oc.D l->Option ρ)->Option ρ
 | [],[],κ=>κ ()
 |p::l,a::as,κ=>YG p a λx=>HS l as λy=>κ (x,y)
 | _,_,_=>none
def O7(ps:List mY)(rs:List Ty)(G:oc.D ps->Option (nu.D rs)):PM:=λargs _ κ=>HS ps args λx=>(G x).bind λy=>ret (lN rs y) κ
theorem GJ{ρ:Type}{t:Ty}{c:Cl}{κ:t.D->Option ρ}{r:ρ}(h:T6 t c κ=some r): ∃x,c= .pro (t.flat x)/\κ x=some r:=by
 unfold T6 at h;split at h
 ·split at h
  ·rename_i x hx;exact⟨x,by rw[t.unflat_some _ _ hx],h⟩
  ·cases h
 ·cases h
theorem Cb{ρ:Type}: ∀ {l:List Ty} {cs:List Cl} {κ:nu.D l->Option ρ} {r:ρ},Bl l cs κ=some r-> ∃x,cs=HQ l x/\κ x=some r
 | [],[],κ,r,h=>⟨(),rfl,h⟩
 |t::l,c::cs,κ,r,h=>by unfold Bl at h;obtain⟨x,h1,h⟩:=GJ h;obtain⟨y,h2,h⟩:=Cb h;exact⟨(x,y),by rw[h1,h2];rfl,h⟩
 | [],_::_,κ,r,h=>by simp[Bl] at h
 | _::_,[],κ,r,h=>by simp[Bl] at h
theorem Re{ρ:Type}{t:Ty}{a:V1}{κ:t.D->Option ρ}{r:ρ}(h:YF t a κ=some r): ∃x,(a.av=(Nm t x).av\/(a.av= .em/\ ∃s,(Nm t x).av= .ro s []))/\κ x=some r:=by
 unfold YF at h;split at h
 ·exact⟨[],.inr ⟨rfl,_,rfl⟩,h⟩
 ·obtain⟨x,e,h'⟩:=un_some h;exact⟨x,.inl (by rw[e]),h'⟩
theorem Rf{ρ:Type}{p:mY}{a:V1}{κ:p.D->Option ρ}{r:ρ}(h:YG p a κ=some r): ∃x,(a.av=(p.v1 x).av\/(a.av= .em/\ ∃s,(p.v1 x).av= .ro s []))/\κ x=some r:=by
 unfold YG at h;split at h
 ·exact Re h
 ·obtain⟨x,h1,h⟩:=GJ h;exact⟨x,.inl (by rw[h1];rfl),h⟩
 ·obtain⟨h1,h⟩:=eB h;simp only[al] at h1;obtain⟨⟨h1,h2⟩,h3⟩:=h1;have h1:=an h1;have h2:=cG (an h2);have h3:=cG (an h3);exact⟨(),.inl (by rw[h1,h2,h3];rfl),h⟩
 ·obtain⟨h1,h⟩:=eB h;obtain⟨x,h2,h⟩:=Cb h;exact⟨x,.inl (by rw[an h1,h2];rfl),h⟩
 ·exact⟨(),.inl rfl,h⟩
 ·cases h
theorem l5{ρ:Type}: ∀ {l:List mY} {as:List V1} {κ:oc.D l->Option ρ} {r:ρ},HS l as κ=some r-> ∃x,Ke (as.map V1.av) ((mh l x).map V1.av)/\κ x=some r
 | [],[],κ,r,h=>⟨(),Ke.refl _,h⟩
 |p::l,a::as,κ,r,h=>by unfold HS at h;obtain⟨x,h1,h⟩:=Rf h;obtain⟨y,h2,h⟩:=l5 h;exact⟨(x,y),Ke.cons h1 h2,h⟩
 | [],_::_,κ,r,h=>by simp[HS] at h
 | _::_,[],κ,r,h=>by simp[HS] at h
theorem GK(G:List (Option eU)): ∀ (l:List Ty) (x:nu.D l),∀c∈HQ l x,c.ok G
 | [],x,c,h=>by cases h
 |t::l,x,c,h=>by
  rcases aV.1 h with rfl|h
  ·trivial
  ·exact GK G l x.2 c h
theorem mY.ok(p:mY)(x:p.D): (p.v1 x).ok [] :=by
 cases p with
 |ty t=>exact Wz t x
 |pr t=>trivial
 |fc g=>trivial
 |fn g caps=>exact GK [] caps x
 |nl=>trivial
theorem rL: ∀ (l:List mY) (x:oc.D l),∀a∈mh l x,a.ok []
 | [],x,a,h=>by cases h
 |p::l,x,a,h=>by
  rcases aV.1 h with rfl|h
  ·exact p.ok x.1
  ·exact rL l x.2 a h
section
theorem T7[eg]{P:Program}{Θ:n8}{Y:zh}{Λ:ow}(hΘ:gz P Θ)(hY:lM P Y)(hm:P.follows .mixedOrders=true){f:FuncId}{fn:Func}(hf:Gs P f=some fn)(hL: ∀c,fn.body=some c->i5 P Λ (fV c)){ps:List mY}{rs:List Ty}{G:oc.D ps->Option (nu.D rs)}(hk:Nat.blt f 1048576=true)
  (F:oc.D ps->Option (nu.D rs)) (hF: ∀x,Xh Θ Y Λ fn (mh ps x) (λv g=>some (v,g))=(F x).bind λy=>ret (lN rs y) (λv g=>some (v,g))) (hG: ∀x y,G x=some y->F x=some y):Ca P f (O7 ps rs G):=by
 intro args ρ κ r hr;unfold O7 at hr;obtain⟨x,hn,hr2⟩:=l5 hr;obtain⟨y,h1,hr3⟩:=ai.1 hr2;exact⟨_,_,.of_fn (qT.norm hn (QZ hΘ hY hm hf hL (rL ps x) (by rw[hF,hG x y h1];rfl))) (ar hk),HM _,hr3⟩
def Rg(el:Ty)(ps:List mY)(rs:List Ty)(G:List el.D->oc.D ps->Option (nu.D rs)):PM:=λargs _ κ=>match args with
 | .cl (.c (.ls t l))::as=>(match wB t el l with
   |some l=>HS ps as λx=>(G l x).bind λy=>ret (lN rs y) κ
   |none=>none)
 | _=>none
def Ri{ρ:Type}(el:Ty)(rs:List Ty)(y:List el.D×nu.D rs)(κ:V->List eU->Option ρ):Option ρ:=κ (HA (vS 1 (lN rs y.2))) (⟨el,y.1,none⟩::uj (lN rs y.2))
def Kh(el:Ty)(ps:List mY)(rs:List Ty)(G:List el.D->oc.D ps->Option (List el.D×nu.D rs)):PM:=λargs _ κ=>match args with
 | .cl (.c (.ls t l))::as=>(match wB t el l with
   |some l=>HS ps as λx=>(G l x).bind λy=>Ri el rs y κ
   |none=>none)
 | _=>none
theorem T8[eg]{P:Program}{Θ:n8}{Y:zh}{Λ:ow}{f:FuncId}(hk:Nat.blt f 1048576=true)(hΘ:gz P Θ)(hY:lM P Y)(hm:P.follows .mixedOrders=true){fn:Func}(hf:Gs P f=some fn)(hL: ∀c,fn.body=some c->i5 P Λ (fV c)){el:Ty}{ps:List mY}{rs:List Ty}{G:List el.D->oc.D ps->Option (nu.D rs)}
  (F:List el.D->oc.D ps->Option (nu.D rs)) (hF: ∀l x,Qu Θ Y Λ fn 0 el l (mh ps x) (λv g=>some (v,g))=(F l x).bind λy=>ret (lN rs y) (λv g=>some (v,g))) (hG: ∀l x y,G l x=some y->F l x=some y):Ca P (DK f) (Rg el ps rs G):=by
 intro args ρ κ r hr;unfold Rg at hr;split at hr
 ·rename_i t l as;split at hr
  ·rename_i l' hl;obtain⟨e,hl⟩:=gR hl;subst e;have hl:l=l':=hl;subst hl;obtain⟨x,hn,hr2⟩:=l5 hr;obtain⟨y,h1,hr3⟩:=ai.1 hr2;exact⟨_,_,.of_mv ⟨.ls _,l,_,rfl,jk.norm (Ke.cons (.inl rfl) hn) (NE hΘ hY hm hf hL (aB 1) (rL ps x) (by rw[hF,hG l x y h1];rfl))⟩ (ar hk),HM _,hr3⟩
  ·cases hr
 ·cases hr
theorem HT(el:Ty)(l:List el.D)(ys:List ((t:Ty)×t.D)): (HA (vS 1 ys)).ok ((⟨el,l,none⟩::uj ys).map some):=by
 have h:=Aa ys [⟨el,l,none⟩];simp only[az,List.singleton_append] at h
 match vS 1 ys,h with
 | [],_=>exactλx hx=>by cases hx
 | [v],h=>exact h v aF
 |v::u::vs,h=>exact h
theorem T9[eg]{P:Program}{Θ:n8}{Y:zh}{Λ:ow}(hΘ:gz P Θ)(hY:lM P Y)(hm:P.follows .mixedOrders=true){f:FuncId}{fn:Func}(hf:Gs P f=some fn)(hL: ∀c,fn.body=some c->i5 P Λ (fV c)){el:Ty}{ps:List mY}{rs:List Ty}{G:List el.D->oc.D ps->Option (List el.D×nu.D rs)}(hk:Nat.blt f 1048576=true)
  (F:List el.D->oc.D ps->Option (List el.D×nu.D rs)) (hF: ∀l x,Qu Θ Y Λ fn 1 el l (mh ps x) (λv g=>some (v,g))=(F l x).bind λy=>Ri el rs y (λv g=>some (v,g))) (hG: ∀l x y,G l x=some y->F l x=some y):Ca P (CE f) (Kh el ps rs G):=by
 intro args ρ κ r hr;unfold Kh at hr;split at hr
 ·rename_i t l as;split at hr
  ·rename_i l' hl;obtain⟨e,hl⟩:=gR hl;subst e;have hl:l=l':=hl;subst hl;obtain⟨x,hn,hr2⟩:=l5 hr;obtain⟨y,h1,hr3⟩:=ai.1 hr2;exact⟨_,_,.of_io ⟨.ls _,l,_,rfl,jk.norm (Ke.cons (.inl rfl) hn) (NE hΘ hY hm hf hL (au 1) (rL ps x) (by rw[hF,hG l x y h1];rfl))⟩ (ar hk),HT _ _ (lN rs y.2),hr3⟩
  ·cases hr
 ·cases hr
theorem Ua[eg]{P:Program}{Θ:n8}{Y:zh}{Λ:ow}(hΘ:gz P Θ)(hY:lM P Y)(hm:P.follows .mixedOrders=true){f:FuncId}{fn:Func}(hf:Gs P f=some fn)(hL: ∀c,fn.body=some c->i5 P Λ (fV c)){el:Ty}{ps:List mY}{rs:List Ty}{G:List el.D->oc.D ps->Option (List el.D×nu.D rs)}(hk:Nat.blt f 1048576=true)
  (F:List el.D->oc.D ps->Option (List el.D×nu.D rs)) (hF: ∀l x,Wu Θ Y Λ fn el l (mh ps x) (λv g=>some (v,g))=(F l x).bind λy=>Ri el rs y (λv g=>some (v,g))) (hG: ∀l x y,G l x=some y->F l x=some y):Ca P (DL f) (Kh el ps rs G):=by
 intro args ρ κ r hr;unfold Kh at hr;split at hr
 ·rename_i t l as;split at hr
  ·rename_i l' hl;obtain⟨e,hl⟩:=gR hl;subst e;have hl:l=l':=hl;subst hl;obtain⟨x,hn,hr2⟩:=l5 hr;obtain⟨y,h1,hr3⟩:=ai.1 hr2;exact⟨_,_,.of_pt ⟨_,l,_,rfl,jk.norm (Ke.cons (.inl rfl) hn) (TU hΘ hY hm hf hL (rL ps x) (by rw[hF,hG l x y h1];rfl))⟩ (ar hk),HT _ _ (lN rs y.2),hr3⟩
  ·cases hr
 ·cases hr
def WB{ρ:Type}(el:Ty)(rs:List Ty)(y:List el.D×nu.D rs)(κ:V->List eU->Option ρ):Option ρ:=κ (HA (.cl (.ptrT ⟨0,[]⟩ el.width 0 0)::vS 1 (lN rs y.2))) (⟨el,y.1,none⟩::uj (lN rs y.2))
def Rj(el:Ty)(ps:List mY)(rs:List Ty)(G:oc.D ps->Option (List el.D×nu.D rs)):PM:=λargs _ κ=>HS ps args λx=>(G x).bind λy=>WB el rs y κ
theorem Ub[eg]{P:Program}{Θ:n8}{Y:zh}{Λ:ow}(hΘ:gz P Θ)(hY:lM P Y)(hm:P.follows .mixedOrders=true){f:FuncId}{fn:Func}(hf:Gs P f=some fn)(hL: ∀c,fn.body=some c->i5 P Λ (fV c)){el:Ty}{ps:List mY}{rs:List Ty}{G:oc.D ps->Option (List el.D×nu.D rs)}(hk:Nat.blt f 1048576=true)
  (F:oc.D ps->Option (List el.D×nu.D rs)) (hF: ∀x,Xh Θ Y Λ fn (mh ps x) (λv g=>some (v,g))=(F x).bind λy=>WB el rs y (λv g=>some (v,g))) (hG: ∀x y,G x=some y->F x=some y):Ca P f (Rj el ps rs G):=by
 intro args ρ κ r hr;unfold Rj at hr;obtain⟨x,hn,hr2⟩:=l5 hr;obtain⟨y,h1,hr3⟩:=ai.1 hr2;refine⟨_,_,.of_fn (qT.norm hn (QZ hΘ hY hm hf hL (rL ps x) (by rw[hF,hG x y h1];rfl))) (ar hk),?_,hr3⟩;have h:=Aa (lN rs y.2) [⟨el,y.1,none⟩];simp only[az,List.singleton_append] at h;have h0: ∀v∈(.cl (.ptrT ⟨0,[]⟩ el.width 0 0)::vS 1 (lN rs y.2):List V1),v.ok ((⟨el,y.1,none⟩::uj (lN rs y.2)).map some):=dW.2 ⟨Nat.succ_pos _,h⟩
 match vS 1 (lN rs y.2),h0 with
 | [],h=>exact h _ aF
 |v::vs,h=>exact h
end
def oU(fn:Func):Code:=match fn.body with |some c=>c|none=> .skip
def WC(c:Code)(n:Nat):Code:=(pF (fV c) n).getD .skip
theorem XD[eg]{P:Program}{Λ:ow}{fn:Func}{cs:List Code}(h:fV (oU fn)=cs)(H:i5 P Λ cs)(c:Code)(hc:fn.body=some c):i5 P Λ (fV c):=by
 have :oU fn=c:=by unfold oU;rw[hc]
 rw[<-this,h];exact H
end
section
open Go
inductive Kc where|i (k:IntKind)|b|s|h|ls (t:Ty)
 deriving DecidableEq
def O8:List (Option Ty)->List Value->List Kc
 |some t::l,_::m=> .ls t::O8 l m
 |none::l,.int k _::m=> .i k::O8 l m
 |none::l,.bool _::m=> .b::O8 l m
 |none::l,.nilFunc::m=> .h::O8 l m
 |none::l,_::m=> .s::O8 l m
 | _,_=> []
def Ty.kc(t:Ty):List Kc:=O8 t.csh t.zvs
def sm:List Kc->List C->Prop
 | [],[] =>True
 | .i k::l,c::m=>(∃n,c= .sc (.int k n))/\sm l m
 | .b::l,c::m=>(∃v,c= .sc (.bool v))/\sm l m
 | .s::l,c::m=>(∃v,c= .sc (.string v))/\sm l m
 | .h::l,c::m=>(∃v:Hd,c= .sc (.slice v.a v.n v.c))/\sm l m
 | .ls t::l,c::m=>(∃v,c= .ls t v)/\sm l m
 | _,_=>False
theorem xQ{cs:List C}(h:sm [] cs):cs= [] :=by cases cs with |nil=>rfl|cons=>exact h.elim
theorem U7{k:IntKind}{l:List Kc}{cs:List C}(h:sm (.i k::l) cs): ∃n r,cs= .sc (.int k n)::r/\sm l r:=by
 cases cs with
 |nil=>exact h.elim
 |cons c r=>obtain⟨⟨n,rfl⟩,h⟩:=h;exact⟨n,r,rfl,h⟩
theorem U8{l:List Kc}{cs:List C}(h:sm (.b::l) cs): ∃n r,cs= .sc (.bool n)::r/\sm l r:=by
 cases cs with
 |nil=>exact h.elim
 |cons c r=>obtain⟨⟨n,rfl⟩,h⟩:=h;exact⟨n,r,rfl,h⟩
theorem U9{l:List Kc}{cs:List C}(h:sm (.s::l) cs): ∃n r,cs= .sc (.string n)::r/\sm l r:=by
 cases cs with
 |nil=>exact h.elim
 |cons c r=>obtain⟨⟨n,rfl⟩,h⟩:=h;exact⟨n,r,rfl,h⟩
theorem Va{l:List Kc}{cs:List C}(h:sm (.h::l) cs): ∃ (n:Hd) (r:List C),cs= .sc (.slice n.a n.n n.c)::r/\sm l r:=by
 cases cs with
 |nil=>exact h.elim
 |cons c r=>obtain⟨⟨n,rfl⟩,h⟩:=h;exact⟨n,r,rfl,h⟩
theorem Vb{t:Ty}{l:List Kc}{cs:List C}(h:sm (.ls t::l) cs): ∃n r,cs= .ls t n::r/\sm l r:=by
 cases cs with
 |nil=>exact h.elim
 |cons c r=>obtain⟨⟨n,rfl⟩,h⟩:=h;exact⟨n,r,rfl,h⟩
theorem GL(t:Ty){cs:List C}(h:sm t.kc cs): ∃x,t.flat x=cs:=by
 have : (t.unflat cs).isSome=true:=by
  cases t with
  |st n=>
   cases n
   all_goals
    repeat ((first |replace h:=U7 h|replace h:=U8 h|replace h:=Vb h|replace h:=U9 h|replace h:=Va h);obtain⟨_,_,rfl,h⟩:=h)
    cases xQ h;rfl
  |i k=>replace h:=U7 h;obtain⟨_,_,rfl,h⟩:=h;cases xQ h;simp[Ty.unflat,gI,gN]
  |b=>replace h:=U8 h;obtain⟨_,_,rfl,h⟩:=h;cases xQ h;rfl
  |h=>replace h:=Va h;obtain⟨_,_,rfl,h⟩:=h;cases xQ h;rfl
  |s=>replace h:=U9 h;obtain⟨_,_,rfl,h⟩:=h;cases xQ h;rfl
  |ls u=>replace h:=Vb h;obtain⟨_,_,rfl,h⟩:=h;cases xQ h;simp[Ty.unflat,gL,gN]
 obtain⟨x,hx⟩:=bF.1 this;exact⟨x,t.unflat_some _ _ hx⟩
inductive T.bd:T->Prop where
 |int {k:IntKind} {n:Int} (h:k.min<=n/\n<=k.max):T.bd (.sc (.int k n))
 |bool (v:Bool):T.bd (.sc (.bool v))
 |str (v:ByteArray):T.bd (.sc (.string v))
 |sl {sz:Nat} {rows:List (List T)} (hl:rows.length<=maxLen) (h: ∀r∈rows,∀x∈r,T.bd x):T.bd (.sl sz rows)
def YH(t:Ty)(x:t.D):Prop:=∀y∈t.row x,T.bd y
def HU(P:Program)(e:TypeId->List Kc->Bool):List Field->Nat->List Kc->Bool
 | [],_,[] =>true
 | [],_,_::_=>false
 |f::fs,off,ks=>Nat.beq f.offset off&&Nat.ble (P.cellsOf f.type) ks.length&&e f.type (ks.take (P.cellsOf f.type))&&HU P e fs (off+P.cellsOf f.type) (ks.drop (P.cellsOf f.type))
def Cc(P:Program)(Θ:n8):Nat->TypeId->List Kc->Bool
 | 0,_,_=>false
 |d+1,t,ks=>match P.underlying t with
  |some (.int k)=>decide (ks= [.i k])
  |some .bool=>decide (ks= [.b])
  |some (.slice e)=>(match mt Θ e with
   |some ti=>decide (ks= [.ls ti.ty])&&Cc P Θ d e ti.ty.kc&&Nat.beq (P.cellsOf e) ti.ty.width&&Nat.blt 0 ti.ty.width
   |none=>false)
  |some (.struct fs)=>HU P (Cc P Θ d) fs.toList 0 ks&&Nat.beq (P.cellsOf t) ks.length
  | _=>false
theorem Ki: ∀ {k l:List Kc} {cs ds:List C},sm k cs->sm l ds->sm (k++l) (cs++ds)
 | [],l,[],ds,_,h=>h
 | [],_,_::_,_,h,_=>h.elim
 |a::k,_,[],_,h,_=>by cases a<;>exact h.elim
 |a::k,l,c::cs,ds,h,h2=>by cases a<;>exact⟨h.1,Ki h.2 h2⟩
theorem Cd: ∀ {k:List Kc} {cs:List C},sm k cs->cs.length=k.length
 | [],[],_=>rfl
 | [],_::_,h=>h.elim
 |a::k,[],h=>by cases a<;>exact h.elim
 |a::k,c::cs,h=>by cases a<;>simp[Cd h.2]
section
variable {H:Type} {enc:TypeId×Value->H} {P:Program} {w:World} {base:Nat} {sp:Nat->Bool} {held:Bool} {Θ:n8}
structure Cs (w:World) (cs:List Value) (Xs:List C):Prop where
 len:Xs.length=cs.length
 one: ∀u∈cs,u.oneCell'=true
 ro: ∀ (k:Nat) (c:C) (u:Value),Xs[k]? =some c->cs[k]? =some u->RO w (λb=>b<w.heap.size) c.tree u
 bd: ∀c∈Xs,T.bd c.tree
theorem Cs.nil:Cs w [] [] :=⟨rfl,λ_ h=>(by cases h),λ_ _ _ h=>(by cases h),λ_ h=>(by cases h)⟩
theorem Cs.one_mk{u:Value}{c:C}(h1:u.oneCell'=true)(h2:RO w (λb=>b<w.heap.size) c.tree u)(h3:T.bd c.tree):Cs w [u] [c] :=by
 refine⟨rfl,λv hv=> ?_,λk c' u' hk hu=> ?_,λc' hc=> ?_⟩
 ·rw[aD.1 hv];exact h1
 ·cases k with
  |zero=>cases hk;cases hu;exact h2
  |succ k=>simp at hk
 ·rw[aD.1 hc];exact h3
theorem Cs.app{cs ds:List Value}{Xs Ys:List C}(h:Cs w cs Xs)(k:Cs w ds Ys):Cs w (cs++ds) (Xs++Ys):=by
 refine⟨by rw[ax,ax,h.len,k.len],λu hu=> ?_,λj c u hj hu=> ?_,λc hc=> ?_⟩
 ·rcases aW.1 hu with hu|hu
  ·exact h.one u hu
  ·exact k.one u hu
 ·by_cases hlt:j<Xs.length
  ·rw[ba hlt] at hj;rw[ba (by rw[<-h.len];exact hlt)] at hu;exact h.ro j c u hj hu
  ·rw[bc (by omega)] at hj;rw[bc (by rw[<-h.len];omega),<-h.len] at hu;exact k.ro _ c u hj hu
 ·rcases aW.1 hc with hc|hc
  ·exact h.bd c hc
  ·exact k.bd c hc
theorem HV(hΘ:gz P Θ): ∀ (d:Nat) {t:TypeId} {ks:List Kc} {n:Nat} {cs:List Value} {y:DataW H×List MemPlace},Cc P Θ d t ks=true->DataW.trod enc P w base sp held n t cs=some y-> ∃Xs:List C,sm ks Xs/\Cs w cs Xs
 | 0,t,ks,n,cs,y,hb,_=>by cases hb
 |d+1,t,ks,n,cs,y,hb,h=>by
  unfold Cc at hb;split at hb
  ·rename_i k hu;have:=of_decide_eq_true hb;subst this;obtain⟨v,rfl,_,hw⟩:=DataW.trod_int hu h;simp only[Lit.wf,al,decide_eq_true_eq] at hw;exact⟨[.sc (.int k v)],⟨⟨v,rfl⟩,trivial⟩,Cs.one_mk rfl (.sc rfl) (.int hw)⟩
  ·rename_i hu;have:=of_decide_eq_true hb;subst this;obtain⟨v,rfl,_⟩:=DataW.trod_bool hu h;exact⟨[.sc (.bool v)],⟨⟨v,rfl⟩,trivial⟩,Cs.one_mk rfl (.sc rfl) (.bool v)⟩
  ·rename_i e hu;split at hb
   ·rename_i ti hti;simp only[al,decide_eq_true_eq] at hb;obtain⟨⟨⟨rfl,hb⟩,hw⟩,hpos⟩:=hb;have hw:=an hw;have hpos:0<ti.ty.width:=ar hpos;rcases Go.Deep.open_slice hu h with ⟨rfl,_⟩| ⟨ad,len,cap,m,n',D,Pl,rfl,_,hl,hm,hmm,_,hx⟩
    ·exact⟨[.ls ti.ty []],⟨⟨[],rfl⟩,trivial⟩,Cs.one_mk rfl (.em _ _ _) (.sl (aB _) λr hr=>by cases hr)⟩
    ·have hlm:len<=m:=by rw[hmm];split<;>omega
     have each: ∀i:Fin len,∃z:ti.ty.D,∃cs',w.cells? base (ad.add (i.1*P.cellsOf e)) (P.cellsOf e)=some cs'/\Cs w cs' (ti.ty.flat z):=by intro i;obtain⟨cs',h1,h2⟩:=hx i.1 (by have:=i.2;omega);obtain⟨Xs,h3,h4⟩:=HV hΘ d hb h2;obtain⟨z,rfl⟩:=GL _ h3;exact⟨z,cs',h1,h4⟩
     let l:List ti.ty.D:=List.ofFn λi=>(each i).choose
     have hll:l.length=len:=by simp[l]
     have row: ∀ (i:Nat) (r:List T),(l.map ti.ty.row)[i]? =some r-> ∃hi:i<len,∃cs',w.cells? base (ad.add (i*P.cellsOf e)) (P.cellsOf e)=some cs'/\ ∃z,r=(ti.ty.flat z).map C.tree/\Cs w cs' (ti.ty.flat z):=by
      intro i r hr;rw[aq,ak] at hr;obtain⟨z,hz,rfl⟩:=hr;obtain⟨h1,h2⟩:=aj.1 hz;have hi:i<len:=by rw[hll] at h1;exact h1
      refine⟨hi,(each ⟨i,hi⟩).choose_spec.choose,(each ⟨i,hi⟩).choose_spec.choose_spec.1,z,ti.ty.row_flat z,?_⟩;have e1:z=(each ⟨i,hi⟩).choose:=by rw[<-h2];simp[l]
      rw[e1];exact (each ⟨i,hi⟩).choose_spec.choose_spec.2
     refine⟨[.ls ti.ty l],⟨⟨l,rfl⟩,trivial⟩,Cs.one_mk rfl ?_ ?_⟩
     ·show RO w _ (.sl ti.ty.width (l.map ti.ty.row)) _;by_cases h0:len=0
      ·have :l= [] :=dg.1 (by rw[hll,h0]);rw[this,h0];exact .em _ _ _
      ·have hlr: (l.map ti.ty.row).length=len:=by rw[aJ,hll]
       have hlen: ∀ (i:Nat) (r:List T),(l.map ti.ty.row)[i]? =some r->r.length=ti.ty.width:=by intro i r hr;obtain⟨hi,cs',h1,z,rfl,h2⟩:=row i r hr;obtain⟨_,h3,_⟩:=World.cells?_some h1;rw[aJ,h2.len,h3,hw]
       have hcell: ∀ (i:Nat) (r:List T) (j:Nat) (x:T),(l.map ti.ty.row)[i]? =some r->r[j]? =some x-> ∃u,w.cell? (ad.add (i*ti.ty.width+j))=some u/\RO w (λb=>b<w.heap.size) x u:=by
        intro i r j x hr hx;obtain⟨hi,cs',h1,z,rfl,h2⟩:=row i r hr;obtain⟨_,h3,h4⟩:=World.cells?_some h1;rw[aq,ak] at hx;obtain⟨c,hc,rfl⟩:=hx;have hj:j<cs'.length:=by rw[<-h2.len];exact (aj.1 hc).1
        refine⟨cs'[j],?_,h2.ro j c _ hc (ah hj)⟩;rw[<-Go.Deep.add_add,<-hw,h4 j (by omega),ah hj]
       have hne: ∃u,w.cell? ad=some u:=by
        obtain⟨r,hr⟩: ∃r,(l.map ti.ty.row)[0]? =some r:=⟨_,ah (by omega)⟩
        have h5:=hlen 0 r hr;obtain⟨x,hx⟩: ∃x,r[0]? =some x:=⟨_,ah (by omega)⟩
        obtain⟨u,hu',_⟩:=hcell 0 r 0 x hr hx;simp only[b8,aK,Addr.add,if_true] at hu';exact⟨u,hu'⟩
       obtain⟨u0,hu0⟩:=hne;rw[<-hlr];refine .sl (λi j=>((w.cell? (ad.add (i*ti.ty.width+j))).getD undef)) (by omega) ?_ (World.block_lt_of_cell? w _ hu0) hlen ?_ ?_
       ·cases hsp:ad.spot with
        |none=>rfl
        |some s=>
         unfold World.cell? at hu0;rw[hsp] at hu0;split at hu0
         ·simp at hu0
         ·cases hu0
       ·intro i r j x hr hx;obtain⟨u,h1,_⟩:=hcell i r j x hr hx;rw[h1];rfl
       ·intro i r j x hr hx;obtain⟨u,h1,h2⟩:=hcell i r j x hr hx;rw[h1];exact h2
     ·refine .sl (by rw[aJ,hll];unfold maxLen at hm ⊢;omega) λr hr x hx=> ?_;obtain⟨i,hi⟩:=List.getElem?_of_mem hr;obtain⟨_,cs',_,z,rfl,h2⟩:=row i r hi;obtain⟨c,hc,rfl⟩:=aN.1 hx;exact h2.bd c hc
   ·cases hb
  ·rename_i fs hu;simp only[al] at hb;obtain⟨hb,hkl0⟩:=hb;have hkl0:=an hkl0;obtain⟨xs,m,_,_,hl,hlen,hf⟩:=DataW.trod_struct hu h
   have gC: ∀ (gs:List Field) (off i0:Nat) (ks:List Kc),HU P (Cc P Θ d) gs off ks=true->(∀ (i:Nat) (f:Field),gs[i]? =some f->fs[i0+i]? =some f)-> ∃Xs:List C,sm ks Xs/\Cs w ((cs.drop off).take ks.length) Xs/\off+ks.length<=max off cs.length:=by
    intro gs
    induction gs with
    |nil=>
     intro off i0 ks hk _;cases ks with
     |nil=>exact⟨[],trivial,by simpa using Cs.nil,by simp;omega⟩
     |cons=>cases hk
    |cons f gs ih=>
     intro off i0 ks hk hg;simp only[HU,al] at hk;obtain⟨⟨⟨ho,hle⟩,h1⟩,h2⟩:=hk;have ho:=an ho;have hle:P.cellsOf f.type<=ks.length:=ar hle;have hfi:fs[i0]? =some f:=by have:=hg 0 f rfl;simpa using this
     have hi0:i0<xs.length:=by rw[hlen];exact (aG.1 hfi).1
     have h3:=hf i0 f hfi;rw[ah hi0,ho] at h3;obtain⟨Xs,k1,k2⟩:=HV hΘ d h1 h3;obtain⟨Ys,k3,k4,k5⟩:=ih (off+P.cellsOf f.type) (i0+1) _ h2 (λi g hgi=>by have:=hg (i+1) g hgi;rw[show i0+1+i=i0+(i+1) by omega];exact this);have hkl:=Cd k1;have hcl:=k2.len;rw[aR,bf,hkl,aR] at hcl;have hq:P.cellsOf f.type<=cs.length-off:=by omega
     refine⟨Xs++Ys,?_,?_,?_⟩
     ·have:=Ki k1 k3
      rwa [cS] at this
     ·have hsplit: (cs.drop off).take ks.length=((cs.drop off).take (P.cellsOf f.type))++((cs.drop (off+P.cellsOf f.type)).take (ks.drop (P.cellsOf f.type)).length):=by
       rw[bf,<-cu];have :ks.length=P.cellsOf f.type+(ks.length-P.cellsOf f.type):=by omega
       conv=>lhs;rw[this]
       exact List.take_add
      rw[hsplit];exact k2.app k4
     ·rw[bf] at k5;omega
   obtain⟨Xs,k1,k2,k3⟩:=gC fs.toList 0 0 ks hb (λi f hi=>by rw[bX] at hi;simpa using hi);refine⟨Xs,k1,?_⟩
   have hfull: (cs.drop 0).take ks.length=cs:=by rw[bM];exact bG (by omega)
   rwa [hfull] at k2
  ·cases hb
end
end
section
open Go Go.ChangeShapes Go.WideShapes Go.RowKit
def Y8: (l:List Ty)->oc.D (l.map .ty)->Prop
 | [],_=>True
 |t::l,x=>YH t x.1/\Y8 l x.2
def Uc(P:Program)(Θ:n8)(t:TypeId)(τ:Ty):Bool:=Cc P Θ 9 t τ.kc&&(match mt Θ t with |some ti=>decide (ti.ty=τ)|none=>false)&&P.readableRec t&&Nat.blt t P.types.size
def Ef(P:Program)(Θ:n8):List TypeId->List Ty->Bool
 | [],[] =>true
 |t::ts,τ::τs=>Uc P Θ t τ&&Ef P Θ ts τs
 | _,_=>false
section
variable {H:Type} {enc:TypeId×Value->H} {P:Program} {W:World} {Θ:n8} {base:Nat}
theorem C.VR{c:C}{u:Value}{bt:Bt}(hA:bt.A=λb=>b<W.heap.size)(h:RO W (λb=>b<W.heap.size) c.tree u)(hg:c.good=true):En.VR W bt c.av u:=by
 cases c with
 |sc v=>
  cases h with
  |sc h=>exact .sc h
 |ls t l=>exact .ro (by rw[hA];exact h)
theorem WD(hΘ:gz P Θ){bt:Bt}(hA:bt.A=λb=>b<W.heap.size){t:TypeId}{τ:Ty}{v:Value}{d:DataW H}{p:List MemPlace}(hp:Uc P Θ t τ=true)(hv:Value.okWide P W .any base t v)(h:DataW.Trod enc P W 0 (λ_=>true) true t v d p):
  ∃x:τ.D,VR W bt (Nm τ x).av v/\YH τ x:=by
 unfold Uc at hp;simp only[al] at hp;obtain⟨⟨⟨h1,h2⟩,h3⟩,h4⟩:=hp;split at h2
 case h_2=>cases h2
 rename_i ti hti;have h2:=of_decide_eq_true h2;subst h2;have hok:=hΘ t ti hti;obtain⟨n,hn⟩:=h;obtain⟨Xs,k1,k2⟩:=HV hΘ 9 h1 hn;obtain⟨x,rfl⟩:=GL _ k1
 have bd:YH ti.ty x:=by intro y hy;rw[Ty.row_flat] at hy;obtain⟨c,hc,rfl⟩:=aN.1 hy;exact k2.bd c hc
 have good: ∀c∈ti.ty.flat x,c.good=true:=by
  intro c hc;have:=k2.bd c hc;cases c with
  |sc v=>cases this<;>rfl
  |ls t l=>rfl
 refine⟨x,?_,bd⟩;have hag:=hok.ag;unfold Nm;cases ha:ti.ty.ag with
 |true=>
  rw[ha] at hag
  have hst: ∃fs,P.underlying t=some (.struct fs):=by
   have hpl:=hok.pl ha;unfold Cc at h1;split at h1
   ·rename_i hu;simp[Fo,hu] at hag
   ·rename_i hu;simp[Fo,hu] at hag
   ·rename_i hu;simp[Fo,hu] at hag
   ·rename_i fs hu;exact⟨fs,hu⟩
   ·cases h1
  obtain⟨fs,hu⟩:=hst;obtain⟨us,rfl,_⟩:=okWide_struct hu hv;simp only[cond_true,V1.av];have : (Value.agg us)= .agg us.toList.toArray:=by simp
  rw[this];have hus: (Value.agg us).cells.toList=us.toList:=rfl;rw[hus] at k2;refine .agg (by simp[k2.len]) k2.one λk c u hk hu=> ?_;simp only[bL,aq,ak] at hk;obtain⟨c',hc,rfl⟩:=hk;exact C.VR hA (k2.ro k c' u hc hu) (good c' (ap hc))
 |false=>
  rw[ha] at hag
  have hcells:v.cells.toList= [v] :=by
   unfold Cc at h1;split at h1
   ·rename_i hu;obtain⟨_,rfl⟩:=okWide_int hu hv;rfl
   ·rename_i hu;obtain⟨_,rfl⟩:=okWide_bool hu hv;rfl
   ·rename_i hu;obtain⟨_,_,_,rfl⟩:=okWide_slice hu hv;rfl
   ·rename_i fs hu;simp[Fo,hu] at hag
   ·cases h1
  rw[hcells] at k2;have hl:=k2.len;obtain⟨c,hc⟩:=List.length_eq_one_iff.1 hl;simp only[cond_false,hc,aY,cF,V1.av];exact C.VR hA (k2.ro 0 c v (by rw[hc];rfl) rfl) (good c (by rw[hc];exact aD.2 rfl))
theorem NN(hΘ:gz P Θ){bt:Bt}(hA:bt.A=λb=>b<W.heap.size): ∀ {ts:List TypeId} {τs:List Ty} {vs:List Value} {ds:List (DataW H)} {p:List MemPlace},Ef P Θ ts τs=true->(∀ (j:Nat) t v,ts[j]? =some t->vs[j]? =some v->Value.okWide P W .any base t v)->DataW.TrodAll enc P W 0 (λ_=>true) true ts vs ds p->
  ∃x:oc.D (τs.map .ty),vs.length=τs.length/\(∀ (k:Nat) (v:AV) (u:Value),((mh (τs.map .ty) x).map V1.av)[k]? =some v->vs[k]? =some u->VR W bt v u)/\Y8 τs x
 | [],[],vs,ds,p,_,_,h=>by obtain⟨rfl,_,_⟩:=trodAll_nil h;exact⟨(),rfl,λk v u hk hu=>(by cases hu),trivial⟩
 |t::ts,τ::τs,vs,ds,p,hb,hv,h=>by
  obtain⟨v,vs',d,ds',q,q',rfl,rfl,rfl,h1,h2⟩:=trodAll_cons h;unfold Ef at hb;simp only[al] at hb;obtain⟨x,k1,k2⟩:=WD hΘ hA hb.1 (hv 0 t v rfl rfl) h1;obtain⟨y,k3,k4,k5⟩:=NN hΘ hA hb.2 (λj t' v' ht hv'=>hv (j+1) t' v' ht hv') h2;refine⟨(x,y),by simp[k3],λk v' u hk hu=> ?_,k2,k5⟩;cases k with
  |zero=>have hk:some (Nm τ x).av=some v':=hk;cases hk;cases hu;exact k1
  |succ k=>exact k4 k v' u hk hu
 | [],_::_,_,_,_,hb,_,_=>by cases hb
 | _::_,[],_,_,_,hb,_,_=>by cases hb
theorem yq{W':World}(hl:laidOutB P=true)(hb:Below W.heap.size W W'): ∀ {ts:List TypeId} {τs:List Ty} {vs:List Value} {ds:List (DataW H)} {p:List MemPlace},Ef P Θ ts τs=true->DataW.TrodAll enc P W 0 (λ_=>true) true ts vs ds p->DataW.TrodAll enc P W' 0 (λb=>decide (b<W.heap.size)) true ts vs ds p
 | [],[],vs,ds,p,_,h=>by obtain⟨rfl,rfl,rfl⟩:=trodAll_nil h;exact rfl
 |t::ts,τ::τs,vs,ds,p,hp,h=>by obtain⟨v,vs',d,ds',q,q',rfl,rfl,rfl,h1,h2⟩:=trodAll_cons h;unfold Ef Uc at hp;simp only[al] at hp;obtain⟨⟨⟨_,hr⟩,hs⟩,hrest⟩:=hp;refine trodAll_cons_mk (Below.trod hl hr (ar hs) h1 hb ?_) (yq hl hb hrest h2);intro x hx;obtain⟨m,hm⟩:=h1;exact DataW.trod_lt m _ _ _ hm x hx
 | [],_::_,_,_,_,hb,_=>by cases hb
 | _::_,[],_,_,_,hb,_=>by cases hb
end
end
section
open Go
section
variable {α β σ ε:Type}
theorem lO{B:σ->Option (σ⊕ε)}(l:List α)(mk:Nat->β->σ)(J:Nat->β->Prop)(g:Nat->List α->β->ε)
  (hn: ∀b,J l.length b->B (mk l.length b)=some (.inr (g l.length [] b)))
  (hc: ∀k b x,l[k]? =some x->J k b->(∃b',B (mk k b)=some (.inl (mk (k+1) b'))/\J (k+1) b'/\g k (x::l.drop (k+1)) b=g (k+1) (l.drop (k+1)) b')\/B (mk k b)=some (.inr (g k (x::l.drop (k+1)) b))):
  ∀k b,k<=l.length->J k b->hO B (mk k b)=some (g k (l.drop k) b):=by
 intro k b hk hJ;generalize hn0:l.length-k=n
 induction n generalizing k b with
 |zero=>
  obtain rfl:k=l.length:=by omega
  rw[sk,hn b hJ,dK];rfl
 |succ n ih=>
  have hlt:k<l.length:=by omega
  rw[bV hlt];rcases hc k b l[k] (ah hlt) hJ with ⟨b',h1,h2,h3⟩|h1
  ·rw[sk,h1,h3];exact ih (k+1) b' (by omega) h2 (by omega)
  ·rw[sk,h1];rfl
theorem tC{B:σ->Option (σ⊕ε)}(I:σ->Prop)(μ:σ->Nat)(E:ε->Prop)
  (h: ∀s,I s->(∃s',B s=some (.inl s')/\I s'/\μ s'<μ s)\/ ∃e,B s=some (.inr e)/\E e) {s:σ} (hs:I s): ∃e,hO B s=some e/\E e:=by
 generalize hn:μ s=n
 induction n using Nat.strongRecOn generalizing s with
 | _ n ih=>
   rcases h s hs with ⟨s',h1,h2,h3⟩| ⟨e,h1,h2⟩
   ·rw[sk,h1];exact ih (μ s') (by omega) h2 rfl
   ·exact⟨e,by rw[sk,h1];rfl,h2⟩
theorem eI(x y:α):br true x y=x:=rfl
theorem fg(x y:α):br false x y=y:=rfl
theorem WE(b:Bool)(x y:α):br b x y=if b=true then x else y:=by cases b<;>rfl
theorem ez(p:Prop)[Decidable p](x y:α):br (decide p) x y=if p then x else y:=by unfold br;by_cases h:p<;>simp[h]
theorem fv{p:Prop}[Decidable p](h:p)(x y:α):iteP p x y=x:=if_pos h
theorem Ad{p:Prop}[Decidable p](h: ¬p)(x y:α):iteP p x y=y:=if_neg h
theorem eE(p:Prop)[Decidable p](x y:α):iteP p x y=if p then x else y:=rfl
end
theorem fm{n:Int}(h1: -9223372036854775808<=n)(h2:n<9223372036854775808):IntKind.wrap .i64 n=n:=by
 simp only[IntKind.wrap,IntKind.bits,IntKind.signed,dG];split
 ·rename_i h;have h:=of_decide_eq_true h;omega
 ·rename_i h;have h: ¬ (n % 2 ^ 64≥2 ^ (64-1)):=λhh=>h (decide_eq_true hh);omega
theorem i9{α:Type}{l:List α}{k:Nat}{x:α}(h:l[k]? =some x):k<l.length:=(aj.1 h).1
theorem yr{α:Type}{l:List α}{k:Nat}(y:α)(h:k<l.length): (l.set k y).take (k+1)=l.take k++ [y] :=by rw[bI,dF h];simp[List.take_set_of_le]
theorem Ud{α ρ:Type}(l:List α)(n:Nat)(κ:List α×Unit->Option ρ):Wq l (Tf (κ ([],())) (iteP ((([]:List α)++l).length*n<=2 ^ 40) (κ (([]:List α)++l,())) none) none) (iteP ((([]:List α)++l).length*n<=2 ^ 40) (κ (([]:List α)++l,())) none)=(iteP (l.length*n<=2 ^ 40) (some (l,())) none).bind κ:=by
 cases l with
 |nil=>
  have :iteP ((([]:List α)++ []).length*n<=2 ^ 40) (κ (([]:List α)++ [],())) none=κ ([],()):=by unfold iteP;rw[if_pos (by simp)];rfl
  rw[this];show Tf _ _ _=_;rw[QP];unfold iteP;rw[if_pos (by simp)];rfl
 |cons x l=>show iteP _ _ _=_;simp only[be];unfold iteP;split<;>rfl
end
section
open Go
section
variable {σ ε σ1 ε1 σ2 ε2 α β:Type}
theorem jG{B:σ->Option (σ⊕ε)}{s:σ}{e:ε}(h:B s=some (.inr e)):hO B s=some e:=by rw[sk,h];rfl
theorem sn{B:σ->Option (σ⊕ε)}{s s':σ}(h:B s=some (.inl s')):hO B s=hO B s':=by rw[sk,h];rfl
theorem mp{B1:σ1->Option (σ1⊕ε1)}{B2:σ2->Option (σ2⊕ε2)}(n:Nat)(m1:Nat->σ1)(m2:Nat->σ2)(t1:ε1)(t2:ε2)(f1:Nat->ε1)(f2:Nat->ε2)(P Q:Nat->Prop)
  (h1:B1 (m1 n)=some (.inr t1)) (h2:B2 (m2 n)=some (.inr t2))
  (h: ∀k,k<n->(B1 (m1 k)=some (.inl (m1 (k+1)))/\B2 (m2 k)=some (.inl (m2 (k+1)))/\P k)\/(B1 (m1 k)=some (.inr (f1 k))/\B2 (m2 k)=some (.inr (f2 k))/\Q k)):
  (hO B1 (m1 0)=some t1/\hO B2 (m2 0)=some t2/\ ∀k,k<n->P k)\/ ∃k,k<n/\hO B1 (m1 0)=some (f1 k)/\hO B2 (m2 0)=some (f2 k)/\Q k:=by
 have gC: ∀d j,j+d=n->(hO B1 (m1 j)=some t1/\hO B2 (m2 j)=some t2/\ ∀k,j<=k->k<n->P k)\/ ∃k,k<n/\hO B1 (m1 j)=some (f1 k)/\hO B2 (m2 j)=some (f2 k)/\Q k:=by
  intro d
  induction d with
  |zero=>
   intro j hj;have :j=n:=by omega
   subst this;exact .inl ⟨jG h1,jG h2,λk a b=>by omega⟩
  |succ d ih=>
   intro j hj;rcases h j (by omega) with ⟨g1,g2,g3⟩| ⟨g1,g2,g3⟩
   ·rw[sn g1,sn g2];rcases ih (j+1) (by omega) with ⟨k1,k2,k3⟩|k
    ·refine .inl ⟨k1,k2,λk a b=> ?_⟩;rcases ef a with rfl|a
     ·exact g3
     ·exact k3 k a b
    ·exact .inr k
   ·exact .inr ⟨j,by omega,jG g1,jG g2,g3⟩
 rcases gC n 0 (by omega) with ⟨a,b,c⟩|h
 ·exact .inl ⟨a,b,λk hk=>c k (aB _) hk⟩
 ·exact .inr h
def Ae(x y:Option (β×Unit)):Prop:=∃b,x=some (b,())/\y=some (b,())
theorem ei{n k:Nat}(hn:n<=maxLen)(hk:k<n):IntKind.wrap .i64 ((k:Int)+1)=((k+1:Nat):Int):=by unfold maxLen at hn;rw[fm (by omega) (by omega)];rfl
theorem jW{k:Nat}(hk:0<k)(h:k<=maxLen):IntKind.wrap .i64 ((k:Int)-1)=((k-1:Nat):Int):=by unfold maxLen at h;rw[fm (by omega) (by omega)];omega
end
end
end Go.Proofs.YtkghndikalnipaaGreat.En
