import Derived.Test.YtadabkgmdllbfabGreatZX8
import Derived.ProofKit
import Derived.ChangeOld
import Derived.Deep.Slices
import Derived.OpenShut
import Derived.Below
import Derived.Carry
import Derived.WideShapes
namespace Go.Proofs.YtadabkgmdllbfabGreat.En
section
open Go
inductive Sh where
 |int (k:IntKind)|bl|str|ro (t:Ty)|own (r:Nat) (t:Ty)|ptr (n j:Nat)|em|dead|pro (t:Ty)|fc (g:Nat)|sub (r:Nat) (t:Ty)|pt (r w:Nat)
abbrev Sh.D:Sh->Type
 | .int _=>Int| .bl=>Bool| .str=>ByteArray| .ro t=>List t.D| .pro t=>t.D| .sub _ _=>Nat×Nat| _=>Unit
abbrev wo.D:List Sh->Type
 | [] =>Unit
 |s::l=>s.D×wo.D l
inductive zb where
 |cl (s:Sh)|agg (l:List Sh)|st (n:Sn)|fn (f:FuncId) (l:List Sh)
abbrev zb.D:zb->Type
 | .cl s=>s.D| .agg l=>wo.D l| .st n=>n.D| .fn _ l=>wo.D l
abbrev DS.D:List (Nat×zb)->Type
 | [] =>Unit
 |x::l=>x.2.D×DS.D l
abbrev DT.D:List (List Sh)->Type
 | [] =>Unit
 |x::l=>wo.D x×DT.D l
abbrev sN.D:List Ty->Type
 | [] =>Unit
 |t::l=>List t.D×sN.D l
structure wE where
 env:List (Nat×zb)
 bx:List (List Sh)
 gh:List Ty
 fz:Nat
 nt:Nat
abbrev wE.D (L:wE):Type:=DS.D L.env×DT.D L.bx×sN.D L.gh
def RS (G:List (Option eT)) (r:Nat):Nat:=match o2 G r with |some (some tr)=>tr.l.length| _=>0
def Sh.mk (G:List (Option eT)): (s:Sh)->s.D->Cl
 | .int k,n=> .c (.sc (.int k n))| .bl,v=> .c (.sc (.bool v))| .str,v=> .c (.sc (.string v))| .ro t,l=> .c (.ls t l)
 | .own r t,_=> .own ⟨r,[]⟩ t.width 0 (RS G r) true| .ptr n j,_=> .ptrB n j| .em,_=> .em| .dead,_=> .dead| .pro t,x=> .pro (t.flat x)| .fc g,_=> .c (.sc (.func (.func g) #[] #[]))| .sub r t,x=> .own ⟨r,[]⟩ t.width x.1 x.2 false| .pt r w,_=> .ptrT ⟨r,[]⟩ w 0 0
def wo.mk (G:List (Option eT)): (l:List Sh)->wo.D l->List Cl
 | [],_=> []
 |s::l,x=>s.mk G x.1::wo.mk G l x.2
def zb.mk (G:List (Option eT)): (v:zb)->v.D->V
 | .cl s,x=> .v (.cl (s.mk G x))| .agg l,x=> .v (.agg (wo.mk G l x))| .st n,x=> .v (.agg ((n.flat x).map .c))| .fn f l,x=> .v (.fn f (wo.mk G l x))
def DS.mk (G:List (Option eT)): (l:List (Nat×zb))->DS.D l->List (Nat×V)
 | [],_=> []
 |x::l,d=>(x.1,x.2.mk G d.1)::DS.mk G l d.2
def DT.mk (G:List (Option eT)): (l:List (List Sh))->DT.D l->List (List Cl)
 | [],_=> []
 |x::l,d=>wo.mk G x d.1::DT.mk G l d.2
def sN.mk: (l:List Ty)->sN.D l->List (Option eT)
 | [],_=> []
 |t::l,d=>some ⟨t,d.1,none⟩::sN.mk l d.2
def wE.mk' (L:wE) (d:L.D):TS:= { env:=DS.mk (sN.mk L.gh d.2.2) L.env d.1,bx:=DT.mk (sN.mk L.gh d.2.2) L.bx d.2.1,gh:=sN.mk L.gh d.2.2,fz:=L.fz,nt:=L.nt }
section
variable {ρ:Type}
def Sh.un: (s:Sh)->Cl->(s.D->Option ρ)->Option ρ
 | .int k, .c (.sc (.int k' n)),κ=>bif decide (k'=k) then κ n else none
 | .bl, .c (.sc (.bool v)),κ=>κ v
 | .str, .c (.sc (.string v)),κ=>κ v
 | .ro t, .c (.ls t' l),κ=>match vk t' t l with |some l=>κ l|none=>none
 | .own r t, .own p sz _ _ w,κ=>match p.l with | [] =>(bif w&&Nat.beq p.r r&&Nat.beq sz t.width then κ () else none)| _=>none
 | .ptr n i, .ptrB m j,κ=>bif Nat.beq m n&&Nat.beq j i then κ () else none
 | .em, .em,κ=>κ ()
 | .dead, .dead,κ=>κ ()
 | .pro t, .pro xs,κ=>(match t.unflat xs with |some x=>κ x|none=>none)
 | .fc g, .c (.sc (.func (.func g') cs ts)),κ=>bif Nat.beq g' g&&Nat.beq cs.size 0&&Nat.beq ts.size 0 then κ () else none
 | .sub r t, .own p sz lo len w,κ=>match p.l with | [] =>(bif !w&&Nat.beq p.r r&&Nat.beq sz t.width then κ (lo,len) else none)| _=>none
 | .pt r w, .ptrT p sz i j,κ=>match p.l with | [] =>(bif Nat.beq p.r r&&Nat.beq sz w&&Nat.beq i 0&&Nat.beq j 0 then κ () else none)| _=>none
 | _,_,_=>none
def wo.un: (l:List Sh)->List Cl->(wo.D l->Option ρ)->Option ρ
 | [],[],κ=>κ ()
 |s::l,c::cs,κ=>s.un c fun x=>wo.un l cs fun y=>κ (x,y)
 | _,_,_=>none
def zb.un: (v:zb)->V->(v.D->Option ρ)->Option ρ
 | .cl s, .v (.cl c),κ=>s.un c κ
 | .agg l, .v (.agg cs),κ=>wo.un l cs κ
 | .st n, .v (.agg cs),κ=>match Jr cs with |some xs=>(match n.unflat xs with |some x=>κ x|none=>none)|none=>none
 | .fn f l, .v (.fn g cs),κ=>bif Nat.beq f g then wo.un l cs κ else none
 | _,_,_=>none
def DS.un: (l:List (Nat×zb))->List (Nat×V)->(DS.D l->Option ρ)->Option ρ
 | [],[],κ=>κ ()
 |x::l,y::m,κ=>bif Nat.beq x.1 y.1 then x.2.un y.2 fun a=>DS.un l m fun b=>κ (a,b) else none
 | _,_,_=>none
def DT.un: (l:List (List Sh))->List (List Cl)->(DT.D l->Option ρ)->Option ρ
 | [],[],κ=>κ ()
 |x::l,y::m,κ=>wo.un x y fun a=>DT.un l m fun b=>κ (a,b)
 | _,_,_=>none
def sN.un: (l:List Ty)->List (Option eT)->(sN.D l->Option ρ)->Option ρ
 | [],[],κ=>κ ()
 |t::l,some tr::m,κ=>match tr.hole with
  |none=>(match vk tr.t t tr.l with |some a=>sN.un l m fun b=>κ (a,b)|none=>none)
  |some _=>none
 | _,_,_=>none
def wE.un (L:wE) (S:TS) (κ:L.D->Option ρ):Option ρ:=sN.un L.gh S.gh fun g=>DS.un L.env S.env fun e=>DT.un L.bx S.bx fun b=>bif Nat.beq S.fz L.fz&&Nat.beq S.nt L.nt then κ (e,b,g) else none
theorem Sh.un_some {G:List (Option eT)} (hG: ∀r,r<G.length-> ∃tr,o2 G r=some (some tr)): ∀ {s:Sh} {c:Cl} {κ:s.D->Option ρ} {r:ρ},c.ok G->s.un c κ=some r-> ∃x,c=s.mk G x/\κ x=some r:=by
 intro s c κ r hc h;cases s with
 |int k=>
  cases c with
  |c y=>cases y with
   |sc v=>cases v with
    |int k' n=>simp only[Sh.un] at h;obtain⟨h1,h⟩:=ej h;have:=of_decide_eq_true h1;subst this;exact⟨n,rfl,h⟩
    | _=>simp[Sh.un] at h
   |ls t l=>simp[Sh.un] at h
  | _=>simp[Sh.un] at h
 |bl=>
  cases c with
  |c y=>cases y with
   |sc v=>cases v with
    |bool v=>exact⟨v,rfl,h⟩
    | _=>simp[Sh.un] at h
   |ls t l=>simp[Sh.un] at h
  | _=>simp[Sh.un] at h
 |str=>
  cases c with
  |c y=>cases y with
   |sc v=>cases v with
    |string v=>exact⟨v,rfl,h⟩
    | _=>simp[Sh.un] at h
   |ls t l=>simp[Sh.un] at h
  | _=>simp[Sh.un] at h
 |ro t=>
  cases c with
  |c y=>cases y with
   |sc v=>simp[Sh.un] at h
   |ls t' l=>
    simp only[Sh.un] at h;split at h
    ·rename_i l' hl;obtain⟨e,hl⟩:=ia hl;subst e;simp only at hl;subst hl;exact⟨l,rfl,h⟩
    ·cases h
  | _=>simp[Sh.un] at h
 |own q t=>
  cases c with
  |own p sz lo len w=>
   obtain⟨pr,pl⟩:=p;cases pl with
   |cons a l=>simp[Sh.un] at h
   |nil=>
    simp only[Sh.un] at h;obtain⟨h1,h'⟩:=ej h;clear h;simp only[al] at h1;obtain⟨⟨h0,h2⟩,h3⟩:=h1;have h2:pr=q:=ao h2;have h3:sz=t.width:=ao h3;subst h0 h2 h3;obtain⟨k1,k2⟩:=hc;obtain⟨_,k3,k4⟩:=k2 rfl
    grind [eT.look,Sh.mk,RS]
  |c y=>cases y<;>simp[Sh.un] at h
  | _=>simp[Sh.un] at h
 |sub q t=>
  cases c with
  |own p sz lo len w=>
   obtain⟨pr,pl⟩:=p;cases pl with
   |cons a l=>simp[Sh.un] at h
   |nil=>simp only[Sh.un] at h;obtain⟨h1,h'⟩:=ej h;clear h;simp only[al,b8] at h1;obtain⟨⟨h0,h2⟩,h3⟩:=h1;have h2:pr=q:=ao h2;have h3:sz=t.width:=ao h3;subst h0 h2 h3;exact⟨(lo,len),rfl,h'⟩
  |c y=>cases y<;>simp[Sh.un] at h
  | _=>simp[Sh.un] at h
 |ptr n i=>
  cases c with
  |ptrB m j=>simp only[Sh.un] at h;obtain⟨h1,h'⟩:=ej h;clear h;simp only[al] at h1;have h2:=ao h1.1;have h3:=ao h1.2;subst h2 h3;exact⟨(),rfl,h'⟩
  |c y=>cases y<;>simp[Sh.un] at h
  | _=>simp[Sh.un] at h
 |em=>
  cases c with
  |em=>exact⟨(),rfl,h⟩
  |c y=>cases y<;>simp[Sh.un] at h
  | _=>simp[Sh.un] at h
 |dead=>
  cases c with
  |dead=>exact⟨(),rfl,h⟩
  |c y=>cases y<;>simp[Sh.un] at h
  | _=>simp[Sh.un] at h
 |pro t=>
  cases c with
  |pro xs=>
   simp only[Sh.un] at h;split at h
   ·rename_i x hx;exact⟨x,by simp only[Sh.mk]; rw[t.unflat_some _ _ hx],h⟩
   ·cases h
  |c y=>cases y<;>simp[Sh.un] at h
  | _=>simp[Sh.un] at h
 |pt q n=>
  cases c with
  |ptrT p sz i j=>
   obtain⟨pr,pl⟩:=p;cases pl with
   |cons a l=>simp[Sh.un] at h
   |nil=>simp only[Sh.un] at h;obtain⟨h1,h'⟩:=ej h;clear h;simp only[al] at h1;obtain⟨⟨⟨h1,h2⟩,h3⟩,h4⟩:=h1;have h1:pr=q:=ao h1;have h2:sz=n:=ao h2;have h3:i=0:=ao h3;have h4:j=0:=ao h4;subst h1 h2 h3 h4;exact⟨(),rfl,h'⟩
  |c y=>cases y<;>simp[Sh.un] at h
  | _=>simp[Sh.un] at h
 |fc g=>
  unfold Sh.un at h;split at h
  all_goals first | (rename_i hh; cases hh; done)|skip
  all_goals try (rename_i hh _; cases hh; done)
  ·rename_i e;cases e;obtain⟨h1,h'⟩:=ej h;simp only[al] at h1;obtain⟨⟨h1,h2⟩,h3⟩:=h1;have h1:=ao h1;have h2:=cE (ao h2);have h3:=cE (ao h3);exact⟨(),by rw[h1,h2,h3]; rfl,h'⟩
  ·cases h
theorem wo.un_some {G:List (Option eT)} (hG: ∀r,r<G.length-> ∃tr,o2 G r=some (some tr)): ∀ {l:List Sh} {cs:List Cl} {κ:wo.D l->Option ρ} {r:ρ},(∀c∈cs,c.ok G)->wo.un l cs κ=some r-> ∃x,cs=wo.mk G l x/\κ x=some r
 | [],[],κ,r,_,h=>⟨(),rfl,h⟩
 |s::l,c::cs,κ,r,hc,h=>by unfold wo.un at h;obtain⟨x,h1,h⟩:=Sh.un_some hG (hc c aK) h;obtain⟨y,h2,h⟩:=wo.un_some hG (fun z hz=>hc z (aL _ hz)) h;exact⟨(x,y),by rw[h1,h2]; rfl,h⟩
 | [],c::cs,κ,r,_,h=>by simp[wo.un] at h
 |s::l,[],κ,r,_,h=>by simp[wo.un] at h
theorem zH: ∀ {cs:List Cl} {xs:List C},Jr cs=some xs->cs=xs.map .c
 | [],xs,h=>by simp_all [Jr]
 |c::cs,xs,h=>by
  cases c with
  |c y=>
   simp only[Jr] at h;split at h
   ·rename_i r hr;simp only[af] at h;subst h;rw[zH hr];rfl
   ·cases h
  | _=>simp[Jr] at h
theorem zb.un_some {G:List (Option eT)} (hG: ∀r,r<G.length-> ∃tr,o2 G r=some (some tr)) {s:zb} {v:V} {κ:s.D->Option ρ} {r:ρ} (hv:v.ok G) (h:s.un v κ=some r): ∃x,v=s.mk G x/\κ x=some r:=by
 cases v with
 |tup l=>cases s<;>simp[zb.un] at h
 |v y=>
  cases s with
  |cl s=>cases y with
   |cl c=>obtain⟨x,h1,h⟩:=Sh.un_some hG hv h;exact⟨x,by rw[h1]; rfl,h⟩
   | _=>simp[zb.un] at h
  |agg l=>cases y with
   |agg cs=>obtain⟨x,h1,h⟩:=wo.un_some hG hv h;exact⟨x,by rw[h1]; rfl,h⟩
   | _=>simp[zb.un] at h
  |st n=>cases y with
   |agg cs=>
    simp only[zb.un] at h;split at h
    ·rename_i xs hxs;split at h
     ·rename_i x hx;exact⟨x,by rw[zH hxs]; simp only[zb.mk]; rw[n.unflat_some _ _ hx],h⟩
     ·cases h
    ·cases h
   | _=>simp[zb.un] at h
  |fn f l=>cases y with
   |fn g cs=>simp only[zb.un] at h;obtain⟨h0,h'⟩:=ej h;clear h;have h0:=ao h0;subst h0;obtain⟨x,h1,h⟩:=wo.un_some hG hv h';exact⟨x,by rw[h1]; rfl,h⟩
   | _=>simp[zb.un] at h
theorem DS.un_some {G:List (Option eT)} (hG: ∀r,r<G.length-> ∃tr,o2 G r=some (some tr)): ∀ {l:List (Nat×zb)} {m:List (Nat×V)} {κ:DS.D l->Option ρ} {r:ρ},(∀x∈m,x.2.ok G)->DS.un l m κ=some r-> ∃x,m=DS.mk G l x/\κ x=some r
 | [],[],κ,r,_,h=>⟨(),rfl,h⟩
 |s::l,c::cs,κ,r,hc,h=>by unfold DS.un at h;obtain⟨h0,h⟩:=ej h;have h0:=ao h0;obtain⟨x,h1,h⟩:=zb.un_some hG (hc c aK) h;obtain⟨y,h2,h⟩:=DS.un_some hG (fun z hz=>hc z (aL _ hz)) h;refine⟨(x,y),?_,h⟩;rw[h2];obtain⟨c1,c2⟩:=c;simp only at h0 h1;rw[h1,<-h0];rfl
 | [],c::cs,κ,r,_,h=>by simp[DS.un] at h
 |s::l,[],κ,r,_,h=>by simp[DS.un] at h
theorem DT.un_some {G:List (Option eT)} (hG: ∀r,r<G.length-> ∃tr,o2 G r=some (some tr)): ∀ {l:List (List Sh)} {m:List (List Cl)} {κ:DT.D l->Option ρ} {r:ρ},(∀cs∈m,∀c∈cs,c.ok G)->DT.un l m κ=some r-> ∃x,m=DT.mk G l x/\κ x=some r
 | [],[],κ,r,_,h=>⟨(),rfl,h⟩
 |s::l,c::cs,κ,r,hc,h=>by unfold DT.un at h;obtain⟨x,h1,h⟩:=wo.un_some hG (hc c aK) h;obtain⟨y,h2,h⟩:=DT.un_some hG (fun z hz=>hc z (aL _ hz)) h;exact⟨(x,y),by rw[h1,h2]; rfl,h⟩
 | [],c::cs,κ,r,_,h=>by simp[DT.un] at h
 |s::l,[],κ,r,_,h=>by simp[DT.un] at h
theorem sN.un_some: ∀ {l:List Ty} {m:List (Option eT)} {κ:sN.D l->Option ρ} {r:ρ},sN.un l m κ=some r-> ∃x,m=sN.mk l x/\κ x=some r
 | [],[],κ,r,h=>⟨(),rfl,h⟩
 |t::l,some tr::m,κ,r,h=>by
  unfold sN.un at h;split at h
  ·rename_i hh;split at h
   ·rename_i a ha;obtain⟨e,hl⟩:=ia ha;obtain⟨y,h2,h⟩:=sN.un_some h;obtain⟨t',l',hole⟩:=tr;simp only at hh e hl ha;subst hh e;simp only at hl;subst hl;exact⟨(l',y),by rw[h2]; rfl,h⟩
   ·cases h
  ·cases h
 | [],c::cs,κ,r,h=>by simp[sN.un] at h
 |t::l,[],κ,r,h=>by simp[sN.un] at h
 |t::l,none::m,κ,r,h=>by simp[sN.un] at h
theorem sN.mk_some: ∀ (l:List Ty) (d:sN.D l) (r:Nat),r< (sN.mk l d).length-> ∃tr,o2 (sN.mk l d) r=some (some tr)
 | [],d,r,h=>by simp[sN.mk] at h
 |t::l,d,0,h=>⟨_,rfl⟩
 |t::l,d,r+1,h=>by obtain⟨tr,htr⟩:=sN.mk_some l d.2 r (by simpa [sN.mk] using h);exact⟨tr,htr⟩
theorem wE.un_some {L:wE} {S:TS} (hS:S.ok) {κ:L.D->Option ρ} {r:ρ} (h:L.un S κ=some r): ∃d,S=L.mk' d/\κ d=some r:=by
 unfold wE.un at h;obtain⟨g,h1,h⟩:=sN.un_some h;have hG: ∀r,r<S.gh.length-> ∃tr,o2 S.gh r=some (some tr):=by rw[h1]; exact sN.mk_some _ _
 obtain⟨e,h2,h⟩:=DS.un_some hG hS.env h;obtain⟨b,h3,h⟩:=DT.un_some hG hS.bx h;obtain⟨h4,h⟩:=ej h;simp only[al] at h4;have h5:=ao h4.1;have h6:=ao h4.2;refine⟨(e,b,g),?_,h⟩;obtain⟨env,bx,gh,fz,nt⟩:=S
 grind [wE.mk']
end
end
section
open Go
def KU (S:TS) (t:Ty):Cl:= .own ⟨S.gh.length,[]⟩ t.width 0 0 true
def KV (n j:Nat) (t:Ty) (S:TS):TS:=match o2 S.bx n with
 |some cs=>(match o2 cs j with
  |some .em=> { S with bx:=fL S.bx n (fL cs j (KU S t)),gh:=S.gh++ [some ⟨t,[],none⟩] }
  | _=>S)
 |none=>S
def KW (x:Nat) (t:Ty) (S:TS):TS:=match jx S.env x with
 | .v (.cl .em)=> { S with env:=(x, .v (.cl (KU S t)))::S.env,gh:=S.gh++ [some ⟨t,[],none⟩] }
 | _=>S
theorem Q5: ∀ (l:List (Nat×Nat)),T.go .dd l= .dd
 | [] =>rfl
 | (_,_)::l=>Q5 l
theorem RT (w:Nat) {l:List (Nat×Nat)} {s:Nat} {rs:List (List T)} (h:T.go (.sl w []) l= .sl s rs):rs= [] :=by
 cases l with
 |nil=>cases h; rfl
 |cons a l=>grind [T.go,T.cell,Q5]
theorem ET [dY] {S S':TS} (t:Ty) (henv: ∀u,(jx S'.env u).av=(jx S.env u).av\/((jx S.env u).av= .em/\(jx S'.env u).av= .own ⟨S.gh.length,[]⟩ t.width 0 0))
  (hbx: ∀k cs',S'.st.bx k=some cs'-> ∃cs,S.st.bx k=some cs/\cs'.length=cs.length/\ ∀ (j:Nat) (v:AV),cs'[j]? =some v->cs[j]? =some v\/(cs[j]? =some .em/\v= .own ⟨S.gh.length,[]⟩ t.width 0 0))
  (hgh:S'.gh=S.gh++ [some ⟨t,[],none⟩]) (hfz:S'.fz=S.fz) (hnt:S'.nt=S.nt) (hbl:S'.bx.length=S.bx.length):pK S.st S'.st:=by
 intro w0 W btI SI bt a w hl0;have hl:=hl0.widen (N:=S.gh.length+1) (ca _);have inv:=hl.inv;have hng:S'.st.ng=S.gh.length+1:=by show S'.gh.length=_; rw[hgh]; simp
 have ghS: ∀r,S'.st.gh r=if r=S.gh.length then some (.sl t.width []) else S.st.gh r:=by intro r;show (fW S'.gh r).map eT.tree=_;rw[hgh,lp];split<;>rfl
 have κ0: ∀l,(bt.widen S.st.ng (S.gh.length+1)).κ ⟨S.gh.length,l⟩=0:=by intro l;show (if S.gh.length<S.gh.length then _ else 0)=0;rw[if_neg (dv _)]
 have look: ∀p s rs,S'.st.look p= .sl s rs->(p.r=S.gh.length/\rs= [] /\(bt.widen S.st.ng (S.gh.length+1)).κ p=0)\/(p.r≠S.gh.length/\S.st.look p= .sl s rs):=by
  intro p s rs hp;unfold St.look at hp;rw[ghS] at hp;by_cases hr:p.r=S.gh.length
  ·rw[if_pos hr] at hp;left;refine⟨hr,RT _ hp,?_⟩;obtain⟨pr,pl⟩:=p
   grind
  ·rw[if_neg hr] at hp;exact .inr ⟨hr,hp⟩
 have own0: ∀ {u:Value},VR w (bt.widen S.st.ng (S.gh.length+1)) .em u->VR w (bt.widen S.st.ng (S.gh.length+1)) (.own ⟨S.gh.length,[]⟩ t.width 0 0) u:=by
  intro u hu;cases hu with
  |em ad=>exact .own (dq _) (aq _) (aA _) (fun h=>absurd h (dv _))
 refine⟨bt.widen S.st.ng (S.gh.length+1),?_⟩
 refine⟨{ good:=inv.good,os:=inv.os,tape:=inv.tape,output:=inv.output,size:=inv.size,keep:=inv.keep
          nb:=by show _=S'.bx.length; rw[hbl]; exact inv.nb
          ng:=by rw[hng]; exact inv.ng
          bx:=fun n cells hn=> ?_
          gh:=fun r x hr=> ?_
          tr:=fun p sz rows hp=> ?_
          inj:=fun p q s rs s' rs' hp hq hk hk' he=> ?_
          bbinj:=fun n m cs cs' hn hm he=> ?_
          bbtr:=fun n cs p s rs hn hp hk=> ?_
          alt:=inv.alt
          atr:=fun p s rs hp hk=> ?_
          abb:=fun n cs hn=> ?_ },⟨?_,fun u=> ?_⟩,hl.defers,?_,?_,hl.keep,fun r hr hn=> ?_⟩
 ·obtain⟨cs,h1,h2,h3⟩:=hbx n cells hn;obtain⟨g1,g2,arr,e,g3,g4,g5⟩:=inv.bx n cs h1;refine⟨by show n<S'.bx.length; rw[hbl]; exact g1,g2,arr,e,g3,by rw[h2]; exact g4,fun j v hj=> ?_⟩
  grind
 ·rw[hng];rw[ghS] at hr;split at hr
  ·omega
  ·have:=inv.gh r x hr;exact this
 ·rcases look p sz rows hp with ⟨h1,rfl,h3⟩| ⟨h1,h2⟩
  ·grind
  ·exact inv.tr p sz rows h2
 ·rcases look p s rs hp with ⟨h1,_,h3⟩| ⟨h1,h2⟩
  ·omega
  ·rcases look q s' rs' hq with ⟨g1,_,g3⟩| ⟨g1,g2⟩
   ·omega
   ·exact inv.inj _ _ _ _ _ _ h2 g2 hk hk' he
 ·obtain⟨c,h1,_,_⟩:=hbx n cs hn;obtain⟨c',g1,_,_⟩:=hbx m cs' hm;exact inv.bbinj _ _ _ _ h1 g1 he
 ·obtain⟨c,h1,_,_⟩:=hbx n cs hn;rcases look p s rs hp with ⟨_,_,h3⟩| ⟨_,h2⟩
  ·omega
  ·exact inv.bbtr _ _ _ _ _ h1 h2 hk
 ·rcases look p s rs hp with ⟨_,_,h3⟩| ⟨_,h2⟩
  ·omega
  ·exact inv.atr _ _ _ h2 hk
 ·obtain⟨c,h1,_,_⟩:=hbx n cs hn;exact inv.abb _ _ h1
 ·have:=hl.er.1;show _=S'.nt;rw[hnt];exact this
 ·have h1:=hl.er.2 u;show VR w _ (jx S'.env u).av _;rcases henv u with h2| ⟨h2,h3⟩
  ·rw[h2]; exact h1
  ·rw[h3];have h1':VR w (bt.widen S.st.ng (S.gh.length+1)) (jx S.env u).av (a.tmps.getD u undef):=h1;rw[h2] at h1';exact own0 h1'
 ·show S'.fz=_;rw[hfz];exact hl.fz
 ·show S'.fz<=S'.gh.length;have:=hl.fzng;have e:S.fz<=S.gh.length+1:=this
  grind
 ·refine hl.gone r hr ?_
  grind
theorem HW (S:TS) (t:Ty): (KU S t).ok (S.gh++ [some ⟨t,[],none⟩]):=by refine⟨by simp,fun _=>⟨rfl,rfl,fun tr htr=> ?_⟩⟩;rw[lp,if_pos rfl] at htr;cases htr;rfl
theorem NU [dY] {S:TS} (hS:S.ok) (x:Nat) (t:Ty):pK S.st (KW x t S).st/\(KW x t S).ok:=by
 unfold KW;split
 ·rename_i hx;refine⟨ET t (fun u=> ?_) (fun k cs' h=>⟨cs',h,rfl,fun j v hv=> .inl hv⟩) rfl rfl rfl rfl,⟨fun y hy=> ?_,fun cs hcs c hc=>Cl.ok_mono (jb.app _ _) (hS.bx cs hcs c hc)⟩⟩
  ·simp only[jx];cases hb:Nat.beq x u with
   |true=>have :x=u:=ao hb;subst this;right;rw[hx];exact⟨rfl,rfl⟩
   |false=>exact .inl rfl
  ·rcases aX.1 hy with rfl|hy
   ·exact HW S t
   ·exact V.ok_mono (jb.app _ _) (hS.env y hy)
 ·exact⟨pK.refl,hS⟩
theorem NV [dY] {S:TS} (hS:S.ok) (n j:Nat) (t:Ty):pK S.st (KV n j t S).st/\(KV n j t S).ok:=by
 unfold KV;split
 ·rename_i cs hcs;split
  ·rename_i hj;rw[gv] at hcs hj;have hn:=(aj.1 hcs).1;refine⟨ET t (fun u=> .inl rfl) (fun k cs' h=> ?_) rfl rfl rfl (by simp[ik]),⟨fun y hy=>V.ok_mono (jb.app _ _) (hS.env y hy),fun cs' hcs' c hc=> ?_⟩⟩
   ·have h': (o2 (fL S.bx n (fL cs j (KU S t))) k).map (fun cs=>cs.map Cl.av)=some cs':=h;rw[gv,ik,ik,b7] at h';by_cases hk:n=k
    ·subst hk;rw[if_pos rfl,if_pos hn] at h';simp only[aH,af] at h';subst h';refine⟨cs.map Cl.av,by show (o2 S.bx n).map _=_; rw[gv,hcs]; rfl,by simp,fun i v hv=> ?_⟩;rw[ap,b7] at hv;by_cases hi:j=i
     ·subst hi;rw[if_pos rfl,if_pos (aj.1 hj).1] at hv;right;rw[ap,hj];simp only[aH,af] at hv;exact⟨rfl,hv.symm⟩
     grind
    ·rw[if_neg hk] at h';exact⟨cs',by show (o2 S.bx k).map _=_; rw[gv]; exact h',rfl,fun i v hv=> .inl hv⟩
   ·simp only[ik] at hcs';rcases ck hcs' with h1|h1
    ·exact Cl.ok_mono (jb.app _ _) (hS.bx _ h1 c hc)
    ·subst h1;rcases ck hc with h2|h2
     ·exact Cl.ok_mono (jb.app _ _) (hS.bx _ (au hcs) c h2)
     ·subst h2;exact HW S t
  ·exact⟨pK.refl,hS⟩
 ·exact⟨pK.refl,hS⟩
inductive Jz where
 |t (x:Nat) (t:Ty)
 |b (n j:Nat) (t:Ty)
def wq:List Jz->TS->TS
 | [],S=>S
 | .t x t::l,S=>wq l (KW x t S)
 | .b n j t::l,S=>wq l (KV n j t S)
theorem xG [dY]: ∀ (l:List Jz) {S:TS},S.ok->pK S.st (wq l S).st/\(wq l S).ok
 | [],S,hS=>⟨pK.refl,hS⟩
 | .t x t::l,S,hS=>by obtain⟨h1,h2⟩:=NU hS x t;obtain⟨h3,h4⟩:=xG l h2;exact⟨h1.trans h3,h4⟩
 | .b n j t::l,S,hS=>by obtain⟨h1,h2⟩:=NV hS n j t;obtain⟨h3,h4⟩:=xG l h2;exact⟨h1.trans h3,h4⟩
section
variable {P:Program} {Θ:nD} {Y:ya} {Λ:oa}
def HX {ρ:Type} (keepN keepX:List Nat) (κ:X->TS->Option ρ) (x:X) (S:TS):Option ρ:=match x with
 | .nor=>zF keepN S (κ .nor)
 |x=>zF keepX S (κ x)
def NW {σ ε:Type} (G:σ->Option ε) (μ:σ->Nat) (s:σ) (e:ε):Option (σ⊕ε)->Prop
 |some (.inl s')=>μ s'<μ s/\G s'=some e
 |some (.inr e')=>e'=e
 |none=>False
theorem P5 [dY] (hΘ:gz P Θ) (hY:lN P Y) (hm:P.follows .mixedOrders=true) {c:Code} (hc:lW P c=true) (hL:jd P Λ (gg c)) {σ ε:Type} {H:σ->TS} {E:ε->X×TS} {B:σ->Option (σ⊕ε)} {keepN keepX:List Nat}
  (hH: ∀s,(H s).ok) (hstep: ∀s,zz Θ Y Λ c (H s) (HX keepN keepX fun x S=>some (x,S))=(B s).bind (Sum.elim (fun s'=>some (.nor,H s')) fun e=>some (E e)))
  (hE: ∀e,(E e).1≠ .nor) {G:σ->Option ε} {μ:σ->Nat} (hG: ∀s e,G s=some e->NW G μ s e (B s))
  {s:σ} {e:ε} (hs:G s=some e):qc P (.loop c) (H s).st (fun x S'=>x=(E e).1/\S'=(E e).2.st):=by
 refine qc.loop (fun n X=> ∃s,X=(H s).st/\G s=some e/\μ s=n) (fun n X hX=> ?_) (n:=μ s) ⟨s,rfl,hs,rfl⟩;obtain⟨s,rfl,hs,rfl⟩:=hX;have hg:=hG s e hs;have hst:=hstep s;cases hB:B s with
 |none=>rw[hB] at hg; exact hg.elim
 |some l=>
  rw[hB] at hg hst;cases l with
  |inl s'=>
   simp only[ae,cZ] at hst;refine (FF hΘ hY hm c _ _ _ hc hL (hH s) hst).mono (fun x S' hx=> ?_);obtain⟨S1,rfl,h1,h2⟩:=hx
   have gO: ∃S2:TS,pK S1.st S2.st/\x= .nor/\S2=H s':=by
    unfold HX at h2;split at h2
    ·obtain⟨S2,k1,_,k2⟩:=tg h1 h2
     grind
    ·grind [tg]
   obtain⟨S2,k1,rfl,rfl⟩:=gO;exact⟨_,k1,μ s',hg.1,s',rfl,hg.2,rfl⟩
  |inr e'=>
   simp only[ae,c9] at hst;have hg:e'=e:=hg;subst hg;refine (FF hΘ hY hm c _ _ _ hc hL (hH s) hst).mono (fun x S' hx=> ?_);obtain⟨S1,rfl,h1,h2⟩:=hx
   have gO: ∃S2:TS,pK S1.st S2.st/\(x,S2)=E e':=by
    unfold HX at h2;split at h2
    ·grind [tg]
    ·grind [tg]
   grind
def NX (grow:List Jz) (keep:List Nat) (L:wE) {ε:Type} (E:ε->X×TS) (G:L.D->Option ε):TS->(ρ:Type)->(X->TS->Option ρ)->Option ρ:=
 fun S _ κ=>zF keep (wq grow S) fun S1=>L.un S1 fun s=>(G s).bind fun e=>κ (E e).1 (E e).2
theorem NY [dY] {c:Code} {grow:List Jz} {keep:List Nat} {L:wE} {ε:Type} {E:ε->X×TS} {G:L.D->Option ε} (hE: ∀e,(E e).2.ok)
  (h: ∀s e,G s=some e->qc P (.loop c) (L.mk' s).st (fun x S'=>x=(E e).1/\S'=(E e).2.st)) {S:TS} {ρ:Type} {κ:X->TS->Option ρ} {r:ρ} (hS:S.ok) (hk:NX grow keep L E G S ρ κ=some r):
  qc P (.loop c) S.st (fun x S'=> ∃S1:TS,S'=S1.st/\S1.ok/\κ x S1=some r):=by
 unfold NX at hk;obtain⟨h1,h2⟩:=xG grow hS;obtain⟨S1,h3,h4,hk⟩:=tg h2 hk;obtain⟨s,rfl,hk2⟩:=wE.un_some h4 hk;obtain⟨e,h5,hk3⟩:=ai.1 hk2;refine qc.weak (h1.trans h3) ((h s e h5).mono (fun x S' hx=> ?_));obtain⟨rfl,rfl⟩:=hx;exact⟨_,pK.refl,_,rfl,hE e,hk3⟩
end
end
section
open Go
abbrev nV.D:List Ty->Type
 | [] =>Unit
 |t::l=>t.D×nV.D l
def mJ: (l:List Ty)->nV.D l->List ((t:Ty)×t.D)
 | [],_=> []
 |t::l,x=>⟨t,x.1⟩::mJ l x.2
def Ct [dY] (P:Program) (f:FuncId) (e:MD):Prop:= ∀args ρ κ r,e args ρ κ=some r-> ∃res out,wM P f args res out/\res.ok (out.map some)/\κ res out=some r
theorem P6 [dY] (P:Program):lN P (DP []):=fun _ _ _ _ _ h=>by cases h
theorem NZ [dY] {P:Program} {f:FuncId} {e:MD} {l:List (Nat×MD)} (h:Ct P f e) (hl:lN P (DP l)):lN P (DP ((f,e)::l)):=by
 intro g args ρ κ r hr;have hr: (bif Nat.beq f g then e args ρ κ else RM l g args ρ κ)=some r:=hr;cases hb:Nat.beq f g with
 |true=>rw[hb] at hr;have:=ao hb;subst this;exact h args ρ κ r hr
 |false=>rw[hb] at hr;exact hl g args ρ κ r hr
def IP (as bs:List AV):Prop:=as.length=bs.length/\ ∀ (k:Nat) (a b:AV),as[k]? =some a->bs[k]? =some b->a=b\/(a= .em/\ ∃s,b= .ro s [])
theorem IP.refl (as:List AV):IP as as:=⟨rfl,fun k a b h1 h2=>by rw[h1] at h2; cases h2; exact .inl rfl⟩
theorem IP.cons {a b:AV} {as bs:List AV} (h:a=b\/(a= .em/\ ∃s,b= .ro s [])) (hn:IP as bs):IP (a::as) (b::bs):=
 ⟨by simp[hn.1],fun k x y h1 h2=>by
  cases k with
  |zero=>grind
  |succ k=>exact hn.2 k x y (by simpa using h1) (by simpa using h2)⟩
theorem IP.VR {as bs:List AV} (hn:IP as bs) {w:World} {bt:Bt} {vals:List Value} (h: ∀ (k:Nat) (v:AV) (u:Value),as[k]? =some v->vals[k]? =some u->VR w bt v u) (k:Nat) (v:AV) (u:Value) (hv:bs[k]? =some v) (hu:vals[k]? =some u):VR w bt v u:=by
 have hk:k<as.length:=by rw[hn.1]; exact (aj.1 hv).1
 have ha:=ah hk;have hx:=h k _ u ha hu;rcases hn.2 k _ v ha hv with e| ⟨e,s,rfl⟩
 ·rw[<-e]; exact hx
 ·rw[e] at hx;cases hx with
  |em b=>exact .ro (.em _ _ _)
theorem jI.norm [dY] {P:Program} {f:FuncId} {as bs:List AV} {gs:List T} {m:Nat} {res:AV} {out:List T} (hn:IP as bs) (h:jI P f bs gs m res out):jI P f as gs m res out:=
 fun w W bt0 vals hI hl hv=>h w W bt0 vals hI (hl.trans hn.1) (hn.VR hv)
theorem qZ.norm [dY] {P:Program} {f:FuncId} {as bs:List AV} {gs:List T} {res:AV} {out:List T} (hn:IP as bs) (h:qZ P f bs gs res out):qZ P f as gs res out:=jI.norm hn h
theorem un_some {ρ:Type} {t:Ty} {a:V1} {κ:t.D->Option ρ} {r:ρ} (h:un t a κ=some r): ∃x,a=KA t x/\κ x=some r:=by
 unfold un at h;split at h
 ·rename_i cs;obtain⟨h1,h⟩:=ej h;split at h
  ·rename_i xs hxs;split at h
   ·rename_i x hx;refine⟨x,?_,h⟩;unfold KA;rw[h1,t.unflat_some _ _ hx,zH hxs];rfl
   ·cases h
  ·cases h
 ·rename_i y;cases hag:t.ag with
  |true=>rw[hag] at h; cases h
  |false=>
   rw[hag] at h;simp only[cond_false] at h;split at h
   ·rename_i x hx;refine⟨x,?_,h⟩;unfold KA;rw[hag,t.unflat_some _ _ hx];rfl
   ·cases h
 ·cases h
theorem RU (t:Ty) (x:t.D): (KA t x).ok [] :=by
 unfold KA;cases t.ag with
 |true=>intro c hc;obtain⟨y,_,rfl⟩:=aM.1 hc;trivial
 |false=>
  simp only[cond_false];split
  ·rename_i c hc;have :c∈(t.flat x).map Cl.c:=by rw[hc]; exact aD.2 rfl
   obtain⟨y,_,rfl⟩:=aM.1 this;trivial
  ·trivial
theorem FJ (zf suf:List eT): ∀ (cs:List C) (mid:List eT),∀c∈xA cs (zf.length+mid.length),c.ok ((zf++mid++qA cs++suf).map some)
 | [],mid,c,h=>by cases h
 | .sc v::cs,mid,c,h=>by
   rcases aX.1 h with rfl|h
   ·trivial
   ·exact FJ zf suf cs mid c h
 | .ls t l::cs,mid,c,h=>by
   rcases aX.1 h with rfl|h
   ·refine⟨by simp[qA],fun _=>⟨rfl,rfl,fun tr htr=> ?_⟩⟩
    have :fW ((zf++mid++qA (.ls t l::cs)++suf).map some) (zf.length+mid.length)=some ⟨t,l,none⟩:=by unfold fW;rw[gv,ap,bF,bq (by simp)];simp[qA]
    have htr':fW ((zf++mid++qA (.ls t l::cs)++suf).map some) (zf.length+mid.length)=some tr:=htr;rw[this] at htr';cases htr';rfl
   ·have:=FJ zf suf cs (mid++ [⟨t,l,none⟩]) c (by rw[az,<-Nat.add_assoc]; exact h);simp only[qA];simpa using this
theorem P7 (t:Ty) (x:t.D) (zf suf:List eT): (LK t x zf.length).ok ((zf++qA (t.flat x)++suf).map some):=by
 have gO:=FJ zf suf (t.flat x) [];simp only[cd,bX,bT] at gO;unfold LK;cases t.ag with
 |true=>exact gO
 |false=>
  simp only[cond_false];split
  ·rename_i c hc;exact gO c (by rw[hc]; exact aD.2 rfl)
  ·trivial
theorem Cu: ∀ (l:List ((t:Ty)×t.D)) (zf:List eT),∀v∈wL zf.length l,v.ok ((zf++uM l).map some)
 | [],zf,v,h=>by cases h
 | ⟨t,x⟩::l,zf,v,h=>by
   rcases aX.1 h with rfl|h
   ·have:=P7 t x zf (uM l);simpa [uM] using this
   ·have:=Cu l (zf++qA (t.flat x)) v (by rw[az]; exact h);simpa [uM] using this
theorem JA (l:List ((t:Ty)×t.D)): (Fy (wL 0 l)).ok ((uM l).map some):=by
 have h:=Cu l [];simp only[cd,be] at h
 match wL 0 l,h with
 | [],_=>exact fun x hx=>by cases hx
 | [v],h=>exact h v aK
 |v::u::vs,h=>exact h
end
section
open Go
def Sh.fit (n:Nat):Sh->Bool| .own r _=>Nat.blt r n| .sub r _=>Nat.blt r n| .pt r _=>Nat.blt r n| _=>true
def zb.fit (n:Nat):zb->Bool| .cl s=>s.fit n| .agg l=>l.all (Sh.fit n)| .st _=>true| .fn _ l=>l.all (Sh.fit n)
def wE.fit (L:wE):Bool:=L.env.all (fun x=>x.2.fit L.gh.length)&&L.bx.all (fun l=>l.all (Sh.fit L.gh.length))
theorem sN.mk_length: ∀ (l:List Ty) (d:sN.D l),(sN.mk l d).length=l.length
 | [],_=>rfl
 |t::l,d=>by simp[sN.mk,sN.mk_length l d.2]
theorem Sh.mk_ok {G:List (Option eT)} {s:Sh} (h:s.fit G.length=true) (x:s.D): (s.mk G x).ok G:=by
 cases s with
 |own r t=>
  refine⟨ar h,fun _=>⟨rfl,rfl,fun tr htr=> ?_⟩⟩;unfold fW at htr;unfold RS;have htr': (o2 G r).getD none=some tr:=htr;cases hn:o2 G r with
  |none=>rw[hn] at htr'; cases htr'
  |some y=>grind
 |sub r t=>exact⟨ar h,fun e=>by cases e⟩
 |pt r w=>exact ar h
 | _=>trivial
theorem wo.mk_ok {G:List (Option eT)}: ∀ {l:List Sh},l.all (Sh.fit G.length)=true-> ∀ (x:wo.D l),∀c∈wo.mk G l x,c.ok G
 | [],_,x,c,hc=>by cases hc
 |s::l,h,x,c,hc=>by
  simp only[cy,al] at h;rcases aX.1 hc with rfl|hc
  ·exact Sh.mk_ok h.1 x.1
  ·exact wo.mk_ok h.2 x.2 c hc
theorem zb.mk_ok {G:List (Option eT)} {v:zb} (h:v.fit G.length=true) (x:v.D): (v.mk G x).ok G:=by
 cases v with
 |cl s=>exact Sh.mk_ok h x
 |agg l=>exact wo.mk_ok h x
 |st n=>intro c hc;obtain⟨y,_,rfl⟩:=aM.1 hc;trivial
 |fn f l=>exact wo.mk_ok h x
theorem wE.mk'_ok {L:wE} (h:L.fit=true) (d:L.D): (L.mk' d).ok:=by
 unfold wE.fit at h;simp only[al] at h;have hlen: (sN.mk L.gh d.2.2).length=L.gh.length:=sN.mk_length _ _;rw[<-hlen] at h
 have env: ∀ {l:List (Nat×zb)},l.all (fun x=>x.2.fit (sN.mk L.gh d.2.2).length)=true-> ∀ (e:DS.D l),∀x∈DS.mk (sN.mk L.gh d.2.2) l e,x.2.ok (sN.mk L.gh d.2.2):=by
  intro l
  induction l with
  |nil=>intro _ e x hx; cases hx
  |cons y l ih=>
   intro h e x hx;simp only[cy,al] at h;rcases aX.1 hx with rfl|hx
   all_goals grind [zb.mk_ok]
 have bxs: ∀ {l:List (List Sh)},l.all (fun l=>l.all (Sh.fit (sN.mk L.gh d.2.2).length))=true-> ∀ (e:DT.D l),∀cs∈DT.mk (sN.mk L.gh d.2.2) l e,∀c∈cs,c.ok (sN.mk L.gh d.2.2):=by
  intro l
  induction l with
  |nil=>intro _ e x hx; cases hx
  |cons y l ih=>
   intro h e x hx;simp only[cy,al] at h;rcases aX.1 hx with rfl|hx
   all_goals grind [wo.mk_ok]
 exact⟨env h.1 d.1,bxs h.2 d.2.1⟩
abbrev yw.D:List (X×wE)->Type
 | [] =>Empty
 | [x] =>x.2.D
 |x::y::l=>x.2.D⊕yw.D (y::l)
def yw.k {R:Type}: (l:List (X×wE))->yw.D l->(X->TS->R)->R
 | [],e,_=>e.elim
 | [x],d,κ=>κ x.1 (x.2.mk' d)
 |x::y::l,e,κ=>Sum.elim (fun d=>κ x.1 (x.2.mk' d)) (fun e=>yw.k (y::l) e κ) e
def yw.e (l:List (X×wE)) (d:yw.D l):X×TS:=yw.k l d Prod.mk
theorem yw.k_eq {R:Type}: ∀ (l:List (X×wE)) (d:yw.D l) (κ:X->TS->R),yw.k l d κ=κ (yw.e l d).1 (yw.e l d).2
 | [],e,_=>e.elim
 | [_],_,_=>rfl
 | _::_::_, .inl _,_=>rfl
 | _::y::l, .inr e,κ=>yw.k_eq (y::l) e κ
def S5 (x:X×wE):Bool:=(match x.1 with | .nor=>false| _=>true)&&x.2.fit
theorem yw.ok: ∀ (l:List (X×wE)) (d:yw.D l),l.all S5=true->(yw.e l d).1≠ .nor/\(yw.e l d).2.ok
 | [],e,_=>e.elim
 | [x],d,h=>by simp only[cy,al,S5] at h;refine⟨fun e=> ?_,wE.mk'_ok h.1.2 d⟩;have e:x.1= .nor:=e;rw[e] at h;cases h.1.1
 |x::_::_, .inl d,h=>by simp only[cy,al,S5] at h;refine⟨fun e=> ?_,wE.mk'_ok h.1.2 d⟩;have e:x.1= .nor:=e;rw[e] at h;cases h.1.1
 | _::y::l, .inr e,h=>yw.ok (y::l) e (by grind)
def N0 (grow:List Jz) (keep:List Nat) (L:wE) (exs:List (X×wE)) (G:L.D->Option (yw.D exs)):TS->(ρ:Type)->(X->TS->Option ρ)->Option ρ:=
 fun S _ κ=>zF keep (wq grow S) fun S1=>L.un S1 fun s=>(G s).bind fun e=>yw.k exs e κ
abbrev KX:=TS->(ρ:Type)->(X->TS->Option ρ)->Option ρ
def Cv:List (Nat×KX)->oa
 | [],_,_,_,_=>none
 | (q,e)::l,n,S,ρ,κ=>bif Nat.beq q n then e S ρ κ else Cv l n S ρ κ
section
variable {P:Program} {Θ:nD} {Y:ya} {Λ:oa}
def N1 [dY] (P:Program) (c:Code) (e:KX):Prop:= ∀ (S:TS) (ρ:Type) (κ:X->TS->Option ρ) (r:ρ),S.ok->e S ρ κ=some r->qc P (.loop c) S.st (fun x S'=> ∃S1:TS,S'=S1.st/\S1.ok/\κ x S1=some r)
theorem N2 [dY] (hΘ:gz P Θ) (hY:lN P Y) (hm:P.follows .mixedOrders=true) {c:Code} (hc:lW P c=true) (hL:jd P Λ (gg c)) (grow:List Jz) (keep keepX:List Nat) (L:wE) (exs:List (X×wE)) (hf: (L.fit&&exs.all S5)=true)
  (B:L.D->Option (L.D⊕yw.D exs)) (hB: ∀s,zz Θ Y Λ c (L.mk' s) (HX keep keepX fun x S=>some (x,S))=(B s).bind (Sum.elim (fun s'=>some (.nor,L.mk' s')) fun e=>some (yw.e exs e)))
  (G:L.D->Option (yw.D exs)) (μ:L.D->Nat) (hG: ∀s e,G s=some e->NW G μ s e (B s)):N1 P c (N0 grow keep L exs G):=by
 simp only[al] at hf;intro S ρ κ r hS hk;refine NY (E:=yw.e exs) (fun e=>(yw.ok exs e hf.2).2) (fun s e hs=>P5 hΘ hY hm hc hL (fun s=>wE.mk'_ok hf.1 s) hB (fun e=>(yw.ok exs e hf.2).1) hG hs) hS ?_ (grow:=grow) (keep:=keep)
 grind [NX,N0,yw.k_eq]
end
end
section
open Go
def P8 (P:Program) (e:TypeId->List Value->Bool):List Field->Nat->List Value->Bool
 | [],_,[] =>true
 | [],_,_::_=>false
 |f::fs,off,zs=>f.name != "_" &&Nat.beq f.offset off&&Nat.blt 0 (P.cellsOf f.type)&&Nat.ble (P.cellsOf f.type) zs.length&&(P.info? f.type).isSome&&e f.type (zs.take (P.cellsOf f.type))&&P8 P e fs (off+P.cellsOf f.type) (zs.drop (P.cellsOf f.type))
def HY (P:Program):Nat->TypeId->List Value->Bool
 | 0,_,_=>false
 |n+1,t,zs=>match P.underlying t with
  |some .bool=>(match zs with | [.bool _] =>true| _=>false)
  |some (.int _)=>(match zs with | [.int _ _] =>true| _=>false)
  |some (.struct fs)=> !P.stoodInHeld t&&P8 P (HY P n) fs.toList 0 zs
  | _=>false
def DU (P:Program) (t:TypeId) (xs:List Value):Value:=match P.underlying t with
 |some (.struct _)=> .agg xs.toArray
 | _=>xs.headD (.bool false)
def lO:List Value->List Value->Bool
 | [],[] =>true
 | .int k _::zs, .int k' _::cs=>bif decide (k=k') then lO zs cs else false
 | .bool _::zs, .bool _::cs=>lO zs cs
 | _,_=>false
def lX:List Value->List Value->Option Bool
 | [],[] =>some true
 |a::l,b::m=>match Ho a b,lX l m with
  |some x,some y=>some (x&&y)
  | _,_=>none
 | _,_=>none
theorem Cw: ∀ {zs xs:List Value},lR zs (xs.map fun x=> .c (.sc x))=true->lO zs xs=true:=by
 intro zs
 induction zs with
 |nil=>intro xs h; cases xs with
  |nil=>rfl
  |cons=>simp[lR] at h
 |cons z zs ih=>
  intro xs h;cases xs with
  |nil=>cases z<;>simp[lR] at h
  |cons x xs=>
   cases z<;>cases x<;>simp only[aW,lR,lO,cond_eq_ite,bc] at h ⊢
   ·exact ih h
   ·split at h
    ·rename_i hk;rw[if_pos hk];exact ih h
    ·cases h
theorem LY: ∀ {xs ys:List Value},wc (xs.map fun x=> .c (.sc x)) (ys.map fun x=> .c (.sc x))=lX xs ys:=by
 intro xs
 induction xs with
 |nil=>intro ys; cases ys<;>rfl
 |cons x xs ih=>
  intro ys;cases ys with
  |nil=>rfl
  |cons y ys=>simp only[aW,wc,lX,ih];cases Ho x y<;>cases lX xs ys<;>rfl
theorem qB: ∀ {zs xs:List Value},lO zs xs=true->xs.length=zs.length:=by
 intro zs
 induction zs with
 |nil=>intro xs h; cases xs with
  |nil=>rfl
  |cons=>simp[lO] at h
 |cons z zs ih=>
  intro xs h;cases xs with
  |nil=>cases z<;>simp[lO] at h
  |cons x xs=>
   cases z<;>cases x<;>simp only[lO,cond_eq_ite,bc] at h
   ·simp[ih h]
   ·split at h
    ·simp[ih h]
    ·cases h
theorem uo: ∀ {zs xs:List Value} (n:Nat),lO zs xs=true->lO (zs.take n) (xs.take n)=true/\lO (zs.drop n) (xs.drop n)=true:=by
 intro zs
 induction zs with
 |nil=>intro xs n h; cases xs with
  |nil=>simp[lO]
  |cons=>simp[lO] at h
 |cons z zs ih=>
  intro xs n h;cases xs with
  |nil=>cases z<;>simp[lO] at h
  |cons x xs=>
   cases n with
   |zero=>exact⟨rfl,h⟩
   |succ n=>
    cases z<;>cases x<;>simp only[lO,cond_eq_ite,bc] at h
    ·exact ih n h
    ·split at h
     ·rename_i hk;refine⟨?_,(ih n h).2⟩;simp only[List.take_succ_cons,lO,cond_eq_ite];rw[if_pos (by simpa using hk)];exact (ih n h).1
     ·cases h
theorem FK: ∀ {xs ys:List Value} (n:Nat) {r:Bool},lX xs ys=some r-> ∃a b,lX (xs.take n) (ys.take n)=some a/\lX (xs.drop n) (ys.drop n)=some b/\r=(a&&b):=by
 intro xs
 induction xs with
 |nil=>intro ys n r h; cases ys with
  |nil=>cases h; exact⟨true,true,by simp[lX],by simp[lX],rfl⟩
  |cons=>simp[lX] at h
 |cons x xs ih=>
  intro ys n r h;cases ys with
  |nil=>simp[lX] at h
  |cons y ys=>
   cases n with
   |zero=>exact⟨true,r,rfl,h,rfl⟩
   |succ n=>
    simp only[lX] at h;split at h
    ·rename_i p q hp hq;cases h;obtain⟨a,b,h1,h2,rfl⟩:=ih n hq;exact⟨p&&a,b,by simp[lX,hp,h1],h2,by cases p<;>rfl⟩
    ·cases h
theorem FL {P:Program} {t:TypeId} {i:TypeInfo} (h:P.info? t=some i):eK P (typeInfo t)=some i:=by simp only[typeInfo,eH,program,eK,ae,h];rfl
theorem HZ {P:Program} {t:TypeId} {i:TypeInfo} (hi:P.info? t=some i) {d:TypeDesc} (hd:P.underlying t=some d) (hs: ∀n e,d≠ .array n e) {xs:List Value} {off:Nat} {c:Value} (hc:xs[off]? =some c):
  eK P (part t xs.toArray off)=some (DU P t ((xs.drop off).take (P.cellsOf t)))\/P.cellsOf t=0:=by
 by_cases h0:P.cellsOf t=0
 ·exact .inr h0
 refine .inl ?_;have hcell:P.cellsOf t=i.size:=by simp[Program.cellsOf,hi]
 cases hst: (match d with | .struct _=>true| _=>false) with
 |true=>
  have hag:eK P (isAgg t)=some true:=by simp only[isAgg,eH,fG hd,ae];cases d<;>simp at hst;rfl
  simp only[part,sizeOf,eH,hag,ae,if_true,FL hi,eU,DU,hd];cases d<;>simp at hst;simp[hcell,Nat.add_sub_cancel_left]
 |false=>
  have hag:eK P (isAgg t)=some false:=by
   simp only[isAgg,eH,fG hd,ae];cases d<;>simp at hst
   all_goals first |rfl|exact absurd rfl (hs _ _)
  have hv:DU P t ((xs.drop off).take (P.cellsOf t))=c:=by
   have : ((xs.drop off).take (P.cellsOf t)).headD (.bool false)=c:=by
    obtain⟨n,hn⟩: ∃n,P.cellsOf t=n+1:=⟨P.cellsOf t-1,by omega⟩
    have h1:off<xs.length:=(aj.1 hc).1;rw[hn,bO h1,List.take_succ_cons];exact (aj.1 hc).2
   unfold DU;rw[hd];cases d<;>first |exact this|simp at hst
  rw[hv];simp only[part,eH,hag,ae,bc,if_false];have :xs.toArray[off]? =some c:=by simpa using hc
  rw[this];rfl
theorem KY (P:Program): ∀ (n:Nat) {t:TypeId} {zs xs ys:List Value} {r:Bool} (d:Nat),HY P n t zs=true->lO zs xs=true->lO zs ys=true->lX xs ys=some r->eK P (Op.equalIn (n+d) t (DU P t xs) (DU P t ys))=some r
 | 0,t,zs,xs,ys,r,d,h,_,_,_=>by cases h
 |n+1,t,zs,xs,ys,r,d,h,hx,hy,he=>by
  have hn:n+1+d=(n+d)+1:=by omega
  rw[hn];unfold HY at h;cases hu:P.underlying t with
  |none=>rw[hu] at h; cases h
  |some D=>
   rw[hu] at h;cases D<;>simp only[bc] at h
   case bool=>
    split at h
    case h_2=>cases h
    obtain⟨x,rfl⟩: ∃x,xs= [.bool x] :=by
     match xs,hx with
     | [.bool x],_=>exact⟨x,rfl⟩
    obtain⟨y,rfl⟩: ∃y,ys= [.bool y] :=by
     match ys,hy with
     | [.bool y],_=>exact⟨y,rfl⟩
    simp only[lX,Ho,dw,af] at he;subst he;simp only[DU,hu,List.headD_cons];rw[Op.equalIn];simp only[eH,fG hu,ae,eU]
   case int k=>
    split at h
    case h_2=>cases h
    rename_i k0 _
    obtain⟨x,rfl⟩: ∃x,xs= [.int k0 x] :=by
     match xs,hx with
     | [.int k1 x],hx=>
       simp only[lO,cond_eq_ite] at hx;split at hx
       ·rename_i hk; simp at hk; subst hk; exact⟨x,rfl⟩
       ·cases hx
     | .int _ _::_::_,hx=>simp[lO] at hx
    obtain⟨y,rfl⟩: ∃y,ys= [.int k0 y] :=by
     match ys,hy with
     | [.int k1 x],hx=>
       simp only[lO,cond_eq_ite] at hx;split at hx
       ·rename_i hk; simp at hk; subst hk; exact⟨x,rfl⟩
       ·cases hx
     | .int _ _::_::_,hx=>simp[lO] at hx
    simp only[lX,Ho,dw,af] at he;subst he;simp only[DU,hu,List.headD_cons];rw[Op.equalIn];simp only[eH,fG hu,ae,eU,if_true]
   case struct fs=>
    simp only[al,b8] at h;obtain⟨hst,h⟩:=h;simp only[DU,hu]
    have gO: ∀ (fs:List Field) (off:Nat) (zs:List Value) (r:Bool),P8 P (HY P n) fs off zs=true->lO zs (xs.drop off)=true->lO zs (ys.drop off)=true->lX (xs.drop off) (ys.drop off)=some r->
      eK P (Op.eqFields (n+d) xs.toArray ys.toArray fs)=some r:=by
     intro fs
     induction fs with
     |nil=>
      intro off zs r h hx hy he;cases zs with
      |nil=>have h1:=qB hx;have h2:=qB hy;simp only[cd,da] at h1 h2;rw[h1,h2] at he;cases he;rfl
      |cons=>cases h
     |cons f fs ih=>
      intro off zs r h hx hy he;simp only[P8,al,bne_iff_ne,ne_eq] at h;obtain⟨⟨⟨⟨⟨⟨hname,hoff⟩,hpos⟩,hle⟩,hi⟩,h1⟩,h2⟩:=h;have hoff:=ao hoff;have hpos:0<P.cellsOf f.type:=ar hpos;have hle:P.cellsOf f.type<=zs.length:=ar hle;have hlx:=qB hx;have hly:=qB hy;rw[bg] at hlx hly;obtain⟨i,hi⟩:=bA.1 hi
      have hu': ∃D,P.underlying f.type=some D/\ ∀n e,D≠ .array n e:=by
       cases hun:P.underlying f.type with
       |none=>cases n<;>simp[HY,hun] at h1
       |some D=>refine⟨D,rfl,fun k e he=> ?_⟩; subst he; cases n<;>simp[HY,hun] at h1
      obtain⟨D,hD,hDa⟩:=hu';have px:=HZ hi hD hDa (xs:=xs) (off:=off) (ah (by omega));have py:=HZ hi hD hDa (xs:=ys) (off:=off) (ah (by omega));have px:=px.resolve_right (by omega);have py:=py.resolve_right (by omega);obtain⟨a,b,ha,hb,rfl⟩:=FK (P.cellsOf f.type) he;have hA:=KY P n d h1 (uo _ hx).1 (uo _ hy).1 ha;rw[Op.eqFields,if_pos hname];simp only[hoff,eH,px,py,ae,hA];cases a with
      |false=>rfl
      |true=>
       simp only[bC,bc,if_false,dC];simp only[cr] at hb;refine ih _ _ _ h2 ?_ ?_ hb
       ·have:=(uo (P.cellsOf f.type) hx).2; rw[cr] at this; exact this
       ·have:=(uo (P.cellsOf f.type) hy).2; rw[cr] at this; exact this
    have:=gO fs.toList 0 zs r h (by simpa using hx) (by simpa using hy) (by simpa using he);rw[<-this];rw[Op.equalIn];simp only[eH,fG hu,ae,program,eK,hst,bc,if_false];rw[<-Array.forIn_toList];generalize fs.toList=fs;clear this gO h hu hst hn
    induction fs with
    |nil=>rfl
    |cons f fs ih=>
     simp only[List.forIn_cons,Op.eqFields];split
     ·simp only[eH];cases eK P (part f.type xs.toArray f.offset) with
      |none=>rfl
      |some a=>
       cases eK P (part f.type ys.toArray f.offset) with
       |none=>rfl
       |some b=>
        simp only[ae];cases eK P (Op.equalIn (n+d) f.type a b) with
        |none=>rfl
        |some q=>
         cases q
         ·rfl
         ·simp only[ae,bC,bc,if_false,eU];simpa only[eH,Option.bind_assoc] using ih
     ·simp only[eH,eU,ae];simpa only[eH,Option.bind_assoc] using ih
theorem S6 {P:Program} {t:TypeId} {zs:List Value} {fs:Array Field} (hu:P.underlying t=some (.struct fs)) (h:HY P 8 t zs=true) (a b:List Cl) (r:Bool) (xs ys:List Value) (ha:lR zs a=true) (hb:lR zs b=true) (he:wc a b=some r) (hx:a=xs.map (fun x=> .c (.sc x))) (hy:b=ys.map (fun x=> .c (.sc x))):
  eK P (Op.equal t (.agg xs.toArray) (.agg ys.toArray))=some r:=by
 subst hx hy;have:=KY P 8 9992 h (Cw ha) (Cw hb) (by rw[<-LY]; exact he);unfold DU at this;rw[hu] at this;exact this
end
section
open Go
def T6 (P:Program):List Field->Option (List (Nat×Nat×Bool))
 | [] =>some []
 |f::fs=>match Dz P f.type,T6 P fs with
  |some ag,some l=>some ((f.offset,P.cellsOf f.type,ag)::l)
  | _,_=>none
def Uf (P:Program) (t:TypeId):Option (List (Nat×Nat×Bool)):=match P.underlying t with |some (.struct fs)=>T6 P fs.toList| _=>none
theorem KZ {P:Program}: ∀ {fs:List Field} {l:List (Nat×Nat×Bool)},T6 P fs=some l-> ∀k,(fs[k]?).bind (fun f=>(Dz P f.type).map fun ag=>(f.offset,P.cellsOf f.type,ag))=o2 l k
 | [],l,h,k=>by cases h; rfl
 |f::fs,l,h,k=>by
  unfold T6 at h;split at h
  ·rename_i ag l' h1 h2;cases h;cases k with
   |zero=>simp[h1,o2]
   |succ k=>show _=o2 l' (k+1-1);rw[bZ,<-KZ h2 k,cG]
  ·cases h
theorem P9 {P:Program} {t:TypeId} {l:List (Nat×Nat×Bool)} (h:Uf P t=some l) (k:Nat):MB P t k=o2 l k:=by
 unfold Uf at h;unfold MB;split at h
 ·rename_i fs hu;simp only[hu];rw[<-KZ h k,cM]
 ·cases h
theorem Qa (P:Program):gz P [] :=fun _ _ h=>by cases h
theorem fi {P:Program} {t:Nat} {ti:TI} {l:nD} (h:ti.ok P t) (hl:gz P l):gz P ((t,ti)::l):=by
 intro u ui hu;unfold lQ at hu;cases hb:Nat.beq t u with
 |true=>rw[hb] at hu;have:=ao hb;subst this;cases hu;exact h
 |false=>rw[hb] at hu;exact hl u ui hu
def S7 (P:Program) (t:TypeId):Bool:=match P.underlying t with |some (.struct _)=>true| _=>false
section
variable {P:Program} {t:TypeId}
theorem th {n:Sn} {fds:List (Nat×Nat×Bool)} {by':Nat} (h1:S7 P t=true) (h2:P.cellsOf t=(Ty.st n).width) (h3:nU P 9 t=(Ty.st n).shs) (h4:za P t=some (Ty.st n).zvs) (h5:Uf P t=some fds)
  (h6:SH P t=some (fds.map fun x=>(x.1,x.2.1))) (h7: ((Ty.st n).flatB=true->P.eqGuardType P.depth t=false/\HY P 8 t (Ty.st n).zvs=true)) (hz: (Ty.st n).flatB=false-> ∀xs:List Value,lR (Ty.st n).zvs (xs.map fun x=> .c (.sc x))=false):TI.ok P t ⟨.st n,0,fds,by'⟩:=by
 unfold S7 at h1;split at h1
 case h_2=>cases h1
 rename_i fs hu;refine⟨?_,h2,h3,h4,P9 h5,fun _=>h6,fun e he=>(by cases he),fun hb=>(by cases hb),fun _ hf=>(h7 hf).1,fun _ a b r xs ys ha hb he hx hy=> ?_,?_,fun k hk=>(by cases hk),fun k u hk=>(by cases hk)⟩
 ·simp[Dz,hu,Ty.ag]
 ·cases hf: (Ty.st n).flatB with
  |true=>exact S6 hu (h7 hf).2 a b r xs ys ha hb he hx hy
  |false=>subst hx;have:=hz hf xs;rw[show lR (Ty.st n).zvs _=true from ha] at this;cases this
 ·simp[zd,hu]
def UK (P:Program) (u:TypeId):Ty->Bool| .i k=>(match P.underlying u with |some (.int k')=>decide (k'=k)| _=>false)| _=>true
theorem wN {e:Ty} {el:Nat} {by':Nat} {u:TypeId} (h1:tZ P t=some u) (h2:P.cellsOf t=1) (h4:za P t=some [.slice none 0 0]) (h5:P.cellsOf u=e.width) (h6:P.bytesOf u=el) (h7:Nat.blt 0 el=true) (h8:nU P 9 u=e.shs) (h9:za P u=some e.zvs) (h10:UK P u e=true):TI.ok P t ⟨.ls e,el,[],by'⟩:=by
 have hu:P.underlying t=some (.slice u):=by
  unfold tZ at h1;split at h1
  ·rename_i e hu; cases h1; exact hu
  ·cases h1
 refine⟨?_,h2,?_,h4,fun k=> ?_,fun h=>(by cases h),fun e' he=> ?_,fun hb=>(by cases hb),fun h=>(by cases h),fun h=>(by cases h),?_,fun k hk=>(by cases hk),fun k u' hk hu'=> ?_⟩
 ·simp[Dz,hu,Ty.ag]
 ·simp[nU,hu,Ty.shs,Ty.csh,h5]
 ·simp[MB,hu,o2]
 ·cases he;exact⟨u,h1,h5,h6,ar h7,h8,h9⟩
 ·simp[zd,hu]
 ·cases hk;rw[h1] at hu';cases hu';unfold UK at h10;simp only at h10;split at h10
  ·rename_i k' hk';rw[hk',of_decide_eq_true h10]
  ·cases h10
def UL (P:Program) (t:TypeId) (y:Ty):Bool:=match P.underlying t,y with
 |some (.int k), .i k'=>decide (k=k')
 |some .bool, .b=>true
 |some .string, .s=>true
 | _,_=>false
theorem wO {y:Ty} {by':Nat} (h1:UL P t y=true) (h2:P.cellsOf t=1) (h4:za P t=some y.zvs):TI.ok P t ⟨y,0,[],by'⟩:=by
 unfold UL at h1;split at h1
 ·rename_i k k' hu;refine⟨(by simp[Dz,hu,Ty.ag]),h2,(by simp[nU,hu,Ty.shs,Ty.csh]),h4,fun k=>(by simp[MB,hu,o2]),fun h=>(by cases h),fun e' he=>(by cases he),fun hb=>(by cases hb),fun h=>(by cases h),fun h=>(by cases h),by simp[zd,hu],fun q hq=>(by cases hq; rw[hu]; simp only[decide_eq_true_eq] at h1; rw[h1]),fun k u hk=>(by cases hk)⟩
 ·rename_i hu;refine⟨(by simp[Dz,hu,Ty.ag]),h2,(by simp[nU,hu,Ty.shs,Ty.csh]),h4,fun k=>(by simp[MB,hu,o2]),fun h=>(by cases h),fun e' he=>(by cases he),fun hb=>hu,fun h=>(by cases h),fun h=>(by cases h),by simp[zd,hu],fun q hq=>(by cases hq),fun k u hk=>(by cases hk)⟩
 ·rename_i hu;refine⟨(by simp[Dz,hu,Ty.ag]),h2,(by simp[nU,hu,Ty.shs,Ty.csh]),h4,fun k=>(by simp[MB,hu,o2]),fun h=>(by cases h),fun e' he=>(by cases he),fun hb=>(by cases hb),fun h=>(by cases h),fun h=>(by cases h),by simp[zd,hu],fun q hq=>(by cases hq),fun k u hk=>(by cases hk)⟩
 ·cases h1
end
theorem nr: ∀ {zs:List Value} (xs:List Value),zs.any (fun z=>match z with | .int _ _=>false| .bool _=>false| _=>true)=true->lR zs (xs.map fun x=> .c (.sc x))=false
 | [],xs,h=>by cases h
 |z::zs,xs,h=>by
  cases hb:lR (z::zs) (xs.map fun x=> .c (.sc x)) with
  |false=>rfl
  |true=>
   exfalso;cases xs with
   |nil=>cases z<;>simp[lR] at hb
   |cons x xs=>
    cases z<;>simp only[lR,aW,bc] at hb
    all_goals cases x<;>simp only[lR,cond_eq_ite,bc] at hb
    ·rw[nr xs (by simpa using h)] at hb; cases hb
    ·split at hb
     ·rw[nr xs (by simpa using h)] at hb; cases hb
     ·cases hb
end
section
open Go
section
variable {σ ε:Type}
def xH (B:σ->Option (σ⊕ε)):Nat->σ->Option ε
 | 0,_=>none
 |n+1,s=>(B s).bind (Sum.elim (xH B n) some)
theorem zI (B:σ->Option (σ⊕ε)): ∀ {n m:Nat} {s:σ} {e:ε},n<=m->xH B n s=some e->xH B m s=some e
 | 0,_,_,_,_,h=>by cases h
 |n+1,0,_,_,hm,_=>by omega
 |n+1,m+1,s,e,hm,h=>by
  unfold xH at h ⊢;cases hB:B s with
  |none=>rw[hB] at h; cases h
  |some x=>
   rw[hB] at h;cases x with
   |inl s'=>exact zI B (by omega) h
   |inr e'=>exact h
theorem FM {p:Nat->Prop} (h: ∃n,p n): ∃n,p n/\ ∀m,p m->n<=m:=by
 obtain⟨n,hn⟩:=h
 induction n using Nat.strongRecOn with
 | _ n ih=>
   by_cases hx: ∃m,m<n/\p m
   ·obtain⟨m,hm,hp⟩:=hx;exact ih m hm hp
   ·exact⟨n,hn,fun m hm=>Nat.le_of_not_lt fun hlt=>hx ⟨m,hlt,hm⟩⟩
noncomputable def ii (B:σ->Option (σ⊕ε)) (s:σ):Option ε:=open Classical in if h: ∃n,(xH B n s).isSome=true then xH B (Classical.choose h) s else none
noncomputable def RV (B:σ->Option (σ⊕ε)) (s:σ):Nat:=open Classical in if h: ∃n,(xH B n s).isSome=true then Classical.choose (FM h) else 0
theorem vr {B:σ->Option (σ⊕ε)} {s:σ} {e:ε}:ii B s=some e↔ ∃n,xH B n s=some e:=by
 classical
 constructor
 ·intro h;unfold ii at h;split at h
  ·rename_i hx;exact⟨_,h⟩
  ·cases h
 ·rintro⟨n,h⟩
  have hx: ∃n,(xH B n s).isSome=true:=⟨n,by rw[h]; rfl⟩
  unfold ii;rw[dif_pos hx];obtain⟨e',he⟩:=bA.1 (Classical.choose_spec hx);have h1:=zI B (Nat.le_max_left (Classical.choose hx) n) he;have h2:=zI B (Nat.le_max_right (Classical.choose hx) n) h;rw[h1] at h2;cases h2;exact he
theorem ri (B:σ->Option (σ⊕ε)) (s:σ):ii B s=(B s).bind (Sum.elim (ii B) some):=by
 apply Option.ext;intro e;rw[vr];constructor
 ·rintro⟨n,h⟩
  cases n with
  |zero=>cases h
  |succ n=>
   unfold xH at h;cases hB:B s with
   |none=>rw[hB] at h; cases h
   |some x=>
    rw[hB] at h;cases x with
    |inl s'=>exact vr.2 ⟨n,h⟩
    |inr e'=>exact h
 ·intro h;cases hB:B s with
  |none=>rw[hB] at h; cases h
  |some x=>
   rw[hB] at h;cases x with
   |inl s'=>obtain⟨n,h⟩:=vr.1 (show ii B s'=some e from h);exact⟨n+1,by unfold xH; rw[hB]; exact h⟩
   |inr e'=>exact⟨1,by unfold xH; rw[hB]; exact h⟩
theorem LZ (B:σ->Option (σ⊕ε)) (s:σ) (e:ε) (h:ii B s=some e):NW (ii B) (RV B) s e (B s):=by
 classical
 have h0:=h;rw[ri] at h;cases hB:B s with
 |none=>rw[hB] at h; cases h
 |some x=>
  rw[hB] at h;cases x with
  |inl s'=>
   refine⟨?_,h⟩
   have hx: ∃n,(xH B n s).isSome=true:=by obtain⟨n,hn⟩:=vr.1 h0;exact⟨n,by rw[hn]; rfl⟩
   have hx': ∃n,(xH B n s').isSome=true:=by obtain⟨n,hn⟩:=vr.1 (show ii B s'=some e from h);exact⟨n,by rw[hn]; rfl⟩
   unfold RV;rw[dif_pos hx,dif_pos hx'];have:=(Classical.choose_spec (FM hx)).1;cases hn:Classical.choose (FM hx) with
   |zero=>rw[hn] at this; cases this
   |succ n=>rw[hn] at this;unfold xH at this;rw[hB] at this;exact Nat.lt_succ_of_le ((Classical.choose_spec (FM hx')).2 n this)
  |inr e'=>exact (Option.some.inj h)
end
inductive wt where
 |ty (t:Ty)|pr (t:Ty)|fc (g:Nat)|fn (g:Nat) (caps:List Ty)|nl
abbrev wt.D:wt->Type
 | .ty t=>t.D
 | .pr t=>t.D
 | .fc _=>Unit
 | .fn _ caps=>nV.D caps
 | .nl=>Unit
abbrev o3.D:List wt->Type
 | [] =>Unit
 |p::l=>p.D×o3.D l
def FN: (l:List Ty)->nV.D l->List Cl
 | [],_=> []
 |t::l,x=> .pro (t.flat x.1)::FN l x.2
def wt.v1: (p:wt)->p.D->V1
 | .ty t,x=>KA t x
 | .pr t,x=> .cl (.pro (t.flat x))
 | .fc g,_=> .cl (.c (.sc (.func (.func g) #[] #[])))
 | .fn g caps,x=> .fn g (FN caps x)
 | .nl,_=> .cl .em
def mE: (l:List wt)->o3.D l->List V1
 | [],_=> []
 |p::l,x=>p.v1 x.1::mE l x.2
def Qb {ρ:Type} (t:Ty) (c:Cl) (κ:t.D->Option ρ):Option ρ:=match c with
 | .pro xs=>(match t.unflat xs with |some x=>κ x|none=>none)
 | _=>none
def zJ {ρ:Type}: (l:List Ty)->List Cl->(nV.D l->Option ρ)->Option ρ
 | [],[],κ=>κ ()
 |t::l,c::cs,κ=>Qb t c fun x=>zJ l cs fun y=>κ (x,y)
 | _,_,_=>none
def Ug {ρ:Type}: (t:Ty)->V1->(t.D->Option ρ)->Option ρ
 | .ls _, .cl .em,κ=>κ []
 |t,a,κ=>un t a κ
def Uh {ρ:Type}: (p:wt)->V1->(p.D->Option ρ)->Option ρ
 | .ty t,a,κ=>Ug t a κ
 | .pr t, .cl c,κ=>Qb t c κ
 | .fc g, .cl (.c (.sc (.func (.func g') cs ts))),κ=>bif Nat.beq g' g&&Nat.beq cs.size 0&&Nat.beq ts.size 0 then κ () else none
 | .fn g caps, .fn g' cs,κ=>bif Nat.beq g' g then zJ caps cs κ else none
 | .nl, .cl .em,κ=>κ ()
 | _,_,_=>none
def FO {ρ:Type}: (l:List wt)->List V1->(o3.D l->Option ρ)->Option ρ
 | [],[],κ=>κ ()
 |p::l,a::as,κ=>Uh p a fun x=>FO l as fun y=>κ (x,y)
 | _,_,_=>none
def L0 (ps:List wt) (rs:List Ty) (G:o3.D ps->Option (nV.D rs)):MD:=fun args _ κ=>FO ps args fun x=>(G x).bind fun y=>ret (mJ rs y) κ
theorem EU {ρ:Type} {t:Ty} {c:Cl} {κ:t.D->Option ρ} {r:ρ} (h:Qb t c κ=some r): ∃x,c= .pro (t.flat x)/\κ x=some r:=by
 unfold Qb at h;split at h
 ·split at h
  ·rename_i x hx;exact⟨x,by rw[t.unflat_some _ _ hx],h⟩
  ·cases h
 ·cases h
theorem Au {ρ:Type}: ∀ {l:List Ty} {cs:List Cl} {κ:nV.D l->Option ρ} {r:ρ},zJ l cs κ=some r-> ∃x,cs=FN l x/\κ x=some r
 | [],[],κ,r,h=>⟨(),rfl,h⟩
 |t::l,c::cs,κ,r,h=>by unfold zJ at h;obtain⟨x,h1,h⟩:=EU h;obtain⟨y,h2,h⟩:=Au h;exact⟨(x,y),by rw[h1,h2]; rfl,h⟩
 | [],_::_,κ,r,h=>by simp[zJ] at h
 | _::_,[],κ,r,h=>by simp[zJ] at h
theorem N3 {ρ:Type} {t:Ty} {a:V1} {κ:t.D->Option ρ} {r:ρ} (h:Ug t a κ=some r): ∃x,(a.av=(KA t x).av\/(a.av= .em/\ ∃s,(KA t x).av= .ro s []))/\κ x=some r:=by
 unfold Ug at h;split at h
 ·exact⟨[], .inr ⟨rfl,_,rfl⟩,h⟩
 ·obtain⟨x,e,h'⟩:=un_some h;exact⟨x, .inl (by rw[e]),h'⟩
theorem N4 {ρ:Type} {p:wt} {a:V1} {κ:p.D->Option ρ} {r:ρ} (h:Uh p a κ=some r): ∃x,(a.av=(p.v1 x).av\/(a.av= .em/\ ∃s,(p.v1 x).av= .ro s []))/\κ x=some r:=by
 unfold Uh at h;split at h
 ·exact N3 h
 ·obtain⟨x,h1,h⟩:=EU h;exact⟨x, .inl (by rw[h1]; rfl),h⟩
 ·obtain⟨h1,h⟩:=ej h;simp only[al] at h1;obtain⟨⟨h1,h2⟩,h3⟩:=h1;have h1:=ao h1;have h2:=cE (ao h2);have h3:=cE (ao h3);exact⟨(), .inl (by rw[h1,h2,h3]; rfl),h⟩
 ·obtain⟨h1,h⟩:=ej h;obtain⟨x,h2,h⟩:=Au h;exact⟨x, .inl (by rw[ao h1,h2]; rfl),h⟩
 ·exact⟨(), .inl rfl,h⟩
 ·cases h
theorem nE {ρ:Type}: ∀ {l:List wt} {as:List V1} {κ:o3.D l->Option ρ} {r:ρ},FO l as κ=some r-> ∃x,IP (as.map V1.av) ((mE l x).map V1.av)/\κ x=some r
 | [],[],κ,r,h=>⟨(),IP.refl _,h⟩
 |p::l,a::as,κ,r,h=>by unfold FO at h;obtain⟨x,h1,h⟩:=N4 h;obtain⟨y,h2,h⟩:=nE h;exact⟨(x,y),IP.cons h1 h2,h⟩
 | [],_::_,κ,r,h=>by simp[FO] at h
 | _::_,[],κ,r,h=>by simp[FO] at h
theorem EV (G:List (Option eT)): ∀ (l:List Ty) (x:nV.D l),∀c∈FN l x,c.ok G
 | [],x,c,h=>by cases h
 |t::l,x,c,h=>by
  rcases aX.1 h with rfl|h
  ·trivial
  ·exact EV G l x.2 c h
theorem wt.ok (p:wt) (x:p.D): (p.v1 x).ok [] :=by
 cases p with
 |ty t=>exact RU t x
 |pr t=>trivial
 |fc g=>trivial
 |fn g caps=>exact EV [] caps x
 |nl=>trivial
theorem tj: ∀ (l:List wt) (x:o3.D l),∀a∈mE l x,a.ok []
 | [],x,a,h=>by cases h
 |p::l,x,a,h=>by
  rcases aX.1 h with rfl|h
  ·exact p.ok x.1
  ·exact tj l x.2 a h
section
theorem Qc [dY] {P:Program} {Θ:nD} {Y:ya} {Λ:oa} (hΘ:gz P Θ) (hY:lN P Y) (hm:P.follows .mixedOrders=true) {f:FuncId} {fn:Func} (hf:GD P f=some fn) (hL: ∀c,fn.body=some c->jd P Λ (gg c)) {ps:List wt} {rs:List Ty} {G:o3.D ps->Option (nV.D rs)} (hk:Nat.blt f 1048576=true)
  (F:o3.D ps->Option (nV.D rs)) (hF: ∀x,T4 Θ Y Λ fn (mE ps x) (fun v g=>some (v,g))=(F x).bind fun y=>ret (mJ rs y) (fun v g=>some (v,g))) (hG: ∀x y,G x=some y->F x=some y):Ct P f (L0 ps rs G):=by
 intro args ρ κ r hr;unfold L0 at hr;obtain⟨x,hn,hr2⟩:=nE hr;obtain⟨y,h1,hr3⟩:=ai.1 hr2;exact⟨_,_, .of_fn (qZ.norm hn (RQ hΘ hY hm hf hL (tj ps x) (by rw[hF,hG x y h1]; rfl))) (ar hk),JA _,hr3⟩
def RX (el:Ty) (ps:List wt) (rs:List Ty) (G:List el.D->o3.D ps->Option (nV.D rs)):MD:=fun args _ κ=>match args with
 | .cl (.c (.ls t l))::as=>(match vk t el l with
   |some l=>FO ps as fun x=>(G l x).bind fun y=>ret (mJ rs y) κ
   |none=>none)
 | _=>none
def N5 {ρ:Type} (el:Ty) (rs:List Ty) (y:List el.D×nV.D rs) (κ:V->List eT->Option ρ):Option ρ:=κ (Fy (wL 1 (mJ rs y.2))) (⟨el,y.1,none⟩::uM (mJ rs y.2))
def H0 (el:Ty) (ps:List wt) (rs:List Ty) (G:List el.D->o3.D ps->Option (List el.D×nV.D rs)):MD:=fun args _ κ=>match args with
 | .cl (.c (.ls t l))::as=>(match vk t el l with
   |some l=>FO ps as fun x=>(G l x).bind fun y=>N5 el rs y κ
   |none=>none)
 | _=>none
theorem Qd [dY] {P:Program} {Θ:nD} {Y:ya} {Λ:oa} {f:FuncId} (hk:Nat.blt f 1048576=true) (hΘ:gz P Θ) (hY:lN P Y) (hm:P.follows .mixedOrders=true) {fn:Func} (hf:GD P f=some fn) (hL: ∀c,fn.body=some c->jd P Λ (gg c)) {el:Ty} {ps:List wt} {rs:List Ty} {G:List el.D->o3.D ps->Option (nV.D rs)}
  (F:List el.D->o3.D ps->Option (nV.D rs)) (hF: ∀l x,Nj Θ Y Λ fn 0 el l (mE ps x) (fun v g=>some (v,g))=(F l x).bind fun y=>ret (mJ rs y) (fun v g=>some (v,g))) (hG: ∀l x y,G l x=some y->F l x=some y):Ct P (DN f) (RX el ps rs G):=by
 intro args ρ κ r hr;unfold RX at hr;split at hr
 ·rename_i t l as;split at hr
  ·rename_i l' hl;obtain⟨e,hl⟩:=ia hl;subst e;have hl:l=l':=hl;subst hl;obtain⟨x,hn,hr2⟩:=nE hr;obtain⟨y,h1,hr3⟩:=ai.1 hr2;exact⟨_,_, .of_mv ⟨.ls _,l,_,rfl,jI.norm (IP.cons (.inl rfl) hn) (KR hΘ hY hm hf hL (aA 1) (tj ps x) (by rw[hF,hG l x y h1]; rfl))⟩ (ar hk),JA _,hr3⟩
  ·cases hr
 ·cases hr
theorem FP (el:Ty) (l:List el.D) (ys:List ((t:Ty)×t.D)): (Fy (wL 1 ys)).ok ((⟨el,l,none⟩::uM ys).map some):=by
 have h:=Cu ys [⟨el,l,none⟩];simp only[aB,List.singleton_append] at h
 match wL 1 ys,h with
 | [],_=>exact fun x hx=>by cases hx
 | [v],h=>exact h v aK
 |v::u::vs,h=>exact h
theorem Qe [dY] {P:Program} {Θ:nD} {Y:ya} {Λ:oa} (hΘ:gz P Θ) (hY:lN P Y) (hm:P.follows .mixedOrders=true) {f:FuncId} {fn:Func} (hf:GD P f=some fn) (hL: ∀c,fn.body=some c->jd P Λ (gg c)) {el:Ty} {ps:List wt} {rs:List Ty} {G:List el.D->o3.D ps->Option (List el.D×nV.D rs)} (hk:Nat.blt f 1048576=true)
  (F:List el.D->o3.D ps->Option (List el.D×nV.D rs)) (hF: ∀l x,Nj Θ Y Λ fn 1 el l (mE ps x) (fun v g=>some (v,g))=(F l x).bind fun y=>N5 el rs y (fun v g=>some (v,g))) (hG: ∀l x y,G l x=some y->F l x=some y):Ct P (AU f) (H0 el ps rs G):=by
 intro args ρ κ r hr;unfold H0 at hr;split at hr
 ·rename_i t l as;split at hr
  ·rename_i l' hl;obtain⟨e,hl⟩:=ia hl;subst e;have hl:l=l':=hl;subst hl;obtain⟨x,hn,hr2⟩:=nE hr;obtain⟨y,h1,hr3⟩:=ai.1 hr2;exact⟨_,_, .of_io ⟨.ls _,l,_,rfl,jI.norm (IP.cons (.inl rfl) hn) (KR hΘ hY hm hf hL (aq 1) (tj ps x) (by rw[hF,hG l x y h1]; rfl))⟩ (ar hk),FP _ _ (mJ rs y.2),hr3⟩
  ·cases hr
 ·cases hr
theorem Qf [dY] {P:Program} {Θ:nD} {Y:ya} {Λ:oa} (hΘ:gz P Θ) (hY:lN P Y) (hm:P.follows .mixedOrders=true) {f:FuncId} {fn:Func} (hf:GD P f=some fn) (hL: ∀c,fn.body=some c->jd P Λ (gg c)) {el:Ty} {ps:List wt} {rs:List Ty} {G:List el.D->o3.D ps->Option (List el.D×nV.D rs)} (hk:Nat.blt f 1048576=true)
  (F:List el.D->o3.D ps->Option (List el.D×nV.D rs)) (hF: ∀l x,RN Θ Y Λ fn el l (mE ps x) (fun v g=>some (v,g))=(F l x).bind fun y=>N5 el rs y (fun v g=>some (v,g))) (hG: ∀l x y,G l x=some y->F l x=some y):Ct P (BZ f) (H0 el ps rs G):=by
 intro args ρ κ r hr;unfold H0 at hr;split at hr
 ·rename_i t l as;split at hr
  ·rename_i l' hl;obtain⟨e,hl⟩:=ia hl;subst e;have hl:l=l':=hl;subst hl;obtain⟨x,hn,hr2⟩:=nE hr;obtain⟨y,h1,hr3⟩:=ai.1 hr2;exact⟨_,_, .of_pt ⟨_,l,_,rfl,jI.norm (IP.cons (.inl rfl) hn) (P0 hΘ hY hm hf hL (tj ps x) (by rw[hF,hG l x y h1]; rfl))⟩ (ar hk),FP _ _ (mJ rs y.2),hr3⟩
  ·cases hr
 ·cases hr
def Ui {ρ:Type} (el:Ty) (rs:List Ty) (y:List el.D×nV.D rs) (κ:V->List eT->Option ρ):Option ρ:=κ (Fy (.cl (.ptrT ⟨0,[]⟩ el.width 0 0)::wL 1 (mJ rs y.2))) (⟨el,y.1,none⟩::uM (mJ rs y.2))
def S8 (el:Ty) (ps:List wt) (rs:List Ty) (G:o3.D ps->Option (List el.D×nV.D rs)):MD:=fun args _ κ=>FO ps args fun x=>(G x).bind fun y=>Ui el rs y κ
end
def o7 (fn:Func):Code:=match fn.body with |some c=>c|none=> .skip
def RY (c:Code) (n:Nat):Code:=(o2 (gg c) n).getD .skip
theorem S9 [dY] {P:Program} {Λ:oa} {fn:Func} {cs:List Code} (h:gg (o7 fn)=cs) (H:jd P Λ cs) (c:Code) (hc:fn.body=some c):jd P Λ (gg c):=by
 have :o7 fn=c:=by unfold o7; rw[hc]
 rw[<-this,h];exact H
end
section
open Go
inductive Kc where|i (k:IntKind)|b|s|h|ls (t:Ty)
 deriving DecidableEq
def L3:List (Option Ty)->List Value->List Kc
 |some t::l,_::m=> .ls t::L3 l m
 |none::l, .int k _::m=> .i k::L3 l m
 |none::l, .bool _::m=> .b::L3 l m
 |none::l, .nilFunc::m=> .h::L3 l m
 |none::l,_::m=> .s::L3 l m
 | _,_=> []
def Ty.kc (t:Ty):List Kc:=L3 t.csh t.zvs
def rj:List Kc->List C->Prop
 | [],[] =>True
 | .i k::l,c::m=>(∃n,c= .sc (.int k n))/\rj l m
 | .b::l,c::m=>(∃v,c= .sc (.bool v))/\rj l m
 | .s::l,c::m=>(∃v,c= .sc (.string v))/\rj l m
 | .h::l,c::m=>(∃v:Hd,c= .sc (.slice v.a v.n v.c))/\rj l m
 | .ls t::l,c::m=>(∃v,c= .ls t v)/\rj l m
 | _,_=>False
theorem wu {cs:List C} (h:rj [] cs):cs= [] :=by cases cs with |nil=>rfl|cons=>exact h.elim
theorem Q6 {k:IntKind} {l:List Kc} {cs:List C} (h:rj (.i k::l) cs): ∃n r,cs= .sc (.int k n)::r/\rj l r:=by
 cases cs with
 |nil=>exact h.elim
 |cons c r=>obtain⟨⟨n,rfl⟩,h⟩:=h; exact⟨n,r,rfl,h⟩
theorem Q7 {l:List Kc} {cs:List C} (h:rj (.b::l) cs): ∃n r,cs= .sc (.bool n)::r/\rj l r:=by
 cases cs with
 |nil=>exact h.elim
 |cons c r=>obtain⟨⟨n,rfl⟩,h⟩:=h; exact⟨n,r,rfl,h⟩
theorem Q8 {l:List Kc} {cs:List C} (h:rj (.s::l) cs): ∃n r,cs= .sc (.string n)::r/\rj l r:=by
 cases cs with
 |nil=>exact h.elim
 |cons c r=>obtain⟨⟨n,rfl⟩,h⟩:=h; exact⟨n,r,rfl,h⟩
theorem Q9 {l:List Kc} {cs:List C} (h:rj (.h::l) cs): ∃ (n:Hd) (r:List C),cs= .sc (.slice n.a n.n n.c)::r/\rj l r:=by
 cases cs with
 |nil=>exact h.elim
 |cons c r=>obtain⟨⟨n,rfl⟩,h⟩:=h; exact⟨n,r,rfl,h⟩
theorem Ra {t:Ty} {l:List Kc} {cs:List C} (h:rj (.ls t::l) cs): ∃n r,cs= .ls t n::r/\rj l r:=by
 cases cs with
 |nil=>exact h.elim
 |cons c r=>obtain⟨⟨n,rfl⟩,h⟩:=h; exact⟨n,r,rfl,h⟩
theorem EW (t:Ty) {cs:List C} (h:rj t.kc cs): ∃x,t.flat x=cs:=by
 have : (t.unflat cs).isSome=true:=by
  cases t with
  |st n=>
   cases n
   all_goals
    repeat ((first |replace h:=Q6 h|replace h:=Q7 h|replace h:=Ra h|replace h:=Q8 h|replace h:=Q9 h); obtain⟨_,_,rfl,h⟩:=h)
    cases wu h;rfl
  |i k=>replace h:=Q6 h; obtain⟨_,_,rfl,h⟩:=h; cases wu h; simp[Ty.unflat,gI,gN]
  |b=>replace h:=Q7 h; obtain⟨_,_,rfl,h⟩:=h; cases wu h; rfl
  |h=>replace h:=Q9 h; obtain⟨_,_,rfl,h⟩:=h; cases wu h; rfl
  |s=>replace h:=Q8 h; obtain⟨_,_,rfl,h⟩:=h; cases wu h; rfl
  |ls u=>replace h:=Ra h; obtain⟨_,_,rfl,h⟩:=h; cases wu h; simp[Ty.unflat,gL,gN]
 obtain⟨x,hx⟩:=bA.1 this;exact⟨x,t.unflat_some _ _ hx⟩
inductive T.bd:T->Prop where
 |int {k:IntKind} {n:Int} (h:k.min<=n/\n<=k.max):T.bd (.sc (.int k n))
 |bool (v:Bool):T.bd (.sc (.bool v))
 |str (v:ByteArray):T.bd (.sc (.string v))
 |sl {sz:Nat} {rows:List (List T)} (hl:rows.length<=maxLen) (h: ∀r∈rows,∀x∈r,T.bd x):T.bd (.sl sz rows)
def Uj (t:Ty) (x:t.D):Prop:= ∀y∈t.row x,T.bd y
def FQ (P:Program) (e:TypeId->List Kc->Bool):List Field->Nat->List Kc->Bool
 | [],_,[] =>true
 | [],_,_::_=>false
 |f::fs,off,ks=>Nat.beq f.offset off&&Nat.ble (P.cellsOf f.type) ks.length&&e f.type (ks.take (P.cellsOf f.type))&&FQ P e fs (off+P.cellsOf f.type) (ks.drop (P.cellsOf f.type))
def Av (P:Program) (Θ:nD):Nat->TypeId->List Kc->Bool
 | 0,_,_=>false
 |d+1,t,ks=>match P.underlying t with
  |some (.int k)=>decide (ks= [.i k])
  |some .bool=>decide (ks= [.b])
  |some (.slice e)=>(match lQ Θ e with
   |some ti=>decide (ks= [.ls ti.ty])&&Av P Θ d e ti.ty.kc&&Nat.beq (P.cellsOf e) ti.ty.width&&Nat.blt 0 ti.ty.width
   |none=>false)
  |some (.struct fs)=>FQ P (Av P Θ d) fs.toList 0 ks&&Nat.beq (P.cellsOf t) ks.length
  | _=>false
theorem H1: ∀ {k l:List Kc} {cs ds:List C},rj k cs->rj l ds->rj (k++l) (cs++ds)
 | [],l,[],ds,_,h=>h
 | [],_,_::_,_,h,_=>h.elim
 |a::k,_,[],_,h,_=>by cases a<;>exact h.elim
 |a::k,l,c::cs,ds,h,h2=>by cases a<;>exact⟨h.1,H1 h.2 h2⟩
theorem Aw: ∀ {k:List Kc} {cs:List C},rj k cs->cs.length=k.length
 | [],[],_=>rfl
 | [],_::_,h=>h.elim
 |a::k,[],h=>by cases a<;>exact h.elim
 |a::k,c::cs,h=>by cases a<;>simp[Aw h.2]
section
variable {H:Type} {enc:TypeId×Value->H} {P:Program} {w:World} {base:Nat} {sp:Nat->Bool} {held:Bool} {Θ:nD}
structure Cs (w:World) (cs:List Value) (Xs:List C):Prop where
 len:Xs.length=cs.length
 one: ∀u∈cs,u.oneCell'=true
 ro: ∀ (k:Nat) (c:C) (u:Value),Xs[k]? =some c->cs[k]? =some u->RO w (fun b=>b<w.heap.size) c.tree u
 bd: ∀c∈Xs,T.bd c.tree
theorem Cs.nil:Cs w [] [] :=⟨rfl,fun _ h=>(by cases h),fun _ _ _ h=>(by cases h),fun _ h=>(by cases h)⟩
theorem Cs.one_mk {u:Value} {c:C} (h1:u.oneCell'=true) (h2:RO w (fun b=>b<w.heap.size) c.tree u) (h3:T.bd c.tree):Cs w [u] [c] :=by
 refine⟨rfl,fun v hv=> ?_,fun k c' u' hk hu=> ?_,fun c' hc=> ?_⟩
 ·rw[aD.1 hv]; exact h1
 ·cases k with
  |zero=>cases hk; cases hu; exact h2
  |succ k=>simp at hk
 ·rw[aD.1 hc]; exact h3
theorem Cs.app {cs ds:List Value} {Xs Ys:List C} (h:Cs w cs Xs) (k:Cs w ds Ys):Cs w (cs++ds) (Xs++Ys):=by
 refine⟨by rw[az,az,h.len,k.len],fun u hu=> ?_,fun j c u hj hu=> ?_,fun c hc=> ?_⟩
 ·rcases aY.1 hu with hu|hu
  ·exact h.one u hu
  ·exact k.one u hu
 ·by_cases hlt:j<Xs.length
  ·rw[bh hlt] at hj;rw[bh (by rw[<-h.len]; exact hlt)] at hu;exact h.ro j c u hj hu
  ·rw[bq (by omega)] at hj;rw[bq (by rw[<-h.len]; omega),<-h.len] at hu;exact k.ro _ c u hj hu
 ·rcases aY.1 hc with hc|hc
  ·exact h.bd c hc
  ·exact k.bd c hc
theorem FR (hΘ:gz P Θ): ∀ (d:Nat) {t:TypeId} {ks:List Kc} {n:Nat} {cs:List Value} {y:DataW H×List MemPlace},Av P Θ d t ks=true->DataW.trod enc P w base sp held n t cs=some y-> ∃Xs:List C,rj ks Xs/\Cs w cs Xs
 | 0,t,ks,n,cs,y,hb,_=>by cases hb
 |d+1,t,ks,n,cs,y,hb,h=>by
  unfold Av at hb;split at hb
  ·rename_i k hu;have:=of_decide_eq_true hb;subst this;obtain⟨v,rfl,_,hw⟩:=DataW.trod_int hu h;simp only[Lit.wf,al,decide_eq_true_eq] at hw;exact⟨[.sc (.int k v)],⟨⟨v,rfl⟩,trivial⟩,Cs.one_mk rfl (.sc rfl) (.int hw)⟩
  ·rename_i hu;have:=of_decide_eq_true hb;subst this;obtain⟨v,rfl,_⟩:=DataW.trod_bool hu h;exact⟨[.sc (.bool v)],⟨⟨v,rfl⟩,trivial⟩,Cs.one_mk rfl (.sc rfl) (.bool v)⟩
  ·rename_i e hu;split at hb
   ·rename_i ti hti;simp only[al,decide_eq_true_eq] at hb;obtain⟨⟨⟨rfl,hb⟩,hw⟩,hpos⟩:=hb;have hw:=ao hw;have hpos:0<ti.ty.width:=ar hpos;rcases Go.Deep.open_slice hu h with ⟨rfl,_⟩| ⟨ad,len,cap,m,n',D,Pl,rfl,_,hl,hm,hmm,_,hx⟩
    ·exact⟨[.ls ti.ty []],⟨⟨[],rfl⟩,trivial⟩,Cs.one_mk rfl (.em _ _ _) (.sl (aA _) fun r hr=>by cases hr)⟩
    ·have hlm:len<=m:=by rw[hmm]; split<;>omega
     have each: ∀i:Fin len,∃z:ti.ty.D,∃cs',w.cells? base (ad.add (i.1*P.cellsOf e)) (P.cellsOf e)=some cs'/\Cs w cs' (ti.ty.flat z):=by intro i;obtain⟨cs',h1,h2⟩:=hx i.1 (by have:=i.2; omega);obtain⟨Xs,h3,h4⟩:=FR hΘ d hb h2;obtain⟨z,rfl⟩:=EW _ h3;exact⟨z,cs',h1,h4⟩
     let l:List ti.ty.D:=List.ofFn fun i=>(each i).choose
     have hll:l.length=len:=by simp[l]
     have row: ∀ (i:Nat) (r:List T),(l.map ti.ty.row)[i]? =some r-> ∃hi:i<len,∃cs',w.cells? base (ad.add (i*P.cellsOf e)) (P.cellsOf e)=some cs'/\ ∃z,r=(ti.ty.flat z).map C.tree/\Cs w cs' (ti.ty.flat z):=by
      intro i r hr;rw[ap,ak] at hr;obtain⟨z,hz,rfl⟩:=hr;obtain⟨h1,h2⟩:=aj.1 hz;have hi:i<len:=by rw[hll] at h1; exact h1
      refine⟨hi,(each ⟨i,hi⟩).choose_spec.choose,(each ⟨i,hi⟩).choose_spec.choose_spec.1,z,ti.ty.row_flat z,?_⟩;have e1:z=(each ⟨i,hi⟩).choose:=by rw[<-h2]; simp[l]
      rw[e1];exact (each ⟨i,hi⟩).choose_spec.choose_spec.2
     refine⟨[.ls ti.ty l],⟨⟨l,rfl⟩,trivial⟩,Cs.one_mk rfl ?_ ?_⟩
     ·show RO w _ (.sl ti.ty.width (l.map ti.ty.row)) _;by_cases h0:len=0
      ·have :l= [] :=da.1 (by rw[hll,h0]);rw[this,h0];exact .em _ _ _
      ·have hlr: (l.map ti.ty.row).length=len:=by rw[aN,hll]
       have hlen: ∀ (i:Nat) (r:List T),(l.map ti.ty.row)[i]? =some r->r.length=ti.ty.width:=by intro i r hr;obtain⟨hi,cs',h1,z,rfl,h2⟩:=row i r hr;obtain⟨_,h3,_⟩:=World.cells?_some h1;rw[aN,h2.len,h3,hw]
       have hcell: ∀ (i:Nat) (r:List T) (j:Nat) (x:T),(l.map ti.ty.row)[i]? =some r->r[j]? =some x-> ∃u,w.cell? (ad.add (i*ti.ty.width+j))=some u/\RO w (fun b=>b<w.heap.size) x u:=by
        intro i r j x hr hx;obtain⟨hi,cs',h1,z,rfl,h2⟩:=row i r hr;obtain⟨_,h3,h4⟩:=World.cells?_some h1;rw[ap,ak] at hx;obtain⟨c,hc,rfl⟩:=hx;have hj:j<cs'.length:=by rw[<-h2.len]; exact (aj.1 hc).1
        refine⟨cs'[j],?_,h2.ro j c _ hc (ah hj)⟩;rw[<-Go.Deep.add_add,<-hw,h4 j (by omega),ah hj]
       have hne: ∃u,w.cell? ad=some u:=by
        obtain⟨r,hr⟩: ∃r,(l.map ti.ty.row)[0]? =some r:=⟨_,ah (by omega)⟩
        have h5:=hlen 0 r hr;obtain⟨x,hx⟩: ∃x,r[0]? =some x:=⟨_,ah (by omega)⟩
        obtain⟨u,hu',_⟩:=hcell 0 r 0 x hr hx;simp only[cm,aQ,Addr.add,if_true] at hu';exact⟨u,hu'⟩
       obtain⟨u0,hu0⟩:=hne;rw[<-hlr];refine .sl (fun i j=>((w.cell? (ad.add (i*ti.ty.width+j))).getD undef)) (by omega) ?_ (World.block_lt_of_cell? w _ hu0) hlen ?_ ?_
       ·cases hsp:ad.spot with
        |none=>rfl
        |some s=>
         unfold World.cell? at hu0;rw[hsp] at hu0;split at hu0
         ·simp at hu0
         ·cases hu0
       ·intro i r j x hr hx;obtain⟨u,h1,_⟩:=hcell i r j x hr hx;rw[h1];rfl
       ·intro i r j x hr hx;obtain⟨u,h1,h2⟩:=hcell i r j x hr hx;rw[h1];exact h2
     ·refine .sl (by rw[aN,hll]; unfold maxLen at hm ⊢; omega) fun r hr x hx=> ?_;obtain⟨i,hi⟩:=List.getElem?_of_mem hr;obtain⟨_,cs',_,z,rfl,h2⟩:=row i r hi;obtain⟨c,hc,rfl⟩:=aM.1 hx;exact h2.bd c hc
   ·cases hb
  ·rename_i fs hu;simp only[al] at hb;obtain⟨hb,hkl0⟩:=hb;have hkl0:=ao hkl0;obtain⟨xs,m,_,_,hl,hlen,hf⟩:=DataW.trod_struct hu h
   have gO: ∀ (gs:List Field) (off i0:Nat) (ks:List Kc),FQ P (Av P Θ d) gs off ks=true->(∀ (i:Nat) (f:Field),gs[i]? =some f->fs[i0+i]? =some f)-> ∃Xs:List C,rj ks Xs/\Cs w ((cs.drop off).take ks.length) Xs/\off+ks.length<=max off cs.length:=by
    intro gs
    induction gs with
    |nil=>
     intro off i0 ks hk _;cases ks with
     |nil=>exact⟨[],trivial,by simpa using Cs.nil,by simp; omega⟩
     |cons=>cases hk
    |cons f gs ih=>
     intro off i0 ks hk hg;simp only[FQ,al] at hk;obtain⟨⟨⟨ho,hle⟩,h1⟩,h2⟩:=hk;have ho:=ao ho;have hle:P.cellsOf f.type<=ks.length:=ar hle;have hfi:fs[i0]? =some f:=by have:=hg 0 f rfl; simpa using this
     have hi0:i0<xs.length:=by rw[hlen]; exact (aG.1 hfi).1
     have h3:=hf i0 f hfi;rw[ah hi0,ho] at h3;obtain⟨Xs,k1,k2⟩:=FR hΘ d h1 h3;obtain⟨Ys,k3,k4,k5⟩:=ih (off+P.cellsOf f.type) (i0+1) _ h2 (fun i g hgi=>by have:=hg (i+1) g hgi; rw[show i0+1+i=i0+(i+1) by omega]; exact this);have hkl:=Aw k1;have hcl:=k2.len;rw[bf,bg,hkl,bf] at hcl;have hq:P.cellsOf f.type<=cs.length-off:=by omega
     refine⟨Xs++Ys,?_,?_,?_⟩
     ·have:=H1 k1 k3
      rwa [dj] at this
     ·have hsplit: (cs.drop off).take ks.length=((cs.drop off).take (P.cellsOf f.type))++((cs.drop (off+P.cellsOf f.type)).take (ks.drop (P.cellsOf f.type)).length):=by
       rw[bg,<-cr];have :ks.length=P.cellsOf f.type+(ks.length-P.cellsOf f.type):=by omega
       conv=>lhs; rw[this]
       exact List.take_add
      rw[hsplit];exact k2.app k4
     ·rw[bg] at k5;omega
   obtain⟨Xs,k1,k2,k3⟩:=gO fs.toList 0 0 ks hb (fun i f hi=>by rw[cM] at hi; simpa using hi);refine⟨Xs,k1,?_⟩
   have hfull: (cs.drop 0).take ks.length=cs:=by rw[bP];exact bD (by omega)
   rwa [hfull] at k2
  ·cases hb
end
end
section
open Go Go.ChangeShapes Go.WideShapes Go.RowKit
def UM: (l:List Ty)->o3.D (l.map .ty)->Prop
 | [],_=>True
 |t::l,x=>Uj t x.1/\UM l x.2
def Qg (P:Program) (Θ:nD) (t:TypeId) (τ:Ty):Bool:=Av P Θ 9 t τ.kc&&(match lQ Θ t with |some ti=>decide (ti.ty=τ)|none=>false)&&P.readableRec t&&Nat.blt t P.types.size
def Cx (P:Program) (Θ:nD):List TypeId->List Ty->Bool
 | [],[] =>true
 |t::ts,τ::τs=>Qg P Θ t τ&&Cx P Θ ts τs
 | _,_=>false
section
variable {H:Type} {enc:TypeId×Value->H} {P:Program} {W:World} {Θ:nD} {base:Nat}
theorem C.VR {c:C} {u:Value} {bt:Bt} (hA:bt.A=fun b=>b<W.heap.size) (h:RO W (fun b=>b<W.heap.size) c.tree u) (hg:c.good=true):En.VR W bt c.av u:=by
 cases c with
 |sc v=>
  cases h with
  |sc h=>exact .sc h
 |ls t l=>exact .ro (by rw[hA]; exact h)
theorem RZ (hΘ:gz P Θ) {bt:Bt} (hA:bt.A=fun b=>b<W.heap.size) {t:TypeId} {τ:Ty} {v:Value} {d:DataW H} {p:List MemPlace} (hp:Qg P Θ t τ=true) (hv:Value.okWide P W .any base t v) (h:DataW.Trod enc P W 0 (fun _=>true) true t v d p):
  ∃x:τ.D,VR W bt (KA τ x).av v/\Uj τ x:=by
 unfold Qg at hp;simp only[al] at hp;obtain⟨⟨⟨h1,h2⟩,h3⟩,h4⟩:=hp;split at h2
 case h_2=>cases h2
 rename_i ti hti;have h2:=of_decide_eq_true h2;subst h2;have hok:=hΘ t ti hti;obtain⟨n,hn⟩:=h;obtain⟨Xs,k1,k2⟩:=FR hΘ 9 h1 hn;obtain⟨x,rfl⟩:=EW _ k1
 have bd:Uj ti.ty x:=by intro y hy;rw[Ty.row_flat] at hy;obtain⟨c,hc,rfl⟩:=aM.1 hy;exact k2.bd c hc
 have good: ∀c∈ti.ty.flat x,c.good=true:=by
  intro c hc;have:=k2.bd c hc;cases c with
  |sc v=>cases this<;>rfl
  |ls t l=>rfl
 refine⟨x,?_,bd⟩;have hag:=hok.ag;unfold KA;cases ha:ti.ty.ag with
 |true=>
  rw[ha] at hag
  have hst: ∃fs,P.underlying t=some (.struct fs):=by
   have hpl:=hok.pl ha;unfold Av at h1;split at h1
   ·rename_i hu; simp[Dz,hu] at hag
   ·rename_i hu; simp[Dz,hu] at hag
   ·rename_i hu; simp[Dz,hu] at hag
   ·rename_i fs hu; exact⟨fs,hu⟩
   ·cases h1
  obtain⟨fs,hu⟩:=hst;obtain⟨us,rfl,_⟩:=okWide_struct hu hv;simp only[cond_true,V1.av];have : (Value.agg us)= .agg us.toList.toArray:=by simp
  rw[this];have hus: (Value.agg us).cells.toList=us.toList:=rfl;rw[hus] at k2;refine .agg (by simp[k2.len]) k2.one fun k c u hk hu=> ?_;simp only[bK,ap,ak] at hk;obtain⟨c',hc,rfl⟩:=hk;exact C.VR hA (k2.ro k c' u hc hu) (good c' (au hc))
 |false=>
  rw[ha] at hag
  have hcells:v.cells.toList= [v] :=by
   unfold Av at h1;split at h1
   ·rename_i hu; obtain⟨_,rfl⟩:=okWide_int hu hv; rfl
   ·rename_i hu; obtain⟨_,rfl⟩:=okWide_bool hu hv; rfl
   ·rename_i hu; obtain⟨_,_,_,rfl⟩:=okWide_slice hu hv; rfl
   ·rename_i fs hu; simp[Dz,hu] at hag
   ·cases h1
  rw[hcells] at k2;have hl:=k2.len;obtain⟨c,hc⟩:=List.length_eq_one_iff.1 hl;simp only[cond_false,hc,aW,cL,V1.av];exact C.VR hA (k2.ro 0 c v (by rw[hc]; rfl) rfl) (good c (by rw[hc]; exact aD.2 rfl))
theorem K0 (hΘ:gz P Θ) {bt:Bt} (hA:bt.A=fun b=>b<W.heap.size): ∀ {ts:List TypeId} {τs:List Ty} {vs:List Value} {ds:List (DataW H)} {p:List MemPlace},Cx P Θ ts τs=true->(∀ (j:Nat) t v,ts[j]? =some t->vs[j]? =some v->Value.okWide P W .any base t v)->DataW.TrodAll enc P W 0 (fun _=>true) true ts vs ds p->
  ∃x:o3.D (τs.map .ty),vs.length=τs.length/\(∀ (k:Nat) (v:AV) (u:Value),((mE (τs.map .ty) x).map V1.av)[k]? =some v->vs[k]? =some u->VR W bt v u)/\UM τs x
 | [],[],vs,ds,p,_,_,h=>by obtain⟨rfl,_,_⟩:=trodAll_nil h;exact⟨(),rfl,fun k v u hk hu=>(by cases hu),trivial⟩
 |t::ts,τ::τs,vs,ds,p,hb,hv,h=>by
  obtain⟨v,vs',d,ds',q,q',rfl,rfl,rfl,h1,h2⟩:=trodAll_cons h;unfold Cx at hb;simp only[al] at hb;obtain⟨x,k1,k2⟩:=RZ hΘ hA hb.1 (hv 0 t v rfl rfl) h1;obtain⟨y,k3,k4,k5⟩:=K0 hΘ hA hb.2 (fun j t' v' ht hv'=>hv (j+1) t' v' ht hv') h2;refine⟨(x,y),by simp[k3],fun k v' u hk hu=> ?_,k2,k5⟩;cases k with
  |zero=>have hk:some (KA τ x).av=some v':=hk;cases hk;cases hu;exact k1
  |succ k=>exact k4 k v' u hk hu
 | [],_::_,_,_,_,hb,_,_=>by cases hb
 | _::_,[],_,_,_,hb,_,_=>by cases hb
theorem wP {W':World} (hl:laidOutB P=true) (hb:Below W.heap.size W W'): ∀ {ts:List TypeId} {τs:List Ty} {vs:List Value} {ds:List (DataW H)} {p:List MemPlace},Cx P Θ ts τs=true->DataW.TrodAll enc P W 0 (fun _=>true) true ts vs ds p->DataW.TrodAll enc P W' 0 (fun b=>decide (b<W.heap.size)) true ts vs ds p
 | [],[],vs,ds,p,_,h=>by obtain⟨rfl,rfl,rfl⟩:=trodAll_nil h;exact rfl
 |t::ts,τ::τs,vs,ds,p,hp,h=>by obtain⟨v,vs',d,ds',q,q',rfl,rfl,rfl,h1,h2⟩:=trodAll_cons h;unfold Cx Qg at hp;simp only[al] at hp;obtain⟨⟨⟨_,hr⟩,hs⟩,hrest⟩:=hp;refine trodAll_cons_mk (Below.trod hl hr (ar hs) h1 hb ?_) (wP hl hb hrest h2);intro x hx;obtain⟨m,hm⟩:=h1;exact DataW.trod_lt m _ _ _ hm x hx
 | [],_::_,_,_,_,hb,_=>by cases hb
 | _::_,[],_,_,_,hb,_=>by cases hb
end
end
section
open Go
section
variable {α β σ ε:Type}
theorem lq {B:σ->Option (σ⊕ε)} (l:List α) (mk:Nat->β->σ) (J:Nat->β->Prop) (g:Nat->List α->β->ε)
  (hn: ∀b,J l.length b->B (mk l.length b)=some (.inr (g l.length [] b)))
  (hc: ∀k b x,l[k]? =some x->J k b->(∃b',B (mk k b)=some (.inl (mk (k+1) b'))/\J (k+1) b'/\g k (x::l.drop (k+1)) b=g (k+1) (l.drop (k+1)) b')\/B (mk k b)=some (.inr (g k (x::l.drop (k+1)) b))):
  ∀k b,k<=l.length->J k b->ii B (mk k b)=some (g k (l.drop k) b):=by
 intro k b hk hJ;generalize hn0:l.length-k=n
 induction n generalizing k b with
 |zero=>
  obtain rfl:k=l.length:=by omega
  rw[ri,hn b hJ,List.drop_length];rfl
 |succ n ih=>
  have hlt:k<l.length:=by omega
  rw[bO hlt];rcases hc k b l[k] (ah hlt) hJ with ⟨b',h1,h2,h3⟩|h1
  ·rw[ri,h1,h3];exact ih (k+1) b' (by omega) h2 (by omega)
  ·rw[ri,h1];rfl
theorem sq {B:σ->Option (σ⊕ε)} (I:σ->Prop) (μ:σ->Nat) (E:ε->Prop)
  (h: ∀s,I s->(∃s',B s=some (.inl s')/\I s'/\μ s'<μ s)\/ ∃e,B s=some (.inr e)/\E e) {s:σ} (hs:I s): ∃e,ii B s=some e/\E e:=by
 generalize hn:μ s=n
 induction n using Nat.strongRecOn generalizing s with
 | _ n ih=>
   rcases h s hs with ⟨s',h1,h2,h3⟩| ⟨e,h1,h2⟩
   ·rw[ri,h1];exact ih (μ s') (by omega) h2 rfl
   ·exact⟨e,by rw[ri,h1]; rfl,h2⟩
theorem ev (x y:α):br true x y=x:=rfl
theorem eJ (x y:α):br false x y=y:=rfl
theorem R0 (b:Bool) (x y:α):br b x y=if b=true then x else y:=by cases b<;>rfl
theorem ei (p:Prop) [Decidable p] (x y:α):br (decide p) x y=if p then x else y:=by unfold br; by_cases h:p<;>simp[h]
theorem gA {p:Prop} [Decidable p] (h:p) (x y:α):iteP p x y=x:=if_pos h
theorem H2 {p:Prop} [Decidable p] (h: ¬p) (x y:α):iteP p x y=y:=if_neg h
theorem en (p:Prop) [Decidable p] (x y:α):iteP p x y=if p then x else y:=rfl
end
theorem ff {n:Int} (h1: -9223372036854775808<=n) (h2:n<9223372036854775808):IntKind.wrap .i64 n=n:=by
 simp only[IntKind.wrap,IntKind.bits,IntKind.signed,dC];split
 ·rename_i h;have h:=of_decide_eq_true h;omega
 ·rename_i h;have h: ¬ (n % 2 ^ 64≥2 ^ (64-1)):=fun hh=>h (decide_eq_true hh);omega
theorem je {α:Type} {l:List α} {k:Nat} {x:α} (h:l[k]? =some x):k<l.length:=(aj.1 h).1
theorem wQ {α:Type} {l:List α} {k:Nat} (y:α) (h:k<l.length): (l.set k y).take (k+1)=l.take k++ [y] :=by rw[bH,b6 h];simp[List.take_set_of_le]
theorem Qh {α ρ:Type} (l:List α) (n:Nat) (κ:List α×Unit->Option ρ):RJ l (Pr (κ ([],())) (iteP ((([]:List α)++l).length*n<=2 ^ 40) (κ (([]:List α)++l,())) none) none) (iteP ((([]:List α)++l).length*n<=2 ^ 40) (κ (([]:List α)++l,())) none)=(iteP (l.length*n<=2 ^ 40) (some (l,())) none).bind κ:=by
 cases l with
 |nil=>
  have :iteP ((([]:List α)++ []).length*n<=2 ^ 40) (κ (([]:List α)++ [],())) none=κ ([],()):=by unfold iteP;rw[if_pos (by simp)];rfl
  rw[this];show Pr _ _ _=_;rw[NF];unfold iteP;rw[if_pos (by simp)];rfl
 |cons x l=>show iteP _ _ _=_;simp only[be];unfold iteP;split<;>rfl
end
section
open Go
section
variable {σ ε σ1 ε1 σ2 ε2 α β:Type}
theorem i6 {B:σ->Option (σ⊕ε)} {s:σ} {e:ε} (h:B s=some (.inr e)):ii B s=some e:=by rw[ri,h]; rfl
theorem rk {B:σ->Option (σ⊕ε)} {s s':σ} (h:B s=some (.inl s')):ii B s=ii B s':=by rw[ri,h]; rfl
theorem oc {B1:σ1->Option (σ1⊕ε1)} {B2:σ2->Option (σ2⊕ε2)} (n:Nat) (m1:Nat->σ1) (m2:Nat->σ2) (t1:ε1) (t2:ε2) (f1:Nat->ε1) (f2:Nat->ε2) (P Q:Nat->Prop)
  (h1:B1 (m1 n)=some (.inr t1)) (h2:B2 (m2 n)=some (.inr t2))
  (h: ∀k,k<n->(B1 (m1 k)=some (.inl (m1 (k+1)))/\B2 (m2 k)=some (.inl (m2 (k+1)))/\P k)\/(B1 (m1 k)=some (.inr (f1 k))/\B2 (m2 k)=some (.inr (f2 k))/\Q k)):
  (ii B1 (m1 0)=some t1/\ii B2 (m2 0)=some t2/\ ∀k,k<n->P k)\/ ∃k,k<n/\ii B1 (m1 0)=some (f1 k)/\ii B2 (m2 0)=some (f2 k)/\Q k:=by
 have gO: ∀d j,j+d=n->(ii B1 (m1 j)=some t1/\ii B2 (m2 j)=some t2/\ ∀k,j<=k->k<n->P k)\/ ∃k,k<n/\ii B1 (m1 j)=some (f1 k)/\ii B2 (m2 j)=some (f2 k)/\Q k:=by
  intro d
  induction d with
  |zero=>
   intro j hj;have :j=n:=by omega
   subst this;exact .inl ⟨i6 h1,i6 h2,fun k a b=>by omega⟩
  |succ d ih=>
   intro j hj;rcases h j (by omega) with ⟨g1,g2,g3⟩| ⟨g1,g2,g3⟩
   ·rw[rk g1,rk g2];rcases ih (j+1) (by omega) with ⟨k1,k2,k3⟩|k
    ·refine .inl ⟨k1,k2,fun k a b=> ?_⟩;rcases dW a with rfl|a
     ·exact g3
     ·exact k3 k a b
    ·exact .inr k
   ·exact .inr ⟨j,by omega,i6 g1,i6 g2,g3⟩
 rcases gO n 0 (by omega) with ⟨a,b,c⟩|h
 ·exact .inl ⟨a,b,fun k hk=>c k (aA _) hk⟩
 ·exact .inr h
def yx (x y:Option (β×Unit)):Prop:= ∃b,x=some (b,())/\y=some (b,())
theorem ec {n k:Nat} (hn:n<=maxLen) (hk:k<n):IntKind.wrap .i64 ((k:Int)+1)=((k+1:Nat):Int):=by unfold maxLen at hn;rw[ff (by omega) (by omega)];rfl
theorem ku {k:Nat} (hk:0<k) (h:k<=maxLen):IntKind.wrap .i64 ((k:Int)-1)=((k-1:Nat):Int):=by unfold maxLen at h;rw[ff (by omega) (by omega)];omega
end
end
section
open Go
structure IQ [dY] (P:Program) where
 n:Nat
 e:MD
 ok:Ct P n e
structure K1 [dY] (P:Program) where
 c:Code
 e:KX
 ok:N1 P c e
structure LX where
 L:wE
 x:List (X×wE)
 g:List Jz
 k:List Nat
 kx:List Nat
abbrev LX.S (m:LX):Type:=m.L.D
abbrev LX.R (m:LX):Type:=Option (m.L.D⊕yw.D m.x)
theorem tm: (∀ (α β:Type) (b:Bool) (x y:Option α) (f:α->Option β),(br b x y).bind f=br b (x.bind f) (y.bind f))/\(∀ (α β:Type) (c:Prop) (_:Decidable c) (x y:Option α) (f:α->Option β),(iteP c x y).bind f=iteP c (x.bind f) (y.bind f))/\(∀ (α β:Type) (f:α->Option β),(none:Option α).bind f=none)/\(∀ (α β:Type) (a:α) (f:α->Option β),(some a).bind f=f a)/\(∀ (α β γ:Type) (x:Option α) (f:α->Option β) (g:β->Option γ),(x.bind f).bind g=x.bind fun a=>(f a).bind g)/\(∀ (α β γ δ:Type) (x:α⊕β) (f:α->Option γ) (g:β->Option γ) (h:γ->Option δ),(Sum.elim f g x).bind h=Sum.elim (fun a=>(f a).bind h) (fun a=>(g a).bind h) x)/\(∀ (α β γ:Type) (f:α->γ) (g:β->γ) (a:α),Sum.elim f g (.inl a)=f a)/\ ∀ (α β γ:Type) (f:α->γ) (g:β->γ) (b:β),Sum.elim f g (.inr b)=g b:=
 ⟨fun _ _ b _ _ _=>by cases b<;>rfl,fun _ _ c _ _ _ _=>by unfold iteP; split<;>rfl,fun _ _ _=>rfl,fun _ _ _ _=>rfl,fun _ _ _ x _ _=>by cases x<;>rfl,fun _ _ _ _ x _ _ _=>by cases x<;>rfl,fun _ _ _ _ _ _=>rfl,fun _ _ _ _ _ _=>rfl⟩
def N6:Code->List Nat->Code
 |c,[] =>c
 |c,i::l=>N6 (RY c i) l
section
variable {P:Program} {Θ:nD}
def H3 [dY]:List (IQ P)->List (Nat×MD)
 | [] => []
 |k::l=>(k.n,k.e)::H3 l
theorem wv [dY]: ∀l:List (IQ P),lN P (DP (H3 l))
 | [] =>P6 P
 |k::l=>NZ k.ok (wv l)
def Cy [dY]:List (K1 P)->List (Nat×KX)
 | [] => []
 |q::l=>(gO q.c,q.e)::Cy l
def nF [dY]:List (K1 P)->List Code
 | [] => []
 |q::l=>q.c::nF l
def Cz:List Code->Bool
 | [] =>true
 |c::l=>l.all (fun d=> !Nat.beq (gO c) (gO d))&&Cz l
theorem K2 [dY]: ∀l:List (K1 P),Cz (nF l)=true->jd P (Cv (Cy l)) (nF l)
 | [],_=>fun c hc=>by cases hc
 |q::l,h=>by
  simp only[nF,Cz,al,ay] at h;intro c hc S ρ κ r hS hr;have hr: (bif Nat.beq (gO q.c) (gO c) then q.e S ρ κ else Cv (Cy l) (gO c) S ρ κ)=some r:=hr;rcases aX.1 hc with rfl|hc
  ·rw[cX] at hr;exact q.ok S ρ κ r hS hr
  ·have hb:Nat.beq (gO q.c) (gO c)=false:=by simpa using h.1 c hc
   rw[hb] at hr;exact K2 l h.2 c hc S ρ κ r hS hr
theorem H4 [dY] {Λ:List (K1 P)} {cs:List Code} (h:cs=nF Λ) (hn:Cz (nF Λ)=true):jd P (Cv (Cy Λ)) cs:=by rw[h]; exact K2 Λ hn
theorem xI {α β:Type} {a a':α} {b b':β} (h: (a,b)=(a',b')):a=a'/\b=b':=by cases h; exact⟨rfl,rfl⟩
theorem JB {a b:Bool} (h: (a&&b)=true):a=true/\b=true:=by simpa using h
variable (hΘ:gz P Θ) (hm:P.follows .mixedOrders=true)
noncomputable def US [dY] (fn:Func) (p:List Nat) (m:LX) (B:m.S->m.R) (Y:List (IQ P)) (Λ:List (K1 P)) (h: (gg (N6 (o7 fn) p),((lW P (N6 (o7 fn) p))&&(m.L.fit&&m.x.all S5))&&Cz (nF Λ))=(nF Λ,true))
  (hB: ∀s,(B s).bind (Sum.elim (fun s'=>some (X.nor,m.L.mk' s')) fun e=>some (yw.e m.x e))=zz Θ (DP (H3 Y)) (Cv (Cy Λ)) (N6 (o7 fn) p) (m.L.mk' s) (HX m.k m.kx fun x S=>some (x,S))):K1 P:=
 ⟨N6 (o7 fn) p,N0 m.g m.k m.L m.x (ii B),N2 hΘ (wv Y) hm (JB (JB (xI h).2).1).1 (H4 (xI h).1 (JB (xI h).2).2) m.g m.k m.kx m.L m.x (JB (JB (xI h).2).1).2 B (fun s=>(hB s).symm) (ii B) (RV B) (LZ B)⟩
theorem ME [dY] {f:FuncId} {fn:Func} {Λ:List (K1 P)} (h: (GD P f,gg (o7 fn),Nat.blt f 1048576&&Cz (nF Λ))=(some fn,nF Λ,true)):GD P f=some fn/\(∀c,fn.body=some c->jd P (Cv (Cy Λ)) (gg c))/\Nat.blt f 1048576=true:=
 have h2:=xI (xI h).2
 ⟨(xI h).1,S9 h2.1 (H4 rfl (JB h2.2).2),(JB h2.2).1⟩
noncomputable def UN [dY] (f:FuncId) (fn:Func) (ps:List wt) (rs:List Ty) (F:o3.D ps->Option (nV.D rs)) (Y:List (IQ P)) (Λ:List (K1 P)) (h: (GD P f,gg (o7 fn),Nat.blt f 1048576&&Cz (nF Λ))=(some fn,nF Λ,true))
  (hF: ∀x,(F x).bind (fun y=>ret (mJ rs y) fun v g=>some (v,g))=T4 Θ (DP (H3 Y)) (Cv (Cy Λ)) fn (mE ps x) fun v g=>some (v,g)):IQ P:=
 ⟨f,L0 ps rs F,Qc hΘ (wv Y) hm (ME h).1 (ME h).2.1 (ME h).2.2 F (fun x=>(hF x).symm) fun _ _ h=>h⟩
noncomputable def Uk [dY] (f:FuncId) (fn:Func) (el:Ty) (ps:List wt) (rs:List Ty) (F:List el.D->o3.D ps->Option (nV.D rs)) (Y:List (IQ P)) (Λ:List (K1 P)) (h: (GD P f,gg (o7 fn),Nat.blt f 1048576&&Cz (nF Λ))=(some fn,nF Λ,true))
  (hF: ∀l x,(F l x).bind (fun y=>ret (mJ rs y) fun v g=>some (v,g))=Nj Θ (DP (H3 Y)) (Cv (Cy Λ)) fn 0 el l (mE ps x) fun v g=>some (v,g)):IQ P:=
 ⟨DN f,RX el ps rs F,Qd (ME h).2.2 hΘ (wv Y) hm (ME h).1 (ME h).2.1 F (fun l x=>(hF l x).symm) fun _ _ _ h=>h⟩
noncomputable def Ul [dY] (f:FuncId) (fn:Func) (el:Ty) (ps:List wt) (rs:List Ty) (F:List el.D->o3.D ps->Option (List el.D×nV.D rs)) (Y:List (IQ P)) (Λ:List (K1 P)) (h: (GD P f,gg (o7 fn),Nat.blt f 1048576&&Cz (nF Λ))=(some fn,nF Λ,true))
  (hF: ∀l x,(F l x).bind (fun y=>N5 el rs y fun v g=>some (v,g))=Nj Θ (DP (H3 Y)) (Cv (Cy Λ)) fn 1 el l (mE ps x) fun v g=>some (v,g)):IQ P:=
 ⟨AU f,H0 el ps rs F,Qe hΘ (wv Y) hm (ME h).1 (ME h).2.1 (ME h).2.2 F (fun l x=>(hF l x).symm) fun _ _ _ h=>h⟩
noncomputable def Um [dY] (f:FuncId) (fn:Func) (el:Ty) (ps:List wt) (rs:List Ty) (F:List el.D->o3.D ps->Option (List el.D×nV.D rs)) (Y:List (IQ P)) (Λ:List (K1 P)) (h: (GD P f,gg (o7 fn),Nat.blt f 1048576&&Cz (nF Λ))=(some fn,nF Λ,true))
  (hF: ∀l x,(F l x).bind (fun y=>N5 el rs y fun v g=>some (v,g))=RN Θ (DP (H3 Y)) (Cv (Cy Λ)) fn el l (mE ps x) fun v g=>some (v,g)):IQ P:=
 ⟨BZ f,H0 el ps rs F,Qf hΘ (wv Y) hm (ME h).1 (ME h).2.1 (ME h).2.2 F (fun l x=>(hF l x).symm) fun _ _ _ h=>h⟩
abbrev Un (t:Ty) (y:List t.D×Unit):Option (V×List eT):=ret (mJ [.ls t] y) fun v g=>some (v,g)
abbrev UO (t:Ty) (n:Nat) (l:List t.D):Option (V×List eT):=iteP ((([]:List t.D)++l).length*n<=2 ^ 40) (Un t (([]:List t.D)++l,())) none
noncomputable def Uo [dY] (f:FuncId) (fn:Func) (t:Ty) (n:Nat) (F:List t.D->Option (List t.D×Unit)) (h: (GD P f,gg (o7 fn),Nat.blt f 1048576&&Cz (nF ([]:List (K1 P))))=(some fn,nF ([]:List (K1 P)),true))
  (h1: ∀l,F l=iteP (l.length*n<=2 ^ 40) (some (l,())) none)
  (h2: ∀x:o3.D [.ty (.ls t)],T4 Θ (DP (H3 ([]:List (IQ P)))) (Cv (Cy ([]:List (K1 P)))) fn (mE [.ty (.ls t)] x) (fun v g=>some (v,g))=RJ x.1 (Pr (Un t ([],())) (UO t n x.1) none) (UO t n x.1)):IQ P:=
 UN hΘ hm f fn [.ty (.ls t)] [.ls t] (fun x=>F x.1) [] [] h fun x=>by rw[h2,h1];exact (Qh x.1 n (Un t)).symm
end
end
end Go.Proofs.YtadabkgmdllbfabGreat.En
