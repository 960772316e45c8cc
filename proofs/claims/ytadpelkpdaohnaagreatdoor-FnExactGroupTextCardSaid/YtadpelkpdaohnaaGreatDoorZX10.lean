import Derived.Test.YtadpelkpdaohnaaGreatDoorZX9
import Derived.ProofKit
import Derived.ChangeOld
import Derived.Deep.Slices
import Derived.OpenShut
import Derived.Below
import Derived.Carry
import Derived.WideShapes
namespace Go.Proofs.YtadpelkpdaohnaaGreatDoor.En
section
open Go
inductive Sh where
 |int (k:IntKind)|bl|str|ro (t:Ty)|own (r:Nat) (t:Ty)|ptr (n j:Nat)|em|dead|pro (t:Ty)|fc (g:Nat)|sub (r:Nat) (t:Ty)
abbrev Sh.D:Sh->Type
 | .int _=>Int| .bl=>Bool| .str=>ByteArray| .ro t=>List t.D| .pro t=>t.D| .sub _ _=>Nat×Nat| _=>Unit
abbrev pZ.D:List Sh->Type
 | [] =>Unit
 |s::l=>s.D×pZ.D l
inductive sg where
 |cl (s:Sh)|agg (l:List Sh)|st (n:Sn)|fn (f:FuncId) (l:List Sh)
abbrev sg.D:sg->Type
 | .cl s=>s.D| .agg l=>pZ.D l| .st n=>n.D| .fn _ l=>pZ.D l
abbrev wt.D:List (Nat×sg)->Type
 | [] =>Unit
 |x::l=>x.2.D×wt.D l
abbrev wu.D:List (List Sh)->Type
 | [] =>Unit
 |x::l=>pZ.D x×wu.D l
abbrev nK.D:List Ty->Type
 | [] =>Unit
 |t::l=>List t.D×nK.D l
structure qc where
 env:List (Nat×sg)
 bx:List (List Sh)
 gh:List Ty
 fz:Nat
 nt:Nat
abbrev qc.D (L:qc):Type:=wt.D L.env×wu.D L.bx×nK.D L.gh
def Jc (G:List (Option en)) (r:Nat):Nat:=match kJ G r with |some (some tr)=>tr.l.length| _=>0
def Sh.mk (G:List (Option en)): (s:Sh)->s.D->Cl
 | .int k,n=> .c (.sc (.int k n))| .bl,v=> .c (.sc (.bool v))| .str,v=> .c (.sc (.string v))| .ro t,l=> .c (.ls t l)
 | .own r t,_=> .own ⟨r,[]⟩ t.width 0 (Jc G r) true| .ptr n j,_=> .ptrB n j| .em,_=> .em| .dead,_=> .dead| .pro t,x=> .pro (t.flat x)| .fc g,_=> .c (.sc (.func (.func g) #[] #[]))| .sub r t,x=> .own ⟨r,[]⟩ t.width x.1 x.2 false
def pZ.mk (G:List (Option en)): (l:List Sh)->pZ.D l->List Cl
 | [],_=> []
 |s::l,x=>s.mk G x.1::pZ.mk G l x.2
def sg.mk (G:List (Option en)): (v:sg)->v.D->V
 | .cl s,x=> .v (.cl (s.mk G x))| .agg l,x=> .v (.agg (pZ.mk G l x))| .st n,x=> .v (.agg ((n.flat x).map .c))| .fn f l,x=> .v (.fn f (pZ.mk G l x))
def wt.mk (G:List (Option en)): (l:List (Nat×sg))->wt.D l->List (Nat×V)
 | [],_=> []
 |x::l,d=>(x.1,x.2.mk G d.1)::wt.mk G l d.2
def wu.mk (G:List (Option en)): (l:List (List Sh))->wu.D l->List (List Cl)
 | [],_=> []
 |x::l,d=>pZ.mk G x d.1::wu.mk G l d.2
def nK.mk: (l:List Ty)->nK.D l->List (Option en)
 | [],_=> []
 |t::l,d=>some ⟨t,d.1,none⟩::nK.mk l d.2
def qc.mk' (L:qc) (d:L.D):TS:= { env:=wt.mk (nK.mk L.gh d.2.2) L.env d.1,bx:=wu.mk (nK.mk L.gh d.2.2) L.bx d.2.1,gh:=nK.mk L.gh d.2.2,fz:=L.fz,nt:=L.nt }
section
variable {ρ:Type}
def Sh.un: (s:Sh)->Cl->(s.D->Option ρ)->Option ρ
 | .int k, .c (.sc (.int k' n)),κ=>bif decide (k'=k) then κ n else none
 | .bl, .c (.sc (.bool v)),κ=>κ v
 | .str, .c (.sc (.string v)),κ=>κ v
 | .ro t, .c (.ls t' l),κ=>match ph t' t l with |some l=>κ l|none=>none
 | .own r t, .own p sz _ _ w,κ=>match p.l with | [] =>(bif w&&Nat.beq p.r r&&Nat.beq sz t.width then κ () else none)| _=>none
 | .ptr n i, .ptrB m j,κ=>bif Nat.beq m n&&Nat.beq j i then κ () else none
 | .em, .em,κ=>κ ()
 | .dead, .dead,κ=>κ ()
 | .pro t, .pro xs,κ=>(match t.unflat xs with |some x=>κ x|none=>none)
 | .fc g, .c (.sc (.func (.func g') cs ts)),κ=>bif Nat.beq g' g&&Nat.beq cs.size 0&&Nat.beq ts.size 0 then κ () else none
 | .sub r t, .own p sz lo len w,κ=>match p.l with | [] =>(bif !w&&Nat.beq p.r r&&Nat.beq sz t.width then κ (lo,len) else none)| _=>none
 | _,_,_=>none
def pZ.un: (l:List Sh)->List Cl->(pZ.D l->Option ρ)->Option ρ
 | [],[],κ=>κ ()
 |s::l,c::cs,κ=>s.un c fun x=>pZ.un l cs fun y=>κ (x,y)
 | _,_,_=>none
def sg.un: (v:sg)->V->(v.D->Option ρ)->Option ρ
 | .cl s, .v (.cl c),κ=>s.un c κ
 | .agg l, .v (.agg cs),κ=>pZ.un l cs κ
 | .st n, .v (.agg cs),κ=>match yk cs with |some xs=>(match n.unflat xs with |some x=>κ x|none=>none)|none=>none
 | .fn f l, .v (.fn g cs),κ=>bif Nat.beq f g then pZ.un l cs κ else none
 | _,_,_=>none
def wt.un: (l:List (Nat×sg))->List (Nat×V)->(wt.D l->Option ρ)->Option ρ
 | [],[],κ=>κ ()
 |x::l,y::m,κ=>bif Nat.beq x.1 y.1 then x.2.un y.2 fun a=>wt.un l m fun b=>κ (a,b) else none
 | _,_,_=>none
def wu.un: (l:List (List Sh))->List (List Cl)->(wu.D l->Option ρ)->Option ρ
 | [],[],κ=>κ ()
 |x::l,y::m,κ=>pZ.un x y fun a=>wu.un l m fun b=>κ (a,b)
 | _,_,_=>none
def nK.un: (l:List Ty)->List (Option en)->(nK.D l->Option ρ)->Option ρ
 | [],[],κ=>κ ()
 |t::l,some tr::m,κ=>match tr.hole with
  |none=>(match ph tr.t t tr.l with |some a=>nK.un l m fun b=>κ (a,b)|none=>none)
  |some _=>none
 | _,_,_=>none
def qc.un (L:qc) (S:TS) (κ:L.D->Option ρ):Option ρ:=nK.un L.gh S.gh fun g=>wt.un L.env S.env fun e=>wu.un L.bx S.bx fun b=>bif Nat.beq S.fz L.fz&&Nat.beq S.nt L.nt then κ (e,b,g) else none
theorem Sh.un_some {G:List (Option en)} (hG: ∀r,r<G.length-> ∃tr,kJ G r=some (some tr)): ∀ {s:Sh} {c:Cl} {κ:s.D->Option ρ} {r:ρ},c.ok G->s.un c κ=some r-> ∃x,c=s.mk G x/\κ x=some r:=by
 intro s c κ r hc h;cases s with
 |int k=>
  cases c with
  |c y=>cases y with
   |sc v=>cases v with
    |int k' n=>simp only[Sh.un] at h;obtain⟨h1,h⟩:=dG h;have:=of_decide_eq_true h1;subst this;exact⟨n,rfl,h⟩
    | _=>simp[Sh.un] at h
   |ls t l=>simp[Sh.un] at h
  | _=>simp[Sh.un] at h
 |bl=>
  cases c with
  |c y=>cases y with
   |sc v=>cases v with
    |bool v=>exact⟨v,rfl,h⟩
    | _=>simp[Sh.un] at h
   |ls t l=>simp[Sh.un] at h
  | _=>simp[Sh.un] at h
 |str=>
  cases c with
  |c y=>cases y with
   |sc v=>cases v with
    |string v=>exact⟨v,rfl,h⟩
    | _=>simp[Sh.un] at h
   |ls t l=>simp[Sh.un] at h
  | _=>simp[Sh.un] at h
 |ro t=>
  cases c with
  |c y=>cases y with
   |sc v=>simp[Sh.un] at h
   |ls t' l=>
    simp only[Sh.un] at h;split at h
    ·rename_i l' hl;obtain⟨e,hl⟩:=fI hl;subst e;simp only at hl;subst hl;exact⟨l,rfl,h⟩
    ·cases h
  | _=>simp[Sh.un] at h
 |own q t=>
  cases c with
  |own p sz lo len w=>
   obtain⟨pr,pl⟩:=p;cases pl with
   |cons a l=>simp[Sh.un] at h
   |nil=>simp only[Sh.un] at h;obtain⟨h1,h'⟩:=dG h;clear h;simp only[ao] at h1;obtain⟨⟨h0,h2⟩,h3⟩:=h1;have h2:pr=q:=ap h2;have h3:sz=t.width:=ap h3;subst h0 h2 h3;obtain⟨k1,k2⟩:=hc;obtain⟨_,k3,k4⟩:=k2 rfl;obtain⟨tr,htr⟩:=hG _ k1;have k5:=k4 tr (en.look htr);refine⟨(),?_,h'⟩;simp only[Sh.mk,Jc,k3,k5,htr]
  |c y=>cases y<;>simp[Sh.un] at h
  | _=>simp[Sh.un] at h
 |sub q t=>
  cases c with
  |own p sz lo len w=>
   obtain⟨pr,pl⟩:=p;cases pl with
   |cons a l=>simp[Sh.un] at h
   |nil=>simp only[Sh.un] at h;obtain⟨h1,h'⟩:=dG h;clear h;simp only[ao,bL] at h1;obtain⟨⟨h0,h2⟩,h3⟩:=h1;have h2:pr=q:=ap h2;have h3:sz=t.width:=ap h3;subst h0 h2 h3;exact⟨(lo,len),rfl,h'⟩
  |c y=>cases y<;>simp[Sh.un] at h
  | _=>simp[Sh.un] at h
 |ptr n i=>
  cases c with
  |ptrB m j=>simp only[Sh.un] at h;obtain⟨h1,h'⟩:=dG h;clear h;simp only[ao] at h1;have h2:=ap h1.1;have h3:=ap h1.2;subst h2 h3;exact⟨(),rfl,h'⟩
  |c y=>cases y<;>simp[Sh.un] at h
  | _=>simp[Sh.un] at h
 |em=>
  cases c with
  |em=>exact⟨(),rfl,h⟩
  |c y=>cases y<;>simp[Sh.un] at h
  | _=>simp[Sh.un] at h
 |dead=>
  cases c with
  |dead=>exact⟨(),rfl,h⟩
  |c y=>cases y<;>simp[Sh.un] at h
  | _=>simp[Sh.un] at h
 |pro t=>
  cases c with
  |pro xs=>
   simp only[Sh.un] at h;split at h
   ·rename_i x hx;exact⟨x,by simp only[Sh.mk]; rw[t.unflat_some _ _ hx],h⟩
   ·cases h
  |c y=>cases y<;>simp[Sh.un] at h
  | _=>simp[Sh.un] at h
 |fc g=>
  unfold Sh.un at h;split at h
  all_goals first | (rename_i hh; cases hh; done)|skip
  all_goals try (rename_i hh _; cases hh; done)
  ·rename_i e;cases e;obtain⟨h1,h'⟩:=dG h;simp only[ao] at h1;obtain⟨⟨h1,h2⟩,h3⟩:=h1;have h1:=ap h1;have h2:=cq (ap h2);have h3:=cq (ap h3);exact⟨(),by rw[h1,h2,h3]; rfl,h'⟩
  ·cases h
theorem pZ.un_some {G:List (Option en)} (hG: ∀r,r<G.length-> ∃tr,kJ G r=some (some tr)): ∀ {l:List Sh} {cs:List Cl} {κ:pZ.D l->Option ρ} {r:ρ},(∀c∈cs,c.ok G)->pZ.un l cs κ=some r-> ∃x,cs=pZ.mk G l x/\κ x=some r
 | [],[],κ,r,_,h=>⟨(),rfl,h⟩
 |s::l,c::cs,κ,r,hc,h=>by unfold pZ.un at h;obtain⟨x,h1,h⟩:=Sh.un_some hG (hc c aH) h;obtain⟨y,h2,h⟩:=pZ.un_some hG (fun z hz=>hc z (aE _ hz)) h;exact⟨(x,y),by rw[h1,h2]; rfl,h⟩
 | [],c::cs,κ,r,_,h=>by simp[pZ.un] at h
 |s::l,[],κ,r,_,h=>by simp[pZ.un] at h
theorem sO: ∀ {cs:List Cl} {xs:List C},yk cs=some xs->cs=xs.map .c
 | [],xs,h=>by simp only[yk,ae] at h; subst h; rfl
 |c::cs,xs,h=>by
  cases c with
  |c y=>
   simp only[yk] at h;split at h
   ·rename_i r hr;simp only[ae] at h;subst h;rw[sO hr];rfl
   ·cases h
  | _=>simp[yk] at h
theorem sg.un_some {G:List (Option en)} (hG: ∀r,r<G.length-> ∃tr,kJ G r=some (some tr)) {s:sg} {v:V} {κ:s.D->Option ρ} {r:ρ} (hv:v.ok G) (h:s.un v κ=some r): ∃x,v=s.mk G x/\κ x=some r:=by
 cases v with
 |tup l=>cases s<;>simp[sg.un] at h
 |v y=>
  cases s with
  |cl s=>cases y with
   |cl c=>obtain⟨x,h1,h⟩:=Sh.un_some hG hv h;exact⟨x,by rw[h1]; rfl,h⟩
   | _=>simp[sg.un] at h
  |agg l=>cases y with
   |agg cs=>obtain⟨x,h1,h⟩:=pZ.un_some hG hv h;exact⟨x,by rw[h1]; rfl,h⟩
   | _=>simp[sg.un] at h
  |st n=>cases y with
   |agg cs=>
    simp only[sg.un] at h;split at h
    ·rename_i xs hxs;split at h
     ·rename_i x hx;exact⟨x,by rw[sO hxs]; simp only[sg.mk]; rw[n.unflat_some _ _ hx],h⟩
     ·cases h
    ·cases h
   | _=>simp[sg.un] at h
  |fn f l=>cases y with
   |fn g cs=>simp only[sg.un] at h;obtain⟨h0,h'⟩:=dG h;clear h;have h0:=ap h0;subst h0;obtain⟨x,h1,h⟩:=pZ.un_some hG hv h';exact⟨x,by rw[h1]; rfl,h⟩
   | _=>simp[sg.un] at h
theorem wt.un_some {G:List (Option en)} (hG: ∀r,r<G.length-> ∃tr,kJ G r=some (some tr)): ∀ {l:List (Nat×sg)} {m:List (Nat×V)} {κ:wt.D l->Option ρ} {r:ρ},(∀x∈m,x.2.ok G)->wt.un l m κ=some r-> ∃x,m=wt.mk G l x/\κ x=some r
 | [],[],κ,r,_,h=>⟨(),rfl,h⟩
 |s::l,c::cs,κ,r,hc,h=>by unfold wt.un at h;obtain⟨h0,h⟩:=dG h;have h0:=ap h0;obtain⟨x,h1,h⟩:=sg.un_some hG (hc c aH) h;obtain⟨y,h2,h⟩:=wt.un_some hG (fun z hz=>hc z (aE _ hz)) h;refine⟨(x,y),?_,h⟩;rw[h2];obtain⟨c1,c2⟩:=c;simp only at h0 h1;rw[h1,<-h0];rfl
 | [],c::cs,κ,r,_,h=>by simp[wt.un] at h
 |s::l,[],κ,r,_,h=>by simp[wt.un] at h
theorem wu.un_some {G:List (Option en)} (hG: ∀r,r<G.length-> ∃tr,kJ G r=some (some tr)): ∀ {l:List (List Sh)} {m:List (List Cl)} {κ:wu.D l->Option ρ} {r:ρ},(∀cs∈m,∀c∈cs,c.ok G)->wu.un l m κ=some r-> ∃x,m=wu.mk G l x/\κ x=some r
 | [],[],κ,r,_,h=>⟨(),rfl,h⟩
 |s::l,c::cs,κ,r,hc,h=>by unfold wu.un at h;obtain⟨x,h1,h⟩:=pZ.un_some hG (hc c aH) h;obtain⟨y,h2,h⟩:=wu.un_some hG (fun z hz=>hc z (aE _ hz)) h;exact⟨(x,y),by rw[h1,h2]; rfl,h⟩
 | [],c::cs,κ,r,_,h=>by simp[wu.un] at h
 |s::l,[],κ,r,_,h=>by simp[wu.un] at h
theorem nK.un_some: ∀ {l:List Ty} {m:List (Option en)} {κ:nK.D l->Option ρ} {r:ρ},nK.un l m κ=some r-> ∃x,m=nK.mk l x/\κ x=some r
 | [],[],κ,r,h=>⟨(),rfl,h⟩
 |t::l,some tr::m,κ,r,h=>by
  unfold nK.un at h;split at h
  ·rename_i hh;split at h
   ·rename_i a ha;obtain⟨e,hl⟩:=fI ha;obtain⟨y,h2,h⟩:=nK.un_some h;obtain⟨t',l',hole⟩:=tr;simp only at hh e hl ha;subst hh e;simp only at hl;subst hl;exact⟨(l',y),by rw[h2]; rfl,h⟩
   ·cases h
  ·cases h
 | [],c::cs,κ,r,h=>by simp[nK.un] at h
 |t::l,[],κ,r,h=>by simp[nK.un] at h
 |t::l,none::m,κ,r,h=>by simp[nK.un] at h
theorem nK.mk_some: ∀ (l:List Ty) (d:nK.D l) (r:Nat),r< (nK.mk l d).length-> ∃tr,kJ (nK.mk l d) r=some (some tr)
 | [],d,r,h=>by simp[nK.mk] at h
 |t::l,d,0,h=>⟨_,rfl⟩
 |t::l,d,r+1,h=>by obtain⟨tr,htr⟩:=nK.mk_some l d.2 r (by simpa [nK.mk] using h);exact⟨tr,htr⟩
theorem qc.un_some {L:qc} {S:TS} (hS:S.ok) {κ:L.D->Option ρ} {r:ρ} (h:L.un S κ=some r): ∃d,S=L.mk' d/\κ d=some r:=by
 unfold qc.un at h;obtain⟨g,h1,h⟩:=nK.un_some h;have hG: ∀r,r<S.gh.length-> ∃tr,kJ S.gh r=some (some tr):=by rw[h1]; exact nK.mk_some _ _
 obtain⟨e,h2,h⟩:=wt.un_some hG hS.env h;obtain⟨b,h3,h⟩:=wu.un_some hG hS.bx h;obtain⟨h4,h⟩:=dG h;simp only[ao] at h4;have h5:=ap h4.1;have h6:=ap h4.2;refine⟨(e,b,g),?_,h⟩;obtain⟨env,bx,gh,fz,nt⟩:=S;simp only at h1 h2 h3 h5 h6;subst h5 h6;unfold qc.mk';simp only;rw[<-h1,<-h2,<-h3]
end
end
section
open Go
def Df (S:TS) (t:Ty):Cl:= .own ⟨S.gh.length,[]⟩ t.width 0 0 true
def Dg (n j:Nat) (t:Ty) (S:TS):TS:=match kJ S.bx n with
 |some cs=>(match kJ cs j with
  |some .em=> { S with bx:=eI S.bx n (eI cs j (Df S t)),gh:=S.gh++ [some ⟨t,[],none⟩] }
  | _=>S)
 |none=>S
def Dh (x:Nat) (t:Ty) (S:TS):TS:=match gn S.env x with
 | .v (.cl .em)=> { S with env:=(x, .v (.cl (Df S t)))::S.env,gh:=S.gh++ [some ⟨t,[],none⟩] }
 | _=>S
theorem Iy: ∀ (l:List (Nat×Nat)),T.go .dd l= .dd
 | [] =>rfl
 | (_,_)::l=>Iy l
theorem Jd (w:Nat) {l:List (Nat×Nat)} {s:Nat} {rs:List (List T)} (h:T.go (.sl w []) l= .sl s rs):rs= [] :=by
 cases l with
 |nil=>cases h; rfl
 |cons a l=>obtain⟨i,j⟩:=a;simp only[T.go,T.cell,List.getD_nil,Iy] at h;cases h
theorem xt {S S':TS} (t:Ty) (henv: ∀u,(gn S'.env u).av=(gn S.env u).av\/((gn S.env u).av= .em/\(gn S'.env u).av= .own ⟨S.gh.length,[]⟩ t.width 0 0))
  (hbx: ∀k cs',S'.st.bx k=some cs'-> ∃cs,S.st.bx k=some cs/\cs'.length=cs.length/\ ∀ (j:Nat) (v:AV),cs'[j]? =some v->cs[j]? =some v\/(cs[j]? =some .em/\v= .own ⟨S.gh.length,[]⟩ t.width 0 0))
  (hgh:S'.gh=S.gh++ [some ⟨t,[],none⟩]) (hfz:S'.fz=S.fz) (hnt:S'.nt=S.nt) (hbl:S'.bx.length=S.bx.length):kR S.st S'.st:=by
 intro w0 W btI SI bt a w hl0;have hl:=hl0.widen (N:=S.gh.length+1) (cF _);have inv:=hl.inv;have hng:S'.st.ng=S.gh.length+1:=by show S'.gh.length=_; rw[hgh]; simp
 have ghS: ∀r,S'.st.gh r=if r=S.gh.length then some (.sl t.width []) else S.st.gh r:=by intro r;show (eM S'.gh r).map en.tree=_;rw[hgh,jj];split<;>rfl
 have κ0: ∀l,(bt.widen S.st.ng (S.gh.length+1)).κ ⟨S.gh.length,l⟩=0:=by intro l;show (if S.gh.length<S.gh.length then _ else 0)=0;rw[if_neg (dE _)]
 have look: ∀p s rs,S'.st.look p= .sl s rs->(p.r=S.gh.length/\rs= [] /\(bt.widen S.st.ng (S.gh.length+1)).κ p=0)\/(p.r≠S.gh.length/\S.st.look p= .sl s rs):=by
  intro p s rs hp;unfold St.look at hp;rw[ghS] at hp;by_cases hr:p.r=S.gh.length
  ·rw[if_pos hr] at hp;left;refine⟨hr,Jd _ hp,?_⟩;obtain⟨pr,pl⟩:=p;simp only at hr;subst hr;exact κ0 pl
  ·rw[if_neg hr] at hp;exact .inr ⟨hr,hp⟩
 have own0: ∀ {u:Value},VR w (bt.widen S.st.ng (S.gh.length+1)) .em u->VR w (bt.widen S.st.ng (S.gh.length+1)) (.own ⟨S.gh.length,[]⟩ t.width 0 0) u:=by
  intro u hu;cases hu with
  |em ad=>exact .own (cG _) (aw _) (ba _) (fun h=>absurd h (dE _))
 refine⟨bt.widen S.st.ng (S.gh.length+1),?_⟩
 refine⟨{ os:=inv.os,tape:=inv.tape,output:=inv.output,size:=inv.size,keep:=inv.keep
          nb:=by show _=S'.bx.length; rw[hbl]; exact inv.nb
          ng:=by rw[hng]; exact inv.ng
          bx:=fun n cells hn=> ?_
          gh:=fun r x hr=> ?_
          tr:=fun p sz rows hp=> ?_
          inj:=fun p q s rs s' rs' hp hq hk hk' he=> ?_
          bbinj:=fun n m cs cs' hn hm he=> ?_
          bbtr:=fun n cs p s rs hn hp hk=> ?_
          alt:=inv.alt
          atr:=fun p s rs hp hk=> ?_
          abb:=fun n cs hn=> ?_ },⟨?_,fun u=> ?_⟩,hl.defers,?_,?_,hl.keep,fun r hr hn=> ?_⟩
 ·obtain⟨cs,h1,h2,h3⟩:=hbx n cells hn;obtain⟨g1,g2,arr,e,g3,g4,g5⟩:=inv.bx n cs h1;refine⟨by show n<S'.bx.length; rw[hbl]; exact g1,g2,arr,e,g3,by rw[h2]; exact g4,fun j v hj=> ?_⟩;rcases h3 j v hj with h4| ⟨h4,rfl⟩
  ·exact g5 j v h4
  ·obtain⟨c,k1,k2,k3⟩:=g5 j .em h4;exact⟨c,k1,own0 k2,k3⟩
 ·rw[hng];rw[ghS] at hr;split at hr
  ·omega
  ·have:=inv.gh r x hr;exact this
 ·rcases look p sz rows hp with ⟨h1,rfl,h3⟩| ⟨h1,h2⟩
  ·exact⟨ba _,fun hk=>by omega⟩
  ·exact inv.tr p sz rows h2
 ·rcases look p s rs hp with ⟨h1,_,h3⟩| ⟨h1,h2⟩
  ·omega
  ·rcases look q s' rs' hq with ⟨g1,_,g3⟩| ⟨g1,g2⟩
   ·omega
   ·exact inv.inj _ _ _ _ _ _ h2 g2 hk hk' he
 ·obtain⟨c,h1,_,_⟩:=hbx n cs hn;obtain⟨c',g1,_,_⟩:=hbx m cs' hm;exact inv.bbinj _ _ _ _ h1 g1 he
 ·obtain⟨c,h1,_,_⟩:=hbx n cs hn;rcases look p s rs hp with ⟨_,_,h3⟩| ⟨_,h2⟩
  ·omega
  ·exact inv.bbtr _ _ _ _ _ h1 h2 hk
 ·rcases look p s rs hp with ⟨_,_,h3⟩| ⟨_,h2⟩
  ·omega
  ·exact inv.atr _ _ _ h2 hk
 ·obtain⟨c,h1,_,_⟩:=hbx n cs hn;exact inv.abb _ _ h1
 ·have:=hl.er.1;show _=S'.nt;rw[hnt];exact this
 ·have h1:=hl.er.2 u;show VR w _ (gn S'.env u).av _;rcases henv u with h2| ⟨h2,h3⟩
  ·rw[h2]; exact h1
  ·rw[h3];have h1':VR w (bt.widen S.st.ng (S.gh.length+1)) (gn S.env u).av (a.tmps.getD u undef):=h1;rw[h2] at h1';exact own0 h1'
 ·show S'.fz=_;rw[hfz];exact hl.fz
 ·show S'.fz<=S'.gh.length;have:=hl.fzng;have e:S.fz<=S.gh.length+1:=this;have e2:S.st.fz<=S.st.ng:=hl0.fzng;have e3:S.fz<=S.gh.length:=e2;rw[hfz,hgh];simp;omega
 ·refine hl.gone r hr ?_;rw[ghS] at hn;split at hn
  ·cases hn
  ·exact hn
theorem AJ (S:TS) (t:Ty): (Df S t).ok (S.gh++ [some ⟨t,[],none⟩]):=by refine⟨by simp,fun _=>⟨rfl,rfl,fun tr htr=> ?_⟩⟩;rw[jj,if_pos rfl] at htr;cases htr;rfl
theorem Gc {S:TS} (hS:S.ok) (x:Nat) (t:Ty):kR S.st (Dh x t S).st/\(Dh x t S).ok:=by
 unfold Dh;split
 ·rename_i hx;refine⟨xt t (fun u=> ?_) (fun k cs' h=>⟨cs',h,rfl,fun j v hv=> .inl hv⟩) rfl rfl rfl rfl,⟨fun y hy=> ?_,fun cs hcs c hc=>Cl.ok_mono (f7.app _ _) (hS.bx cs hcs c hc)⟩⟩
  ·simp only[gn];cases hb:Nat.beq x u with
   |true=>have :x=u:=ap hb;subst this;right;rw[hx];exact⟨rfl,rfl⟩
   |false=>exact .inl rfl
  ·rcases aR.1 hy with rfl|hy
   ·exact AJ S t
   ·exact V.ok_mono (f7.app _ _) (hS.env y hy)
 ·exact⟨kR.refl,hS⟩
theorem Gd {S:TS} (hS:S.ok) (n j:Nat) (t:Ty):kR S.st (Dg n j t S).st/\(Dg n j t S).ok:=by
 unfold Dg;split
 ·rename_i cs hcs;split
  ·rename_i hj;rw[eW] at hcs hj;have hn:=(ai.1 hcs).1;refine⟨xt t (fun u=> .inl rfl) (fun k cs' h=> ?_) rfl rfl rfl (by simp[fH]),⟨fun y hy=>V.ok_mono (f7.app _ _) (hS.env y hy),fun cs' hcs' c hc=> ?_⟩⟩
   ·have h': (kJ (eI S.bx n (eI cs j (Df S t))) k).map (fun cs=>cs.map Cl.av)=some cs':=h;rw[eW,fH,fH,bC] at h';by_cases hk:n=k
    ·subst hk;rw[if_pos rfl,if_pos hn] at h';simp only[az,ae] at h';subst h';refine⟨cs.map Cl.av,by show (kJ S.bx n).map _=_; rw[eW,hcs]; rfl,by simp,fun i v hv=> ?_⟩;rw[an,bC] at hv;by_cases hi:j=i
     ·subst hi;rw[if_pos rfl,if_pos (ai.1 hj).1] at hv;right;rw[an,hj];simp only[az,ae] at hv;exact⟨rfl,hv.symm⟩
     ·rw[if_neg hi] at hv;left;rw[an];exact hv
    ·rw[if_neg hk] at h';exact⟨cs',by show (kJ S.bx k).map _=_; rw[eW]; exact h',rfl,fun i v hv=> .inl hv⟩
   ·simp only[fH] at hcs';rcases da hcs' with h1|h1
    ·exact Cl.ok_mono (f7.app _ _) (hS.bx _ h1 c hc)
    ·subst h1;rcases da hc with h2|h2
     ·exact Cl.ok_mono (f7.app _ _) (hS.bx _ (aq hcs) c h2)
     ·subst h2;exact AJ S t
  ·exact⟨kR.refl,hS⟩
 ·exact⟨kR.refl,hS⟩
inductive Cj where
 |t (x:Nat) (t:Ty)
 |b (n j:Nat) (t:Ty)
def p6:List Cj->TS->TS
 | [],S=>S
 | .t x t::l,S=>p6 l (Dh x t S)
 | .b n j t::l,S=>p6 l (Dg n j t S)
theorem q7: ∀ (l:List Cj) {S:TS},S.ok->kR S.st (p6 l S).st/\(p6 l S).ok
 | [],S,hS=>⟨kR.refl,hS⟩
 | .t x t::l,S,hS=>by obtain⟨h1,h2⟩:=Gc hS x t;obtain⟨h3,h4⟩:=q7 l h2;exact⟨h1.trans h3,h4⟩
 | .b n j t::l,S,hS=>by obtain⟨h1,h2⟩:=Gd hS n j t;obtain⟨h3,h4⟩:=q7 l h2;exact⟨h1.trans h3,h4⟩
section
variable {P:Program} {Θ:kL} {Y:sf} {Λ:nq}
def AK {ρ:Type} (keepN keepX:List Nat) (κ:X->TS->Option ρ) (x:X) (S:TS):Option ρ:=match x with
 | .nor=>sM keepN S (κ .nor)
 |x=>sM keepX S (κ x)
def Ge {σ ε:Type} (G:σ->Option ε) (μ:σ->Nat) (s:σ) (e:ε):Option (σ⊕ε)->Prop
 |some (.inl s')=>μ s'<μ s/\G s'=some e
 |some (.inr e')=>e'=e
 |none=>False
theorem HL (hΘ:fi P Θ) (hY:jH P Y) (hm:P.follows .mixedOrders=true) {c:Code} (hc:iH P c=true) (hL:gO P Λ (eZ c)) {σ ε:Type} {H:σ->TS} {E:ε->X×TS} {B:σ->Option (σ⊕ε)} {keepN keepX:List Nat}
  (hH: ∀s,(H s).ok) (hstep: ∀s,rA Θ Y Λ c (H s) (AK keepN keepX fun x S=>some (x,S))=(B s).bind (Sum.elim (fun s'=>some (.nor,H s')) fun e=>some (E e)))
  (hE: ∀e,(E e).1≠ .nor) {G:σ->Option ε} {μ:σ->Nat} (hG: ∀s e,G s=some e->Ge G μ s e (B s))
  {s:σ} {e:ε} (hs:G s=some e):lM P (.loop c) (H s).st (fun x S'=>x=(E e).1/\S'=(E e).2.st):=by
 refine lM.loop (fun n X=> ∃s,X=(H s).st/\G s=some e/\μ s=n) (fun n X hX=> ?_) (n:=μ s) ⟨s,rfl,hs,rfl⟩;obtain⟨s,rfl,hs,rfl⟩:=hX;have hg:=hG s e hs;have hst:=hstep s;cases hB:B s with
 |none=>rw[hB] at hg; exact hg.elim
 |some l=>
  rw[hB] at hg hst;cases l with
  |inl s'=>
   simp only[af,cU] at hst;refine (ue hΘ hY hm c _ _ _ hc hL (hH s) hst).mono (fun x S' hx=> ?_);obtain⟨S1,rfl,h1,h2⟩:=hx
   have fG: ∃S2:TS,kR S1.st S2.st/\x= .nor/\S2=H s':=by
    unfold AK at h2;split at h2
    ·obtain⟨S2,k1,_,k2⟩:=n9 h1 h2;simp only[ae,al] at k2;exact⟨S2,k1,rfl,k2.2⟩
    ·obtain⟨S2,k1,_,k2⟩:=n9 h1 h2;simp only[ae,al] at k2;exact⟨S2,k1,k2.1,k2.2⟩
   obtain⟨S2,k1,rfl,rfl⟩:=fG;exact⟨_,k1,μ s',hg.1,s',rfl,hg.2,rfl⟩
  |inr e'=>
   simp only[af,cH] at hst;have hg:e'=e:=hg;subst hg;refine (ue hΘ hY hm c _ _ _ hc hL (hH s) hst).mono (fun x S' hx=> ?_);obtain⟨S1,rfl,h1,h2⟩:=hx
   have fG: ∃S2:TS,kR S1.st S2.st/\(x,S2)=E e':=by
    unfold AK at h2;split at h2
    ·obtain⟨S2,k1,_,k2⟩:=n9 h1 h2;exact⟨S2,k1,Option.some.inj k2⟩
    ·obtain⟨S2,k1,_,k2⟩:=n9 h1 h2;exact⟨S2,k1,Option.some.inj k2⟩
   obtain⟨S2,k1,k2⟩:=fG;refine⟨S2.st,k1,?_⟩;have hx:x=(E e').1:=congrArg Prod.fst k2;have hS2:S2=(E e').2:=congrArg Prod.snd k2;have hne:=hE e';rw[<-hx] at hne;cases x with
   |nor=>exact absurd rfl hne
   |ret=>exact⟨hx,by rw[hS2]⟩
   |ext i=>exact⟨hx,by rw[hS2]⟩
def Gf (grow:List Cj) (keep:List Nat) (L:qc) {ε:Type} (E:ε->X×TS) (G:L.D->Option ε):TS->(ρ:Type)->(X->TS->Option ρ)->Option ρ:=
 fun S _ κ=>sM keep (p6 grow S) fun S1=>L.un S1 fun s=>(G s).bind fun e=>κ (E e).1 (E e).2
theorem Gg {c:Code} {grow:List Cj} {keep:List Nat} {L:qc} {ε:Type} {E:ε->X×TS} {G:L.D->Option ε} (hE: ∀e,(E e).2.ok)
  (h: ∀s e,G s=some e->lM P (.loop c) (L.mk' s).st (fun x S'=>x=(E e).1/\S'=(E e).2.st)) {S:TS} {ρ:Type} {κ:X->TS->Option ρ} {r:ρ} (hS:S.ok) (hk:Gf grow keep L E G S ρ κ=some r):
  lM P (.loop c) S.st (fun x S'=> ∃S1:TS,S'=S1.st/\S1.ok/\κ x S1=some r):=by
 unfold Gf at hk;obtain⟨h1,h2⟩:=q7 grow hS;obtain⟨S1,h3,h4,hk⟩:=n9 h2 hk;obtain⟨s,rfl,hk2⟩:=qc.un_some h4 hk;obtain⟨e,h5,hk3⟩:=aj.1 hk2;refine lM.weak (h1.trans h3) ((h s e h5).mono (fun x S' hx=> ?_));obtain⟨rfl,rfl⟩:=hx;exact⟨_,kR.refl,_,rfl,hE e,hk3⟩
end
end
section
open Go
abbrev lN.D:List Ty->Type
 | [] =>Unit
 |t::l=>t.D×lN.D l
def ln: (l:List Ty)->lN.D l->List ((t:Ty)×t.D)
 | [],_=> []
 |t::l,x=>⟨t,x.1⟩::ln l x.2
def xw (P:Program) (f:FuncId) (e:FD):Prop:= ∀args ρ κ r,e args ρ κ=some r-> ∃res out,to P f args res out/\res.ok (out.map some)/\κ res out=some r
theorem HM (P:Program):jH P (yl []):=fun _ _ _ _ _ h=>by cases h
theorem Gh {P:Program} {f:FuncId} {e:FD} {l:List (Nat×FD)} (h:xw P f e) (hl:jH P (yl l)):jH P (yl ((f,e)::l)):=by
 intro g args ρ κ r hr;have hr: (bif Nat.beq f g then e args ρ κ else I7 l g args ρ κ)=some r:=hr;cases hb:Nat.beq f g with
 |true=>rw[hb] at hr;have:=ap hb;subst this;exact h args ρ κ r hr
 |false=>rw[hb] at hr;exact hl g args ρ κ r hr
def Di (as bs:List AV):Prop:=as.length=bs.length/\ ∀ (k:Nat) (a b:AV),as[k]? =some a->bs[k]? =some b->a=b\/(a= .em/\ ∃s,b= .ro s [])
theorem Di.refl (as:List AV):Di as as:=⟨rfl,fun k a b h1 h2=>by rw[h1] at h2; cases h2; exact .inl rfl⟩
theorem Di.cons {a b:AV} {as bs:List AV} (h:a=b\/(a= .em/\ ∃s,b= .ro s [])) (hn:Di as bs):Di (a::as) (b::bs):=
 ⟨by simp[hn.1],fun k x y h1 h2=>by
  cases k with
  |zero=>simp only[aF,ae] at h1 h2; subst h1 h2; exact h
  |succ k=>exact hn.2 k x y (by simpa using h1) (by simpa using h2)⟩
theorem Di.VR {as bs:List AV} (hn:Di as bs) {w:World} {bt:Bt} {vals:List Value} (h: ∀ (k:Nat) (v:AV) (u:Value),as[k]? =some v->vals[k]? =some u->VR w bt v u) (k:Nat) (v:AV) (u:Value) (hv:bs[k]? =some v) (hu:vals[k]? =some u):VR w bt v u:=by
 have hk:k<as.length:=by rw[hn.1]; exact (ai.1 hv).1
 have ha:=ah hk;have hx:=h k _ u ha hu;rcases hn.2 k _ v ha hv with e| ⟨e,s,rfl⟩
 ·rw[<-e]; exact hx
 ·rw[e] at hx;cases hx with
  |em b=>exact .ro (.em _ _ _)
theorem lK.norm {P:Program} {f:FuncId} {as bs:List AV} {gs:List T} {res:AV} {out:List T} (hn:Di as bs) (h:lK P f bs gs res out):lK P f as gs res out:=
 fun w W bt0 vals hI hl hv=>h w W bt0 vals hI (hl.trans hn.1) (hn.VR hv)
theorem ky.norm {P:Program} {f:FuncId} {as bs:List AV} {gs:List T} {m:Nat} {res:AV} {out:List T} (hn:Di as bs) (h:ky P f bs gs m res out):ky P f as gs m res out:=
 fun w W bt0 vals hI hl hv=>h w W bt0 vals hI (hl.trans hn.1) (hn.VR hv)
theorem un_some {ρ:Type} {t:Ty} {a:V1} {κ:t.D->Option ρ} {r:ρ} (h:un t a κ=some r): ∃x,a=ym t x/\κ x=some r:=by
 unfold un at h;split at h
 ·rename_i cs;obtain⟨h1,h⟩:=dG h;split at h
  ·rename_i xs hxs;split at h
   ·rename_i x hx;refine⟨x,?_,h⟩;unfold ym;rw[h1,t.unflat_some _ _ hx,sO hxs];rfl
   ·cases h
  ·cases h
 ·rename_i y;cases hag:t.ag with
  |true=>rw[hag] at h; cases h
  |false=>
   rw[hag] at h;simp only[cond_false] at h;split at h
   ·rename_i x hx;refine⟨x,?_,h⟩;unfold ym;rw[hag,t.unflat_some _ _ hx];rfl
   ·cases h
 ·cases h
theorem Je (t:Ty) (x:t.D): (ym t x).ok [] :=by
 unfold ym;cases t.ag with
 |true=>intro c hc;obtain⟨y,_,rfl⟩:=aL.1 hc;trivial
 |false=>
  simp only[cond_false];split
  ·rename_i c hc;have :c∈(t.flat x).map Cl.c:=by rw[hc]; exact ay.2 rfl
   obtain⟨y,_,rfl⟩:=aL.1 this;trivial
  ·trivial
theorem yz (pre suf:List en): ∀ (cs:List C) (mid:List en),∀c∈qS cs (pre.length+mid.length),c.ok ((pre++mid++l6 cs++suf).map some)
 | [],mid,c,h=>by cases h
 | .sc v::cs,mid,c,h=>by
   rcases aR.1 h with rfl|h
   ·trivial
   ·exact yz pre suf cs mid c h
 | .ls t l::cs,mid,c,h=>by
   rcases aR.1 h with rfl|h
   ·refine⟨by simp[l6],fun _=>⟨rfl,rfl,fun tr htr=> ?_⟩⟩
    have :eM ((pre++mid++l6 (.ls t l::cs)++suf).map some) (pre.length+mid.length)=some ⟨t,l,none⟩:=by unfold eM;rw[eW,an,aU,aO (by simp)];simp[l6]
    have htr':eM ((pre++mid++l6 (.ls t l::cs)++suf).map some) (pre.length+mid.length)=some tr:=htr;rw[this] at htr';cases htr';rfl
   ·have:=yz pre suf cs (mid++ [⟨t,l,none⟩]) c (by rw[bn,<-dl]; exact h);simp only[l6];simpa using this
theorem HN (t:Ty) (x:t.D) (pre suf:List en): (D5 t x pre.length).ok ((pre++l6 (t.flat x)++suf).map some):=by
 have fG:=yz pre suf (t.flat x) [];simp only[bJ,ca,bw] at fG;unfold D5;cases t.ag with
 |true=>exact fG
 |false=>
  simp only[cond_false];split
  ·rename_i c hc;exact fG c (by rw[hc]; exact ay.2 rfl)
  ·trivial
theorem vk: ∀ (l:List ((t:Ty)×t.D)) (pre:List en),∀v∈rC pre.length l,v.ok ((pre++pj l).map some)
 | [],pre,v,h=>by cases h
 | ⟨t,x⟩::l,pre,v,h=>by
   rcases aR.1 h with rfl|h
   ·have:=HN t x pre (pj l);simpa [pj] using this
   ·have:=vk l (pre++l6 (t.flat x)) v (by rw[bn]; exact h);simpa [pj] using this
theorem yA (l:List ((t:Ty)×t.D)): (rB (rC 0 l)).ok ((pj l).map some):=by
 have h:=vk l [];simp only[bJ,bB] at h
 match rC 0 l,h with
 | [],_=>exact fun x hx=>by cases hx
 | [v],h=>exact h v aH
 |v::u::vs,h=>exact h
end
section
open Go
def Sh.fit (n:Nat):Sh->Bool| .own r _=>Nat.blt r n| .sub r _=>Nat.blt r n| _=>true
def sg.fit (n:Nat):sg->Bool| .cl s=>s.fit n| .agg l=>l.all (Sh.fit n)| .st _=>true| .fn _ l=>l.all (Sh.fit n)
def qc.fit (L:qc):Bool:=L.env.all (fun x=>x.2.fit L.gh.length)&&L.bx.all (fun l=>l.all (Sh.fit L.gh.length))
theorem nK.mk_length: ∀ (l:List Ty) (d:nK.D l),(nK.mk l d).length=l.length
 | [],_=>rfl
 |t::l,d=>by simp[nK.mk,nK.mk_length l d.2]
theorem Sh.mk_ok {G:List (Option en)} {s:Sh} (h:s.fit G.length=true) (x:s.D): (s.mk G x).ok G:=by
 cases s with
 |own r t=>
  refine⟨ax h,fun _=>⟨rfl,rfl,fun tr htr=> ?_⟩⟩;unfold eM at htr;unfold Jc;have htr': (kJ G r).getD none=some tr:=htr;cases hn:kJ G r with
  |none=>rw[hn] at htr'; cases htr'
  |some y=>rw[hn] at htr'; simp only[aK] at htr'; subst htr'; rfl
 |sub r t=>exact⟨ax h,fun e=>by cases e⟩
 | _=>trivial
theorem pZ.mk_ok {G:List (Option en)}: ∀ {l:List Sh},l.all (Sh.fit G.length)=true-> ∀ (x:pZ.D l),∀c∈pZ.mk G l x,c.ok G
 | [],_,x,c,hc=>by cases hc
 |s::l,h,x,c,hc=>by
  simp only[cd,ao] at h;rcases aR.1 hc with rfl|hc
  ·exact Sh.mk_ok h.1 x.1
  ·exact pZ.mk_ok h.2 x.2 c hc
theorem sg.mk_ok {G:List (Option en)} {v:sg} (h:v.fit G.length=true) (x:v.D): (v.mk G x).ok G:=by
 cases v with
 |cl s=>exact Sh.mk_ok h x
 |agg l=>exact pZ.mk_ok h x
 |st n=>intro c hc;obtain⟨y,_,rfl⟩:=aL.1 hc;trivial
 |fn f l=>exact pZ.mk_ok h x
theorem qc.mk'_ok {L:qc} (h:L.fit=true) (d:L.D): (L.mk' d).ok:=by
 unfold qc.fit at h;simp only[ao] at h;have hlen: (nK.mk L.gh d.2.2).length=L.gh.length:=nK.mk_length _ _;rw[<-hlen] at h
 have env: ∀ {l:List (Nat×sg)},l.all (fun x=>x.2.fit (nK.mk L.gh d.2.2).length)=true-> ∀ (e:wt.D l),∀x∈wt.mk (nK.mk L.gh d.2.2) l e,x.2.ok (nK.mk L.gh d.2.2):=by
  intro l
  induction l with
  |nil=>intro _ e x hx; cases hx
  |cons y l ih=>
   intro h e x hx;simp only[cd,ao] at h;rcases aR.1 hx with rfl|hx
   ·exact sg.mk_ok h.1 e.1
   ·exact ih h.2 e.2 x hx
 have bxs: ∀ {l:List (List Sh)},l.all (fun l=>l.all (Sh.fit (nK.mk L.gh d.2.2).length))=true-> ∀ (e:wu.D l),∀cs∈wu.mk (nK.mk L.gh d.2.2) l e,∀c∈cs,c.ok (nK.mk L.gh d.2.2):=by
  intro l
  induction l with
  |nil=>intro _ e x hx; cases hx
  |cons y l ih=>
   intro h e x hx;simp only[cd,ao] at h;rcases aR.1 hx with rfl|hx
   ·exact pZ.mk_ok h.1 e.1
   ·exact ih h.2 e.2 x hx
 exact⟨env h.1 d.1,bxs h.2 d.2.1⟩
abbrev rJ.D:List (X×qc)->Type
 | [] =>Empty
 | [x] =>x.2.D
 |x::y::l=>x.2.D⊕rJ.D (y::l)
def rJ.k {R:Type}: (l:List (X×qc))->rJ.D l->(X->TS->R)->R
 | [],e,_=>e.elim
 | [x],d,κ=>κ x.1 (x.2.mk' d)
 |x::y::l,e,κ=>Sum.elim (fun d=>κ x.1 (x.2.mk' d)) (fun e=>rJ.k (y::l) e κ) e
def rJ.e (l:List (X×qc)) (d:rJ.D l):X×TS:=rJ.k l d Prod.mk
theorem rJ.k_eq {R:Type}: ∀ (l:List (X×qc)) (d:rJ.D l) (κ:X->TS->R),rJ.k l d κ=κ (rJ.e l d).1 (rJ.e l d).2
 | [],e,_=>e.elim
 | [_],_,_=>rfl
 | _::_::_, .inl _,_=>rfl
 | _::y::l, .inr e,κ=>rJ.k_eq (y::l) e κ
def JX (x:X×qc):Bool:=(match x.1 with | .nor=>false| _=>true)&&x.2.fit
theorem rJ.ok: ∀ (l:List (X×qc)) (d:rJ.D l),l.all JX=true->(rJ.e l d).1≠ .nor/\(rJ.e l d).2.ok
 | [],e,_=>e.elim
 | [x],d,h=>by simp only[cd,ao,JX] at h;refine⟨fun e=> ?_,qc.mk'_ok h.1.2 d⟩;have e:x.1= .nor:=e;rw[e] at h;cases h.1.1
 |x::_::_, .inl d,h=>by simp only[cd,ao,JX] at h;refine⟨fun e=> ?_,qc.mk'_ok h.1.2 d⟩;have e:x.1= .nor:=e;rw[e] at h;cases h.1.1
 | _::y::l, .inr e,h=>rJ.ok (y::l) e (by simp only[cd,ao] at h ⊢;exact h.2)
def Gi (grow:List Cj) (keep:List Nat) (L:qc) (exs:List (X×qc)) (G:L.D->Option (rJ.D exs)):TS->(ρ:Type)->(X->TS->Option ρ)->Option ρ:=
 fun S _ κ=>sM keep (p6 grow S) fun S1=>L.un S1 fun s=>(G s).bind fun e=>rJ.k exs e κ
abbrev Dj:=TS->(ρ:Type)->(X->TS->Option ρ)->Option ρ
def wv:List (Nat×Dj)->nq
 | [],_,_,_,_=>none
 | (q,e)::l,n,S,ρ,κ=>bif Nat.beq q n then e S ρ κ else wv l n S ρ κ
section
variable {P:Program} {Θ:kL} {Y:sf} {Λ:nq}
def Gj (P:Program) (c:Code) (e:Dj):Prop:= ∀ (S:TS) (ρ:Type) (κ:X->TS->Option ρ) (r:ρ),S.ok->e S ρ κ=some r->lM P (.loop c) S.st (fun x S'=> ∃S1:TS,S'=S1.st/\S1.ok/\κ x S1=some r)
theorem Gk (hΘ:fi P Θ) (hY:jH P Y) (hm:P.follows .mixedOrders=true) {c:Code} (hc:iH P c=true) (hL:gO P Λ (eZ c)) (grow:List Cj) (keep keepX:List Nat) (L:qc) (exs:List (X×qc)) (hf: (L.fit&&exs.all JX)=true)
  (B:L.D->Option (L.D⊕rJ.D exs)) (hB: ∀s,rA Θ Y Λ c (L.mk' s) (AK keep keepX fun x S=>some (x,S))=(B s).bind (Sum.elim (fun s'=>some (.nor,L.mk' s')) fun e=>some (rJ.e exs e)))
  (G:L.D->Option (rJ.D exs)) (μ:L.D->Nat) (hG: ∀s e,G s=some e->Ge G μ s e (B s)):Gj P c (Gi grow keep L exs G):=by
 simp only[ao] at hf;intro S ρ κ r hS hk;refine Gg (E:=rJ.e exs) (fun e=>(rJ.ok exs e hf.2).2) (fun s e hs=>HL hΘ hY hm hc hL (fun s=>qc.mk'_ok hf.1 s) hB (fun e=>(rJ.ok exs e hf.2).1) hG hs) hS ?_ (grow:=grow) (keep:=keep);rw[<-hk];unfold Gf Gi;simp only[rJ.k_eq]
end
end
section
open Go
def HO (P:Program) (e:TypeId->List Value->Bool):List Field->Nat->List Value->Bool
 | [],_,[] =>true
 | [],_,_::_=>false
 |f::fs,off,zs=>f.name != "_" &&Nat.beq f.offset off&&Nat.blt 0 (P.cellsOf f.type)&&Nat.ble (P.cellsOf f.type) zs.length&&(P.info? f.type).isSome&&e f.type (zs.take (P.cellsOf f.type))&&HO P e fs (off+P.cellsOf f.type) (zs.drop (P.cellsOf f.type))
def AL (P:Program):Nat->TypeId->List Value->Bool
 | 0,_,_=>false
 |n+1,t,zs=>match P.underlying t with
  |some .bool=>(match zs with | [.bool _] =>true| _=>false)
  |some (.int _)=>(match zs with | [.int _ _] =>true| _=>false)
  |some (.struct fs)=> !P.stoodInHeld t&&HO P (AL P n) fs.toList 0 zs
  | _=>false
def ww (P:Program) (t:TypeId) (xs:List Value):Value:=match P.underlying t with
 |some (.struct _)=> .agg xs.toArray
 | _=>xs.headD (.bool false)
def i9:List Value->List Value->Bool
 | [],[] =>true
 | .int k _::zs, .int k' _::cs=>bif decide (k=k') then i9 zs cs else false
 | .bool _::zs, .bool _::cs=>i9 zs cs
 | _,_=>false
def jk:List Value->List Value->Option Bool
 | [],[] =>some true
 |a::l,b::m=>match Ae a b,jk l m with
  |some x,some y=>some (x&&y)
  | _,_=>none
 | _,_=>none
theorem vl: ∀ {zs xs:List Value},ja zs (xs.map fun x=> .c (.sc x))=true->i9 zs xs=true:=by
 intro zs
 induction zs with
 |nil=>intro xs h; cases xs with
  |nil=>rfl
  |cons=>simp[ja] at h
 |cons z zs ih=>
  intro xs h;cases xs with
  |nil=>cases z<;>simp[ja] at h
  |cons x xs=>
   cases z<;>cases x<;>simp only[aP,ja,i9,cond_eq_ite,aX] at h ⊢
   ·exact ih h
   ·split at h
    ·rename_i hk;rw[if_pos hk];exact ih h
    ·cases h
theorem Eh: ∀ {xs ys:List Value},pQ (xs.map fun x=> .c (.sc x)) (ys.map fun x=> .c (.sc x))=jk xs ys:=by
 intro xs
 induction xs with
 |nil=>intro ys; cases ys<;>rfl
 |cons x xs ih=>
  intro ys;cases ys with
  |nil=>rfl
  |cons y ys=>simp only[aP,pQ,jk,ih];cases Ae x y<;>cases jk xs ys<;>rfl
theorem l7: ∀ {zs xs:List Value},i9 zs xs=true->xs.length=zs.length:=by
 intro zs
 induction zs with
 |nil=>intro xs h; cases xs with
  |nil=>rfl
  |cons=>simp[i9] at h
 |cons z zs ih=>
  intro xs h;cases xs with
  |nil=>cases z<;>simp[i9] at h
  |cons x xs=>
   cases z<;>cases x<;>simp only[i9,cond_eq_ite,aX] at h
   ·simp[ih h]
   ·split at h
    ·simp[ih h]
    ·cases h
theorem oG: ∀ {zs xs:List Value} (n:Nat),i9 zs xs=true->i9 (zs.take n) (xs.take n)=true/\i9 (zs.drop n) (xs.drop n)=true:=by
 intro zs
 induction zs with
 |nil=>intro xs n h; cases xs with
  |nil=>simp[i9]
  |cons=>simp[i9] at h
 |cons z zs ih=>
  intro xs n h;cases xs with
  |nil=>cases z<;>simp[i9] at h
  |cons x xs=>
   cases n with
   |zero=>exact⟨rfl,h⟩
   |succ n=>
    cases z<;>cases x<;>simp only[i9,cond_eq_ite,aX] at h
    ·exact ih n h
    ·split at h
     ·rename_i hk;refine⟨?_,(ih n h).2⟩;simp only[List.take_succ_cons,i9,cond_eq_ite];rw[if_pos (by simpa using hk)];exact (ih n h).1
     ·cases h
theorem yB: ∀ {xs ys:List Value} (n:Nat) {r:Bool},jk xs ys=some r-> ∃a b,jk (xs.take n) (ys.take n)=some a/\jk (xs.drop n) (ys.drop n)=some b/\r=(a&&b):=by
 intro xs
 induction xs with
 |nil=>intro ys n r h; cases ys with
  |nil=>cases h; exact⟨true,true,by simp[jk],by simp[jk],rfl⟩
  |cons=>simp[jk] at h
 |cons x xs ih=>
  intro ys n r h;cases ys with
  |nil=>simp[jk] at h
  |cons y ys=>
   cases n with
   |zero=>exact⟨true,r,rfl,h,rfl⟩
   |succ n=>
    simp only[jk] at h;split at h
    ·rename_i p q hp hq;cases h;obtain⟨a,b,h1,h2,rfl⟩:=ih n hq;exact⟨p&&a,b,by simp[jk,hp,h1],h2,by cases p<;>rfl⟩
    ·cases h
theorem yC {P:Program} {t:TypeId} {i:TypeInfo} (h:P.info? t=some i):dR P (typeInfo t)=some i:=by simp only[typeInfo,dP,program,dR,af,h];rfl
theorem AM {P:Program} {t:TypeId} {i:TypeInfo} (hi:P.info? t=some i) {d:TypeDesc} (hd:P.underlying t=some d) (hs: ∀n e,d≠ .array n e) {xs:List Value} {off:Nat} {c:Value} (hc:xs[off]? =some c):
  dR P (part t xs.toArray off)=some (ww P t ((xs.drop off).take (P.cellsOf t)))\/P.cellsOf t=0:=by
 by_cases h0:P.cellsOf t=0
 ·exact .inr h0
 refine .inl ?_;have hcell:P.cellsOf t=i.size:=by simp[Program.cellsOf,hi]
 cases hst: (match d with | .struct _=>true| _=>false) with
 |true=>
  have hag:dR P (isAgg t)=some true:=by simp only[isAgg,dP,eN hd,af];cases d<;>simp at hst;rfl
  simp only[part,sizeOf,dP,hag,af,if_true,yC hi,dS,ww,hd];cases d<;>simp at hst;simp[hcell,Nat.add_sub_cancel_left]
 |false=>
  have hag:dR P (isAgg t)=some false:=by
   simp only[isAgg,dP,eN hd,af];cases d<;>simp at hst
   all_goals first |rfl|exact absurd rfl (hs _ _)
  have hv:ww P t ((xs.drop off).take (P.cellsOf t))=c:=by
   have : ((xs.drop off).take (P.cellsOf t)).headD (.bool false)=c:=by
    obtain⟨n,hn⟩: ∃n,P.cellsOf t=n+1:=⟨P.cellsOf t-1,by omega⟩
    have h1:off<xs.length:=(ai.1 hc).1;rw[hn,bQ h1,List.take_succ_cons];exact (ai.1 hc).2
   unfold ww;rw[hd];cases d<;>first |exact this|simp at hst
  rw[hv];simp only[part,dP,hag,af,aX,if_false];have :xs.toArray[off]? =some c:=by simpa using hc
  rw[this];rfl
theorem Dk (P:Program): ∀ (n:Nat) {t:TypeId} {zs xs ys:List Value} {r:Bool} (d:Nat),AL P n t zs=true->i9 zs xs=true->i9 zs ys=true->jk xs ys=some r->dR P (Op.equalIn (n+d) t (ww P t xs) (ww P t ys))=some r
 | 0,t,zs,xs,ys,r,d,h,_,_,_=>by cases h
 |n+1,t,zs,xs,ys,r,d,h,hx,hy,he=>by
  have hn:n+1+d=(n+d)+1:=by omega
  rw[hn];unfold AL at h;cases hu:P.underlying t with
  |none=>rw[hu] at h; cases h
  |some D=>
   rw[hu] at h;cases D<;>simp only[aX] at h
   case bool=>
    split at h
    case h_2=>cases h
    obtain⟨x,rfl⟩: ∃x,xs= [.bool x] :=by
     match xs,hx with
     | [.bool x],_=>exact⟨x,rfl⟩
    obtain⟨y,rfl⟩: ∃y,ys= [.bool y] :=by
     match ys,hy with
     | [.bool y],_=>exact⟨y,rfl⟩
    simp only[jk,Ae,c7,ae] at he;subst he;simp only[ww,hu,List.headD_cons];rw[Op.equalIn];simp only[dP,eN hu,af,dS]
   case int k=>
    split at h
    case h_2=>cases h
    rename_i k0 _
    obtain⟨x,rfl⟩: ∃x,xs= [.int k0 x] :=by
     match xs,hx with
     | [.int k1 x],hx=>
       simp only[i9,cond_eq_ite] at hx;split at hx
       ·rename_i hk; simp at hk; subst hk; exact⟨x,rfl⟩
       ·cases hx
     | .int _ _::_::_,hx=>simp[i9] at hx
    obtain⟨y,rfl⟩: ∃y,ys= [.int k0 y] :=by
     match ys,hy with
     | [.int k1 x],hx=>
       simp only[i9,cond_eq_ite] at hx;split at hx
       ·rename_i hk; simp at hk; subst hk; exact⟨x,rfl⟩
       ·cases hx
     | .int _ _::_::_,hx=>simp[i9] at hx
    simp only[jk,Ae,c7,ae] at he;subst he;simp only[ww,hu,List.headD_cons];rw[Op.equalIn];simp only[dP,eN hu,af,dS,if_true]
   case struct fs=>
    simp only[ao,bL] at h;obtain⟨hst,h⟩:=h;simp only[ww,hu]
    have fG: ∀ (fs:List Field) (off:Nat) (zs:List Value) (r:Bool),HO P (AL P n) fs off zs=true->i9 zs (xs.drop off)=true->i9 zs (ys.drop off)=true->jk (xs.drop off) (ys.drop off)=some r->
      dR P (Op.eqFields (n+d) xs.toArray ys.toArray fs)=some r:=by
     intro fs
     induction fs with
     |nil=>
      intro off zs r h hx hy he;cases zs with
      |nil=>have h1:=l7 hx;have h2:=l7 hy;simp only[bJ,cJ] at h1 h2;rw[h1,h2] at he;cases he;rfl
      |cons=>cases h
     |cons f fs ih=>
      intro off zs r h hx hy he;simp only[HO,ao,bne_iff_ne,ne_eq] at h;obtain⟨⟨⟨⟨⟨⟨hname,hoff⟩,hpos⟩,hle⟩,hi⟩,h1⟩,h2⟩:=h;have hoff:=ap hoff;have hpos:0<P.cellsOf f.type:=ax hpos;have hle:P.cellsOf f.type<=zs.length:=ax hle;have hlx:=l7 hx;have hly:=l7 hy;rw[ch] at hlx hly;obtain⟨i,hi⟩:=bu.1 hi
      have hu': ∃D,P.underlying f.type=some D/\ ∀n e,D≠ .array n e:=by
       cases hun:P.underlying f.type with
       |none=>cases n<;>simp[AL,hun] at h1
       |some D=>refine⟨D,rfl,fun k e he=> ?_⟩; subst he; cases n<;>simp[AL,hun] at h1
      obtain⟨D,hD,hDa⟩:=hu';have px:=AM hi hD hDa (xs:=xs) (off:=off) (ah (by omega));have py:=AM hi hD hDa (xs:=ys) (off:=off) (ah (by omega));have px:=px.resolve_right (by omega);have py:=py.resolve_right (by omega);obtain⟨a,b,ha,hb,rfl⟩:=yB (P.cellsOf f.type) he;have hA:=Dk P n d h1 (oG _ hx).1 (oG _ hy).1 ha;rw[Op.eqFields,if_pos hname];simp only[hoff,dP,px,py,af,hA];cases a with
      |false=>rfl
      |true=>
       simp only[bq,aX,if_false,Bool.true_and];simp only[b8] at hb;refine ih _ _ _ h2 ?_ ?_ hb
       ·have:=(oG (P.cellsOf f.type) hx).2; rw[b8] at this; exact this
       ·have:=(oG (P.cellsOf f.type) hy).2; rw[b8] at this; exact this
    have:=fG fs.toList 0 zs r h (by simpa using hx) (by simpa using hy) (by simpa using he);rw[<-this];rw[Op.equalIn];simp only[dP,eN hu,af,program,dR,hst,aX,if_false];rw[<-Array.forIn_toList];generalize fs.toList=fs;clear this fG h hu hst hn
    induction fs with
    |nil=>rfl
    |cons f fs ih=>
     simp only[List.forIn_cons,Op.eqFields];split
     ·simp only[dP];cases dR P (part f.type xs.toArray f.offset) with
      |none=>rfl
      |some a=>
       cases dR P (part f.type ys.toArray f.offset) with
       |none=>rfl
       |some b=>
        simp only[af];cases dR P (Op.equalIn (n+d) f.type a b) with
        |none=>rfl
        |some q=>
         cases q
         ·rfl
         ·simp only[af,bq,aX,if_false,dS];simpa only[dP,Option.bind_assoc] using ih
     ·simp only[dP,dS,af];simpa only[dP,Option.bind_assoc] using ih
theorem JY {P:Program} {t:TypeId} {zs:List Value} {fs:Array Field} (hu:P.underlying t=some (.struct fs)) (h:AL P 8 t zs=true) (a b:List Cl) (r:Bool) (xs ys:List Value) (ha:ja zs a=true) (hb:ja zs b=true) (he:pQ a b=some r) (hx:a=xs.map (fun x=> .c (.sc x))) (hy:b=ys.map (fun x=> .c (.sc x))):
  dR P (Op.equal t (.agg xs.toArray) (.agg ys.toArray))=some r:=by
 subst hx hy;have:=Dk P 8 9992 h (vl ha) (vl hb) (by rw[<-Eh]; exact he);unfold ww at this;rw[hu] at this;exact this
end
section
open Go
def KG (P:Program):List Field->Option (List (Nat×Nat×Bool))
 | [] =>some []
 |f::fs=>match vY P f.type,KG P fs with
  |some ag,some l=>some ((f.offset,P.cellsOf f.type,ag)::l)
  | _,_=>none
def KS (P:Program) (t:TypeId):Option (List (Nat×Nat×Bool)):=match P.underlying t with |some (.struct fs)=>KG P fs.toList| _=>none
theorem Dl {P:Program}: ∀ {fs:List Field} {l:List (Nat×Nat×Bool)},KG P fs=some l-> ∀k,(fs[k]?).bind (fun f=>(vY P f.type).map fun ag=>(f.offset,P.cellsOf f.type,ag))=kJ l k
 | [],l,h,k=>by cases h; rfl
 |f::fs,l,h,k=>by
  unfold KG at h;split at h
  ·rename_i ag l' h1 h2;cases h;cases k with
   |zero=>simp[h1,kJ]
   |succ k=>show _=kJ l' (k+1-1);rw[ck,<-Dl h2 k,bV]
  ·cases h
theorem HP {P:Program} {t:TypeId} {l:List (Nat×Nat×Bool)} (h:KS P t=some l) (k:Nat):EV P t k=kJ l k:=by
 unfold KS at h;unfold EV;split at h
 ·rename_i fs hu;simp only[hu];rw[<-Dl h k,cj]
 ·cases h
theorem HQ (P:Program):fi P [] :=fun _ _ h=>by cases h
theorem dU {P:Program} {t:Nat} {ti:TI} {l:kL} (h:ti.ok P t) (hl:fi P l):fi P ((t,ti)::l):=by
 intro u ui hu;unfold jh at hu;cases hb:Nat.beq t u with
 |true=>rw[hb] at hu;have:=ap hb;subst this;cases hu;exact h
 |false=>rw[hb] at hu;exact hl u ui hu
def JZ (P:Program) (t:TypeId):Bool:=match P.underlying t with |some (.struct _)=>true| _=>false
section
variable {P:Program} {t:TypeId}
theorem lp {n:Sn} {fds:List (Nat×Nat×Bool)} {by':Nat} (h1:JZ P t=true) (h2:P.cellsOf t=(Ty.st n).width) (h3:ku P 9 t=(Ty.st n).shs) (h4:se P t=some (Ty.st n).zvs) (h5:KS P t=some fds)
  (h6:JH P t=some (fds.map fun x=>(x.1,x.2.1))) (h7: ((Ty.st n).flatB=true->P.eqGuardType P.depth t=false/\AL P 8 t (Ty.st n).zvs=true)) (hz: (Ty.st n).flatB=false-> ∀xs:List Value,ja (Ty.st n).zvs (xs.map fun x=> .c (.sc x))=false):TI.ok P t ⟨.st n,0,fds,by'⟩:=by
 unfold JZ at h1;split at h1
 case h_2=>cases h1
 rename_i fs hu;refine⟨?_,h2,h3,h4,HP h5,fun _=>h6,fun e he=>(by cases he),fun hb=>(by cases hb),fun _ hf=>(h7 hf).1,fun _ a b r xs ys ha hb he hx hy=> ?_,?_,fun k hk=>(by cases hk),fun k u hk=>(by cases hk)⟩
 ·simp[vY,hu,Ty.ag]
 ·cases hf: (Ty.st n).flatB with
  |true=>exact JY hu (h7 hf).2 a b r xs ys ha hb he hx hy
  |false=>subst hx;have:=hz hf xs;rw[show ja (Ty.st n).zvs _=true from ha] at this;cases this
 ·simp[tH,hu]
def La (P:Program) (u:TypeId):Ty->Bool| .i k=>(match P.underlying u with |some (.int k')=>decide (k'=k)| _=>false)| _=>true
theorem oa {e:Ty} {el:Nat} {by':Nat} {u:TypeId} (h1:o6 P t=some u) (h2:P.cellsOf t=1) (h4:se P t=some [.slice none 0 0]) (h5:P.cellsOf u=e.width) (h6:P.bytesOf u=el) (h7:Nat.blt 0 el=true) (h8:ku P 9 u=e.shs) (h9:se P u=some e.zvs) (h10:La P u e=true):TI.ok P t ⟨.ls e,el,[],by'⟩:=by
 have hu:P.underlying t=some (.slice u):=by
  unfold o6 at h1;split at h1
  ·rename_i e hu; cases h1; exact hu
  ·cases h1
 refine⟨?_,h2,?_,h4,fun k=> ?_,fun h=>(by cases h),fun e' he=> ?_,fun hb=>(by cases hb),fun h=>(by cases h),fun h=>(by cases h),?_,fun k hk=>(by cases hk),fun k u' hk hu'=> ?_⟩
 ·simp[vY,hu,Ty.ag]
 ·simp[ku,hu,Ty.shs,Ty.csh,h5]
 ·simp[EV,hu,kJ]
 ·cases he;exact⟨u,h1,h5,h6,ax h7,h8,h9⟩
 ·simp[tH,hu]
 ·cases hk;rw[h1] at hu';cases hu';unfold La at h10;simp only at h10;split at h10
  ·rename_i k' hk';rw[hk',of_decide_eq_true h10]
  ·cases h10
def Lb (P:Program) (t:TypeId) (y:Ty):Bool:=match P.underlying t,y with
 |some (.int k), .i k'=>decide (k=k')
 |some .bool, .b=>true
 |some .string, .s=>true
 | _,_=>false
theorem qp {y:Ty} {by':Nat} (h1:Lb P t y=true) (h2:P.cellsOf t=1) (h4:se P t=some y.zvs):TI.ok P t ⟨y,0,[],by'⟩:=by
 unfold Lb at h1;split at h1
 ·rename_i k k' hu;refine⟨(by simp[vY,hu,Ty.ag]),h2,(by simp[ku,hu,Ty.shs,Ty.csh]),h4,fun k=>(by simp[EV,hu,kJ]),fun h=>(by cases h),fun e' he=>(by cases he),fun hb=>(by cases hb),fun h=>(by cases h),fun h=>(by cases h),by simp[tH,hu],fun q hq=>(by cases hq; rw[hu]; simp only[decide_eq_true_eq] at h1; rw[h1]),fun k u hk=>(by cases hk)⟩
 ·rename_i hu;refine⟨(by simp[vY,hu,Ty.ag]),h2,(by simp[ku,hu,Ty.shs,Ty.csh]),h4,fun k=>(by simp[EV,hu,kJ]),fun h=>(by cases h),fun e' he=>(by cases he),fun hb=>hu,fun h=>(by cases h),fun h=>(by cases h),by simp[tH,hu],fun q hq=>(by cases hq),fun k u hk=>(by cases hk)⟩
 ·rename_i hu;refine⟨(by simp[vY,hu,Ty.ag]),h2,(by simp[ku,hu,Ty.shs,Ty.csh]),h4,fun k=>(by simp[EV,hu,kJ]),fun h=>(by cases h),fun e' he=>(by cases he),fun hb=>(by cases hb),fun h=>(by cases h),fun h=>(by cases h),by simp[tH,hu],fun q hq=>(by cases hq),fun k u hk=>(by cases hk)⟩
 ·cases h1
end
theorem gY: ∀ {zs:List Value} (xs:List Value),zs.any (fun z=>match z with | .int _ _=>false| .bool _=>false| _=>true)=true->ja zs (xs.map fun x=> .c (.sc x))=false
 | [],xs,h=>by cases h
 |z::zs,xs,h=>by
  cases hb:ja (z::zs) (xs.map fun x=> .c (.sc x)) with
  |false=>rfl
  |true=>
   exfalso;cases xs with
   |nil=>cases z<;>simp[ja] at hb
   |cons x xs=>
    cases z<;>simp only[ja,aP,aX] at hb
    all_goals cases x<;>simp only[ja,cond_eq_ite,aX] at hb
    ·rw[gY xs (by simpa using h)] at hb; cases hb
    ·split at hb
     ·rw[gY xs (by simpa using h)] at hb; cases hb
     ·cases hb
end
section
open Go
section
variable {σ ε:Type}
def q8 (B:σ->Option (σ⊕ε)):Nat->σ->Option ε
 | 0,_=>none
 |n+1,s=>(B s).bind (Sum.elim (q8 B n) some)
theorem sP (B:σ->Option (σ⊕ε)): ∀ {n m:Nat} {s:σ} {e:ε},n<=m->q8 B n s=some e->q8 B m s=some e
 | 0,_,_,_,_,h=>by cases h
 |n+1,0,_,_,hm,_=>by omega
 |n+1,m+1,s,e,hm,h=>by
  unfold q8 at h ⊢;cases hB:B s with
  |none=>rw[hB] at h; cases h
  |some x=>
   rw[hB] at h;cases x with
   |inl s'=>exact sP B (by omega) h
   |inr e'=>exact h
theorem yD {p:Nat->Prop} (h: ∃n,p n): ∃n,p n/\ ∀m,p m->n<=m:=by
 obtain⟨n,hn⟩:=h
 induction n using Nat.strongRecOn with
 | _ n ih=>
   by_cases hx: ∃m,m<n/\p m
   ·obtain⟨m,hm,hp⟩:=hx;exact ih m hm hp
   ·exact⟨n,hn,fun m hm=>Nat.le_of_not_lt fun hlt=>hx ⟨m,hlt,hm⟩⟩
noncomputable def hZ (B:σ->Option (σ⊕ε)) (s:σ):Option ε:=open Classical in if h: ∃n,(q8 B n s).isSome=true then q8 B (Classical.choose h) s else none
noncomputable def Jf (B:σ->Option (σ⊕ε)) (s:σ):Nat:=open Classical in if h: ∃n,(q8 B n s).isSome=true then Classical.choose (yD h) else 0
theorem pp {B:σ->Option (σ⊕ε)} {s:σ} {e:ε}:hZ B s=some e↔ ∃n,q8 B n s=some e:=by
 classical
 constructor
 ·intro h;unfold hZ at h;split at h
  ·rename_i hx;exact⟨_,h⟩
  ·cases h
 ·rintro⟨n,h⟩
  have hx: ∃n,(q8 B n s).isSome=true:=⟨n,by rw[h]; rfl⟩
  unfold hZ;rw[dif_pos hx];obtain⟨e',he⟩:=bu.1 (Classical.choose_spec hx);have h1:=sP B (Nat.le_max_left (Classical.choose hx) n) he;have h2:=sP B (Nat.le_max_right (Classical.choose hx) n) h;rw[h1] at h2;cases h2;exact he
theorem pq (B:σ->Option (σ⊕ε)) (s:σ):hZ B s=(B s).bind (Sum.elim (hZ B) some):=by
 apply Option.ext;intro e;rw[pp];constructor
 ·rintro⟨n,h⟩
  cases n with
  |zero=>cases h
  |succ n=>
   unfold q8 at h;cases hB:B s with
   |none=>rw[hB] at h; cases h
   |some x=>
    rw[hB] at h;cases x with
    |inl s'=>exact pp.2 ⟨n,h⟩
    |inr e'=>exact h
 ·intro h;cases hB:B s with
  |none=>rw[hB] at h; cases h
  |some x=>
   rw[hB] at h;cases x with
   |inl s'=>obtain⟨n,h⟩:=pp.1 (show hZ B s'=some e from h);exact⟨n+1,by unfold q8; rw[hB]; exact h⟩
   |inr e'=>exact⟨1,by unfold q8; rw[hB]; exact h⟩
theorem Ei (B:σ->Option (σ⊕ε)) (s:σ) (e:ε) (h:hZ B s=some e):Ge (hZ B) (Jf B) s e (B s):=by
 classical
 have h0:=h;rw[pq] at h;cases hB:B s with
 |none=>rw[hB] at h; cases h
 |some x=>
  rw[hB] at h;cases x with
  |inl s'=>
   refine⟨?_,h⟩
   have hx: ∃n,(q8 B n s).isSome=true:=by obtain⟨n,hn⟩:=pp.1 h0;exact⟨n,by rw[hn]; rfl⟩
   have hx': ∃n,(q8 B n s').isSome=true:=by obtain⟨n,hn⟩:=pp.1 (show hZ B s'=some e from h);exact⟨n,by rw[hn]; rfl⟩
   unfold Jf;rw[dif_pos hx,dif_pos hx'];have:=(Classical.choose_spec (yD hx)).1;cases hn:Classical.choose (yD hx) with
   |zero=>rw[hn] at this; cases this
   |succ n=>rw[hn] at this;unfold q8 at this;rw[hB] at this;exact Nat.lt_succ_of_le ((Classical.choose_spec (yD hx')).2 n this)
  |inr e'=>exact (Option.some.inj h)
end
inductive q9 where
 |ty (t:Ty)|pr (t:Ty)|fc (g:Nat)|fn (g:Nat) (caps:List Ty)|nl
abbrev q9.D:q9->Type
 | .ty t=>t.D
 | .pr t=>t.D
 | .fc _=>Unit
 | .fn _ caps=>lN.D caps
 | .nl=>Unit
abbrev kS.D:List q9->Type
 | [] =>Unit
 |p::l=>p.D×kS.D l
def yE: (l:List Ty)->lN.D l->List Cl
 | [],_=> []
 |t::l,x=> .pro (t.flat x.1)::yE l x.2
def q9.v1: (p:q9)->p.D->V1
 | .ty t,x=>ym t x
 | .pr t,x=> .cl (.pro (t.flat x))
 | .fc g,_=> .cl (.c (.sc (.func (.func g) #[] #[])))
 | .fn g caps,x=> .fn g (yE caps x)
 | .nl,_=> .cl .em
def iI: (l:List q9)->kS.D l->List V1
 | [],_=> []
 |p::l,x=>p.v1 x.1::iI l x.2
def HS {ρ:Type} (t:Ty) (c:Cl) (κ:t.D->Option ρ):Option ρ:=match c with
 | .pro xs=>(match t.unflat xs with |some x=>κ x|none=>none)
 | _=>none
def sQ {ρ:Type}: (l:List Ty)->List Cl->(lN.D l->Option ρ)->Option ρ
 | [],[],κ=>κ ()
 |t::l,c::cs,κ=>HS t c fun x=>sQ l cs fun y=>κ (x,y)
 | _,_,_=>none
def J0 {ρ:Type}: (t:Ty)->V1->(t.D->Option ρ)->Option ρ
 | .ls _, .cl .em,κ=>κ []
 |t,a,κ=>un t a κ
def KH {ρ:Type}: (p:q9)->V1->(p.D->Option ρ)->Option ρ
 | .ty t,a,κ=>J0 t a κ
 | .pr t, .cl c,κ=>HS t c κ
 | .fc g, .cl (.c (.sc (.func (.func g') cs ts))),κ=>bif Nat.beq g' g&&Nat.beq cs.size 0&&Nat.beq ts.size 0 then κ () else none
 | .fn g caps, .fn g' cs,κ=>bif Nat.beq g' g then sQ caps cs κ else none
 | .nl, .cl .em,κ=>κ ()
 | _,_,_=>none
def vm {ρ:Type}: (l:List q9)->List V1->(kS.D l->Option ρ)->Option ρ
 | [],[],κ=>κ ()
 |p::l,a::as,κ=>KH p a fun x=>vm l as fun y=>κ (x,y)
 | _,_,_=>none
def yF (ps:List q9) (rs:List Ty) (G:kS.D ps->Option (lN.D rs)):FD:=fun args _ κ=>vm ps args fun x=>(G x).bind fun y=>ret (ln rs y) κ
theorem xx {ρ:Type} {t:Ty} {c:Cl} {κ:t.D->Option ρ} {r:ρ} (h:HS t c κ=some r): ∃x,c= .pro (t.flat x)/\κ x=some r:=by
 unfold HS at h;split at h
 ·split at h
  ·rename_i x hx;exact⟨x,by rw[t.unflat_some _ _ hx],h⟩
  ·cases h
 ·cases h
theorem tz {ρ:Type}: ∀ {l:List Ty} {cs:List Cl} {κ:lN.D l->Option ρ} {r:ρ},sQ l cs κ=some r-> ∃x,cs=yE l x/\κ x=some r
 | [],[],κ,r,h=>⟨(),rfl,h⟩
 |t::l,c::cs,κ,r,h=>by unfold sQ at h;obtain⟨x,h1,h⟩:=xx h;obtain⟨y,h2,h⟩:=tz h;exact⟨(x,y),by rw[h1,h2]; rfl,h⟩
 | [],_::_,κ,r,h=>by simp[sQ] at h
 | _::_,[],κ,r,h=>by simp[sQ] at h
theorem Gl {ρ:Type} {t:Ty} {a:V1} {κ:t.D->Option ρ} {r:ρ} (h:J0 t a κ=some r): ∃x,(a.av=(ym t x).av\/(a.av= .em/\ ∃s,(ym t x).av= .ro s []))/\κ x=some r:=by
 unfold J0 at h;split at h
 ·exact⟨[], .inr ⟨rfl,_,rfl⟩,h⟩
 ·obtain⟨x,e,h'⟩:=un_some h;exact⟨x, .inl (by rw[e]),h'⟩
theorem Gm {ρ:Type} {p:q9} {a:V1} {κ:p.D->Option ρ} {r:ρ} (h:KH p a κ=some r): ∃x,(a.av=(p.v1 x).av\/(a.av= .em/\ ∃s,(p.v1 x).av= .ro s []))/\κ x=some r:=by
 unfold KH at h;split at h
 ·exact Gl h
 ·obtain⟨x,h1,h⟩:=xx h;exact⟨x, .inl (by rw[h1]; rfl),h⟩
 ·obtain⟨h1,h⟩:=dG h;simp only[ao] at h1;obtain⟨⟨h1,h2⟩,h3⟩:=h1;have h1:=ap h1;have h2:=cq (ap h2);have h3:=cq (ap h3);exact⟨(), .inl (by rw[h1,h2,h3]; rfl),h⟩
 ·obtain⟨h1,h⟩:=dG h;obtain⟨x,h2,h⟩:=tz h;exact⟨x, .inl (by rw[ap h1,h2]; rfl),h⟩
 ·exact⟨(), .inl rfl,h⟩
 ·cases h
theorem mi {ρ:Type}: ∀ {l:List q9} {as:List V1} {κ:kS.D l->Option ρ} {r:ρ},vm l as κ=some r-> ∃x,Di (as.map V1.av) ((iI l x).map V1.av)/\κ x=some r
 | [],[],κ,r,h=>⟨(),Di.refl _,h⟩
 |p::l,a::as,κ,r,h=>by unfold vm at h;obtain⟨x,h1,h⟩:=Gm h;obtain⟨y,h2,h⟩:=mi h;exact⟨(x,y),Di.cons h1 h2,h⟩
 | [],_::_,κ,r,h=>by simp[vm] at h
 | _::_,[],κ,r,h=>by simp[vm] at h
theorem xy (G:List (Option en)): ∀ (l:List Ty) (x:lN.D l),∀c∈yE l x,c.ok G
 | [],x,c,h=>by cases h
 |t::l,x,c,h=>by
  rcases aR.1 h with rfl|h
  ·trivial
  ·exact xy G l x.2 c h
theorem q9.ok (p:q9) (x:p.D): (p.v1 x).ok [] :=by
 cases p with
 |ty t=>exact Je t x
 |pr t=>trivial
 |fc g=>trivial
 |fn g caps=>exact xy [] caps x
 |nl=>trivial
theorem p7: ∀ (l:List q9) (x:kS.D l),∀a∈iI l x,a.ok []
 | [],x,a,h=>by cases h
 |p::l,x,a,h=>by
  rcases aR.1 h with rfl|h
  ·exact p.ok x.1
  ·exact p7 l x.2 a h
theorem HT {P:Program} {Θ:kL} {Y:sf} {Λ:nq} (hΘ:fi P Θ) (hY:jH P Y) (hm:P.follows .mixedOrders=true) {f:FuncId} {fn:Func} (hf:zW P f=some fn) (hL: ∀c,fn.body=some c->gO P Λ (eZ c)) {ps:List q9} {rs:List Ty} {G:kS.D ps->Option (lN.D rs)} (hk:Nat.blt f 1048576=true)
  (F:kS.D ps->Option (lN.D rs)) (hF: ∀x,JR Θ Y Λ fn (iI ps x) (fun v g=>some (v,g))=(F x).bind fun y=>ret (ln rs y) (fun v g=>some (v,g))) (hG: ∀x y,G x=some y->F x=some y):xw P f (yF ps rs G):=by
 intro args ρ κ r hr;unfold yF at hr;obtain⟨x,hn,hr2⟩:=mi hr;obtain⟨y,h1,hr3⟩:=aj.1 hr2;exact⟨_,_, .of_fn (lK.norm hn (Ja hΘ hY hm hf hL (p7 ps x) (by rw[hF,hG x y h1]; rfl))) (ax hk),yA _,hr3⟩
def Jg (el:Ty) (ps:List q9) (rs:List Ty) (G:List el.D->kS.D ps->Option (lN.D rs)):FD:=fun args _ κ=>match args with
 | .cl (.c (.ls t l))::as=>(match ph t el l with
   |some l=>vm ps as fun x=>(G l x).bind fun y=>ret (ln rs y) κ
   |none=>none)
 | _=>none
def Jh {ρ:Type} (el:Ty) (rs:List Ty) (y:List el.D×lN.D rs) (κ:V->List en->Option ρ):Option ρ:=κ (rB (rC 1 (ln rs y.2))) (⟨el,y.1,none⟩::pj (ln rs y.2))
def Ji (el:Ty) (ps:List q9) (rs:List Ty) (G:List el.D->kS.D ps->Option (List el.D×lN.D rs)):FD:=fun args _ κ=>match args with
 | .cl (.c (.ls t l))::as=>(match ph t el l with
   |some l=>vm ps as fun x=>(G l x).bind fun y=>Jh el rs y κ
   |none=>none)
 | _=>none
theorem HU {P:Program} {Θ:kL} {Y:sf} {Λ:nq} (hΘ:fi P Θ) (hY:jH P Y) (hm:P.follows .mixedOrders=true) {f:FuncId} {fn:Func} (hf:zW P f=some fn) (hL: ∀c,fn.body=some c->gO P Λ (eZ c)) {el:Ty} {ps:List q9} {rs:List Ty} {G:List el.D->kS.D ps->Option (lN.D rs)}
  (F:List el.D->kS.D ps->Option (lN.D rs)) (hF: ∀l x,D6 Θ Y Λ fn 0 el l (iI ps x) (fun v g=>some (v,g))=(F l x).bind fun y=>ret (ln rs y) (fun v g=>some (v,g))) (hG: ∀l x y,G l x=some y->F l x=some y):xw P (Ag f) (Jg el ps rs G):=by
 intro args ρ κ r hr;unfold Jg at hr;split at hr
 ·rename_i t l as;split at hr
  ·rename_i l' hl;obtain⟨e,hl⟩:=fI hl;subst e;have hl:l=l':=hl;subst hl;obtain⟨x,hn,hr2⟩:=mi hr;obtain⟨y,h1,hr3⟩:=aj.1 hr2;exact⟨_,_, .of_mv ⟨.ls _,l,_,rfl,ky.norm (Di.cons (.inl rfl) hn) (Dc hΘ hY hm hf hL (ba 1) (p7 ps x) (by rw[hF,hG l x y h1]; rfl))⟩,yA _,hr3⟩
  ·cases hr
 ·cases hr
theorem HV (el:Ty) (l:List el.D) (ys:List ((t:Ty)×t.D)): (rB (rC 1 ys)).ok ((⟨el,l,none⟩::pj ys).map some):=by
 have h:=vk ys [⟨el,l,none⟩];simp only[cS,List.singleton_append] at h
 match rC 1 ys,h with
 | [],_=>exact fun x hx=>by cases hx
 | [v],h=>exact h v aH
 |v::u::vs,h=>exact h
theorem HW {P:Program} {Θ:kL} {Y:sf} {Λ:nq} (hΘ:fi P Θ) (hY:jH P Y) (hm:P.follows .mixedOrders=true) {f:FuncId} {fn:Func} (hf:zW P f=some fn) (hL: ∀c,fn.body=some c->gO P Λ (eZ c)) {el:Ty} {ps:List q9} {rs:List Ty} {G:List el.D->kS.D ps->Option (List el.D×lN.D rs)} (hk:Nat.blt f 1048576=true)
  (F:List el.D->kS.D ps->Option (List el.D×lN.D rs)) (hF: ∀l x,D6 Θ Y Λ fn 1 el l (iI ps x) (fun v g=>some (v,g))=(F l x).bind fun y=>Jh el rs y (fun v g=>some (v,g))) (hG: ∀l x y,G l x=some y->F l x=some y):xw P (uV f) (Ji el ps rs G):=by
 intro args ρ κ r hr;unfold Ji at hr;split at hr
 ·rename_i t l as;split at hr
  ·rename_i l' hl;obtain⟨e,hl⟩:=fI hl;subst e;have hl:l=l':=hl;subst hl;obtain⟨x,hn,hr2⟩:=mi hr;obtain⟨y,h1,hr3⟩:=aj.1 hr2;exact⟨_,_, .of_io ⟨.ls _,l,_,rfl,ky.norm (Di.cons (.inl rfl) hn) (Dc hΘ hY hm hf hL (aw 1) (p7 ps x) (by rw[hF,hG l x y h1]; rfl))⟩ (ax hk),HV _ _ (ln rs y.2),hr3⟩
  ·cases hr
 ·cases hr
def lO (fn:Func):Code:=match fn.body with |some c=>c|none=> .skip
def Jj (c:Code) (n:Nat):Code:=(kJ (eZ c) n).getD .skip
theorem J1 {P:Program} {Λ:nq} {fn:Func} {cs:List Code} (h:eZ (lO fn)=cs) (H:gO P Λ cs) (c:Code) (hc:fn.body=some c):gO P Λ (eZ c):=by
 have :lO fn=c:=by unfold lO; rw[hc]
 rw[<-this,h];exact H
end
section
open Go
inductive Kc where|i (k:IntKind)|b|s|ls (t:Ty)
 deriving DecidableEq
def Gn:List (Option Ty)->List Value->List Kc
 |some t::l,_::m=> .ls t::Gn l m
 |none::l, .int k _::m=> .i k::Gn l m
 |none::l, .bool _::m=> .b::Gn l m
 |none::l,_::m=> .s::Gn l m
 | _,_=> []
def Ty.kc (t:Ty):List Kc:=Gn t.csh t.zvs
def ob:List Kc->List C->Prop
 | [],[] =>True
 | .i k::l,c::m=>(∃n,c= .sc (.int k n))/\ob l m
 | .b::l,c::m=>(∃v,c= .sc (.bool v))/\ob l m
 | .s::l,c::m=>(∃v,c= .sc (.string v))/\ob l m
 | .ls t::l,c::m=>(∃v,c= .ls t v)/\ob l m
 | _,_=>False
theorem rK {cs:List C} (h:ob [] cs):cs= [] :=by cases cs with |nil=>rfl|cons=>exact h.elim
theorem Iz {k:IntKind} {l:List Kc} {cs:List C} (h:ob (.i k::l) cs): ∃n r,cs= .sc (.int k n)::r/\ob l r:=by
 cases cs with
 |nil=>exact h.elim
 |cons c r=>obtain⟨⟨n,rfl⟩,h⟩:=h; exact⟨n,r,rfl,h⟩
theorem IA {l:List Kc} {cs:List C} (h:ob (.b::l) cs): ∃n r,cs= .sc (.bool n)::r/\ob l r:=by
 cases cs with
 |nil=>exact h.elim
 |cons c r=>obtain⟨⟨n,rfl⟩,h⟩:=h; exact⟨n,r,rfl,h⟩
theorem IB {l:List Kc} {cs:List C} (h:ob (.s::l) cs): ∃n r,cs= .sc (.string n)::r/\ob l r:=by
 cases cs with
 |nil=>exact h.elim
 |cons c r=>obtain⟨⟨n,rfl⟩,h⟩:=h; exact⟨n,r,rfl,h⟩
theorem IC {t:Ty} {l:List Kc} {cs:List C} (h:ob (.ls t::l) cs): ∃n r,cs= .ls t n::r/\ob l r:=by
 cases cs with
 |nil=>exact h.elim
 |cons c r=>obtain⟨⟨n,rfl⟩,h⟩:=h; exact⟨n,r,rfl,h⟩
theorem xz (t:Ty) {cs:List C} (h:ob t.kc cs): ∃x,t.flat x=cs:=by
 have : (t.unflat cs).isSome=true:=by
  cases t with
  |st n=>
   cases n
   all_goals
    repeat ((first |replace h:=Iz h|replace h:=IA h|replace h:=IC h|replace h:=IB h); obtain⟨_,_,rfl,h⟩:=h)
    cases rK h;rfl
  |i k=>replace h:=Iz h; obtain⟨_,_,rfl,h⟩:=h; cases rK h; simp[Ty.unflat,gI,gN]
  |b=>replace h:=IA h; obtain⟨_,_,rfl,h⟩:=h; cases rK h; rfl
  |s=>replace h:=IB h; obtain⟨_,_,rfl,h⟩:=h; cases rK h; rfl
  |ls u=>replace h:=IC h; obtain⟨_,_,rfl,h⟩:=h; cases rK h; simp[Ty.unflat,gL,gN]
 obtain⟨x,hx⟩:=bu.1 this;exact⟨x,t.unflat_some _ _ hx⟩
inductive T.bd:T->Prop where
 |int {k:IntKind} {n:Int} (h:k.min<=n/\n<=k.max):T.bd (.sc (.int k n))
 |bool (v:Bool):T.bd (.sc (.bool v))
 |str (v:ByteArray):T.bd (.sc (.string v))
 |sl {sz:Nat} {rows:List (List T)} (hl:rows.length<=maxLen) (h: ∀r∈rows,∀x∈r,T.bd x):T.bd (.sl sz rows)
def Ck (t:Ty) (x:t.D):Prop:= ∀y∈t.row x,T.bd y
def yG (P:Program) (e:TypeId->List Kc->Bool):List Field->Nat->List Kc->Bool
 | [],_,[] =>true
 | [],_,_::_=>false
 |f::fs,off,ks=>Nat.beq f.offset off&&Nat.ble (P.cellsOf f.type) ks.length&&e f.type (ks.take (P.cellsOf f.type))&&yG P e fs (off+P.cellsOf f.type) (ks.drop (P.cellsOf f.type))
def tA (P:Program) (Θ:kL):Nat->TypeId->List Kc->Bool
 | 0,_,_=>false
 |d+1,t,ks=>match P.underlying t with
  |some (.int k)=>decide (ks= [.i k])
  |some .bool=>decide (ks= [.b])
  |some (.slice e)=>(match jh Θ e with
   |some ti=>decide (ks= [.ls ti.ty])&&tA P Θ d e ti.ty.kc&&Nat.beq (P.cellsOf e) ti.ty.width&&Nat.blt 0 ti.ty.width
   |none=>false)
  |some (.struct fs)=>yG P (tA P Θ d) fs.toList 0 ks&&Nat.beq (P.cellsOf t) ks.length
  | _=>false
theorem AN: ∀ {k l:List Kc} {cs ds:List C},ob k cs->ob l ds->ob (k++l) (cs++ds)
 | [],l,[],ds,_,h=>h
 | [],_,_::_,_,h,_=>h.elim
 |a::k,_,[],_,h,_=>by cases a<;>exact h.elim
 |a::k,l,c::cs,ds,h,h2=>by cases a<;>exact⟨h.1,AN h.2 h2⟩
theorem tB: ∀ {k:List Kc} {cs:List C},ob k cs->cs.length=k.length
 | [],[],_=>rfl
 | [],_::_,h=>h.elim
 |a::k,[],h=>by cases a<;>exact h.elim
 |a::k,c::cs,h=>by cases a<;>simp[tB h.2]
section
variable {H:Type} {enc:TypeId×Value->H} {P:Program} {w:World} {base:Nat} {sp:Nat->Bool} {held:Bool} {Θ:kL}
structure Cs (w:World) (cs:List Value) (Xs:List C):Prop where
 len:Xs.length=cs.length
 one: ∀u∈cs,u.oneCell'=true
 ro: ∀ (k:Nat) (c:C) (u:Value),Xs[k]? =some c->cs[k]? =some u->RO w (fun b=>b<w.heap.size) c.tree u
 bd: ∀c∈Xs,T.bd c.tree
theorem Cs.nil:Cs w [] [] :=⟨rfl,fun _ h=>(by cases h),fun _ _ _ h=>(by cases h),fun _ h=>(by cases h)⟩
theorem Cs.one_mk {u:Value} {c:C} (h1:u.oneCell'=true) (h2:RO w (fun b=>b<w.heap.size) c.tree u) (h3:T.bd c.tree):Cs w [u] [c] :=by
 refine⟨rfl,fun v hv=> ?_,fun k c' u' hk hu=> ?_,fun c' hc=> ?_⟩
 ·rw[ay.1 hv]; exact h1
 ·cases k with
  |zero=>cases hk; cases hu; exact h2
  |succ k=>simp at hk
 ·rw[ay.1 hc]; exact h3
theorem Cs.app {cs ds:List Value} {Xs Ys:List C} (h:Cs w cs Xs) (k:Cs w ds Ys):Cs w (cs++ds) (Xs++Ys):=by
 refine⟨by rw[bn,bn,h.len,k.len],fun u hu=> ?_,fun j c u hj hu=> ?_,fun c hc=> ?_⟩
 ·rcases bz.1 hu with hu|hu
  ·exact h.one u hu
  ·exact k.one u hu
 ·by_cases hlt:j<Xs.length
  ·rw[aJ hlt] at hj;rw[aJ (by rw[<-h.len]; exact hlt)] at hu;exact h.ro j c u hj hu
  ·rw[aO (by omega)] at hj;rw[aO (by rw[<-h.len]; omega),<-h.len] at hu;exact k.ro _ c u hj hu
 ·rcases bz.1 hc with hc|hc
  ·exact h.bd c hc
  ·exact k.bd c hc
theorem yH (hΘ:fi P Θ): ∀ (d:Nat) {t:TypeId} {ks:List Kc} {n:Nat} {cs:List Value} {y:DataW H×List MemPlace},tA P Θ d t ks=true->DataW.trod enc P w base sp held n t cs=some y-> ∃Xs:List C,ob ks Xs/\Cs w cs Xs
 | 0,t,ks,n,cs,y,hb,_=>by cases hb
 |d+1,t,ks,n,cs,y,hb,h=>by
  unfold tA at hb;split at hb
  ·rename_i k hu;have:=of_decide_eq_true hb;subst this;obtain⟨v,rfl,_,hw⟩:=DataW.trod_int hu h;simp only[Lit.wf,ao,decide_eq_true_eq] at hw;exact⟨[.sc (.int k v)],⟨⟨v,rfl⟩,trivial⟩,Cs.one_mk rfl (.sc rfl) (.int hw)⟩
  ·rename_i hu;have:=of_decide_eq_true hb;subst this;obtain⟨v,rfl,_⟩:=DataW.trod_bool hu h;exact⟨[.sc (.bool v)],⟨⟨v,rfl⟩,trivial⟩,Cs.one_mk rfl (.sc rfl) (.bool v)⟩
  ·rename_i e hu;split at hb
   ·rename_i ti hti;simp only[ao,decide_eq_true_eq] at hb;obtain⟨⟨⟨rfl,hb⟩,hw⟩,hpos⟩:=hb;have hw:=ap hw;have hpos:0<ti.ty.width:=ax hpos;rcases Go.Deep.open_slice hu h with ⟨rfl,_⟩| ⟨ad,len,cap,m,n',D,Pl,rfl,_,hl,hm,hmm,_,hx⟩
    ·exact⟨[.ls ti.ty []],⟨⟨[],rfl⟩,trivial⟩,Cs.one_mk rfl (.em _ _ _) (.sl (ba _) fun r hr=>by cases hr)⟩
    ·have hlm:len<=m:=by rw[hmm]; split<;>omega
     have each: ∀i:Fin len,∃z:ti.ty.D,∃cs',w.cells? base (ad.add (i.1*P.cellsOf e)) (P.cellsOf e)=some cs'/\Cs w cs' (ti.ty.flat z):=by intro i;obtain⟨cs',h1,h2⟩:=hx i.1 (by have:=i.2; omega);obtain⟨Xs,h3,h4⟩:=yH hΘ d hb h2;obtain⟨z,rfl⟩:=xz _ h3;exact⟨z,cs',h1,h4⟩
     let l:List ti.ty.D:=List.ofFn fun i=>(each i).choose
     have hll:l.length=len:=by simp[l]
     have row: ∀ (i:Nat) (r:List T),(l.map ti.ty.row)[i]? =some r-> ∃hi:i<len,∃cs',w.cells? base (ad.add (i*P.cellsOf e)) (P.cellsOf e)=some cs'/\ ∃z,r=(ti.ty.flat z).map C.tree/\Cs w cs' (ti.ty.flat z):=by
      intro i r hr;rw[an,ak] at hr;obtain⟨z,hz,rfl⟩:=hr;obtain⟨h1,h2⟩:=ai.1 hz;have hi:i<len:=by rw[hll] at h1; exact h1
      refine⟨hi,(each ⟨i,hi⟩).choose_spec.choose,(each ⟨i,hi⟩).choose_spec.choose_spec.1,z,ti.ty.row_flat z,?_⟩;have e1:z=(each ⟨i,hi⟩).choose:=by rw[<-h2]; simp[l]
      rw[e1];exact (each ⟨i,hi⟩).choose_spec.choose_spec.2
     refine⟨[.ls ti.ty l],⟨⟨l,rfl⟩,trivial⟩,Cs.one_mk rfl ?_ ?_⟩
     ·show RO w _ (.sl ti.ty.width (l.map ti.ty.row)) _;by_cases h0:len=0
      ·have :l= [] :=cJ.1 (by rw[hll,h0]);rw[this,h0];exact .em _ _ _
      ·have hlr: (l.map ti.ty.row).length=len:=by rw[aB,hll]
       have hlen: ∀ (i:Nat) (r:List T),(l.map ti.ty.row)[i]? =some r->r.length=ti.ty.width:=by intro i r hr;obtain⟨hi,cs',h1,z,rfl,h2⟩:=row i r hr;obtain⟨_,h3,_⟩:=World.cells?_some h1;rw[aB,h2.len,h3,hw]
       have hcell: ∀ (i:Nat) (r:List T) (j:Nat) (x:T),(l.map ti.ty.row)[i]? =some r->r[j]? =some x-> ∃u,w.cell? (ad.add (i*ti.ty.width+j))=some u/\RO w (fun b=>b<w.heap.size) x u:=by
        intro i r j x hr hx;obtain⟨hi,cs',h1,z,rfl,h2⟩:=row i r hr;obtain⟨_,h3,h4⟩:=World.cells?_some h1;rw[an,ak] at hx;obtain⟨c,hc,rfl⟩:=hx;have hj:j<cs'.length:=by rw[<-h2.len]; exact (ai.1 hc).1
        refine⟨cs'[j],?_,h2.ro j c _ hc (ah hj)⟩;rw[<-Go.Deep.add_add,<-hw,h4 j (by omega),ah hj]
       have hne: ∃u,w.cell? ad=some u:=by
        obtain⟨r,hr⟩: ∃r,(l.map ti.ty.row)[0]? =some r:=⟨_,ah (by omega)⟩
        have h5:=hlen 0 r hr;obtain⟨x,hx⟩: ∃x,r[0]? =some x:=⟨_,ah (by omega)⟩
        obtain⟨u,hu',_⟩:=hcell 0 r 0 x hr hx;simp only[cm,aV,Addr.add,if_true] at hu';exact⟨u,hu'⟩
       obtain⟨u0,hu0⟩:=hne;rw[<-hlr];refine .sl (fun i j=>((w.cell? (ad.add (i*ti.ty.width+j))).getD undef)) (by omega) ?_ (World.block_lt_of_cell? w _ hu0) hlen ?_ ?_
       ·cases hsp:ad.spot with
        |none=>rfl
        |some s=>
         unfold World.cell? at hu0;rw[hsp] at hu0;split at hu0
         ·simp at hu0
         ·cases hu0
       ·intro i r j x hr hx;obtain⟨u,h1,_⟩:=hcell i r j x hr hx;rw[h1];rfl
       ·intro i r j x hr hx;obtain⟨u,h1,h2⟩:=hcell i r j x hr hx;rw[h1];exact h2
     ·refine .sl (by rw[aB,hll]; unfold maxLen at hm ⊢; omega) fun r hr x hx=> ?_;obtain⟨i,hi⟩:=List.getElem?_of_mem hr;obtain⟨_,cs',_,z,rfl,h2⟩:=row i r hi;obtain⟨c,hc,rfl⟩:=aL.1 hx;exact h2.bd c hc
   ·cases hb
  ·rename_i fs hu;simp only[ao] at hb;obtain⟨hb,hkl0⟩:=hb;have hkl0:=ap hkl0;obtain⟨xs,m,_,_,hl,hlen,hf⟩:=DataW.trod_struct hu h
   have fG: ∀ (gs:List Field) (off i0:Nat) (ks:List Kc),yG P (tA P Θ d) gs off ks=true->(∀ (i:Nat) (f:Field),gs[i]? =some f->fs[i0+i]? =some f)-> ∃Xs:List C,ob ks Xs/\Cs w ((cs.drop off).take ks.length) Xs/\off+ks.length<=max off cs.length:=by
    intro gs
    induction gs with
    |nil=>
     intro off i0 ks hk _;cases ks with
     |nil=>exact⟨[],trivial,by simpa using Cs.nil,by simp; omega⟩
     |cons=>cases hk
    |cons f gs ih=>
     intro off i0 ks hk hg;simp only[yG,ao] at hk;obtain⟨⟨⟨ho,hle⟩,h1⟩,h2⟩:=hk;have ho:=ap ho;have hle:P.cellsOf f.type<=ks.length:=ax hle;have hfi:fs[i0]? =some f:=by have:=hg 0 f rfl; simpa using this
     have hi0:i0<xs.length:=by rw[hlen]; exact (aD.1 hfi).1
     have h3:=hf i0 f hfi;rw[ah hi0,ho] at h3;obtain⟨Xs,k1,k2⟩:=yH hΘ d h1 h3;obtain⟨Ys,k3,k4,k5⟩:=ih (off+P.cellsOf f.type) (i0+1) _ h2 (fun i g hgi=>by have:=hg (i+1) g hgi; rw[show i0+1+i=i0+(i+1) by omega]; exact this);have hkl:=tB k1;have hcl:=k2.len;rw[cr,ch,hkl,cr] at hcl;have hq:P.cellsOf f.type<=cs.length-off:=by omega
     refine⟨Xs++Ys,?_,?_,?_⟩
     ·have:=AN k1 k3
      rwa [cT] at this
     ·have hsplit: (cs.drop off).take ks.length=((cs.drop off).take (P.cellsOf f.type))++((cs.drop (off+P.cellsOf f.type)).take (ks.drop (P.cellsOf f.type)).length):=by
       rw[ch,<-b8];have :ks.length=P.cellsOf f.type+(ks.length-P.cellsOf f.type):=by omega
       conv=>lhs; rw[this]
       exact List.take_add
      rw[hsplit];exact k2.app k4
     ·rw[ch] at k5;omega
   obtain⟨Xs,k1,k2,k3⟩:=fG fs.toList 0 0 ks hb (fun i f hi=>by rw[cj] at hi; simpa using hi);refine⟨Xs,k1,?_⟩
   have hfull: (cs.drop 0).take ks.length=cs:=by rw[bT];exact bD (by omega)
   rwa [hfull] at k2
  ·cases hb
end
end
section
open Go Go.ChangeShapes Go.WideShapes Go.RowKit
theorem tC (t:Ty) (x:t.D):t.unflat (t.flat x)=some x:=by
 cases t with
 |st n=>cases n<;>rfl
 |i k=>simp[Ty.unflat,Ty.flat,gI,gN]
 |b=>rfl
 |s=>rfl
 |ls u=>simp[Ty.unflat,Ty.flat,gL,gN]
theorem Gp (l:List C):yk (l.map Cl.c)=some l:=by
 induction l with
 |nil=>rfl
 |cons a l ih=>simp[yk,ih]
theorem Jk {ρ:Type} (t:Ty) (x:t.D) (κ:t.D->Option ρ):un t (ym t x) κ=κ x:=by
 unfold ym;cases hag:t.ag with
 |true=>simp only[cond_true,un,hag,Gp,tC]
 |false=>
  simp only[cond_false];have h1: ∃c,t.flat x= [c] :=by cases t<;>first |exact⟨_,rfl⟩| (simp[Ty.ag] at hag)
  obtain⟨c,hc⟩:=h1;rw[hc];have:=tC t x;rw[hc] at this;simp only[aP,cb,un,hag,cond_false,this]
theorem HX {ρ:Type} (t:Ty) (x:t.D) (κ:t.D->Option ρ):J0 t (ym t x) κ=κ x:=by
 rw[<-Jk t x κ];cases t with
 |st n=>cases n<;>rfl
 | _=>rfl
theorem Dm {ρ:Type}: ∀ (l:List Ty) (x:kS.D (l.map .ty)) (κ:kS.D (l.map .ty)->Option ρ),vm (l.map .ty) (iI (l.map .ty) x) κ=κ x
 | [],x,κ=>rfl
 |t::l,x,κ=>by show (KH (.ty t) (ym t x.1) fun a=>vm (l.map .ty) (iI (l.map .ty) x.2) fun b=>κ (a,b))=κ x;show (J0 t (ym t x.1) fun a=>vm (l.map .ty) (iI (l.map .ty) x.2) fun b=>κ (a,b))=κ x;rw[HX,Dm l x.2];rfl
def KT: (l:List Ty)->kS.D (l.map .ty)->Prop
 | [],_=>True
 |t::l,x=>Ck t x.1/\KT l x.2
def HY (P:Program) (Θ:kL) (t:TypeId) (τ:Ty):Bool:=tA P Θ 9 t τ.kc&&(match jh Θ t with |some ti=>decide (ti.ty=τ)|none=>false)&&P.readableRec t&&Nat.blt t P.types.size
def vn (P:Program) (Θ:kL):List TypeId->List Ty->Bool
 | [],[] =>true
 |t::ts,τ::τs=>HY P Θ t τ&&vn P Θ ts τs
 | _,_=>false
section
variable {H:Type} {enc:TypeId×Value->H} {P:Program} {W:World} {Θ:kL} {base:Nat}
theorem C.VR {c:C} {u:Value} {bt:Bt} (hA:bt.A=fun b=>b<W.heap.size) (h:RO W (fun b=>b<W.heap.size) c.tree u) (hg:c.good=true):En.VR W bt c.av u:=by
 cases c with
 |sc v=>
  cases h with
  |sc h=>exact .sc h
 |ls t l=>exact .ro (by rw[hA]; exact h)
theorem Jl (hΘ:fi P Θ) {bt:Bt} (hA:bt.A=fun b=>b<W.heap.size) {t:TypeId} {τ:Ty} {v:Value} {d:DataW H} {p:List MemPlace} (hp:HY P Θ t τ=true) (hv:Value.okWide P W .any base t v) (h:DataW.Trod enc P W 0 (fun _=>true) true t v d p):
  ∃x:τ.D,VR W bt (ym τ x).av v/\Ck τ x:=by
 unfold HY at hp;simp only[ao] at hp;obtain⟨⟨⟨h1,h2⟩,h3⟩,h4⟩:=hp;split at h2
 case h_2=>cases h2
 rename_i ti hti;have h2:=of_decide_eq_true h2;subst h2;have hok:=hΘ t ti hti;obtain⟨n,hn⟩:=h;obtain⟨Xs,k1,k2⟩:=yH hΘ 9 h1 hn;obtain⟨x,rfl⟩:=xz _ k1
 have bd:Ck ti.ty x:=by intro y hy;rw[Ty.row_flat] at hy;obtain⟨c,hc,rfl⟩:=aL.1 hy;exact k2.bd c hc
 have good: ∀c∈ti.ty.flat x,c.good=true:=by
  intro c hc;have:=k2.bd c hc;cases c with
  |sc v=>cases this<;>rfl
  |ls t l=>rfl
 refine⟨x,?_,bd⟩;have hag:=hok.ag;unfold ym;cases ha:ti.ty.ag with
 |true=>
  rw[ha] at hag
  have hst: ∃fs,P.underlying t=some (.struct fs):=by
   have hpl:=hok.pl ha;unfold tA at h1;split at h1
   ·rename_i hu; simp[vY,hu] at hag
   ·rename_i hu; simp[vY,hu] at hag
   ·rename_i hu; simp[vY,hu] at hag
   ·rename_i fs hu; exact⟨fs,hu⟩
   ·cases h1
  obtain⟨fs,hu⟩:=hst;obtain⟨us,rfl,_⟩:=okWide_struct hu hv;simp only[cond_true,V1.av];have : (Value.agg us)= .agg us.toList.toArray:=by simp
  rw[this];have hus: (Value.agg us).cells.toList=us.toList:=rfl;rw[hus] at k2;refine .agg (by simp[k2.len]) k2.one fun k c u hk hu=> ?_;simp only[bi,an,ak] at hk;obtain⟨c',hc,rfl⟩:=hk;exact C.VR hA (k2.ro k c' u hc hu) (good c' (aq hc))
 |false=>
  rw[ha] at hag
  have hcells:v.cells.toList= [v] :=by
   unfold tA at h1;split at h1
   ·rename_i hu; obtain⟨_,rfl⟩:=okWide_int hu hv; rfl
   ·rename_i hu; obtain⟨_,rfl⟩:=okWide_bool hu hv; rfl
   ·rename_i hu; obtain⟨_,_,_,rfl⟩:=okWide_slice hu hv; rfl
   ·rename_i fs hu; simp[vY,hu] at hag
   ·cases h1
  rw[hcells] at k2;have hl:=k2.len;obtain⟨c,hc⟩:=List.length_eq_one_iff.1 hl;simp only[cond_false,hc,aP,cb,V1.av];exact C.VR hA (k2.ro 0 c v (by rw[hc]; rfl) rfl) (good c (by rw[hc]; exact ay.2 rfl))
theorem Dn (hΘ:fi P Θ) {bt:Bt} (hA:bt.A=fun b=>b<W.heap.size): ∀ {ts:List TypeId} {τs:List Ty} {vs:List Value} {ds:List (DataW H)} {p:List MemPlace},vn P Θ ts τs=true->(∀ (j:Nat) t v,ts[j]? =some t->vs[j]? =some v->Value.okWide P W .any base t v)->DataW.TrodAll enc P W 0 (fun _=>true) true ts vs ds p->
  ∃x:kS.D (τs.map .ty),vs.length=τs.length/\(∀ (k:Nat) (v:AV) (u:Value),((iI (τs.map .ty) x).map V1.av)[k]? =some v->vs[k]? =some u->VR W bt v u)/\KT τs x
 | [],[],vs,ds,p,_,_,h=>by obtain⟨rfl,_,_⟩:=trodAll_nil h;exact⟨(),rfl,fun k v u hk hu=>(by cases hu),trivial⟩
 |t::ts,τ::τs,vs,ds,p,hb,hv,h=>by
  obtain⟨v,vs',d,ds',q,q',rfl,rfl,rfl,h1,h2⟩:=trodAll_cons h;unfold vn at hb;simp only[ao] at hb;obtain⟨x,k1,k2⟩:=Jl hΘ hA hb.1 (hv 0 t v rfl rfl) h1;obtain⟨y,k3,k4,k5⟩:=Dn hΘ hA hb.2 (fun j t' v' ht hv'=>hv (j+1) t' v' ht hv') h2;refine⟨(x,y),by simp[k3],fun k v' u hk hu=> ?_,k2,k5⟩;cases k with
  |zero=>have hk:some (ym τ x).av=some v':=hk;cases hk;cases hu;exact k1
  |succ k=>exact k4 k v' u hk hu
 | [],_::_,_,_,_,hb,_,_=>by cases hb
 | _::_,[],_,_,_,hb,_,_=>by cases hb
theorem qq {W':World} (hl:laidOutB P=true) (hb:Below W.heap.size W W'): ∀ {ts:List TypeId} {τs:List Ty} {vs:List Value} {ds:List (DataW H)} {p:List MemPlace},vn P Θ ts τs=true->DataW.TrodAll enc P W 0 (fun _=>true) true ts vs ds p->DataW.TrodAll enc P W' 0 (fun b=>decide (b<W.heap.size)) true ts vs ds p
 | [],[],vs,ds,p,_,h=>by obtain⟨rfl,rfl,rfl⟩:=trodAll_nil h;exact rfl
 |t::ts,τ::τs,vs,ds,p,hp,h=>by obtain⟨v,vs',d,ds',q,q',rfl,rfl,rfl,h1,h2⟩:=trodAll_cons h;unfold vn HY at hp;simp only[ao] at hp;obtain⟨⟨⟨_,hr⟩,hs⟩,hrest⟩:=hp;refine trodAll_cons_mk (Below.trod hl hr (ax hs) h1 hb ?_) (qq hl hb hrest h2);intro x hx;obtain⟨m,hm⟩:=h1;exact DataW.trod_lt m _ _ _ hm x hx
 | [],_::_,_,_,_,hb,_=>by cases hb
 | _::_,[],_,_,_,hb,_=>by cases hb
theorem Ej (hΘ:fi P Θ) {f:FuncId} {τs:List Ty} {G:kS.D (τs.map .ty)->Option (lN.D [.b])} (he:xw P f (yF (τs.map .ty) [.b] G)) (hG: ∀x,KT τs x->G x=some (true,()))
  {ts:List TypeId} {vs:List Value} {ds:List (DataW H)} {p:List MemPlace} (hp:vn P Θ ts τs=true) (hv: ∀ (j:Nat) t v,ts[j]? =some t->vs[j]? =some v->Value.okWide P W .any base t v) (h:DataW.TrodAll enc P W 0 (fun _=>true) true ts vs ds p) (hk:Nat.blt f 1048576=true:=by rfl):
  Calls P f vs.toArray W fun e W'=>e= .returned (.bool true)/\Below W.heap.size W W':=by
 let bt:Bt:=⟨fun _=>0,fun _=>0,fun _=>0,0,0,fun b=>b<W.heap.size⟩
 obtain⟨x,h1,h2,h3⟩:=Dn (bt:=bt) hΘ rfl hp hv h;have hg:=hG x h3
 obtain⟨res,out,k1,k2,k3⟩:=he (iI (τs.map .ty) x) (V×List en) (fun v g=>some (v,g)) (.v (.cl (.c (.sc (.bool true)))),[]) (by unfold yF;rw[Dm,hg];rfl)
 cases k3
 have:=k1.fn (ax hk) W (fun _=>False) bt vs (CP W bt fun b hb=>hb) (by
  rw[h1,aB];clear h1 h2 h3 hg k1 hG he
  have : ∀ (l:List Ty) (x:kS.D (l.map .ty)),l.length=(iI (l.map .ty) x).length:=by
   intro l
   induction l with
   |nil=>intro x; rfl
   |cons t l ih=>intro x; show l.length+1=(iI (l.map .ty) x.2).length+1; rw[ih x.2]
  exact this τs x) h2
 refine this.2.mono fun e W' hx=> ?_;obtain⟨v,btn,rfl,hI,_,_,hvr⟩:=hx;refine⟨?_,oz hI⟩;cases hvr with
 |sc=>rfl
end
end
section
open Go
section
variable {α β σ ε:Type}
theorem oc {B:σ->Option (σ⊕ε)} (l:List α) (mk:Nat->β->σ) (J:Nat->β->Prop) (g:Nat->List α->β->ε)
  (hn: ∀b,J l.length b->B (mk l.length b)=some (.inr (g l.length [] b)))
  (hc: ∀k b x,l[k]? =some x->J k b->(∃b',B (mk k b)=some (.inl (mk (k+1) b'))/\J (k+1) b'/\g k (x::l.drop (k+1)) b=g (k+1) (l.drop (k+1)) b')\/B (mk k b)=some (.inr (g k (x::l.drop (k+1)) b))):
  ∀k b,k<=l.length->J k b->hZ B (mk k b)=some (g k (l.drop k) b):=by
 intro k b hk hJ;generalize hn0:l.length-k=n
 induction n generalizing k b with
 |zero=>
  obtain rfl:k=l.length:=by omega
  rw[pq,hn b hJ,List.drop_length];rfl
 |succ n ih=>
  have hlt:k<l.length:=by omega
  rw[bQ hlt];rcases hc k b l[k] (ah hlt) hJ with ⟨b',h1,h2,h3⟩|h1
  ·rw[pq,h1,h3];exact ih (k+1) b' (by omega) h2 (by omega)
  ·rw[pq,h1];rfl
theorem nv {B:σ->Option (σ⊕ε)} (I:σ->Prop) (μ:σ->Nat) (E:ε->Prop)
  (h: ∀s,I s->(∃s',B s=some (.inl s')/\I s'/\μ s'<μ s)\/ ∃e,B s=some (.inr e)/\E e) {s:σ} (hs:I s): ∃e,hZ B s=some e/\E e:=by
 generalize hn:μ s=n
 induction n using Nat.strongRecOn generalizing s with
 | _ n ih=>
   rcases h s hs with ⟨s',h1,h2,h3⟩| ⟨e,h1,h2⟩
   ·rw[pq,h1];exact ih (μ s') (by omega) h2 rfl
   ·exact⟨e,by rw[pq,h1]; rfl,h2⟩
theorem ey (x y:α):br true x y=x:=rfl
theorem eu (x y:α):br false x y=y:=rfl
theorem Gq (b:Bool) (x y:α):br b x y=if b=true then x else y:=by cases b<;>rfl
theorem dI (p:Prop) [Decidable p] (x y:α):br (decide p) x y=if p then x else y:=by unfold br; by_cases h:p<;>simp[h]
theorem eP {p:Prop} [Decidable p] (h:p) (x y:α):dJ p x y=x:=if_pos h
theorem ea (p:Prop) [Decidable p] (x y:α):dJ p x y=if p then x else y:=rfl
end
theorem fY {n:Int} (h1: -9223372036854775808<=n) (h2:n<9223372036854775808):IntKind.wrap .i64 n=n:=by
 simp only[IntKind.wrap,IntKind.bits,IntKind.signed,Bool.true_and];split
 ·rename_i h;have h:=of_decide_eq_true h;omega
 ·rename_i h;have h: ¬ (n % 2 ^ 64≥2 ^ (64-1)):=fun hh=>h (decide_eq_true hh);omega
theorem pt {α:Type} {l:List α} {k:Nat} {x:α} (h:l[k]? =some x):k<l.length:=(ai.1 h).1
theorem pu {t:Ty} {l:List t.D} (h:Ck (.ls t) l):l.length<=maxLen:=by
 have:=h (.sl t.width (l.map t.row)) (ay.2 rfl);cases this with
 |sl hl _=>simpa using hl
theorem Gr {t:Ty} {l:List t.D} (h:Ck (.ls t) l) {x:t.D} (hx:x∈l):Ck t x:=by
 have:=h (.sl t.width (l.map t.row)) (ay.2 rfl);cases this with
 |sl _ h=>exact h (t.row x) (aL.2 ⟨x,hx,rfl⟩)
theorem nL {α:Type} {l:List α} {k:Nat} (y:α) (h:k<l.length): (l.set k y).take (k+1)=l.take k++ [y] :=by rw[bM,List.getElem?_set_self h];simp[List.take_set_of_le]
theorem HZ {α ρ:Type} (l:List α) (n:Nat) (κ:List α×Unit->Option ρ):I4 l (He (κ ([],())) (dJ ((([]:List α)++l).length*n<=2 ^ 40) (κ (([]:List α)++l,())) none) none) (dJ ((([]:List α)++l).length*n<=2 ^ 40) (κ (([]:List α)++l,())) none)=(dJ (l.length*n<=2 ^ 40) (some (l,())) none).bind κ:=by
 cases l with
 |nil=>
  have :dJ ((([]:List α)++ []).length*n<=2 ^ 40) (κ (([]:List α)++ [],())) none=κ ([],()):=by unfold dJ;rw[if_pos (by simp)];rfl
  rw[this];show He _ _ _=_;rw[FZ];unfold dJ;rw[if_pos (by simp)];rfl
 |cons x l=>show dJ _ _ _=_;simp only[bB];unfold dJ;split<;>rfl
end
section
open Go
section
variable {σ ε σ1 ε1 σ2 ε2 α β:Type}
theorem fP {B:σ->Option (σ⊕ε)} {s:σ} {e:ε} (h:B s=some (.inr e)):hZ B s=some e:=by rw[pq,h]; rfl
theorem kB {B:σ->Option (σ⊕ε)} {s s':σ} (h:B s=some (.inl s')):hZ B s=hZ B s':=by rw[pq,h]; rfl
theorem kC {B1:σ1->Option (σ1⊕ε1)} {B2:σ2->Option (σ2⊕ε2)} (n:Nat) (m1:Nat->σ1) (m2:Nat->σ2) (t1:ε1) (t2:ε2) (f1:Nat->ε1) (f2:Nat->ε2) (P Q:Nat->Prop)
  (h1:B1 (m1 n)=some (.inr t1)) (h2:B2 (m2 n)=some (.inr t2))
  (h: ∀k,k<n->(B1 (m1 k)=some (.inl (m1 (k+1)))/\B2 (m2 k)=some (.inl (m2 (k+1)))/\P k)\/(B1 (m1 k)=some (.inr (f1 k))/\B2 (m2 k)=some (.inr (f2 k))/\Q k)):
  (hZ B1 (m1 0)=some t1/\hZ B2 (m2 0)=some t2/\ ∀k,k<n->P k)\/ ∃k,k<n/\hZ B1 (m1 0)=some (f1 k)/\hZ B2 (m2 0)=some (f2 k)/\Q k:=by
 have fG: ∀d j,j+d=n->(hZ B1 (m1 j)=some t1/\hZ B2 (m2 j)=some t2/\ ∀k,j<=k->k<n->P k)\/ ∃k,k<n/\hZ B1 (m1 j)=some (f1 k)/\hZ B2 (m2 j)=some (f2 k)/\Q k:=by
  intro d
  induction d with
  |zero=>
   intro j hj;have :j=n:=by omega
   subst this;exact .inl ⟨fP h1,fP h2,fun k a b=>by omega⟩
  |succ d ih=>
   intro j hj;rcases h j (by omega) with ⟨g1,g2,g3⟩| ⟨g1,g2,g3⟩
   ·rw[kB g1,kB g2];rcases ih (j+1) (by omega) with ⟨k1,k2,k3⟩|k
    ·refine .inl ⟨k1,k2,fun k a b=> ?_⟩;rcases dD a with rfl|a
     ·exact g3
     ·exact k3 k a b
    ·exact .inr k
   ·exact .inr ⟨j,by omega,fP g1,fP g2,g3⟩
 rcases fG n 0 (by omega) with ⟨a,b,c⟩|h
 ·exact .inl ⟨a,b,fun k hk=>c k (ba _) hk⟩
 ·exact .inr h
def tD (x y:Option (β×Unit)):Prop:= ∃b,x=some (b,())/\y=some (b,())
theorem dT {n k:Nat} (hn:n<=maxLen) (hk:k<n):IntKind.wrap .i64 ((k:Int)+1)=((k+1:Nat):Int):=by unfold maxLen at hn;rw[fY (by omega) (by omega)];rfl
theorem jA {k:Nat} (hk:0<k) (h:k<=maxLen):IntKind.wrap .i64 ((k:Int)-1)=((k-1:Nat):Int):=by unfold maxLen at h;rw[fY (by omega) (by omega)];omega
theorem AO {α:Type} {F:List α->Option (List α×Unit)} {B: (List α×Unit×Int×Unit)×Unit×(List α×Unit)->Option (((List α×Unit×Int×Unit)×Unit×(List α×Unit))⊕((Unit×Unit)×Unit×(List α×Unit)))} (f:α->Option (α×Unit)) (z:α) (n:Nat)
  (hF: ∀l,F l=dJ (0<=(l.length:Int)/\(l.length:Int)=(l.length:Int)/\(l.length:Int)*((n:Nat):Int)<=2 ^ 40) ((hZ B ((l,(),0,()),(),(List.replicate (l.length:Int).toNat z,()))).bind fun e=>some (e.2.2.1,())) none)
  (hB: ∀ (l v:List α) (k:Int),B ((l,(),k,()),(),(v,()))=br (decide (k< (l.length:Int))) (dJ (0<=k) ((l[k.toNat]?).bind fun x=>(f x).bind fun y=>dJ (0<=k/\k< (v.length:Int)) ((v[k.toNat]?).bind fun _=>some (.inl ((l,(),IntKind.wrap .i64 (k+1),()),(),(v.set k.toNat y.1,())))) none) none) (some (.inr (((),()),(),(v,())))))
  (hn:n<=1048576) (l:List α) (hl:l.length<=1048576) (h: ∀x∈l,f x=some (x,())):F l=some (l,()):=by
 have fG:=oc (B:=B) l (fun k (b:List α)=>((l,(),(k:Int),()),(),(b,()))) (fun _ b=>b.length=l.length) (fun k r b=>(((),()),(),(b.take k++r,())))
  (fun b hb=>by rw[hB,dI,if_neg (by omega),bw,bD (by omega)])
  (fun k b x hx hb=>by
    have hk:=pt hx;refine .inl ⟨b.set k x,?_,by simp[hb],?_⟩
    ·rw[hB,dI,if_pos (by omega),eP (by omega),aA,hx,af,h x (aq hx),af,eP (by omega),ah (by omega),af,dT (n:=l.length) (by unfold maxLen; omega) hk]
    ·rw[nL _ (by omega)];simp)
  0 (List.replicate l.length z) (ba _) (dt)
 have hm: (l.length:Int)*((n:Nat):Int)<=2 ^ 40:=by
  have h1:l.length*n<=1048576*1048576:=Nat.mul_le_mul hl hn;have h2: ((l.length*n:Nat):Int)<=((1048576*1048576:Nat):Int):=by exact_mod_cast h1
  have h3: ((l.length*n:Nat):Int)=(l.length:Int)*(n:Int):=Int.natCast_mul _ _;have h4: ((1048576*1048576:Nat):Int)=2 ^ 40:=by decide
  omega
 rw[hF,eP ⟨by omega,rfl,hm⟩,aA];have fG:hZ B ((l,(),0,()),(),(List.replicate l.length z,()))=some (((),()),(),(l,())):=by simpa using fG
 rw[fG];rfl
theorem pv {α:Type} {F:List α->List α->Option (Bool×Unit)} {B: (List α×List α×Int×Unit)×Unit×Unit->Option (((List α×List α×Int×Unit)×Unit×Unit)⊕(((Bool×Unit)×Unit×Unit)⊕((Unit×Unit)×Unit×Unit)))} (f:α->α->Option (Bool×Unit))
  (hF: ∀a b,F a b=br (!((a.length:Int)==(b.length:Int))) (some (false,())) ((hZ B ((a,b,0,()),(),())).bind fun e=>Sum.elim (fun e=>some (e.1.1,())) (fun _=>some (true,())) e))
  (hB: ∀ (a b:List α) (k:Int),B ((a,b,k,()),(),())=br (decide (k< (a.length:Int))) (dJ (0<=k) ((a[k.toNat]?).bind fun x=>dJ (0<=k) ((b[k.toNat]?).bind fun y=>(f x y).bind fun r=>br (!r.1) (some (.inr (.inl ((false,()),(),())))) (some (.inl ((a,b,IntKind.wrap .i64 (k+1),()),(),())))) none) none) (some (.inr (.inr (((),()),(),())))))
  (l:List α) (hl:l.length<=maxLen) (h: ∀x∈l,f x x=some (true,())):F l l=some (true,()):=by
 have fG:=oc (B:=B) l (fun k (b:Unit)=>((l,l,(k:Int),()),(),())) (fun _ _=>True) (fun k r b=> .inr (((),()),(),()))
  (fun b hb=>by rw[hB,dI,if_neg (by omega)])
  (fun k b x hx hb=>by have hk:=pt hx;refine .inl ⟨(),?_,trivial,rfl⟩;rw[hB,dI,if_pos (by omega),eP (by omega),aA,hx,af,eP (by omega),af,h x (aq hx),af,dT hl hk];rfl)
  0 () (ba _) trivial
 rw[hF,Gq,if_neg (by simp),show hZ B ((l,l,0,()),(),())=_ from fG];rfl
def tP (F:α->Int->Option (Int×Unit)) (bd sm:α->Prop):Prop:= ∀x left,bd x->0<=left->left<=1048576-> ∃n,F x left=some (n,())/\n<=left/\(0<=n->sm x)
theorem yI {F:List α->Int->Option (Int×Unit)} (hF: ∀l left,F l left=br (decide (IntKind.wrap .i64 (left-(l.length:Int))<0)) (some (-1,())) (some (IntKind.wrap .i64 (left-(l.length:Int)),()))):tP F (fun l=>l.length<=maxLen) (fun l=>l.length<=1048576):=by
 intro l left hl h0 h1;unfold maxLen at hl;rw[hF,fY (by omega) (by omega),dI];split
 ·exact⟨_,rfl,by omega,fun h=>by omega⟩
 ·exact⟨_,rfl,by omega,fun h=>by omega⟩
theorem Dp {F:List α->Int->Option (Int×Unit)} {B: (List α×Int×Int×Unit)×Unit×Unit->Option (((List α×Int×Int×Unit)×Unit×Unit)⊕(((Int×Int×Unit)×Unit×Unit)⊕((Int×Unit×Unit)×Unit×Unit)))} (f:α->Int->Option (Int×Unit)) {bd sm:α->Prop} (hf:tP f bd sm)
  (hF: ∀l left,F l left=br (decide (IntKind.wrap .i64 (left-(l.length:Int))<0)) (some (-1,())) ((hZ B ((l,IntKind.wrap .i64 (left-(l.length:Int)),0,()),(),())).bind fun e=>Sum.elim (fun e=>some (e.1.2.1,())) (fun e=>some (e.1.1,())) e))
  (hB: ∀ (l:List α) (v k:Int),B ((l,v,k,()),(),())=br (decide (k< (l.length:Int))) (dJ (0<=k) ((l[k.toNat]?).bind fun x=>(f x v).bind fun y=>br (decide (y.1<0)) (some (.inr (.inl ((y.1,-1,()),(),())))) (some (.inl ((l,y.1,IntKind.wrap .i64 (k+1),()),(),())))) none) (some (.inr (.inr ((v,(),()),(),()))))):
  tP F (fun l=>l.length<=maxLen/\ ∀x∈l,bd x) (fun l=>l.length<=1048576/\ ∀x∈l,sm x):=by
 intro l left hl h0 h1;obtain⟨hl,hbd⟩:=hl;have hl':=hl;unfold maxLen at hl';rw[hF,fY (by omega) (by omega),dI];split
 ·exact⟨_,rfl,by omega,fun h=>by omega⟩
 ·rename_i hge
  have fG:=nv (B:=B) (fun s=> ∃ (k:Nat) (v:Int),s=((l,v,(k:Int),()),(),())/\k<=l.length/\0<=v/\v<=left-(l.length:Int)/\ ∀ (j:Nat) x,j<k->l[j]? =some x->sm x) (fun s=>l.length-s.1.2.2.1.toNat)
   (fun e=>(∃y,e= .inl ((y,-1,()),(),()))\/ ∃v,e= .inr ((v,(),()),(),())/\v<=left-(l.length:Int)/\ ∀x∈l,sm x)
   (fun s hs=>by
     obtain⟨k,v,rfl,hk,hv0,hv1,hsm⟩:=hs;rw[hB,dI];by_cases hlt:k<l.length
     ·rw[if_pos (by omega),eP (by omega),aA,ah hlt,af];obtain⟨n,g1,g2,g3⟩:=hf l[k] v (hbd _ (bF _)) hv0 (by omega);rw[g1,af,dI];split
      ·exact .inr ⟨_,rfl, .inl ⟨_,rfl⟩⟩
      ·refine .inl ⟨_,rfl,⟨k+1,n,by rw[dT hl hlt],by omega,by omega,by omega,fun j x hj hx=> ?_⟩,?_⟩
       ·rcases Nat.lt_succ_iff_lt_or_eq.1 hj with h|rfl
        ·exact hsm j x h hx
        ·rw[ah hlt] at hx;cases hx;exact g3 (by omega)
       ·simp only[dT hl hlt,aA];omega
     ·rw[if_neg (by omega)];refine .inr ⟨_,rfl, .inr ⟨v,rfl,hv1,fun x hx=> ?_⟩⟩;obtain⟨j,hj,he⟩:=aM hx;exact hsm j x (by omega) (by rw[ah hj,he]))
   (s:=((l,left-(l.length:Int),0,()),(),())) ⟨0,_,rfl,ba _,by omega,by omega,fun j x hj=>by omega⟩
  obtain⟨e,h2,h3⟩:=fG;rw[h2];rcases h3 with ⟨y,rfl⟩| ⟨v,rfl,hv,hsm⟩
  ·exact⟨-1,rfl,by omega,fun h=>by omega⟩
  ·exact⟨v,rfl,by omega,fun h=>⟨by omega,hsm⟩⟩
end
end
section
open Go
structure Ek (P:Program) where
 n:Nat
 e:FD
 ok:xw P n e
structure El (P:Program) where
 c:Code
 e:Dj
 ok:Gj P c e
structure LX where
 L:qc
 x:List (X×qc)
 g:List Cj
 k:List Nat
 kx:List Nat
abbrev LX.S (m:LX):Type:=m.L.D
abbrev LX.R (m:LX):Type:=Option (m.L.D⊕rJ.D m.x)
theorem tm: (∀ (α β:Type) (b:Bool) (x y:Option α) (f:α->Option β),(br b x y).bind f=br b (x.bind f) (y.bind f))/\(∀ (α β:Type) (c:Prop) (_:Decidable c) (x y:Option α) (f:α->Option β),(dJ c x y).bind f=dJ c (x.bind f) (y.bind f))/\(∀ (α β:Type) (f:α->Option β),(none:Option α).bind f=none)/\(∀ (α β:Type) (a:α) (f:α->Option β),(some a).bind f=f a)/\(∀ (α β γ:Type) (x:Option α) (f:α->Option β) (g:β->Option γ),(x.bind f).bind g=x.bind fun a=>(f a).bind g)/\(∀ (α β γ δ:Type) (x:α⊕β) (f:α->Option γ) (g:β->Option γ) (h:γ->Option δ),(Sum.elim f g x).bind h=Sum.elim (fun a=>(f a).bind h) (fun a=>(g a).bind h) x)/\(∀ (α β γ:Type) (f:α->γ) (g:β->γ) (a:α),Sum.elim f g (.inl a)=f a)/\ ∀ (α β γ:Type) (f:α->γ) (g:β->γ) (b:β),Sum.elim f g (.inr b)=g b:=
 ⟨fun _ _ b _ _ _=>by cases b<;>rfl,fun _ _ c _ _ _ _=>by unfold dJ; split<;>rfl,fun _ _ _=>rfl,fun _ _ _ _=>rfl,fun _ _ _ x _ _=>by cases x<;>rfl,fun _ _ _ _ x _ _ _=>by cases x<;>rfl,fun _ _ _ _ _ _=>rfl,fun _ _ _ _ _ _=>rfl⟩
def Gs:Code->List Nat->Code
 |c,[] =>c
 |c,i::l=>Gs (Jj c i) l
section
variable {P:Program} {Θ:kL}
def Cm:List (Ek P)->List (Nat×FD)
 | [] => []
 |k::l=>(k.n,k.e)::Cm l
theorem rL: ∀l:List (Ek P),jH P (yl (Cm l))
 | [] =>HM P
 |k::l=>Gh k.ok (rL l)
def wx:List (El P)->List (Nat×Dj)
 | [] => []
 |q::l=>(fG q.c,q.e)::wx l
def kM:List (El P)->List Code
 | [] => []
 |q::l=>q.c::kM l
def wy:List Code->Bool
 | [] =>true
 |c::l=>l.all (fun d=> !Nat.beq (fG c) (fG d))&&wy l
theorem Dq: ∀l:List (El P),wy (kM l)=true->gO P (wv (wx l)) (kM l)
 | [],_=>fun c hc=>by cases hc
 |q::l,h=>by
  simp only[kM,wy,ao,au] at h;intro c hc S ρ κ r hS hr;have hr: (bif Nat.beq (fG q.c) (fG c) then q.e S ρ κ else wv (wx l) (fG c) S ρ κ)=some r:=hr;rcases aR.1 hc with rfl|hc
  ·rw[co] at hr;exact q.ok S ρ κ r hS hr
  ·have hb:Nat.beq (fG q.c) (fG c)=false:=by simpa using h.1 c hc
   rw[hb] at hr;exact Dq l h.2 c hc S ρ κ r hS hr
theorem AP {Λ:List (El P)} {cs:List Code} (h:cs=kM Λ) (hn:wy (kM Λ)=true):gO P (wv (wx Λ)) cs:=by rw[h]; exact Dq Λ hn
theorem rc {α β:Type} {a a':α} {b b':β} (h: (a,b)=(a',b')):a=a'/\b=b':=by cases h; exact⟨rfl,rfl⟩
theorem Cn {a b:Bool} (h: (a&&b)=true):a=true/\b=true:=by simpa using h
variable (hΘ:fi P Θ) (hm:P.follows .mixedOrders=true)
noncomputable def Li (fn:Func) (p:List Nat) (m:LX) (B:m.S->m.R) (Y:List (Ek P)) (Λ:List (El P)) (h: (eZ (Gs (lO fn) p),((iH P (Gs (lO fn) p))&&(m.L.fit&&m.x.all JX))&&wy (kM Λ))=(kM Λ,true))
  (hB: ∀s,(B s).bind (Sum.elim (fun s'=>some (X.nor,m.L.mk' s')) fun e=>some (rJ.e m.x e))=rA Θ (yl (Cm Y)) (wv (wx Λ)) (Gs (lO fn) p) (m.L.mk' s) (AK m.k m.kx fun x S=>some (x,S))):El P:=
 ⟨Gs (lO fn) p,Gi m.g m.k m.L m.x (hZ B),Gk hΘ (rL Y) hm (Cn (Cn (rc h).2).1).1 (AP (rc h).1 (Cn (rc h).2).2) m.g m.k m.kx m.L m.x (Cn (Cn (rc h).2).1).2 B (fun s=>(hB s).symm) (hZ B) (Jf B) (Ei B)⟩
theorem IE {f:FuncId} {fn:Func} {Λ:List (El P)} (h: (zW P f,eZ (lO fn),Nat.blt f 1048576&&wy (kM Λ))=(some fn,kM Λ,true)):zW P f=some fn/\(∀c,fn.body=some c->gO P (wv (wx Λ)) (eZ c))/\Nat.blt f 1048576=true:=
 have h2:=rc (rc h).2
 ⟨(rc h).1,J1 h2.1 (AP rfl (Cn h2.2).2),(Cn h2.2).1⟩
noncomputable def Lc (f:FuncId) (fn:Func) (ps:List q9) (rs:List Ty) (F:kS.D ps->Option (lN.D rs)) (Y:List (Ek P)) (Λ:List (El P)) (h: (zW P f,eZ (lO fn),Nat.blt f 1048576&&wy (kM Λ))=(some fn,kM Λ,true))
  (hF: ∀x,(F x).bind (fun y=>ret (ln rs y) fun v g=>some (v,g))=JR Θ (yl (Cm Y)) (wv (wx Λ)) fn (iI ps x) fun v g=>some (v,g)):Ek P:=
 ⟨f,yF ps rs F,HT hΘ (rL Y) hm (IE h).1 (IE h).2.1 (IE h).2.2 F (fun x=>(hF x).symm) fun _ _ h=>h⟩
noncomputable def KU (f:FuncId) (fn:Func) (el:Ty) (ps:List q9) (rs:List Ty) (F:List el.D->kS.D ps->Option (lN.D rs)) (Y:List (Ek P)) (Λ:List (El P)) (h: (zW P f,eZ (lO fn),Nat.blt f 1048576&&wy (kM Λ))=(some fn,kM Λ,true))
  (hF: ∀l x,(F l x).bind (fun y=>ret (ln rs y) fun v g=>some (v,g))=D6 Θ (yl (Cm Y)) (wv (wx Λ)) fn 0 el l (iI ps x) fun v g=>some (v,g)):Ek P:=
 ⟨Ag f,Jg el ps rs F,HU hΘ (rL Y) hm (IE h).1 (IE h).2.1 F (fun l x=>(hF l x).symm) fun _ _ _ h=>h⟩
noncomputable def KV (f:FuncId) (fn:Func) (el:Ty) (ps:List q9) (rs:List Ty) (F:List el.D->kS.D ps->Option (List el.D×lN.D rs)) (Y:List (Ek P)) (Λ:List (El P)) (h: (zW P f,eZ (lO fn),Nat.blt f 1048576&&wy (kM Λ))=(some fn,kM Λ,true))
  (hF: ∀l x,(F l x).bind (fun y=>Jh el rs y fun v g=>some (v,g))=D6 Θ (yl (Cm Y)) (wv (wx Λ)) fn 1 el l (iI ps x) fun v g=>some (v,g)):Ek P:=
 ⟨uV f,Ji el ps rs F,HW hΘ (rL Y) hm (IE h).1 (IE h).2.1 (IE h).2.2 F (fun l x=>(hF l x).symm) fun _ _ _ h=>h⟩
abbrev KW (t:Ty) (y:List t.D×Unit):Option (V×List en):=ret (ln [.ls t] y) fun v g=>some (v,g)
abbrev Ld (t:Ty) (n:Nat) (l:List t.D):Option (V×List en):=dJ ((([]:List t.D)++l).length*n<=2 ^ 40) (KW t (([]:List t.D)++l,())) none
noncomputable def KX (f:FuncId) (fn:Func) (t:Ty) (n:Nat) (F:List t.D->Option (List t.D×Unit)) (h: (zW P f,eZ (lO fn),Nat.blt f 1048576&&wy (kM ([]:List (El P))))=(some fn,kM ([]:List (El P)),true))
  (h1: ∀l,F l=dJ (l.length*n<=2 ^ 40) (some (l,())) none)
  (h2: ∀x:kS.D [.ty (.ls t)],JR Θ (yl (Cm ([]:List (Ek P)))) (wv (wx ([]:List (El P)))) fn (iI [.ty (.ls t)] x) (fun v g=>some (v,g))=I4 x.1 (He (KW t ([],())) (Ld t n x.1) none) (Ld t n x.1)):Ek P:=
 Lc hΘ hm f fn [.ty (.ls t)] [.ls t] (fun x=>F x.1) [] [] h fun x=>by rw[h2,h1];exact (HZ x.1 n (KW t)).symm
end
end
end Go.Proofs.YtadpelkpdaohnaaGreatDoor.En
