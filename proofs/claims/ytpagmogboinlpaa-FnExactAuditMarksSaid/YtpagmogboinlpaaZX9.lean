import Derived.Test.YtpagmogboinlpaaZX8
import Derived.ProofKit
import Derived.ChangeOld
import Derived.Deep.Slices
import Derived.OpenShut
import Derived.Below
import Derived.Carry
import Derived.WideShapes
namespace Go.Proofs.Ytpagmogboinlpaa.En
section
open Go
inductive Sh where
 |int (k:IntKind)|bl|str|ro (t:Ty)|own (r:Nat) (t:Ty)|ptr (n j:Nat)|em|dead|pro (t:Ty)|fc (g:Nat)|sub (r:Nat) (t:Ty)
abbrev Sh.D:Sh->Type
 | .int _=>Int| .bl=>Bool| .str=>ByteArray| .ro t=>List t.D| .pro t=>t.D| .sub _ _=>Nat×Nat| _=>Unit
abbrev lK.D:List Sh->Type
 | [] =>Unit
 |s::l=>s.D×lK.D l
inductive nv where
 |cl (s:Sh)|agg (l:List Sh)|st (n:Sn)|fn (f:FuncId) (l:List Sh)
abbrev nv.D:nv->Type
 | .cl s=>s.D| .agg l=>lK.D l| .st n=>n.D| .fn _ l=>lK.D l
abbrev qu.D:List (Nat×nv)->Type
 | [] =>Unit
 |x::l=>x.2.D×qu.D l
abbrev qv.D:List (List Sh)->Type
 | [] =>Unit
 |x::l=>lK.D x×qv.D l
abbrev jP.D:List Ty->Type
 | [] =>Unit
 |t::l=>List t.D×jP.D l
structure lR where
 env:List (Nat×nv)
 bx:List (List Sh)
 gh:List Ty
 fz:Nat
 nt:Nat
abbrev lR.D (L:lR):Type:=qu.D L.env×qv.D L.bx×jP.D L.gh
def Ci (G:List (Option dI)) (r:Nat):Nat:=match hQ G r with |some (some tr)=>tr.l.length| _=>0
def Sh.mk (G:List (Option dI)): (s:Sh)->s.D->Cl
 | .int k,n=> .c (.sc (.int k n))| .bl,v=> .c (.sc (.bool v))| .str,v=> .c (.sc (.string v))| .ro t,l=> .c (.ls t l)
 | .own r t,_=> .own ⟨r,[]⟩ t.width 0 (Ci G r) true| .ptr n j,_=> .ptrB n j| .em,_=> .em| .dead,_=> .dead| .pro t,x=> .pro (t.flat x)| .fc g,_=> .c (.sc (.func (.func g) #[] #[]))| .sub r t,x=> .own ⟨r,[]⟩ t.width x.1 x.2 false
def lK.mk (G:List (Option dI)): (l:List Sh)->lK.D l->List Cl
 | [],_=> []
 |s::l,x=>s.mk G x.1::lK.mk G l x.2
def nv.mk (G:List (Option dI)): (v:nv)->v.D->V
 | .cl s,x=> .v (.cl (s.mk G x))| .agg l,x=> .v (.agg (lK.mk G l x))| .st n,x=> .v (.agg ((n.flat x).map .c))| .fn f l,x=> .v (.fn f (lK.mk G l x))
def qu.mk (G:List (Option dI)): (l:List (Nat×nv))->qu.D l->List (Nat×V)
 | [],_=> []
 |x::l,d=>(x.1,x.2.mk G d.1)::qu.mk G l d.2
def qv.mk (G:List (Option dI)): (l:List (List Sh))->qv.D l->List (List Cl)
 | [],_=> []
 |x::l,d=>lK.mk G x d.1::qv.mk G l d.2
def jP.mk: (l:List Ty)->jP.D l->List (Option dI)
 | [],_=> []
 |t::l,d=>some ⟨t,d.1,none⟩::jP.mk l d.2
def lR.mk' (L:lR) (d:L.D):TS:= { env:=qu.mk (jP.mk L.gh d.2.2) L.env d.1,bx:=qv.mk (jP.mk L.gh d.2.2) L.bx d.2.1,gh:=jP.mk L.gh d.2.2,fz:=L.fz,nt:=L.nt }
section
variable {ρ:Type}
def Sh.un: (s:Sh)->Cl->(s.D->Option ρ)->Option ρ
 | .int k, .c (.sc (.int k' n)),κ=>bif decide (k'=k) then κ n else none
 | .bl, .c (.sc (.bool v)),κ=>κ v
 | .str, .c (.sc (.string v)),κ=>κ v
 | .ro t, .c (.ls t' l),κ=>match lX t' t l with |some l=>κ l|none=>none
 | .own r t, .own p sz _ _ w,κ=>match p.l with | [] =>(bif w&&Nat.beq p.r r&&Nat.beq sz t.width then κ () else none)| _=>none
 | .ptr n i, .ptrB m j,κ=>bif Nat.beq m n&&Nat.beq j i then κ () else none
 | .em, .em,κ=>κ ()
 | .dead, .dead,κ=>κ ()
 | .pro t, .pro xs,κ=>(match t.unflat xs with |some x=>κ x|none=>none)
 | .fc g, .c (.sc (.func (.func g') cs ts)),κ=>bif Nat.beq g' g&&Nat.beq cs.size 0&&Nat.beq ts.size 0 then κ () else none
 | .sub r t, .own p sz lo len w,κ=>match p.l with | [] =>(bif !w&&Nat.beq p.r r&&Nat.beq sz t.width then κ (lo,len) else none)| _=>none
 | _,_,_=>none
def lK.un: (l:List Sh)->List Cl->(lK.D l->Option ρ)->Option ρ
 | [],[],κ=>κ ()
 |s::l,c::cs,κ=>s.un c fun x=>lK.un l cs fun y=>κ (x,y)
 | _,_,_=>none
def nv.un: (v:nv)->V->(v.D->Option ρ)->Option ρ
 | .cl s, .v (.cl c),κ=>s.un c κ
 | .agg l, .v (.agg cs),κ=>lK.un l cs κ
 | .st n, .v (.agg cs),κ=>match sn cs with |some xs=>(match n.unflat xs with |some x=>κ x|none=>none)|none=>none
 | .fn f l, .v (.fn g cs),κ=>bif Nat.beq f g then lK.un l cs κ else none
 | _,_,_=>none
def qu.un: (l:List (Nat×nv))->List (Nat×V)->(qu.D l->Option ρ)->Option ρ
 | [],[],κ=>κ ()
 |x::l,y::m,κ=>bif Nat.beq x.1 y.1 then x.2.un y.2 fun a=>qu.un l m fun b=>κ (a,b) else none
 | _,_,_=>none
def qv.un: (l:List (List Sh))->List (List Cl)->(qv.D l->Option ρ)->Option ρ
 | [],[],κ=>κ ()
 |x::l,y::m,κ=>lK.un x y fun a=>qv.un l m fun b=>κ (a,b)
 | _,_,_=>none
def jP.un: (l:List Ty)->List (Option dI)->(jP.D l->Option ρ)->Option ρ
 | [],[],κ=>κ ()
 |t::l,some tr::m,κ=>match tr.hole with
  |none=>(match lX tr.t t tr.l with |some a=>jP.un l m fun b=>κ (a,b)|none=>none)
  |some _=>none
 | _,_,_=>none
def lR.un (L:lR) (S:TS) (κ:L.D->Option ρ):Option ρ:=jP.un L.gh S.gh fun g=>qu.un L.env S.env fun e=>qv.un L.bx S.bx fun b=>bif Nat.beq S.fz L.fz&&Nat.beq S.nt L.nt then κ (e,b,g) else none
theorem Sh.un_some {G:List (Option dI)} (hG: ∀r,r<G.length-> ∃tr,hQ G r=some (some tr)): ∀ {s:Sh} {c:Cl} {κ:s.D->Option ρ} {r:ρ},c.ok G->s.un c κ=some r-> ∃x,c=s.mk G x/\κ x=some r:=by
 intro s c κ r hc h;cases s with
 |int k=>
  cases c with
  |c y=>cases y with
   |sc v=>cases v with
    |int k' n=>simp only[Sh.un] at h;obtain⟨h1,h⟩:=dt h;have:=of_decide_eq_true h1;subst this;exact⟨n,rfl,h⟩
    | _=>simp[Sh.un] at h
   |ls t l=>simp[Sh.un] at h
  | _=>simp[Sh.un] at h
 |bl=>
  cases c with
  |c y=>cases y with
   |sc v=>cases v with
    |bool v=>exact⟨v,rfl,h⟩
    | _=>simp[Sh.un] at h
   |ls t l=>simp[Sh.un] at h
  | _=>simp[Sh.un] at h
 |str=>
  cases c with
  |c y=>cases y with
   |sc v=>cases v with
    |string v=>exact⟨v,rfl,h⟩
    | _=>simp[Sh.un] at h
   |ls t l=>simp[Sh.un] at h
  | _=>simp[Sh.un] at h
 |ro t=>
  cases c with
  |c y=>cases y with
   |sc v=>simp[Sh.un] at h
   |ls t' l=>
    simp only[Sh.un] at h;split at h
    ·rename_i l' hl;obtain⟨e,hl⟩:=eH hl;subst e;simp only at hl;subst hl;exact⟨l,rfl,h⟩
    ·cases h
  | _=>simp[Sh.un] at h
 |own q t=>
  cases c with
  |own p sz lo len w=>
   obtain⟨pr,pl⟩:=p;cases pl with
   |cons a l=>simp[Sh.un] at h
   |nil=>simp only[Sh.un] at h;obtain⟨h1,h'⟩:=dt h;clear h;simp only[an] at h1;obtain⟨⟨h0,h2⟩,h3⟩:=h1;have h2:pr=q:=ao h2;have h3:sz=t.width:=ao h3;subst h0 h2 h3;obtain⟨k1,k2⟩:=hc;obtain⟨_,k3,k4⟩:=k2 rfl;obtain⟨tr,htr⟩:=hG _ k1;have k5:=k4 tr (dI.look htr);refine⟨(),?_,h'⟩;simp only[Sh.mk,Ci,k3,k5,htr]
  |c y=>cases y<;>simp[Sh.un] at h
  | _=>simp[Sh.un] at h
 |sub q t=>
  cases c with
  |own p sz lo len w=>
   obtain⟨pr,pl⟩:=p;cases pl with
   |cons a l=>simp[Sh.un] at h
   |nil=>simp only[Sh.un] at h;obtain⟨h1,h'⟩:=dt h;clear h;simp only[an,b8] at h1;obtain⟨⟨h0,h2⟩,h3⟩:=h1;have h2:pr=q:=ao h2;have h3:sz=t.width:=ao h3;subst h0 h2 h3;exact⟨(lo,len),rfl,h'⟩
  |c y=>cases y<;>simp[Sh.un] at h
  | _=>simp[Sh.un] at h
 |ptr n i=>
  cases c with
  |ptrB m j=>simp only[Sh.un] at h;obtain⟨h1,h'⟩:=dt h;clear h;simp only[an] at h1;have h2:=ao h1.1;have h3:=ao h1.2;subst h2 h3;exact⟨(),rfl,h'⟩
  |c y=>cases y<;>simp[Sh.un] at h
  | _=>simp[Sh.un] at h
 |em=>
  cases c with
  |em=>exact⟨(),rfl,h⟩
  |c y=>cases y<;>simp[Sh.un] at h
  | _=>simp[Sh.un] at h
 |dead=>
  cases c with
  |dead=>exact⟨(),rfl,h⟩
  |c y=>cases y<;>simp[Sh.un] at h
  | _=>simp[Sh.un] at h
 |pro t=>
  cases c with
  |pro xs=>
   simp only[Sh.un] at h;split at h
   ·rename_i x hx;exact⟨x,by simp only[Sh.mk]; rw[t.unflat_some _ _ hx],h⟩
   ·cases h
  |c y=>cases y<;>simp[Sh.un] at h
  | _=>simp[Sh.un] at h
 |fc g=>
  unfold Sh.un at h;split at h
  all_goals first | (rename_i hh; cases hh; done)|skip
  all_goals try (rename_i hh _; cases hh; done)
  ·rename_i e;cases e;obtain⟨h1,h'⟩:=dt h;simp only[an] at h1;obtain⟨⟨h1,h2⟩,h3⟩:=h1;have h1:=ao h1;have h2:=ci (ao h2);have h3:=ci (ao h3);exact⟨(),by rw[h1,h2,h3]; rfl,h'⟩
  ·cases h
theorem lK.un_some {G:List (Option dI)} (hG: ∀r,r<G.length-> ∃tr,hQ G r=some (some tr)): ∀ {l:List Sh} {cs:List Cl} {κ:lK.D l->Option ρ} {r:ρ},(∀c∈cs,c.ok G)->lK.un l cs κ=some r-> ∃x,cs=lK.mk G l x/\κ x=some r
 | [],[],κ,r,_,h=>⟨(),rfl,h⟩
 |s::l,c::cs,κ,r,hc,h=>by unfold lK.un at h;obtain⟨x,h1,h⟩:=Sh.un_some hG (hc c aD) h;obtain⟨y,h2,h⟩:=lK.un_some hG (fun z hz=>hc z (aA _ hz)) h;exact⟨(x,y),by rw[h1,h2]; rfl,h⟩
 | [],c::cs,κ,r,_,h=>by simp[lK.un] at h
 |s::l,[],κ,r,_,h=>by simp[lK.un] at h
theorem nW: ∀ {cs:List Cl} {xs:List C},sn cs=some xs->cs=xs.map .c
 | [],xs,h=>by simp only[sn,ae] at h; subst h; rfl
 |c::cs,xs,h=>by
  cases c with
  |c y=>
   simp only[sn] at h;split at h
   ·rename_i r hr;simp only[ae] at h;subst h;rw[nW hr];rfl
   ·cases h
  | _=>simp[sn] at h
theorem nv.un_some {G:List (Option dI)} (hG: ∀r,r<G.length-> ∃tr,hQ G r=some (some tr)) {s:nv} {v:V} {κ:s.D->Option ρ} {r:ρ} (hv:v.ok G) (h:s.un v κ=some r): ∃x,v=s.mk G x/\κ x=some r:=by
 cases v with
 |tup l=>cases s<;>simp[nv.un] at h
 |v y=>
  cases s with
  |cl s=>cases y with
   |cl c=>obtain⟨x,h1,h⟩:=Sh.un_some hG hv h;exact⟨x,by rw[h1]; rfl,h⟩
   | _=>simp[nv.un] at h
  |agg l=>cases y with
   |agg cs=>obtain⟨x,h1,h⟩:=lK.un_some hG hv h;exact⟨x,by rw[h1]; rfl,h⟩
   | _=>simp[nv.un] at h
  |st n=>cases y with
   |agg cs=>
    simp only[nv.un] at h;split at h
    ·rename_i xs hxs;split at h
     ·rename_i x hx;exact⟨x,by rw[nW hxs]; simp only[nv.mk]; rw[n.unflat_some _ _ hx],h⟩
     ·cases h
    ·cases h
   | _=>simp[nv.un] at h
  |fn f l=>cases y with
   |fn g cs=>simp only[nv.un] at h;obtain⟨h0,h'⟩:=dt h;clear h;have h0:=ao h0;subst h0;obtain⟨x,h1,h⟩:=lK.un_some hG hv h';exact⟨x,by rw[h1]; rfl,h⟩
   | _=>simp[nv.un] at h
theorem qu.un_some {G:List (Option dI)} (hG: ∀r,r<G.length-> ∃tr,hQ G r=some (some tr)): ∀ {l:List (Nat×nv)} {m:List (Nat×V)} {κ:qu.D l->Option ρ} {r:ρ},(∀x∈m,x.2.ok G)->qu.un l m κ=some r-> ∃x,m=qu.mk G l x/\κ x=some r
 | [],[],κ,r,_,h=>⟨(),rfl,h⟩
 |s::l,c::cs,κ,r,hc,h=>by unfold qu.un at h;obtain⟨h0,h⟩:=dt h;have h0:=ao h0;obtain⟨x,h1,h⟩:=nv.un_some hG (hc c aD) h;obtain⟨y,h2,h⟩:=qu.un_some hG (fun z hz=>hc z (aA _ hz)) h;refine⟨(x,y),?_,h⟩;rw[h2];obtain⟨c1,c2⟩:=c;simp only at h0 h1;rw[h1,<-h0];rfl
 | [],c::cs,κ,r,_,h=>by simp[qu.un] at h
 |s::l,[],κ,r,_,h=>by simp[qu.un] at h
theorem qv.un_some {G:List (Option dI)} (hG: ∀r,r<G.length-> ∃tr,hQ G r=some (some tr)): ∀ {l:List (List Sh)} {m:List (List Cl)} {κ:qv.D l->Option ρ} {r:ρ},(∀cs∈m,∀c∈cs,c.ok G)->qv.un l m κ=some r-> ∃x,m=qv.mk G l x/\κ x=some r
 | [],[],κ,r,_,h=>⟨(),rfl,h⟩
 |s::l,c::cs,κ,r,hc,h=>by unfold qv.un at h;obtain⟨x,h1,h⟩:=lK.un_some hG (hc c aD) h;obtain⟨y,h2,h⟩:=qv.un_some hG (fun z hz=>hc z (aA _ hz)) h;exact⟨(x,y),by rw[h1,h2]; rfl,h⟩
 | [],c::cs,κ,r,_,h=>by simp[qv.un] at h
 |s::l,[],κ,r,_,h=>by simp[qv.un] at h
theorem jP.un_some: ∀ {l:List Ty} {m:List (Option dI)} {κ:jP.D l->Option ρ} {r:ρ},jP.un l m κ=some r-> ∃x,m=jP.mk l x/\κ x=some r
 | [],[],κ,r,h=>⟨(),rfl,h⟩
 |t::l,some tr::m,κ,r,h=>by
  unfold jP.un at h;split at h
  ·rename_i hh;split at h
   ·rename_i a ha;obtain⟨e,hl⟩:=eH ha;obtain⟨y,h2,h⟩:=jP.un_some h;obtain⟨t',l',hole⟩:=tr;simp only at hh e hl ha;subst hh e;simp only at hl;subst hl;exact⟨(l',y),by rw[h2]; rfl,h⟩
   ·cases h
  ·cases h
 | [],c::cs,κ,r,h=>by simp[jP.un] at h
 |t::l,[],κ,r,h=>by simp[jP.un] at h
 |t::l,none::m,κ,r,h=>by simp[jP.un] at h
theorem jP.mk_some: ∀ (l:List Ty) (d:jP.D l) (r:Nat),r< (jP.mk l d).length-> ∃tr,hQ (jP.mk l d) r=some (some tr)
 | [],d,r,h=>by simp[jP.mk] at h
 |t::l,d,0,h=>⟨_,rfl⟩
 |t::l,d,r+1,h=>by obtain⟨tr,htr⟩:=jP.mk_some l d.2 r (by simpa [jP.mk] using h);exact⟨tr,htr⟩
theorem lR.un_some {L:lR} {S:TS} (hS:S.ok) {κ:L.D->Option ρ} {r:ρ} (h:L.un S κ=some r): ∃d,S=L.mk' d/\κ d=some r:=by
 unfold lR.un at h;obtain⟨g,h1,h⟩:=jP.un_some h;have hG: ∀r,r<S.gh.length-> ∃tr,hQ S.gh r=some (some tr):=by rw[h1]; exact jP.mk_some _ _
 obtain⟨e,h2,h⟩:=qu.un_some hG hS.env h;obtain⟨b,h3,h⟩:=qv.un_some hG hS.bx h;obtain⟨h4,h⟩:=dt h;simp only[an] at h4;have h5:=ao h4.1;have h6:=ao h4.2;refine⟨(e,b,g),?_,h⟩;obtain⟨env,bx,gh,fz,nt⟩:=S;simp only at h1 h2 h3 h5 h6;subst h5 h6;unfold lR.mk';simp only;rw[<-h1,<-h2,<-h3]
end
end
section
open Go
def wE (S:TS) (t:Ty):Cl:= .own ⟨S.gh.length,[]⟩ t.width 0 0 true
def wF (n j:Nat) (t:Ty) (S:TS):TS:=match hQ S.bx n with
 |some cs=>(match hQ cs j with
  |some .em=> { S with bx:=dR S.bx n (dR cs j (wE S t)),gh:=S.gh++ [some ⟨t,[],none⟩] }
  | _=>S)
 |none=>S
def wG (x:Nat) (t:Ty) (S:TS):TS:=match eT S.env x with
 | .v (.cl .em)=> { S with env:=(x, .v (.cl (wE S t)))::S.env,gh:=S.gh++ [some ⟨t,[],none⟩] }
 | _=>S
theorem BJ: ∀ (l:List (Nat×Nat)),T.go .dd l= .dd
 | [] =>rfl
 | (_,_)::l=>BJ l
theorem Cj (w:Nat) {l:List (Nat×Nat)} {s:Nat} {rs:List (List T)} (h:T.go (.sl w []) l= .sl s rs):rs= [] :=by
 cases l with
 |nil=>cases h; rfl
 |cons a l=>obtain⟨i,j⟩:=a;simp only[T.go,T.cell,List.getD_nil,BJ] at h;cases h
theorem rg {S S':TS} (t:Ty) (henv: ∀u,(eT S'.env u).av=(eT S.env u).av\/((eT S.env u).av= .em/\(eT S'.env u).av= .own ⟨S.gh.length,[]⟩ t.width 0 0))
  (hbx: ∀k cs',S'.st.bx k=some cs'-> ∃cs,S.st.bx k=some cs/\cs'.length=cs.length/\ ∀ (j:Nat) (v:AV),cs'[j]? =some v->cs[j]? =some v\/(cs[j]? =some .em/\v= .own ⟨S.gh.length,[]⟩ t.width 0 0))
  (hgh:S'.gh=S.gh++ [some ⟨t,[],none⟩]) (hfz:S'.fz=S.fz) (hnt:S'.nt=S.nt) (hbl:S'.bx.length=S.bx.length):iw S.st S'.st:=by
 intro w0 W btI SI bt a w hl0;have hl:=hl0.widen (N:=S.gh.length+1) (Nat.le_succ _);have inv:=hl.inv;have hng:S'.st.ng=S.gh.length+1:=by show S'.gh.length=_; rw[hgh]; simp
 have ghS: ∀r,S'.st.gh r=if r=S.gh.length then some (.sl t.width []) else S.st.gh r:=by intro r;show (ea S'.gh r).map dI.tree=_;rw[hgh,fX];split<;>rfl
 have κ0: ∀l,(bt.widen S.st.ng (S.gh.length+1)).κ ⟨S.gh.length,l⟩=0:=by intro l;show (if S.gh.length<S.gh.length then _ else 0)=0;rw[if_neg (dn _)]
 have look: ∀p s rs,S'.st.look p= .sl s rs->(p.r=S.gh.length/\rs= [] /\(bt.widen S.st.ng (S.gh.length+1)).κ p=0)\/(p.r≠S.gh.length/\S.st.look p= .sl s rs):=by
  intro p s rs hp;unfold St.look at hp;rw[ghS] at hp;by_cases hr:p.r=S.gh.length
  ·rw[if_pos hr] at hp;left;refine⟨hr,Cj _ hp,?_⟩;obtain⟨pr,pl⟩:=p;simp only at hr;subst hr;exact κ0 pl
  ·rw[if_neg hr] at hp;exact .inr ⟨hr,hp⟩
 have own0: ∀ {u:Value},VR w (bt.widen S.st.ng (S.gh.length+1)) .em u->VR w (bt.widen S.st.ng (S.gh.length+1)) (.own ⟨S.gh.length,[]⟩ t.width 0 0) u:=by
  intro u hu;cases hu with
  |em ad=>exact .own (cx _) (au _) (bG _) (fun h=>absurd h (dn _))
 refine⟨bt.widen S.st.ng (S.gh.length+1),?_⟩
 refine⟨{ os:=inv.os,tape:=inv.tape,output:=inv.output,size:=inv.size,keep:=inv.keep
          nb:=by show _=S'.bx.length; rw[hbl]; exact inv.nb
          ng:=by rw[hng]; exact inv.ng
          bx:=fun n cells hn=> ?_
          gh:=fun r x hr=> ?_
          tr:=fun p sz rows hp=> ?_
          inj:=fun p q s rs s' rs' hp hq hk hk' he=> ?_
          bbinj:=fun n m cs cs' hn hm he=> ?_
          bbtr:=fun n cs p s rs hn hp hk=> ?_
          alt:=inv.alt
          atr:=fun p s rs hp hk=> ?_
          abb:=fun n cs hn=> ?_ },⟨?_,fun u=> ?_⟩,hl.defers,?_,?_,hl.keep,fun r hr hn=> ?_⟩
 ·obtain⟨cs,h1,h2,h3⟩:=hbx n cells hn;obtain⟨g1,g2,arr,e,g3,g4,g5⟩:=inv.bx n cs h1;refine⟨by show n<S'.bx.length; rw[hbl]; exact g1,g2,arr,e,g3,by rw[h2]; exact g4,fun j v hj=> ?_⟩;rcases h3 j v hj with h4| ⟨h4,rfl⟩
  ·exact g5 j v h4
  ·obtain⟨c,k1,k2,k3⟩:=g5 j .em h4;exact⟨c,k1,own0 k2,k3⟩
 ·rw[hng];rw[ghS] at hr;split at hr
  ·omega
  ·have:=inv.gh r x hr;exact this
 ·rcases look p sz rows hp with ⟨h1,rfl,h3⟩| ⟨h1,h2⟩
  ·exact⟨bG _,fun hk=>by omega⟩
  ·exact inv.tr p sz rows h2
 ·rcases look p s rs hp with ⟨h1,_,h3⟩| ⟨h1,h2⟩
  ·omega
  ·rcases look q s' rs' hq with ⟨g1,_,g3⟩| ⟨g1,g2⟩
   ·omega
   ·exact inv.inj _ _ _ _ _ _ h2 g2 hk hk' he
 ·obtain⟨c,h1,_,_⟩:=hbx n cs hn;obtain⟨c',g1,_,_⟩:=hbx m cs' hm;exact inv.bbinj _ _ _ _ h1 g1 he
 ·obtain⟨c,h1,_,_⟩:=hbx n cs hn;rcases look p s rs hp with ⟨_,_,h3⟩| ⟨_,h2⟩
  ·omega
  ·exact inv.bbtr _ _ _ _ _ h1 h2 hk
 ·rcases look p s rs hp with ⟨_,_,h3⟩| ⟨_,h2⟩
  ·omega
  ·exact inv.atr _ _ _ h2 hk
 ·obtain⟨c,h1,_,_⟩:=hbx n cs hn;exact inv.abb _ _ h1
 ·have:=hl.er.1;show _=S'.nt;rw[hnt];exact this
 ·have h1:=hl.er.2 u;show VR w _ (eT S'.env u).av _;rcases henv u with h2| ⟨h2,h3⟩
  ·rw[h2]; exact h1
  ·rw[h3];have h1':VR w (bt.widen S.st.ng (S.gh.length+1)) (eT S.env u).av (a.tmps.getD u undef):=h1;rw[h2] at h1';exact own0 h1'
 ·show S'.fz=_;rw[hfz];exact hl.fz
 ·show S'.fz<=S'.gh.length;have:=hl.fzng;have e:S.fz<=S.gh.length+1:=this;have e2:S.st.fz<=S.st.ng:=hl0.fzng;have e3:S.fz<=S.gh.length:=e2;rw[hfz,hgh];simp;omega
 ·refine hl.gone r hr ?_;rw[ghS] at hn;split at hn
  ·cases hn
  ·exact hn
theorem uF (S:TS) (t:Ty): (wE S t).ok (S.gh++ [some ⟨t,[],none⟩]):=by refine⟨by simp,fun _=>⟨rfl,rfl,fun tr htr=> ?_⟩⟩;rw[fX,if_pos rfl] at htr;cases htr;rfl
theorem zn {S:TS} (hS:S.ok) (x:Nat) (t:Ty):iw S.st (wG x t S).st/\(wG x t S).ok:=by
 unfold wG;split
 ·rename_i hx;refine⟨rg t (fun u=> ?_) (fun k cs' h=>⟨cs',h,rfl,fun j v hv=> .inl hv⟩) rfl rfl rfl rfl,⟨fun y hy=> ?_,fun cs hcs c hc=>Cl.ok_mono (eK.app _ _) (hS.bx cs hcs c hc)⟩⟩
  ·simp only[eT];cases hb:Nat.beq x u with
   |true=>have :x=u:=ao hb;subst this;right;rw[hx];exact⟨rfl,rfl⟩
   |false=>exact .inl rfl
  ·rcases aV.1 hy with rfl|hy
   ·exact uF S t
   ·exact V.ok_mono (eK.app _ _) (hS.env y hy)
 ·exact⟨iw.refl,hS⟩
theorem zo {S:TS} (hS:S.ok) (n j:Nat) (t:Ty):iw S.st (wF n j t S).st/\(wF n j t S).ok:=by
 unfold wF;split
 ·rename_i cs hcs;split
  ·rename_i hj;rw[ec] at hcs hj;have hn:=(ah.1 hcs).1;refine⟨rg t (fun u=> .inl rfl) (fun k cs' h=> ?_) rfl rfl rfl (by simp[ex]),⟨fun y hy=>V.ok_mono (eK.app _ _) (hS.env y hy),fun cs' hcs' c hc=> ?_⟩⟩
   ·have h': (hQ (dR S.bx n (dR cs j (wE S t))) k).map (fun cs=>cs.map Cl.av)=some cs':=h;rw[ec,ex,ex,bw] at h';by_cases hk:n=k
    ·subst hk;rw[if_pos rfl,if_pos hn] at h';simp only[ay,ae] at h';subst h';refine⟨cs.map Cl.av,by show (hQ S.bx n).map _=_; rw[ec,hcs]; rfl,by simp,fun i v hv=> ?_⟩;rw[al,bw] at hv;by_cases hi:j=i
     ·subst hi;rw[if_pos rfl,if_pos (ah.1 hj).1] at hv;right;rw[al,hj];simp only[ay,ae] at hv;exact⟨rfl,hv.symm⟩
     ·rw[if_neg hi] at hv;left;rw[al];exact hv
    ·rw[if_neg hk] at h';exact⟨cs',by show (hQ S.bx k).map _=_; rw[ec]; exact h',rfl,fun i v hv=> .inl hv⟩
   ·simp only[ex] at hcs';rcases cu hcs' with h1|h1
    ·exact Cl.ok_mono (eK.app _ _) (hS.bx _ h1 c hc)
    ·subst h1;rcases cu hc with h2|h2
     ·exact Cl.ok_mono (eK.app _ _) (hS.bx _ (ap hcs) c h2)
     ·subst h2;exact uF S t
  ·exact⟨iw.refl,hS⟩
 ·exact⟨iw.refl,hS⟩
inductive vQ where
 |t (x:Nat) (t:Ty)
 |b (n j:Nat) (t:Ty)
def lL:List vQ->TS->TS
 | [],S=>S
 | .t x t::l,S=>lL l (wG x t S)
 | .b n j t::l,S=>lL l (wF n j t S)
theorem mz: ∀ (l:List vQ) {S:TS},S.ok->iw S.st (lL l S).st/\(lL l S).ok
 | [],S,hS=>⟨iw.refl,hS⟩
 | .t x t::l,S,hS=>by obtain⟨h1,h2⟩:=zn hS x t;obtain⟨h3,h4⟩:=mz l h2;exact⟨h1.trans h3,h4⟩
 | .b n j t::l,S,hS=>by obtain⟨h1,h2⟩:=zo hS n j t;obtain⟨h3,h4⟩:=mz l h2;exact⟨h1.trans h3,h4⟩
section
variable {P:Program} {Θ:iC} {Y:oP} {Λ:lY}
def uG {ρ:Type} (keepN keepX:List Nat) (κ:X->TS->Option ρ) (x:X) (S:TS):Option ρ:=match x with
 | .nor=>nU keepN S (κ .nor)
 |x=>nU keepX S (κ x)
def zp {σ ε:Type} (G:σ->Option ε) (μ:σ->Nat) (s:σ) (e:ε):Option (σ⊕ε)->Prop
 |some (.inl s')=>μ s'<μ s/\G s'=some e
 |some (.inr e')=>e'=e
 |none=>False
theorem A8 (hΘ:en P Θ) (hY:ib P Y) (hm:P.follows .mixedOrders=true) {c:Code} (hc:gC P c=true) (hL:fM P Λ (ey c)) {σ ε:Type} {H:σ->TS} {E:ε->X×TS} {B:σ->Option (σ⊕ε)} {keepN keepX:List Nat}
  (hH: ∀s,(H s).ok) (hstep: ∀s,nK Θ Y Λ c (H s) (uG keepN keepX fun x S=>some (x,S))=(B s).bind (Sum.elim (fun s'=>some (.nor,H s')) fun e=>some (E e)))
  (hE: ∀e,(E e).1≠ .nor) {G:σ->Option ε} {μ:σ->Nat} (hG: ∀s e,G s=some e->zp G μ s e (B s))
  {s:σ} {e:ε} (hs:G s=some e):jc P (.loop c) (H s).st (fun x S'=>x=(E e).1/\S'=(E e).2.st):=by
 refine jc.loop (fun n X=> ∃s,X=(H s).st/\G s=some e/\μ s=n) (fun n X hX=> ?_) (n:=μ s) ⟨s,rfl,hs,rfl⟩;obtain⟨s,rfl,hs,rfl⟩:=hX;have hg:=hG s e hs;have hst:=hstep s;cases hB:B s with
 |none=>rw[hB] at hg; exact hg.elim
 |some l=>
  rw[hB] at hg hst;cases l with
  |inl s'=>
   simp only[ai,Sum.elim_inl] at hst;refine (sy hΘ hY hm c _ _ _ hc hL (hH s) hst).mono (fun x S' hx=> ?_);obtain⟨S1,rfl,h1,h2⟩:=hx
   have eD: ∃S2:TS,iw S1.st S2.st/\x= .nor/\S2=H s':=by
    unfold uG at h2;split at h2
    ·obtain⟨S2,k1,_,k2⟩:=j8 h1 h2;simp only[ae,am] at k2;exact⟨S2,k1,rfl,k2.2⟩
    ·obtain⟨S2,k1,_,k2⟩:=j8 h1 h2;simp only[ae,am] at k2;exact⟨S2,k1,k2.1,k2.2⟩
   obtain⟨S2,k1,rfl,rfl⟩:=eD;exact⟨_,k1,μ s',hg.1,s',rfl,hg.2,rfl⟩
  |inr e'=>
   simp only[ai,cI] at hst;have hg:e'=e:=hg;subst hg;refine (sy hΘ hY hm c _ _ _ hc hL (hH s) hst).mono (fun x S' hx=> ?_);obtain⟨S1,rfl,h1,h2⟩:=hx
   have eD: ∃S2:TS,iw S1.st S2.st/\(x,S2)=E e':=by
    unfold uG at h2;split at h2
    ·obtain⟨S2,k1,_,k2⟩:=j8 h1 h2;exact⟨S2,k1,Option.some.inj k2⟩
    ·obtain⟨S2,k1,_,k2⟩:=j8 h1 h2;exact⟨S2,k1,Option.some.inj k2⟩
   obtain⟨S2,k1,k2⟩:=eD;refine⟨S2.st,k1,?_⟩;have hx:x=(E e').1:=congrArg Prod.fst k2;have hS2:S2=(E e').2:=congrArg Prod.snd k2;have hne:=hE e';rw[<-hx] at hne;cases x with
   |nor=>exact absurd rfl hne
   |ret=>exact⟨hx,by rw[hS2]⟩
   |ext i=>exact⟨hx,by rw[hS2]⟩
def zq (grow:List vQ) (keep:List Nat) (L:lR) {ε:Type} (E:ε->X×TS) (G:L.D->Option ε):TS->(ρ:Type)->(X->TS->Option ρ)->Option ρ:=
 fun S _ κ=>nU keep (lL grow S) fun S1=>L.un S1 fun s=>(G s).bind fun e=>κ (E e).1 (E e).2
theorem zt {c:Code} {grow:List vQ} {keep:List Nat} {L:lR} {ε:Type} {E:ε->X×TS} {G:L.D->Option ε} (hE: ∀e,(E e).2.ok)
  (h: ∀s e,G s=some e->jc P (.loop c) (L.mk' s).st (fun x S'=>x=(E e).1/\S'=(E e).2.st)) {S:TS} {ρ:Type} {κ:X->TS->Option ρ} {r:ρ} (hS:S.ok) (hk:zq grow keep L E G S ρ κ=some r):
  jc P (.loop c) S.st (fun x S'=> ∃S1:TS,S'=S1.st/\S1.ok/\κ x S1=some r):=by
 unfold zq at hk;obtain⟨h1,h2⟩:=mz grow hS;obtain⟨S1,h3,h4,hk⟩:=j8 h2 hk;obtain⟨s,rfl,hk2⟩:=lR.un_some h4 hk;obtain⟨e,h5,hk3⟩:=aj.1 hk2;refine jc.weak (h1.trans h3) ((h s e h5).mono (fun x S' hx=> ?_));obtain⟨rfl,rfl⟩:=hx;exact⟨_,iw.refl,_,rfl,hE e,hk3⟩
end
end
section
open Go
abbrev nX.D:List Ty->Type
 | [] =>Unit
 |t::l=>t.D×nX.D l
def nf: (l:List Ty)->nX.D l->List ((t:Ty)×t.D)
 | [],_=> []
 |t::l,x=>⟨t,x.1⟩::nf l x.2
def wH (P:Program) (f:FuncId) (e:z4):Prop:= ∀args ρ κ r,e args ρ κ=some r-> ∃res out,qW P f args res out/\res.ok (out.map some)/\κ res out=some r
theorem A9 (P:Program):ib P (vJ []):=fun _ _ _ _ _ h=>by cases h
theorem zu {P:Program} {f:FuncId} {e:z4} {l:List (Nat×z4)} (h:wH P f e) (hl:ib P (vJ l)):ib P (vJ ((f,e)::l)):=by
 intro g args ρ κ r hr;have hr: (bif Nat.beq f g then e args ρ κ else Cb l g args ρ κ)=some r:=hr;cases hb:Nat.beq f g with
 |true=>rw[hb] at hr;have:=ao hb;subst this;exact h args ρ κ r hr
 |false=>rw[hb] at hr;exact hl g args ρ κ r hr
def xz (as bs:List AV):Prop:=as.length=bs.length/\ ∀ (k:Nat) (a b:AV),as[k]? =some a->bs[k]? =some b->a=b\/(a= .em/\ ∃s,b= .ro s [])
theorem xz.refl (as:List AV):xz as as:=⟨rfl,fun k a b h1 h2=>by rw[h1] at h2; cases h2; exact .inl rfl⟩
theorem xz.cons {a b:AV} {as bs:List AV} (h:a=b\/(a= .em/\ ∃s,b= .ro s [])) (hn:xz as bs):xz (a::as) (b::bs):=
 ⟨by simp[hn.1],fun k x y h1 h2=>by
  cases k with
  |zero=>simp only[aB,ae] at h1 h2; subst h1 h2; exact h
  |succ k=>exact hn.2 k x y (by simpa using h1) (by simpa using h2)⟩
theorem xz.VR {as bs:List AV} (hn:xz as bs) {w:World} {bt:Bt} {vals:List Value} (h: ∀ (k:Nat) (v:AV) (u:Value),as[k]? =some v->vals[k]? =some u->VR w bt v u) (k:Nat) (v:AV) (u:Value) (hv:bs[k]? =some v) (hu:vals[k]? =some u):VR w bt v u:=by
 have hk:k<as.length:=by rw[hn.1]; exact (ah.1 hv).1
 have ha:=af hk;have hx:=h k _ u ha hu;rcases hn.2 k _ v ha hv with e| ⟨e,s,rfl⟩
 ·rw[<-e]; exact hx
 ·rw[e] at hx;cases hx with
  |em b=>exact .ro (.em _ _ _)
theorem jH.norm {P:Program} {f:FuncId} {as bs:List AV} {gs:List T} {res:AV} {out:List T} (hn:xz as bs) (h:jH P f bs gs res out):jH P f as gs res out:=
 fun w W bt0 vals hI hl hv=>h w W bt0 vals hI (hl.trans hn.1) (hn.VR hv)
theorem iE.norm {P:Program} {f:FuncId} {as bs:List AV} {gs:List T} {m:Nat} {res:AV} {out:List T} (hn:xz as bs) (h:iE P f bs gs m res out):iE P f as gs m res out:=
 fun w W bt0 vals hI hl hv=>h w W bt0 vals hI (hl.trans hn.1) (hn.VR hv)
theorem un_some {ρ:Type} {t:Ty} {a:V1} {κ:t.D->Option ρ} {r:ρ} (h:un t a κ=some r): ∃x,a=ug t x/\κ x=some r:=by
 unfold un at h;split at h
 ·rename_i cs;obtain⟨h1,h⟩:=dt h;split at h
  ·rename_i xs hxs;split at h
   ·rename_i x hx;refine⟨x,?_,h⟩;unfold ug;rw[h1,t.unflat_some _ _ hx,nW hxs];rfl
   ·cases h
  ·cases h
 ·rename_i y;cases hag:t.ag with
  |true=>rw[hag] at h; cases h
  |false=>
   rw[hag] at h;simp only[cond_false] at h;split at h
   ·rename_i x hx;refine⟨x,?_,h⟩;unfold ug;rw[hag,t.unflat_some _ _ hx];rfl
   ·cases h
 ·cases h
theorem Ck (t:Ty) (x:t.D): (ug t x).ok [] :=by
 unfold ug;cases t.ag with
 |true=>intro c hc;obtain⟨y,_,rfl⟩:=aG.1 hc;trivial
 |false=>
  simp only[cond_false];split
  ·rename_i c hc;have :c∈(t.flat x).map Cl.c:=by rw[hc]; exact aE.2 rfl
   obtain⟨y,_,rfl⟩:=aG.1 this;trivial
  ·trivial
theorem sC (nw suf:List dI): ∀ (cs:List C) (mid:List dI),∀c∈mp cs (nw.length+mid.length),c.ok ((nw++mid++jO cs++suf).map some)
 | [],mid,c,h=>by cases h
 | .sc v::cs,mid,c,h=>by
   rcases aV.1 h with rfl|h
   ·trivial
   ·exact sC nw suf cs mid c h
 | .ls t l::cs,mid,c,h=>by
   rcases aV.1 h with rfl|h
   ·refine⟨by simp[jO],fun _=>⟨rfl,rfl,fun tr htr=> ?_⟩⟩
    have :ea ((nw++mid++jO (.ls t l::cs)++suf).map some) (nw.length+mid.length)=some ⟨t,l,none⟩:=by unfold ea;rw[ec,al,aK,aH (by simp)];simp[jO]
    have htr':ea ((nw++mid++jO (.ls t l::cs)++suf).map some) (nw.length+mid.length)=some tr:=htr;rw[this] at htr';cases htr';rfl
   ·have:=sC nw suf cs (mid++ [⟨t,l,none⟩]) c (by rw[aP,<-cT]; exact h);simp only[jO];simpa using this
theorem Ba (t:Ty) (x:t.D) (nw suf:List dI): (Ax t x nw.length).ok ((nw++jO (t.flat x)++suf).map some):=by
 have eD:=sC nw suf (t.flat x) [];simp only[b9,cc,bz] at eD;unfold Ax;cases t.ag with
 |true=>exact eD
 |false=>
  simp only[cond_false];split
  ·rename_i c hc;exact eD c (by rw[hc]; exact aE.2 rfl)
  ·trivial
theorem uH: ∀ (l:List ((t:Ty)×t.D)) (nw:List dI),∀v∈uf nw.length l,v.ok ((nw++pF l).map some)
 | [],nw,v,h=>by cases h
 | ⟨t,x⟩::l,nw,v,h=>by
   rcases aV.1 h with rfl|h
   ·have:=Ba t x nw (pF l);simpa [pF] using this
   ·have:=uH l (nw++jO (t.flat x)) v (by rw[aP]; exact h);simpa [pF] using this
theorem zw (l:List ((t:Ty)×t.D)): (xi (uf 0 l)).ok ((pF l).map some):=by
 have h:=uH l [];simp only[b9,bB] at h
 match uf 0 l,h with
 | [],_=>exact fun x hx=>by cases hx
 | [v],h=>exact h v aD
 |v::u::vs,h=>exact h
end
section
open Go
def Sh.fit (n:Nat):Sh->Bool| .own r _=>Nat.blt r n| .sub r _=>Nat.blt r n| _=>true
def nv.fit (n:Nat):nv->Bool| .cl s=>s.fit n| .agg l=>l.all (Sh.fit n)| .st _=>true| .fn _ l=>l.all (Sh.fit n)
def lR.fit (L:lR):Bool:=L.env.all (fun x=>x.2.fit L.gh.length)&&L.bx.all (fun l=>l.all (Sh.fit L.gh.length))
theorem jP.mk_length: ∀ (l:List Ty) (d:jP.D l),(jP.mk l d).length=l.length
 | [],_=>rfl
 |t::l,d=>by simp[jP.mk,jP.mk_length l d.2]
theorem Sh.mk_ok {G:List (Option dI)} {s:Sh} (h:s.fit G.length=true) (x:s.D): (s.mk G x).ok G:=by
 cases s with
 |own r t=>
  refine⟨aw h,fun _=>⟨rfl,rfl,fun tr htr=> ?_⟩⟩;unfold ea at htr;unfold Ci;have htr': (hQ G r).getD none=some tr:=htr;cases hn:hQ G r with
  |none=>rw[hn] at htr'; cases htr'
  |some y=>rw[hn] at htr'; simp only[aJ] at htr'; subst htr'; rfl
 |sub r t=>exact⟨aw h,fun e=>by cases e⟩
 | _=>trivial
theorem lK.mk_ok {G:List (Option dI)}: ∀ {l:List Sh},l.all (Sh.fit G.length)=true-> ∀ (x:lK.D l),∀c∈lK.mk G l x,c.ok G
 | [],_,x,c,hc=>by cases hc
 |s::l,h,x,c,hc=>by
  simp only[cq,an] at h;rcases aV.1 hc with rfl|hc
  ·exact Sh.mk_ok h.1 x.1
  ·exact lK.mk_ok h.2 x.2 c hc
theorem nv.mk_ok {G:List (Option dI)} {v:nv} (h:v.fit G.length=true) (x:v.D): (v.mk G x).ok G:=by
 cases v with
 |cl s=>exact Sh.mk_ok h x
 |agg l=>exact lK.mk_ok h x
 |st n=>intro c hc;obtain⟨y,_,rfl⟩:=aG.1 hc;trivial
 |fn f l=>exact lK.mk_ok h x
theorem lR.mk'_ok {L:lR} (h:L.fit=true) (d:L.D): (L.mk' d).ok:=by
 unfold lR.fit at h;simp only[an] at h;have hlen: (jP.mk L.gh d.2.2).length=L.gh.length:=jP.mk_length _ _;rw[<-hlen] at h
 have env: ∀ {l:List (Nat×nv)},l.all (fun x=>x.2.fit (jP.mk L.gh d.2.2).length)=true-> ∀ (e:qu.D l),∀x∈qu.mk (jP.mk L.gh d.2.2) l e,x.2.ok (jP.mk L.gh d.2.2):=by
  intro l
  induction l with
  |nil=>intro _ e x hx; cases hx
  |cons y l ih=>
   intro h e x hx;simp only[cq,an] at h;rcases aV.1 hx with rfl|hx
   ·exact nv.mk_ok h.1 e.1
   ·exact ih h.2 e.2 x hx
 have bxs: ∀ {l:List (List Sh)},l.all (fun l=>l.all (Sh.fit (jP.mk L.gh d.2.2).length))=true-> ∀ (e:qv.D l),∀cs∈qv.mk (jP.mk L.gh d.2.2) l e,∀c∈cs,c.ok (jP.mk L.gh d.2.2):=by
  intro l
  induction l with
  |nil=>intro _ e x hx; cases hx
  |cons y l ih=>
   intro h e x hx;simp only[cq,an] at h;rcases aV.1 hx with rfl|hx
   ·exact lK.mk_ok h.1 e.1
   ·exact ih h.2 e.2 x hx
 exact⟨env h.1 d.1,bxs h.2 d.2.1⟩
abbrev nh.D:List (X×lR)->Type
 | [] =>Empty
 | [x] =>x.2.D
 |x::y::l=>x.2.D⊕nh.D (y::l)
def nh.k {R:Type}: (l:List (X×lR))->nh.D l->(X->TS->R)->R
 | [],e,_=>e.elim
 | [x],d,κ=>κ x.1 (x.2.mk' d)
 |x::y::l,e,κ=>Sum.elim (fun d=>κ x.1 (x.2.mk' d)) (fun e=>nh.k (y::l) e κ) e
def nh.e (l:List (X×lR)) (d:nh.D l):X×TS:=nh.k l d Prod.mk
theorem nh.k_eq {R:Type}: ∀ (l:List (X×lR)) (d:nh.D l) (κ:X->TS->R),nh.k l d κ=κ (nh.e l d).1 (nh.e l d).2
 | [],e,_=>e.elim
 | [_],_,_=>rfl
 | _::_::_, .inl _,_=>rfl
 | _::y::l, .inr e,κ=>nh.k_eq (y::l) e κ
def CU (x:X×lR):Bool:=(match x.1 with | .nor=>false| _=>true)&&x.2.fit
theorem nh.ok: ∀ (l:List (X×lR)) (d:nh.D l),l.all CU=true->(nh.e l d).1≠ .nor/\(nh.e l d).2.ok
 | [],e,_=>e.elim
 | [x],d,h=>by simp only[cq,an,CU] at h;refine⟨fun e=> ?_,lR.mk'_ok h.1.2 d⟩;have e:x.1= .nor:=e;rw[e] at h;cases h.1.1
 |x::_::_, .inl d,h=>by simp only[cq,an,CU] at h;refine⟨fun e=> ?_,lR.mk'_ok h.1.2 d⟩;have e:x.1= .nor:=e;rw[e] at h;cases h.1.1
 | _::y::l, .inr e,h=>nh.ok (y::l) e (by simp only[cq,an] at h ⊢;exact h.2)
def zx (grow:List vQ) (keep:List Nat) (L:lR) (exs:List (X×lR)) (G:L.D->Option (nh.D exs)):TS->(ρ:Type)->(X->TS->Option ρ)->Option ρ:=
 fun S _ κ=>nU keep (lL grow S) fun S1=>L.un S1 fun s=>(G s).bind fun e=>nh.k exs e κ
abbrev wI:=TS->(ρ:Type)->(X->TS->Option ρ)->Option ρ
def uI:List (Nat×wI)->lY
 | [],_,_,_,_=>none
 | (q,e)::l,n,S,ρ,κ=>bif Nat.beq q n then e S ρ κ else uI l n S ρ κ
section
variable {P:Program} {Θ:iC} {Y:oP} {Λ:lY}
def zy (P:Program) (c:Code) (e:wI):Prop:= ∀ (S:TS) (ρ:Type) (κ:X->TS->Option ρ) (r:ρ),S.ok->e S ρ κ=some r->jc P (.loop c) S.st (fun x S'=> ∃S1:TS,S'=S1.st/\S1.ok/\κ x S1=some r)
theorem zz (hΘ:en P Θ) (hY:ib P Y) (hm:P.follows .mixedOrders=true) {c:Code} (hc:gC P c=true) (hL:fM P Λ (ey c)) (grow:List vQ) (keep keepX:List Nat) (L:lR) (exs:List (X×lR)) (hf: (L.fit&&exs.all CU)=true)
  (B:L.D->Option (L.D⊕nh.D exs)) (hB: ∀s,nK Θ Y Λ c (L.mk' s) (uG keep keepX fun x S=>some (x,S))=(B s).bind (Sum.elim (fun s'=>some (.nor,L.mk' s')) fun e=>some (nh.e exs e)))
  (G:L.D->Option (nh.D exs)) (μ:L.D->Nat) (hG: ∀s e,G s=some e->zp G μ s e (B s)):zy P c (zx grow keep L exs G):=by
 simp only[an] at hf;intro S ρ κ r hS hk;refine zt (E:=nh.e exs) (fun e=>(nh.ok exs e hf.2).2) (fun s e hs=>A8 hΘ hY hm hc hL (fun s=>lR.mk'_ok hf.1 s) hB (fun e=>(nh.ok exs e hf.2).1) hG hs) hS ?_ (grow:=grow) (keep:=keep);rw[<-hk];unfold zq zx;simp only[nh.k_eq]
end
end
section
open Go
def Bb (P:Program) (e:TypeId->List Value->Bool):List Field->Nat->List Value->Bool
 | [],_,[] =>true
 | [],_,_::_=>false
 |f::fs,off,zs=>f.name != "_" &&Nat.beq f.offset off&&Nat.blt 0 (P.cellsOf f.type)&&Nat.ble (P.cellsOf f.type) zs.length&&(P.info? f.type).isSome&&e f.type (zs.take (P.cellsOf f.type))&&Bb P e fs (off+P.cellsOf f.type) (zs.drop (P.cellsOf f.type))
def uJ (P:Program):Nat->TypeId->List Value->Bool
 | 0,_,_=>false
 |n+1,t,zs=>match P.underlying t with
  |some .bool=>(match zs with | [.bool _] =>true| _=>false)
  |some (.int _)=>(match zs with | [.int _ _] =>true| _=>false)
  |some (.struct fs)=> !P.stoodInHeld t&&Bb P (uJ P n) fs.toList 0 zs
  | _=>false
def qx (P:Program) (t:TypeId) (xs:List Value):Value:=match P.underlying t with
 |some (.struct _)=> .agg xs.toArray
 | _=>xs.headD (.bool false)
def fO:List Value->List Value->Bool
 | [],[] =>true
 | .int k _::zs, .int k' _::cs=>bif decide (k=k') then fO zs cs else false
 | .bool _::zs, .bool _::cs=>fO zs cs
 | _,_=>false
def fY:List Value->List Value->Option Bool
 | [],[] =>some true
 |a::l,b::m=>match t7 a b,fY l m with
  |some x,some y=>some (x&&y)
  | _,_=>none
 | _,_=>none
theorem pW: ∀ {zs xs:List Value},fP zs (xs.map fun x=> .c (.sc x))=true->fO zs xs=true:=by
 intro zs
 induction zs with
 |nil=>intro xs h; cases xs with
  |nil=>rfl
  |cons=>simp[fP] at h
 |cons z zs ih=>
  intro xs h;cases xs with
  |nil=>cases z<;>simp[fP] at h
  |cons x xs=>
   cases z<;>cases x<;>simp only[aL,fP,fO,cond_eq_ite,aO] at h ⊢
   ·exact ih h
   ·split at h
    ·rename_i hk;rw[if_pos hk];exact ih h
    ·cases h
theorem xA: ∀ {xs ys:List Value},lB (xs.map fun x=> .c (.sc x)) (ys.map fun x=> .c (.sc x))=fY xs ys:=by
 intro xs
 induction xs with
 |nil=>intro ys; cases ys<;>rfl
 |cons x xs ih=>
  intro ys;cases ys with
  |nil=>rfl
  |cons y ys=>simp only[aL,lB,fY,ih];cases t7 x y<;>cases fY xs ys<;>rfl
theorem iQ: ∀ {zs xs:List Value},fO zs xs=true->xs.length=zs.length:=by
 intro zs
 induction zs with
 |nil=>intro xs h; cases xs with
  |nil=>rfl
  |cons=>simp[fO] at h
 |cons z zs ih=>
  intro xs h;cases xs with
  |nil=>cases z<;>simp[fO] at h
  |cons x xs=>
   cases z<;>cases x<;>simp only[fO,cond_eq_ite,aO] at h
   ·simp[ih h]
   ·split at h
    ·simp[ih h]
    ·cases h
theorem kB: ∀ {zs xs:List Value} (n:Nat),fO zs xs=true->fO (zs.take n) (xs.take n)=true/\fO (zs.drop n) (xs.drop n)=true:=by
 intro zs
 induction zs with
 |nil=>intro xs n h; cases xs with
  |nil=>simp[fO]
  |cons=>simp[fO] at h
 |cons z zs ih=>
  intro xs n h;cases xs with
  |nil=>cases z<;>simp[fO] at h
  |cons x xs=>
   cases n with
   |zero=>exact⟨rfl,h⟩
   |succ n=>
    cases z<;>cases x<;>simp only[fO,cond_eq_ite,aO] at h
    ·exact ih n h
    ·split at h
     ·rename_i hk;refine⟨?_,(ih n h).2⟩;simp only[List.take_succ_cons,fO,cond_eq_ite];rw[if_pos (by simpa using hk)];exact (ih n h).1
     ·cases h
theorem sD: ∀ {xs ys:List Value} (n:Nat) {r:Bool},fY xs ys=some r-> ∃a b,fY (xs.take n) (ys.take n)=some a/\fY (xs.drop n) (ys.drop n)=some b/\r=(a&&b):=by
 intro xs
 induction xs with
 |nil=>intro ys n r h; cases ys with
  |nil=>cases h; exact⟨true,true,by simp[fY],by simp[fY],rfl⟩
  |cons=>simp[fY] at h
 |cons x xs ih=>
  intro ys n r h;cases ys with
  |nil=>simp[fY] at h
  |cons y ys=>
   cases n with
   |zero=>exact⟨true,r,rfl,h,rfl⟩
   |succ n=>
    simp only[fY] at h;split at h
    ·rename_i p q hp hq;cases h;obtain⟨a,b,h1,h2,rfl⟩:=ih n hq;exact⟨p&&a,b,by simp[fY,hp,h1],h2,by cases p<;>rfl⟩
    ·cases h
theorem sE {P:Program} {t:TypeId} {i:TypeInfo} (h:P.info? t=some i):dA P (typeInfo t)=some i:=by simp only[typeInfo,dz,program,dA,ai,h];rfl
theorem uK {P:Program} {t:TypeId} {i:TypeInfo} (hi:P.info? t=some i) {d:TypeDesc} (hd:P.underlying t=some d) (hs: ∀n e,d≠ .array n e) {xs:List Value} {off:Nat} {c:Value} (hc:xs[off]? =some c):
  dA P (part t xs.toArray off)=some (qx P t ((xs.drop off).take (P.cellsOf t)))\/P.cellsOf t=0:=by
 by_cases h0:P.cellsOf t=0
 ·exact .inr h0
 refine .inl ?_;have hcell:P.cellsOf t=i.size:=by simp[Program.cellsOf,hi]
 cases hst: (match d with | .struct _=>true| _=>false) with
 |true=>
  have hag:dA P (isAgg t)=some true:=by simp only[isAgg,dz,dV hd,ai];cases d<;>simp at hst;rfl
  simp only[part,sizeOf,dz,hag,ai,if_true,sE hi,dG,qx,hd];cases d<;>simp at hst;simp[hcell,Nat.add_sub_cancel_left]
 |false=>
  have hag:dA P (isAgg t)=some false:=by
   simp only[isAgg,dz,dV hd,ai];cases d<;>simp at hst
   all_goals first |rfl|exact absurd rfl (hs _ _)
  have hv:qx P t ((xs.drop off).take (P.cellsOf t))=c:=by
   have : ((xs.drop off).take (P.cellsOf t)).headD (.bool false)=c:=by
    obtain⟨n,hn⟩: ∃n,P.cellsOf t=n+1:=⟨P.cellsOf t-1,by omega⟩
    have h1:off<xs.length:=(ah.1 hc).1;rw[hn,cf h1,List.take_succ_cons];exact (ah.1 hc).2
   unfold qx;rw[hd];cases d<;>first |exact this|simp at hst
  rw[hv];simp only[part,dz,hag,ai,aO,if_false];have :xs.toArray[off]? =some c:=by simpa using hc
  rw[this];rfl
theorem wJ (P:Program): ∀ (n:Nat) {t:TypeId} {zs xs ys:List Value} {r:Bool} (d:Nat),uJ P n t zs=true->fO zs xs=true->fO zs ys=true->fY xs ys=some r->dA P (Op.equalIn (n+d) t (qx P t xs) (qx P t ys))=some r
 | 0,t,zs,xs,ys,r,d,h,_,_,_=>by cases h
 |n+1,t,zs,xs,ys,r,d,h,hx,hy,he=>by
  have hn:n+1+d=(n+d)+1:=by omega
  rw[hn];unfold uJ at h;cases hu:P.underlying t with
  |none=>rw[hu] at h; cases h
  |some D=>
   rw[hu] at h;cases D<;>simp only[aO] at h
   case bool=>
    split at h
    case h_2=>cases h
    obtain⟨x,rfl⟩: ∃x,xs= [.bool x] :=by
     match xs,hx with
     | [.bool x],_=>exact⟨x,rfl⟩
    obtain⟨y,rfl⟩: ∃y,ys= [.bool y] :=by
     match ys,hy with
     | [.bool y],_=>exact⟨y,rfl⟩
    simp only[fY,t7,cU,ae] at he;subst he;simp only[qx,hu,List.headD_cons];rw[Op.equalIn];simp only[dz,dV hu,ai,dG]
   case int k=>
    split at h
    case h_2=>cases h
    rename_i k0 _
    obtain⟨x,rfl⟩: ∃x,xs= [.int k0 x] :=by
     match xs,hx with
     | [.int k1 x],hx=>
       simp only[fO,cond_eq_ite] at hx;split at hx
       ·rename_i hk; simp at hk; subst hk; exact⟨x,rfl⟩
       ·cases hx
     | .int _ _::_::_,hx=>simp[fO] at hx
    obtain⟨y,rfl⟩: ∃y,ys= [.int k0 y] :=by
     match ys,hy with
     | [.int k1 x],hx=>
       simp only[fO,cond_eq_ite] at hx;split at hx
       ·rename_i hk; simp at hk; subst hk; exact⟨x,rfl⟩
       ·cases hx
     | .int _ _::_::_,hx=>simp[fO] at hx
    simp only[fY,t7,cU,ae] at he;subst he;simp only[qx,hu,List.headD_cons];rw[Op.equalIn];simp only[dz,dV hu,ai,dG,if_true]
   case struct fs=>
    simp only[an,b8] at h;obtain⟨hst,h⟩:=h;simp only[qx,hu]
    have eD: ∀ (fs:List Field) (off:Nat) (zs:List Value) (r:Bool),Bb P (uJ P n) fs off zs=true->fO zs (xs.drop off)=true->fO zs (ys.drop off)=true->fY (xs.drop off) (ys.drop off)=some r->
      dA P (Op.eqFields (n+d) xs.toArray ys.toArray fs)=some r:=by
     intro fs
     induction fs with
     |nil=>
      intro off zs r h hx hy he;cases zs with
      |nil=>have h1:=iQ hx;have h2:=iQ hy;simp only[b9,cR] at h1 h2;rw[h1,h2] at he;cases he;rfl
      |cons=>cases h
     |cons f fs ih=>
      intro off zs r h hx hy he;simp only[Bb,an,bne_iff_ne,ne_eq] at h;obtain⟨⟨⟨⟨⟨⟨hname,hoff⟩,hpos⟩,hle⟩,hi⟩,h1⟩,h2⟩:=h;have hoff:=ao hoff;have hpos:0<P.cellsOf f.type:=aw hpos;have hle:P.cellsOf f.type<=zs.length:=aw hle;have hlx:=iQ hx;have hly:=iQ hy;rw[bu] at hlx hly;obtain⟨i,hi⟩:=bk.1 hi
      have hu': ∃D,P.underlying f.type=some D/\ ∀n e,D≠ .array n e:=by
       cases hun:P.underlying f.type with
       |none=>cases n<;>simp[uJ,hun] at h1
       |some D=>refine⟨D,rfl,fun k e he=> ?_⟩; subst he; cases n<;>simp[uJ,hun] at h1
      obtain⟨D,hD,hDa⟩:=hu';have px:=uK hi hD hDa (xs:=xs) (off:=off) (af (by omega));have py:=uK hi hD hDa (xs:=ys) (off:=off) (af (by omega));have px:=px.resolve_right (by omega);have py:=py.resolve_right (by omega);obtain⟨a,b,ha,hb,rfl⟩:=sD (P.cellsOf f.type) he;have hA:=wJ P n d h1 (kB _ hx).1 (kB _ hy).1 ha;rw[Op.eqFields,if_pos hname];simp only[hoff,dz,px,py,ai,hA];cases a with
      |false=>rfl
      |true=>
       simp only[bP,aO,if_false,dl];simp only[b7] at hb;refine ih _ _ _ h2 ?_ ?_ hb
       ·have:=(kB (P.cellsOf f.type) hx).2; rw[b7] at this; exact this
       ·have:=(kB (P.cellsOf f.type) hy).2; rw[b7] at this; exact this
    have:=eD fs.toList 0 zs r h (by simpa using hx) (by simpa using hy) (by simpa using he);rw[<-this];rw[Op.equalIn];simp only[dz,dV hu,ai,program,dA,hst,aO,if_false];rw[<-Array.forIn_toList];generalize fs.toList=fs;clear this eD h hu hst hn
    induction fs with
    |nil=>rfl
    |cons f fs ih=>
     simp only[List.forIn_cons,Op.eqFields];split
     ·simp only[dz];cases dA P (part f.type xs.toArray f.offset) with
      |none=>rfl
      |some a=>
       cases dA P (part f.type ys.toArray f.offset) with
       |none=>rfl
       |some b=>
        simp only[ai];cases dA P (Op.equalIn (n+d) f.type a b) with
        |none=>rfl
        |some q=>
         cases q
         ·rfl
         ·simp only[ai,bP,aO,if_false,dG];simpa only[dz,Option.bind_assoc] using ih
     ·simp only[dz,dG,ai];simpa only[dz,Option.bind_assoc] using ih
theorem CV {P:Program} {t:TypeId} {zs:List Value} {fs:Array Field} (hu:P.underlying t=some (.struct fs)) (h:uJ P 8 t zs=true) (a b:List Cl) (r:Bool) (xs ys:List Value) (ha:fP zs a=true) (hb:fP zs b=true) (he:lB a b=some r) (hx:a=xs.map (fun x=> .c (.sc x))) (hy:b=ys.map (fun x=> .c (.sc x))):
  dA P (Op.equal t (.agg xs.toArray) (.agg ys.toArray))=some r:=by
 subst hx hy;have:=wJ P 8 9992 h (pW ha) (pW hb) (by rw[<-xA]; exact he);unfold qx at this;rw[hu] at this;exact this
end
section
open Go
def Dv (P:Program):List Field->Option (List (Nat×Nat×Bool))
 | [] =>some []
 |f::fs=>match qd P f.type,Dv P fs with
  |some ag,some l=>some ((f.offset,P.cellsOf f.type,ag)::l)
  | _,_=>none
def DE (P:Program) (t:TypeId):Option (List (Nat×Nat×Bool)):=match P.underlying t with |some (.struct fs)=>Dv P fs.toList| _=>none
theorem wK {P:Program}: ∀ {fs:List Field} {l:List (Nat×Nat×Bool)},Dv P fs=some l-> ∀k,(fs[k]?).bind (fun f=>(qd P f.type).map fun ag=>(f.offset,P.cellsOf f.type,ag))=hQ l k
 | [],l,h,k=>by cases h; rfl
 |f::fs,l,h,k=>by
  unfold Dv at h;split at h
  ·rename_i ag l' h1 h2;cases h;cases k with
   |zero=>simp[h1,hQ]
   |succ k=>show _=hQ l' (k+1-1);rw[ck,<-wK h2 k,bS]
  ·cases h
theorem Bc {P:Program} {t:TypeId} {l:List (Nat×Nat×Bool)} (h:DE P t=some l) (k:Nat):xP P t k=hQ l k:=by
 unfold DE at h;unfold xP;split at h
 ·rename_i fs hu;simp only[hu];rw[<-wK h k,bc]
 ·cases h
theorem Bd (P:Program):en P [] :=fun _ _ h=>by cases h
theorem dS {P:Program} {t:Nat} {ti:TI} {l:iC} (h:ti.ok P t) (hl:en P l):en P ((t,ti)::l):=by
 intro u ui hu;unfold gn at hu;cases hb:Nat.beq t u with
 |true=>rw[hb] at hu;have:=ao hb;subst this;cases hu;exact h
 |false=>rw[hb] at hu;exact hl u ui hu
def CW (P:Program) (t:TypeId):Bool:=match P.underlying t with |some (.struct _)=>true| _=>false
section
variable {P:Program} {t:TypeId}
theorem k9 {n:Sn} {fds:List (Nat×Nat×Bool)} {by':Nat} (h1:CW P t=true) (h2:P.cellsOf t=(Ty.st n).width) (h3:hO P 9 t=(Ty.st n).shs) (h4:nu P t=some (Ty.st n).zvs) (h5:DE P t=some fds)
  (h6:CB P t=some (fds.map fun x=>(x.1,x.2.1))) (h7: ((Ty.st n).flatB=true->P.eqGuardType P.depth t=false/\uJ P 8 t (Ty.st n).zvs=true)) (hz: (Ty.st n).flatB=false-> ∀xs:List Value,fP (Ty.st n).zvs (xs.map fun x=> .c (.sc x))=false):TI.ok P t ⟨.st n,0,fds,by'⟩:=by
 unfold CW at h1;split at h1
 case h_2=>cases h1
 rename_i fs hu;refine⟨?_,h2,h3,h4,Bc h5,fun _=>h6,fun e he=>(by cases he),fun hb=>(by cases hb),fun _ hf=>(h7 hf).1,fun _ a b r xs ys ha hb he hx hy=> ?_,?_,fun k hk=>(by cases hk)⟩
 ·simp[qd,hu,Ty.ag]
 ·cases hf: (Ty.st n).flatB with
  |true=>exact CV hu (h7 hf).2 a b r xs ys ha hb he hx hy
  |false=>subst hx;have:=hz hf xs;rw[show fP (Ty.st n).zvs _=true from ha] at this;cases this
 ·simp[ry,hu]
theorem rh {e:Ty} {el:Nat} {by':Nat} {u:TypeId} (h1:lQ P t=some u) (h2:P.cellsOf t=1) (h4:nu P t=some [.slice none 0 0]) (h5:P.cellsOf u=e.width) (h6:P.bytesOf u=el) (h7:Nat.blt 0 el=true) (h8:hO P 9 u=e.shs) (h9:nu P u=some e.zvs):TI.ok P t ⟨.ls e,el,[],by'⟩:=by
 have hu:P.underlying t=some (.slice u):=by
  unfold lQ at h1;split at h1
  ·rename_i e hu; cases h1; exact hu
  ·cases h1
 refine⟨?_,h2,?_,h4,fun k=> ?_,fun h=>(by cases h),fun e' he=> ?_,fun hb=>(by cases hb),fun h=>(by cases h),fun h=>(by cases h),?_,fun k hk=>(by cases hk)⟩
 ·simp[qd,hu,Ty.ag]
 ·simp[hO,hu,Ty.shs,Ty.csh,h5]
 ·simp[xP,hu,hQ]
 ·cases he;exact⟨u,h1,h5,h6,aw h7,h8,h9⟩
 ·simp[ry,hu]
def DT (P:Program) (t:TypeId) (y:Ty):Bool:=match P.underlying t,y with
 |some (.int k), .i k'=>decide (k=k')
 |some .bool, .b=>true
 |some .string, .s=>true
 | _,_=>false
theorem ni {y:Ty} {by':Nat} (h1:DT P t y=true) (h2:P.cellsOf t=1) (h4:nu P t=some y.zvs):TI.ok P t ⟨y,0,[],by'⟩:=by
 unfold DT at h1;split at h1
 ·rename_i k k' hu;refine⟨(by simp[qd,hu,Ty.ag]),h2,(by simp[hO,hu,Ty.shs,Ty.csh]),h4,fun k=>(by simp[xP,hu,hQ]),fun h=>(by cases h),fun e' he=>(by cases he),fun hb=>(by cases hb),fun h=>(by cases h),fun h=>(by cases h),by simp[ry,hu],fun q hq=>(by cases hq; rw[hu]; simp only[decide_eq_true_eq] at h1; rw[h1])⟩
 ·rename_i hu;refine⟨(by simp[qd,hu,Ty.ag]),h2,(by simp[hO,hu,Ty.shs,Ty.csh]),h4,fun k=>(by simp[xP,hu,hQ]),fun h=>(by cases h),fun e' he=>(by cases he),fun hb=>hu,fun h=>(by cases h),fun h=>(by cases h),by simp[ry,hu],fun q hq=>(by cases hq)⟩
 ·rename_i hu;refine⟨(by simp[qd,hu,Ty.ag]),h2,(by simp[hO,hu,Ty.shs,Ty.csh]),h4,fun k=>(by simp[xP,hu,hQ]),fun h=>(by cases h),fun e' he=>(by cases he),fun hb=>(by cases hb),fun h=>(by cases h),fun h=>(by cases h),by simp[ry,hu],fun q hq=>(by cases hq)⟩
 ·cases h1
end
theorem mA: ∀ {zs:List Value} (xs:List Value),zs.any (fun z=>match z with | .int _ _=>false| .bool _=>false| _=>true)=true->fP zs (xs.map fun x=> .c (.sc x))=false
 | [],xs,h=>by cases h
 |z::zs,xs,h=>by
  cases hb:fP (z::zs) (xs.map fun x=> .c (.sc x)) with
  |false=>rfl
  |true=>
   exfalso;cases xs with
   |nil=>cases z<;>simp[fP] at hb
   |cons x xs=>
    cases z<;>simp only[fP,aL,aO] at hb
    all_goals cases x<;>simp only[fP,cond_eq_ite,aO] at hb
    ·rw[mA xs (by simpa using h)] at hb; cases hb
    ·split at hb
     ·rw[mA xs (by simpa using h)] at hb; cases hb
     ·cases hb
end
section
open Go
section
variable {σ ε:Type}
def mB (B:σ->Option (σ⊕ε)):Nat->σ->Option ε
 | 0,_=>none
 |n+1,s=>(B s).bind (Sum.elim (mB B n) some)
theorem nY (B:σ->Option (σ⊕ε)): ∀ {n m:Nat} {s:σ} {e:ε},n<=m->mB B n s=some e->mB B m s=some e
 | 0,_,_,_,_,h=>by cases h
 |n+1,0,_,_,hm,_=>by omega
 |n+1,m+1,s,e,hm,h=>by
  unfold mB at h ⊢;cases hB:B s with
  |none=>rw[hB] at h; cases h
  |some x=>
   rw[hB] at h;cases x with
   |inl s'=>exact nY B (by omega) h
   |inr e'=>exact h
theorem sF {p:Nat->Prop} (h: ∃n,p n): ∃n,p n/\ ∀m,p m->n<=m:=by
 obtain⟨n,hn⟩:=h
 induction n using Nat.strongRecOn with
 | _ n ih=>
   by_cases hx: ∃m,m<n/\p m
   ·obtain⟨m,hm,hp⟩:=hx;exact ih m hm hp
   ·exact⟨n,hn,fun m hm=>Nat.le_of_not_lt fun hlt=>hx ⟨m,hlt,hm⟩⟩
noncomputable def hU (B:σ->Option (σ⊕ε)) (s:σ):Option ε:=open Classical in if h: ∃n,(mB B n s).isSome=true then mB B (Classical.choose h) s else none
noncomputable def Cm (B:σ->Option (σ⊕ε)) (s:σ):Nat:=open Classical in if h: ∃n,(mB B n s).isSome=true then Classical.choose (sF h) else 0
theorem lc {B:σ->Option (σ⊕ε)} {s:σ} {e:ε}:hU B s=some e↔ ∃n,mB B n s=some e:=by
 classical
 constructor
 ·intro h;unfold hU at h;split at h
  ·rename_i hx;exact⟨_,h⟩
  ·cases h
 ·rintro⟨n,h⟩
  have hx: ∃n,(mB B n s).isSome=true:=⟨n,by rw[h]; rfl⟩
  unfold hU;rw[dif_pos hx];obtain⟨e',he⟩:=bk.1 (Classical.choose_spec hx);have h1:=nY B (Nat.le_max_left (Classical.choose hx) n) he;have h2:=nY B (Nat.le_max_right (Classical.choose hx) n) h;rw[h1] at h2;cases h2;exact he
theorem nZ (B:σ->Option (σ⊕ε)) (s:σ):hU B s=(B s).bind (Sum.elim (hU B) some):=by
 apply Option.ext;intro e;rw[lc];constructor
 ·rintro⟨n,h⟩
  cases n with
  |zero=>cases h
  |succ n=>
   unfold mB at h;cases hB:B s with
   |none=>rw[hB] at h; cases h
   |some x=>
    rw[hB] at h;cases x with
    |inl s'=>exact lc.2 ⟨n,h⟩
    |inr e'=>exact h
 ·intro h;cases hB:B s with
  |none=>rw[hB] at h; cases h
  |some x=>
   rw[hB] at h;cases x with
   |inl s'=>obtain⟨n,h⟩:=lc.1 (show hU B s'=some e from h);exact⟨n+1,by unfold mB; rw[hB]; exact h⟩
   |inr e'=>exact⟨1,by unfold mB; rw[hB]; exact h⟩
theorem xB (B:σ->Option (σ⊕ε)) (s:σ) (e:ε) (h:hU B s=some e):zp (hU B) (Cm B) s e (B s):=by
 classical
 have h0:=h;rw[nZ] at h;cases hB:B s with
 |none=>rw[hB] at h; cases h
 |some x=>
  rw[hB] at h;cases x with
  |inl s'=>
   refine⟨?_,h⟩
   have hx: ∃n,(mB B n s).isSome=true:=by obtain⟨n,hn⟩:=lc.1 h0;exact⟨n,by rw[hn]; rfl⟩
   have hx': ∃n,(mB B n s').isSome=true:=by obtain⟨n,hn⟩:=lc.1 (show hU B s'=some e from h);exact⟨n,by rw[hn]; rfl⟩
   unfold Cm;rw[dif_pos hx,dif_pos hx'];have:=(Classical.choose_spec (sF hx)).1;cases hn:Classical.choose (sF hx) with
   |zero=>rw[hn] at this; cases this
   |succ n=>rw[hn] at this;unfold mB at this;rw[hB] at this;exact Nat.lt_succ_of_le ((Classical.choose_spec (sF hx')).2 n this)
  |inr e'=>exact (Option.some.inj h)
end
inductive uL where
 |ty (t:Ty)|pr (t:Ty)|fc (g:Nat)|fn (g:Nat) (caps:List Ty)|nl
abbrev uL.D:uL->Type
 | .ty t=>t.D
 | .pr t=>t.D
 | .fc _=>Unit
 | .fn _ caps=>nX.D caps
 | .nl=>Unit
abbrev ld.D:List uL->Type
 | [] =>Unit
 |p::l=>p.D×ld.D l
def sG: (l:List Ty)->nX.D l->List Cl
 | [],_=> []
 |t::l,x=> .pro (t.flat x.1)::sG l x.2
def uL.v1: (p:uL)->p.D->V1
 | .ty t,x=>ug t x
 | .pr t,x=> .cl (.pro (t.flat x))
 | .fc g,_=> .cl (.c (.sc (.func (.func g) #[] #[])))
 | .fn g caps,x=> .fn g (sG caps x)
 | .nl,_=> .cl .em
def ij: (l:List uL)->ld.D l->List V1
 | [],_=> []
 |p::l,x=>p.v1 x.1::ij l x.2
def Be {ρ:Type} (t:Ty) (c:Cl) (κ:t.D->Option ρ):Option ρ:=match c with
 | .pro xs=>(match t.unflat xs with |some x=>κ x|none=>none)
 | _=>none
def n0 {ρ:Type}: (l:List Ty)->List Cl->(nX.D l->Option ρ)->Option ρ
 | [],[],κ=>κ ()
 |t::l,c::cs,κ=>Be t c fun x=>n0 l cs fun y=>κ (x,y)
 | _,_,_=>none
def CX {ρ:Type}: (t:Ty)->V1->(t.D->Option ρ)->Option ρ
 | .ls _, .cl .em,κ=>κ []
 |t,a,κ=>un t a κ
def Dw {ρ:Type}: (p:uL)->V1->(p.D->Option ρ)->Option ρ
 | .ty t,a,κ=>CX t a κ
 | .pr t, .cl c,κ=>Be t c κ
 | .fc g, .cl (.c (.sc (.func (.func g') cs ts))),κ=>bif Nat.beq g' g&&Nat.beq cs.size 0&&Nat.beq ts.size 0 then κ () else none
 | .fn g caps, .fn g' cs,κ=>bif Nat.beq g' g then n0 caps cs κ else none
 | .nl, .cl .em,κ=>κ ()
 | _,_,_=>none
def qy {ρ:Type}: (l:List uL)->List V1->(ld.D l->Option ρ)->Option ρ
 | [],[],κ=>κ ()
 |p::l,a::as,κ=>Dw p a fun x=>qy l as fun y=>κ (x,y)
 | _,_,_=>none
def zA (ps:List uL) (rs:List Ty) (G:ld.D ps->Option (nX.D rs)):z4:=fun args _ κ=>qy ps args fun x=>(G x).bind fun y=>ret (nf rs y) κ
theorem ri {ρ:Type} {t:Ty} {c:Cl} {κ:t.D->Option ρ} {r:ρ} (h:Be t c κ=some r): ∃x,c= .pro (t.flat x)/\κ x=some r:=by
 unfold Be at h;split at h
 ·split at h
  ·rename_i x hx;exact⟨x,by rw[t.unflat_some _ _ hx],h⟩
  ·cases h
 ·cases h
theorem ou {ρ:Type}: ∀ {l:List Ty} {cs:List Cl} {κ:nX.D l->Option ρ} {r:ρ},n0 l cs κ=some r-> ∃x,cs=sG l x/\κ x=some r
 | [],[],κ,r,h=>⟨(),rfl,h⟩
 |t::l,c::cs,κ,r,h=>by unfold n0 at h;obtain⟨x,h1,h⟩:=ri h;obtain⟨y,h2,h⟩:=ou h;exact⟨(x,y),by rw[h1,h2]; rfl,h⟩
 | [],_::_,κ,r,h=>by simp[n0] at h
 | _::_,[],κ,r,h=>by simp[n0] at h
theorem zB {ρ:Type} {t:Ty} {a:V1} {κ:t.D->Option ρ} {r:ρ} (h:CX t a κ=some r): ∃x,(a.av=(ug t x).av\/(a.av= .em/\ ∃s,(ug t x).av= .ro s []))/\κ x=some r:=by
 unfold CX at h;split at h
 ·exact⟨[], .inr ⟨rfl,_,rfl⟩,h⟩
 ·obtain⟨x,e,h'⟩:=un_some h;exact⟨x, .inl (by rw[e]),h'⟩
theorem zC {ρ:Type} {p:uL} {a:V1} {κ:p.D->Option ρ} {r:ρ} (h:Dw p a κ=some r): ∃x,(a.av=(p.v1 x).av\/(a.av= .em/\ ∃s,(p.v1 x).av= .ro s []))/\κ x=some r:=by
 unfold Dw at h;split at h
 ·exact zB h
 ·obtain⟨x,h1,h⟩:=ri h;exact⟨x, .inl (by rw[h1]; rfl),h⟩
 ·obtain⟨h1,h⟩:=dt h;simp only[an] at h1;obtain⟨⟨h1,h2⟩,h3⟩:=h1;have h1:=ao h1;have h2:=ci (ao h2);have h3:=ci (ao h3);exact⟨(), .inl (by rw[h1,h2,h3]; rfl),h⟩
 ·obtain⟨h1,h⟩:=dt h;obtain⟨x,h2,h⟩:=ou h;exact⟨x, .inl (by rw[ao h1,h2]; rfl),h⟩
 ·exact⟨(), .inl rfl,h⟩
 ·cases h
theorem n5 {ρ:Type}: ∀ {l:List uL} {as:List V1} {κ:ld.D l->Option ρ} {r:ρ},qy l as κ=some r-> ∃x,xz (as.map V1.av) ((ij l x).map V1.av)/\κ x=some r
 | [],[],κ,r,h=>⟨(),xz.refl _,h⟩
 |p::l,a::as,κ,r,h=>by unfold qy at h;obtain⟨x,h1,h⟩:=zC h;obtain⟨y,h2,h⟩:=n5 h;exact⟨(x,y),xz.cons h1 h2,h⟩
 | [],_::_,κ,r,h=>by simp[qy] at h
 | _::_,[],κ,r,h=>by simp[qy] at h
theorem rj (G:List (Option dI)): ∀ (l:List Ty) (x:nX.D l),∀c∈sG l x,c.ok G
 | [],x,c,h=>by cases h
 |t::l,x,c,h=>by
  rcases aV.1 h with rfl|h
  ·trivial
  ·exact rj G l x.2 c h
theorem uL.ok (p:uL) (x:p.D): (p.v1 x).ok [] :=by
 cases p with
 |ty t=>exact Ck t x
 |pr t=>trivial
 |fc g=>trivial
 |fn g caps=>exact rj [] caps x
 |nl=>trivial
theorem rk: ∀ (l:List uL) (x:ld.D l),∀a∈ij l x,a.ok []
 | [],x,a,h=>by cases h
 |p::l,x,a,h=>by
  rcases aV.1 h with rfl|h
  ·exact p.ok x.1
  ·exact rk l x.2 a h
theorem Bf {P:Program} {Θ:iC} {Y:oP} {Λ:lY} (hΘ:en P Θ) (hY:ib P Y) (hm:P.follows .mixedOrders=true) {f:FuncId} {fn:Func} (hf:Ak P f=some fn) (hL: ∀c,fn.body=some c->fM P Λ (ey c)) {ps:List uL} {rs:List Ty} {G:ld.D ps->Option (nX.D rs)} (hk:Nat.blt f 1048576=true)
  (F:ld.D ps->Option (nX.D rs)) (hF: ∀x,CN Θ Y Λ fn (ij ps x) (fun v g=>some (v,g))=(F x).bind fun y=>ret (nf rs y) (fun v g=>some (v,g))) (hG: ∀x y,G x=some y->F x=some y):wH P f (zA ps rs G):=by
 intro args ρ κ r hr;unfold zA at hr;obtain⟨x,hn,hr2⟩:=n5 hr;obtain⟨y,h1,hr3⟩:=aj.1 hr2;exact⟨_,_, .of_fn (jH.norm hn (Cg hΘ hY hm hf hL (rk ps x) (by rw[hF,hG x y h1]; rfl))) (aw hk),zw _,hr3⟩
def CY (el:Ty) (ps:List uL) (rs:List Ty) (G:List el.D->ld.D ps->Option (nX.D rs)):z4:=fun args _ κ=>match args with
 | .cl (.c (.ls t l))::as=>(match lX t el l with
   |some l=>qy ps as fun x=>(G l x).bind fun y=>ret (nf rs y) κ
   |none=>none)
 | _=>none
def jQ (fn:Func):Code:=match fn.body with |some c=>c|none=> .skip
def Cn (c:Code) (n:Nat):Code:=(hQ (ey c) n).getD .skip
theorem CZ {P:Program} {Λ:lY} {fn:Func} {cs:List Code} (h:ey (jQ fn)=cs) (H:fM P Λ cs) (c:Code) (hc:fn.body=some c):fM P Λ (ey c):=by
 have :jQ fn=c:=by unfold jQ; rw[hc]
 rw[<-this,h];exact H
end
section
open Go
inductive Kc where|i (k:IntKind)|b|s|ls (t:Ty)
 deriving DecidableEq
def zD:List (Option Ty)->List Value->List Kc
 |some t::l,_::m=> .ls t::zD l m
 |none::l, .int k _::m=> .i k::zD l m
 |none::l, .bool _::m=> .b::zD l m
 |none::l,_::m=> .s::zD l m
 | _,_=> []
def Ty.kc (t:Ty):List Kc:=zD t.csh t.zvs
def j9:List Kc->List C->Prop
 | [],[] =>True
 | .i k::l,c::m=>(∃n,c= .sc (.int k n))/\j9 l m
 | .b::l,c::m=>(∃v,c= .sc (.bool v))/\j9 l m
 | .s::l,c::m=>(∃v,c= .sc (.string v))/\j9 l m
 | .ls t::l,c::m=>(∃v,c= .ls t v)/\j9 l m
 | _,_=>False
theorem nj {cs:List C} (h:j9 [] cs):cs= [] :=by cases cs with |nil=>rfl|cons=>exact h.elim
theorem BK {k:IntKind} {l:List Kc} {cs:List C} (h:j9 (.i k::l) cs): ∃n r,cs= .sc (.int k n)::r/\j9 l r:=by
 cases cs with
 |nil=>exact h.elim
 |cons c r=>obtain⟨⟨n,rfl⟩,h⟩:=h; exact⟨n,r,rfl,h⟩
theorem BL {l:List Kc} {cs:List C} (h:j9 (.b::l) cs): ∃n r,cs= .sc (.bool n)::r/\j9 l r:=by
 cases cs with
 |nil=>exact h.elim
 |cons c r=>obtain⟨⟨n,rfl⟩,h⟩:=h; exact⟨n,r,rfl,h⟩
theorem BM {l:List Kc} {cs:List C} (h:j9 (.s::l) cs): ∃n r,cs= .sc (.string n)::r/\j9 l r:=by
 cases cs with
 |nil=>exact h.elim
 |cons c r=>obtain⟨⟨n,rfl⟩,h⟩:=h; exact⟨n,r,rfl,h⟩
theorem BN {t:Ty} {l:List Kc} {cs:List C} (h:j9 (.ls t::l) cs): ∃n r,cs= .ls t n::r/\j9 l r:=by
 cases cs with
 |nil=>exact h.elim
 |cons c r=>obtain⟨⟨n,rfl⟩,h⟩:=h; exact⟨n,r,rfl,h⟩
theorem rl (t:Ty) {cs:List C} (h:j9 t.kc cs): ∃x,t.flat x=cs:=by
 have : (t.unflat cs).isSome=true:=by
  cases t with
  |st n=>
   cases n
   all_goals
    repeat ((first |replace h:=BK h|replace h:=BL h|replace h:=BN h|replace h:=BM h); obtain⟨_,_,rfl,h⟩:=h)
    cases nj h;rfl
  |i k=>replace h:=BK h; obtain⟨_,_,rfl,h⟩:=h; cases nj h; simp[Ty.unflat,gI,gN]
  |b=>replace h:=BL h; obtain⟨_,_,rfl,h⟩:=h; cases nj h; rfl
  |s=>replace h:=BM h; obtain⟨_,_,rfl,h⟩:=h; cases nj h; rfl
  |ls u=>replace h:=BN h; obtain⟨_,_,rfl,h⟩:=h; cases nj h; simp[Ty.unflat,gL,gN]
 obtain⟨x,hx⟩:=bk.1 this;exact⟨x,t.unflat_some _ _ hx⟩
inductive T.bd:T->Prop where
 |int {k:IntKind} {n:Int} (h:k.min<=n/\n<=k.max):T.bd (.sc (.int k n))
 |bool (v:Bool):T.bd (.sc (.bool v))
 |str (v:ByteArray):T.bd (.sc (.string v))
 |sl {sz:Nat} {rows:List (List T)} (hl:rows.length<=maxLen) (h: ∀r∈rows,∀x∈r,T.bd x):T.bd (.sl sz rows)
def Dx (t:Ty) (x:t.D):Prop:= ∀y∈t.row x,T.bd y
def sH (P:Program) (e:TypeId->List Kc->Bool):List Field->Nat->List Kc->Bool
 | [],_,[] =>true
 | [],_,_::_=>false
 |f::fs,off,ks=>Nat.beq f.offset off&&Nat.ble (P.cellsOf f.type) ks.length&&e f.type (ks.take (P.cellsOf f.type))&&sH P e fs (off+P.cellsOf f.type) (ks.drop (P.cellsOf f.type))
def ov (P:Program) (Θ:iC):Nat->TypeId->List Kc->Bool
 | 0,_,_=>false
 |d+1,t,ks=>match P.underlying t with
  |some (.int k)=>decide (ks= [.i k])
  |some .bool=>decide (ks= [.b])
  |some (.slice e)=>(match gn Θ e with
   |some ti=>decide (ks= [.ls ti.ty])&&ov P Θ d e ti.ty.kc&&Nat.beq (P.cellsOf e) ti.ty.width&&Nat.blt 0 ti.ty.width
   |none=>false)
  |some (.struct fs)=>sH P (ov P Θ d) fs.toList 0 ks&&Nat.beq (P.cellsOf t) ks.length
  | _=>false
theorem uM: ∀ {k l:List Kc} {cs ds:List C},j9 k cs->j9 l ds->j9 (k++l) (cs++ds)
 | [],l,[],ds,_,h=>h
 | [],_,_::_,_,h,_=>h.elim
 |a::k,_,[],_,h,_=>by cases a<;>exact h.elim
 |a::k,l,c::cs,ds,h,h2=>by cases a<;>exact⟨h.1,uM h.2 h2⟩
theorem ow: ∀ {k:List Kc} {cs:List C},j9 k cs->cs.length=k.length
 | [],[],_=>rfl
 | [],_::_,h=>h.elim
 |a::k,[],h=>by cases a<;>exact h.elim
 |a::k,c::cs,h=>by cases a<;>simp[ow h.2]
section
variable {H:Type} {enc:TypeId×Value->H} {P:Program} {w:World} {base:Nat} {sp:Nat->Bool} {held:Bool} {Θ:iC}
structure Cs (w:World) (cs:List Value) (Xs:List C):Prop where
 len:Xs.length=cs.length
 one: ∀u∈cs,u.oneCell'=true
 ro: ∀ (k:Nat) (c:C) (u:Value),Xs[k]? =some c->cs[k]? =some u->RO w (fun b=>b<w.heap.size) c.tree u
 bd: ∀c∈Xs,T.bd c.tree
theorem Cs.nil:Cs w [] [] :=⟨rfl,fun _ h=>(by cases h),fun _ _ _ h=>(by cases h),fun _ h=>(by cases h)⟩
theorem Cs.one_mk {u:Value} {c:C} (h1:u.oneCell'=true) (h2:RO w (fun b=>b<w.heap.size) c.tree u) (h3:T.bd c.tree):Cs w [u] [c] :=by
 refine⟨rfl,fun v hv=> ?_,fun k c' u' hk hu=> ?_,fun c' hc=> ?_⟩
 ·rw[aE.1 hv]; exact h1
 ·cases k with
  |zero=>cases hk; cases hu; exact h2
  |succ k=>simp at hk
 ·rw[aE.1 hc]; exact h3
theorem Cs.app {cs ds:List Value} {Xs Ys:List C} (h:Cs w cs Xs) (k:Cs w ds Ys):Cs w (cs++ds) (Xs++Ys):=by
 refine⟨by rw[aP,aP,h.len,k.len],fun u hu=> ?_,fun j c u hj hu=> ?_,fun c hc=> ?_⟩
 ·rcases aZ.1 hu with hu|hu
  ·exact h.one u hu
  ·exact k.one u hu
 ·by_cases hlt:j<Xs.length
  ·rw[az hlt] at hj;rw[az (by rw[<-h.len]; exact hlt)] at hu;exact h.ro j c u hj hu
  ·rw[aH (by omega)] at hj;rw[aH (by rw[<-h.len]; omega),<-h.len] at hu;exact k.ro _ c u hj hu
 ·rcases aZ.1 hc with hc|hc
  ·exact h.bd c hc
  ·exact k.bd c hc
theorem sI (hΘ:en P Θ): ∀ (d:Nat) {t:TypeId} {ks:List Kc} {n:Nat} {cs:List Value} {y:DataW H×List MemPlace},ov P Θ d t ks=true->DataW.trod enc P w base sp held n t cs=some y-> ∃Xs:List C,j9 ks Xs/\Cs w cs Xs
 | 0,t,ks,n,cs,y,hb,_=>by cases hb
 |d+1,t,ks,n,cs,y,hb,h=>by
  unfold ov at hb;split at hb
  ·rename_i k hu;have:=of_decide_eq_true hb;subst this;obtain⟨v,rfl,_,hw⟩:=DataW.trod_int hu h;simp only[Lit.wf,an,decide_eq_true_eq] at hw;exact⟨[.sc (.int k v)],⟨⟨v,rfl⟩,trivial⟩,Cs.one_mk rfl (.sc rfl) (.int hw)⟩
  ·rename_i hu;have:=of_decide_eq_true hb;subst this;obtain⟨v,rfl,_⟩:=DataW.trod_bool hu h;exact⟨[.sc (.bool v)],⟨⟨v,rfl⟩,trivial⟩,Cs.one_mk rfl (.sc rfl) (.bool v)⟩
  ·rename_i e hu;split at hb
   ·rename_i ti hti;simp only[an,decide_eq_true_eq] at hb;obtain⟨⟨⟨rfl,hb⟩,hw⟩,hpos⟩:=hb;have hw:=ao hw;have hpos:0<ti.ty.width:=aw hpos;rcases Go.Deep.open_slice hu h with ⟨rfl,_⟩| ⟨ad,len,cap,m,n',D,Pl,rfl,_,hl,hm,hmm,_,hx⟩
    ·exact⟨[.ls ti.ty []],⟨⟨[],rfl⟩,trivial⟩,Cs.one_mk rfl (.em _ _ _) (.sl (bG _) fun r hr=>by cases hr)⟩
    ·have hlm:len<=m:=by rw[hmm]; split<;>omega
     have each: ∀i:Fin len,∃z:ti.ty.D,∃cs',w.cells? base (ad.add (i.1*P.cellsOf e)) (P.cellsOf e)=some cs'/\Cs w cs' (ti.ty.flat z):=by intro i;obtain⟨cs',h1,h2⟩:=hx i.1 (by have:=i.2; omega);obtain⟨Xs,h3,h4⟩:=sI hΘ d hb h2;obtain⟨z,rfl⟩:=rl _ h3;exact⟨z,cs',h1,h4⟩
     let l:List ti.ty.D:=List.ofFn fun i=>(each i).choose
     have hll:l.length=len:=by simp[l]
     have row: ∀ (i:Nat) (r:List T),(l.map ti.ty.row)[i]? =some r-> ∃hi:i<len,∃cs',w.cells? base (ad.add (i*P.cellsOf e)) (P.cellsOf e)=some cs'/\ ∃z,r=(ti.ty.flat z).map C.tree/\Cs w cs' (ti.ty.flat z):=by
      intro i r hr;rw[al,ak] at hr;obtain⟨z,hz,rfl⟩:=hr;obtain⟨h1,h2⟩:=ah.1 hz;have hi:i<len:=by rw[hll] at h1; exact h1
      refine⟨hi,(each ⟨i,hi⟩).choose_spec.choose,(each ⟨i,hi⟩).choose_spec.choose_spec.1,z,ti.ty.row_flat z,?_⟩;have e1:z=(each ⟨i,hi⟩).choose:=by rw[<-h2]; simp[l]
      rw[e1];exact (each ⟨i,hi⟩).choose_spec.choose_spec.2
     refine⟨[.ls ti.ty l],⟨⟨l,rfl⟩,trivial⟩,Cs.one_mk rfl ?_ ?_⟩
     ·show RO w _ (.sl ti.ty.width (l.map ti.ty.row)) _;by_cases h0:len=0
      ·have :l= [] :=cR.1 (by rw[hll,h0]);rw[this,h0];exact .em _ _ _
      ·have hlr: (l.map ti.ty.row).length=len:=by rw[ax,hll]
       have hlen: ∀ (i:Nat) (r:List T),(l.map ti.ty.row)[i]? =some r->r.length=ti.ty.width:=by intro i r hr;obtain⟨hi,cs',h1,z,rfl,h2⟩:=row i r hr;obtain⟨_,h3,_⟩:=World.cells?_some h1;rw[ax,h2.len,h3,hw]
       have hcell: ∀ (i:Nat) (r:List T) (j:Nat) (x:T),(l.map ti.ty.row)[i]? =some r->r[j]? =some x-> ∃u,w.cell? (ad.add (i*ti.ty.width+j))=some u/\RO w (fun b=>b<w.heap.size) x u:=by
        intro i r j x hr hx;obtain⟨hi,cs',h1,z,rfl,h2⟩:=row i r hr;obtain⟨_,h3,h4⟩:=World.cells?_some h1;rw[al,ak] at hx;obtain⟨c,hc,rfl⟩:=hx;have hj:j<cs'.length:=by rw[<-h2.len]; exact (ah.1 hc).1
        refine⟨cs'[j],?_,h2.ro j c _ hc (af hj)⟩;rw[<-Go.Deep.add_add,<-hw,h4 j (by omega),af hj]
       have hne: ∃u,w.cell? ad=some u:=by
        obtain⟨r,hr⟩: ∃r,(l.map ti.ty.row)[0]? =some r:=⟨_,af (by omega)⟩
        have h5:=hlen 0 r hr;obtain⟨x,hx⟩: ∃x,r[0]? =some x:=⟨_,af (by omega)⟩
        obtain⟨u,hu',_⟩:=hcell 0 r 0 x hr hx;simp only[bU,aN,Addr.add,if_true] at hu';exact⟨u,hu'⟩
       obtain⟨u0,hu0⟩:=hne;rw[<-hlr];refine .sl (fun i j=>((w.cell? (ad.add (i*ti.ty.width+j))).getD undef)) (by omega) ?_ (World.block_lt_of_cell? w _ hu0) hlen ?_ ?_
       ·cases hsp:ad.spot with
        |none=>rfl
        |some s=>
         unfold World.cell? at hu0;rw[hsp] at hu0;split at hu0
         ·simp at hu0
         ·cases hu0
       ·intro i r j x hr hx;obtain⟨u,h1,_⟩:=hcell i r j x hr hx;rw[h1];rfl
       ·intro i r j x hr hx;obtain⟨u,h1,h2⟩:=hcell i r j x hr hx;rw[h1];exact h2
     ·refine .sl (by rw[ax,hll]; unfold maxLen at hm ⊢; omega) fun r hr x hx=> ?_;obtain⟨i,hi⟩:=List.getElem?_of_mem hr;obtain⟨_,cs',_,z,rfl,h2⟩:=row i r hi;obtain⟨c,hc,rfl⟩:=aG.1 hx;exact h2.bd c hc
   ·cases hb
  ·rename_i fs hu;simp only[an] at hb;obtain⟨hb,hkl0⟩:=hb;have hkl0:=ao hkl0;obtain⟨xs,m,_,_,hl,hlen,hf⟩:=DataW.trod_struct hu h
   have eD: ∀ (gs:List Field) (off i0:Nat) (ks:List Kc),sH P (ov P Θ d) gs off ks=true->(∀ (i:Nat) (f:Field),gs[i]? =some f->fs[i0+i]? =some f)-> ∃Xs:List C,j9 ks Xs/\Cs w ((cs.drop off).take ks.length) Xs/\off+ks.length<=max off cs.length:=by
    intro gs
    induction gs with
    |nil=>
     intro off i0 ks hk _;cases ks with
     |nil=>exact⟨[],trivial,by simpa using Cs.nil,by simp; omega⟩
     |cons=>cases hk
    |cons f gs ih=>
     intro off i0 ks hk hg;simp only[sH,an] at hk;obtain⟨⟨⟨ho,hle⟩,h1⟩,h2⟩:=hk;have ho:=ao ho;have hle:P.cellsOf f.type<=ks.length:=aw hle;have hfi:fs[i0]? =some f:=by have:=hg 0 f rfl; simpa using this
     have hi0:i0<xs.length:=by rw[hlen]; exact (aI.1 hfi).1
     have h3:=hf i0 f hfi;rw[af hi0,ho] at h3;obtain⟨Xs,k1,k2⟩:=sI hΘ d h1 h3;obtain⟨Ys,k3,k4,k5⟩:=ih (off+P.cellsOf f.type) (i0+1) _ h2 (fun i g hgi=>by have:=hg (i+1) g hgi; rw[show i0+1+i=i0+(i+1) by omega]; exact this);have hkl:=ow k1;have hcl:=k2.len;rw[aW,bu,hkl,aW] at hcl;have hq:P.cellsOf f.type<=cs.length-off:=by omega
     refine⟨Xs++Ys,?_,?_,?_⟩
     ·have:=uM k1 k3
      rwa [c7] at this
     ·have hsplit: (cs.drop off).take ks.length=((cs.drop off).take (P.cellsOf f.type))++((cs.drop (off+P.cellsOf f.type)).take (ks.drop (P.cellsOf f.type)).length):=by
       rw[bu,<-b7];have :ks.length=P.cellsOf f.type+(ks.length-P.cellsOf f.type):=by omega
       conv=>lhs; rw[this]
       exact List.take_add
      rw[hsplit];exact k2.app k4
     ·rw[bu] at k5;omega
   obtain⟨Xs,k1,k2,k3⟩:=eD fs.toList 0 0 ks hb (fun i f hi=>by rw[bc] at hi; simpa using hi);refine⟨Xs,k1,?_⟩
   have hfull: (cs.drop 0).take ks.length=cs:=by rw[bQ];exact bN (by omega)
   rwa [hfull] at k2
  ·cases hb
end
end
section
open Go Go.ChangeShapes Go.WideShapes Go.RowKit
theorem ox (t:Ty) (x:t.D):t.unflat (t.flat x)=some x:=by
 cases t with
 |st n=>cases n<;>rfl
 |i k=>simp[Ty.unflat,Ty.flat,gI,gN]
 |b=>rfl
 |s=>rfl
 |ls u=>simp[Ty.unflat,Ty.flat,gL,gN]
theorem zE (l:List C):sn (l.map Cl.c)=some l:=by
 induction l with
 |nil=>rfl
 |cons a l ih=>simp[sn,ih]
theorem Co {ρ:Type} (t:Ty) (x:t.D) (κ:t.D->Option ρ):un t (ug t x) κ=κ x:=by
 unfold ug;cases hag:t.ag with
 |true=>simp only[cond_true,un,hag,zE,ox]
 |false=>
  simp only[cond_false];have h1: ∃c,t.flat x= [c] :=by cases t<;>first |exact⟨_,rfl⟩| (simp[Ty.ag] at hag)
  obtain⟨c,hc⟩:=h1;rw[hc];have:=ox t x;rw[hc] at this;simp only[aL,bW,un,hag,cond_false,this]
theorem Bg {ρ:Type} (t:Ty) (x:t.D) (κ:t.D->Option ρ):CX t (ug t x) κ=κ x:=by
 rw[<-Co t x κ];cases t with
 |st n=>cases n<;>rfl
 | _=>rfl
theorem wL {ρ:Type}: ∀ (l:List Ty) (x:ld.D (l.map .ty)) (κ:ld.D (l.map .ty)->Option ρ),qy (l.map .ty) (ij (l.map .ty) x) κ=κ x
 | [],x,κ=>rfl
 |t::l,x,κ=>by show (Dw (.ty t) (ug t x.1) fun a=>qy (l.map .ty) (ij (l.map .ty) x.2) fun b=>κ (a,b))=κ x;show (CX t (ug t x.1) fun a=>qy (l.map .ty) (ij (l.map .ty) x.2) fun b=>κ (a,b))=κ x;rw[Bg,wL l x.2];rfl
def DF: (l:List Ty)->ld.D (l.map .ty)->Prop
 | [],_=>True
 |t::l,x=>Dx t x.1/\DF l x.2
def Bh (P:Program) (Θ:iC) (t:TypeId) (τ:Ty):Bool:=ov P Θ 9 t τ.kc&&(match gn Θ t with |some ti=>decide (ti.ty=τ)|none=>false)&&P.readableRec t&&Nat.blt t P.types.size
def pX (P:Program) (Θ:iC):List TypeId->List Ty->Bool
 | [],[] =>true
 |t::ts,τ::τs=>Bh P Θ t τ&&pX P Θ ts τs
 | _,_=>false
section
variable {H:Type} {enc:TypeId×Value->H} {P:Program} {W:World} {Θ:iC} {base:Nat}
theorem C.VR {c:C} {u:Value} {bt:Bt} (hA:bt.A=fun b=>b<W.heap.size) (h:RO W (fun b=>b<W.heap.size) c.tree u) (hg:c.good=true):En.VR W bt c.av u:=by
 cases c with
 |sc v=>
  cases h with
  |sc h=>exact .sc h
 |ls t l=>exact .ro (by rw[hA]; exact h)
theorem Cp (hΘ:en P Θ) {bt:Bt} (hA:bt.A=fun b=>b<W.heap.size) {t:TypeId} {τ:Ty} {v:Value} {d:DataW H} {p:List MemPlace} (hp:Bh P Θ t τ=true) (hv:Value.okWide P W .any base t v) (h:DataW.Trod enc P W 0 (fun _=>true) true t v d p):
  ∃x:τ.D,VR W bt (ug τ x).av v/\Dx τ x:=by
 unfold Bh at hp;simp only[an] at hp;obtain⟨⟨⟨h1,h2⟩,h3⟩,h4⟩:=hp;split at h2
 case h_2=>cases h2
 rename_i ti hti;have h2:=of_decide_eq_true h2;subst h2;have hok:=hΘ t ti hti;obtain⟨n,hn⟩:=h;obtain⟨Xs,k1,k2⟩:=sI hΘ 9 h1 hn;obtain⟨x,rfl⟩:=rl _ k1
 have bd:Dx ti.ty x:=by intro y hy;rw[Ty.row_flat] at hy;obtain⟨c,hc,rfl⟩:=aG.1 hy;exact k2.bd c hc
 have good: ∀c∈ti.ty.flat x,c.good=true:=by
  intro c hc;have:=k2.bd c hc;cases c with
  |sc v=>cases this<;>rfl
  |ls t l=>rfl
 refine⟨x,?_,bd⟩;have hag:=hok.ag;unfold ug;cases ha:ti.ty.ag with
 |true=>
  rw[ha] at hag
  have hst: ∃fs,P.underlying t=some (.struct fs):=by
   have hpl:=hok.pl ha;unfold ov at h1;split at h1
   ·rename_i hu; simp[qd,hu] at hag
   ·rename_i hu; simp[qd,hu] at hag
   ·rename_i hu; simp[qd,hu] at hag
   ·rename_i fs hu; exact⟨fs,hu⟩
   ·cases h1
  obtain⟨fs,hu⟩:=hst;obtain⟨us,rfl,_⟩:=okWide_struct hu hv;simp only[cond_true,V1.av];have : (Value.agg us)= .agg us.toList.toArray:=by simp
  rw[this];have hus: (Value.agg us).cells.toList=us.toList:=rfl;rw[hus] at k2;refine .agg (by simp[k2.len]) k2.one fun k c u hk hu=> ?_;simp only[be,al,ak] at hk;obtain⟨c',hc,rfl⟩:=hk;exact C.VR hA (k2.ro k c' u hc hu) (good c' (ap hc))
 |false=>
  rw[ha] at hag
  have hcells:v.cells.toList= [v] :=by
   unfold ov at h1;split at h1
   ·rename_i hu; obtain⟨_,rfl⟩:=okWide_int hu hv; rfl
   ·rename_i hu; obtain⟨_,rfl⟩:=okWide_bool hu hv; rfl
   ·rename_i hu; obtain⟨_,_,_,rfl⟩:=okWide_slice hu hv; rfl
   ·rename_i fs hu; simp[qd,hu] at hag
   ·cases h1
  rw[hcells] at k2;have hl:=k2.len;obtain⟨c,hc⟩:=List.length_eq_one_iff.1 hl;simp only[cond_false,hc,aL,bW,V1.av];exact C.VR hA (k2.ro 0 c v (by rw[hc]; rfl) rfl) (good c (by rw[hc]; exact aE.2 rfl))
theorem wM (hΘ:en P Θ) {bt:Bt} (hA:bt.A=fun b=>b<W.heap.size): ∀ {ts:List TypeId} {τs:List Ty} {vs:List Value} {ds:List (DataW H)} {p:List MemPlace},pX P Θ ts τs=true->(∀ (j:Nat) t v,ts[j]? =some t->vs[j]? =some v->Value.okWide P W .any base t v)->DataW.TrodAll enc P W 0 (fun _=>true) true ts vs ds p->
  ∃x:ld.D (τs.map .ty),vs.length=τs.length/\(∀ (k:Nat) (v:AV) (u:Value),((ij (τs.map .ty) x).map V1.av)[k]? =some v->vs[k]? =some u->VR W bt v u)/\DF τs x
 | [],[],vs,ds,p,_,_,h=>by obtain⟨rfl,_,_⟩:=trodAll_nil h;exact⟨(),rfl,fun k v u hk hu=>(by cases hu),trivial⟩
 |t::ts,τ::τs,vs,ds,p,hb,hv,h=>by
  obtain⟨v,vs',d,ds',q,q',rfl,rfl,rfl,h1,h2⟩:=trodAll_cons h;unfold pX at hb;simp only[an] at hb;obtain⟨x,k1,k2⟩:=Cp hΘ hA hb.1 (hv 0 t v rfl rfl) h1;obtain⟨y,k3,k4,k5⟩:=wM hΘ hA hb.2 (fun j t' v' ht hv'=>hv (j+1) t' v' ht hv') h2;refine⟨(x,y),by simp[k3],fun k v' u hk hu=> ?_,k2,k5⟩;cases k with
  |zero=>have hk:some (ug τ x).av=some v':=hk;cases hk;cases hu;exact k1
  |succ k=>exact k4 k v' u hk hu
 | [],_::_,_,_,_,hb,_,_=>by cases hb
 | _::_,[],_,_,_,hb,_,_=>by cases hb
theorem lZ {W':World} (hl:laidOutB P=true) (hb:Below W.heap.size W W'): ∀ {ts:List TypeId} {τs:List Ty} {vs:List Value} {ds:List (DataW H)} {p:List MemPlace},pX P Θ ts τs=true->DataW.TrodAll enc P W 0 (fun _=>true) true ts vs ds p->DataW.TrodAll enc P W' 0 (fun b=>decide (b<W.heap.size)) true ts vs ds p
 | [],[],vs,ds,p,_,h=>by obtain⟨rfl,rfl,rfl⟩:=trodAll_nil h;exact rfl
 |t::ts,τ::τs,vs,ds,p,hp,h=>by obtain⟨v,vs',d,ds',q,q',rfl,rfl,rfl,h1,h2⟩:=trodAll_cons h;unfold pX Bh at hp;simp only[an] at hp;obtain⟨⟨⟨_,hr⟩,hs⟩,hrest⟩:=hp;refine trodAll_cons_mk (Below.trod hl hr (aw hs) h1 hb ?_) (lZ hl hb hrest h2);intro x hx;obtain⟨m,hm⟩:=h1;exact DataW.trod_lt m _ _ _ hm x hx
 | [],_::_,_,_,_,hb,_=>by cases hb
 | _::_,[],_,_,_,hb,_=>by cases hb
theorem xC (hΘ:en P Θ) {f:FuncId} {τs:List Ty} {G:ld.D (τs.map .ty)->Option (nX.D [.b])} (he:wH P f (zA (τs.map .ty) [.b] G)) (hG: ∀x,DF τs x->G x=some (true,()))
  {ts:List TypeId} {vs:List Value} {ds:List (DataW H)} {p:List MemPlace} (hp:pX P Θ ts τs=true) (hv: ∀ (j:Nat) t v,ts[j]? =some t->vs[j]? =some v->Value.okWide P W .any base t v) (h:DataW.TrodAll enc P W 0 (fun _=>true) true ts vs ds p) (hk:Nat.blt f 1048576=true:=by rfl):
  Calls P f vs.toArray W fun e W'=>e= .returned (.bool true)/\Below W.heap.size W W':=by
 let bt:Bt:=⟨fun _=>0,fun _=>0,fun _=>0,0,0,fun b=>b<W.heap.size⟩
 obtain⟨x,h1,h2,h3⟩:=wM (bt:=bt) hΘ rfl hp hv h;have hg:=hG x h3
 obtain⟨res,out,k1,k2,k3⟩:=he (ij (τs.map .ty) x) (V×List dI) (fun v g=>some (v,g)) (.v (.cl (.c (.sc (.bool true)))),[]) (by unfold zA;rw[wL,hg];rfl)
 cases k3
 have:=k1.fn (aw hk) W (fun _=>False) bt vs (wc W bt fun b hb=>hb) (by
  rw[h1,ax];clear h1 h2 h3 hg k1 hG he
  have : ∀ (l:List Ty) (x:ld.D (l.map .ty)),l.length=(ij (l.map .ty) x).length:=by
   intro l
   induction l with
   |nil=>intro x; rfl
   |cons t l ih=>intro x; show l.length+1=(ij (l.map .ty) x.2).length+1; rw[ih x.2]
  exact this τs x) h2
 refine this.2.mono fun e W' hx=> ?_;obtain⟨v,btn,rfl,hI,_,_,hvr⟩:=hx;refine⟨?_,mQ hI⟩;cases hvr with
 |sc=>rfl
end
end
section
open Go
section
variable {α β σ ε:Type}
theorem pY {B:σ->Option (σ⊕ε)} (l:List α) (mk:Nat->β->σ) (J:Nat->β->Prop) (g:Nat->List α->β->ε)
  (hn: ∀b,J l.length b->B (mk l.length b)=some (.inr (g l.length [] b)))
  (hc: ∀k b x,l[k]? =some x->J k b->(∃b',B (mk k b)=some (.inl (mk (k+1) b'))/\J (k+1) b'/\g k (x::l.drop (k+1)) b=g (k+1) (l.drop (k+1)) b')\/B (mk k b)=some (.inr (g k (x::l.drop (k+1)) b))):
  ∀k b,k<=l.length->J k b->hU B (mk k b)=some (g k (l.drop k) b):=by
 intro k b hk hJ;generalize hn0:l.length-k=n
 induction n generalizing k b with
 |zero=>
  obtain rfl:k=l.length:=by omega
  rw[nZ,hn b hJ,List.drop_length];rfl
 |succ n ih=>
  have hlt:k<l.length:=by omega
  rw[cf hlt];rcases hc k b l[k] (af hlt) hJ with ⟨b',h1,h2,h3⟩|h1
  ·rw[nZ,h1,h3];exact ih (k+1) b' (by omega) h2 (by omega)
  ·rw[nZ,h1];rfl
theorem eS (x y:α):br true x y=x:=rfl
theorem eR (x y:α):br false x y=y:=rfl
theorem zF (b:Bool) (x y:α):br b x y=if b=true then x else y:=by cases b<;>rfl
theorem dL (p:Prop) [Decidable p] (x y:α):br (decide p) x y=if p then x else y:=by unfold br; by_cases h:p<;>simp[h]
theorem fF {p:Prop} [Decidable p] (h:p) (x y:α):dy p x y=x:=if_pos h
theorem eo (p:Prop) [Decidable p] (x y:α):dy p x y=if p then x else y:=rfl
end
theorem oW {n:Int} (h1: -9223372036854775808<=n) (h2:n<9223372036854775808):IntKind.wrap .i64 n=n:=by
 simp only[IntKind.wrap,IntKind.bits,IntKind.signed,dl];split
 ·rename_i h;have h:=of_decide_eq_true h;omega
 ·rename_i h;have h: ¬ (n % 2 ^ 64≥2 ^ (64-1)):=fun hh=>h (decide_eq_true hh);omega
theorem vR {α:Type} {l:List α} {k:Nat} {x:α} (h:l[k]? =some x):k<l.length:=(ah.1 h).1
theorem zG {t:Ty} {l:List t.D} (h:Dx (.ls t) l):l.length<=maxLen:=by
 have:=h (.sl t.width (l.map t.row)) (aE.2 rfl);cases this with
 |sl hl _=>simpa using hl
theorem qz {α:Type} {l:List α} {k:Nat} (y:α) (h:k<l.length): (l.set k y).take (k+1)=l.take k++ [y] :=by rw[List.take_add_one,List.getElem?_set_self h];simp[List.take_set_of_le]
theorem Bi {α ρ:Type} (l:List α) (n:Nat) (κ:List α×Unit->Option ρ):B8 l (Av (κ ([],())) (dy ((([]:List α)++l).length*n<=2 ^ 40) (κ (([]:List α)++l,())) none) none) (dy ((([]:List α)++l).length*n<=2 ^ 40) (κ (([]:List α)++l,())) none)=(dy (l.length*n<=2 ^ 40) (some (l,())) none).bind κ:=by
 cases l with
 |nil=>
  have :dy ((([]:List α)++ []).length*n<=2 ^ 40) (κ (([]:List α)++ [],())) none=κ ([],()):=by unfold dy;rw[if_pos (by simp)];rfl
  rw[this];show Av _ _ _=_;rw[yX];unfold dy;rw[if_pos (by simp)];rfl
 |cons x l=>show dy _ _ _=_;simp only[bB];unfold dy;split<;>rfl
end
section
open Go
section
variable {σ ε σ1 ε1 σ2 ε2 α β:Type}
theorem iz {B:σ->Option (σ⊕ε)} {s:σ} {e:ε} (h:B s=some (.inr e)):hU B s=some e:=by rw[nZ,h]; rfl
theorem lf {B:σ->Option (σ⊕ε)} {s s':σ} (h:B s=some (.inl s')):hU B s=hU B s':=by rw[nZ,h]; rfl
theorem lM {B1:σ1->Option (σ1⊕ε1)} {B2:σ2->Option (σ2⊕ε2)} (n:Nat) (m1:Nat->σ1) (m2:Nat->σ2) (t1:ε1) (t2:ε2) (f1:Nat->ε1) (f2:Nat->ε2) (P Q:Nat->Prop)
  (h1:B1 (m1 n)=some (.inr t1)) (h2:B2 (m2 n)=some (.inr t2))
  (h: ∀k,k<n->(B1 (m1 k)=some (.inl (m1 (k+1)))/\B2 (m2 k)=some (.inl (m2 (k+1)))/\P k)\/(B1 (m1 k)=some (.inr (f1 k))/\B2 (m2 k)=some (.inr (f2 k))/\Q k)):
  (hU B1 (m1 0)=some t1/\hU B2 (m2 0)=some t2/\ ∀k,k<n->P k)\/ ∃k,k<n/\hU B1 (m1 0)=some (f1 k)/\hU B2 (m2 0)=some (f2 k)/\Q k:=by
 have eD: ∀d j,j+d=n->(hU B1 (m1 j)=some t1/\hU B2 (m2 j)=some t2/\ ∀k,j<=k->k<n->P k)\/ ∃k,k<n/\hU B1 (m1 j)=some (f1 k)/\hU B2 (m2 j)=some (f2 k)/\Q k:=by
  intro d
  induction d with
  |zero=>
   intro j hj;have :j=n:=by omega
   subst this;exact .inl ⟨iz h1,iz h2,fun k a b=>by omega⟩
  |succ d ih=>
   intro j hj;rcases h j (by omega) with ⟨g1,g2,g3⟩| ⟨g1,g2,g3⟩
   ·rw[lf g1,lf g2];rcases ih (j+1) (by omega) with ⟨k1,k2,k3⟩|k
    ·refine .inl ⟨k1,k2,fun k a b=> ?_⟩;rcases dk a with rfl|a
     ·exact g3
     ·exact k3 k a b
    ·exact .inr k
   ·exact .inr ⟨j,by omega,iz g1,iz g2,g3⟩
 rcases eD n 0 (by omega) with ⟨a,b,c⟩|h
 ·exact .inl ⟨a,b,fun k hk=>c k (bG _) hk⟩
 ·exact .inr h
def C0 (x y:Option (β×Unit)):Prop:= ∃b,x=some (b,())/\y=some (b,())
theorem eg {n k:Nat} (hn:n<=maxLen) (hk:k<n):IntKind.wrap .i64 ((k:Int)+1)=((k+1:Nat):Int):=by unfold maxLen at hn;rw[oW (by omega) (by omega)];rfl
theorem lN {k:Nat} (hk:0<k) (h:k<=maxLen):IntKind.wrap .i64 ((k:Int)-1)=((k-1:Nat):Int):=by unfold maxLen at h;rw[oW (by omega) (by omega)];omega
theorem BO {α:Type} {F:List α->Option (List α×Unit)} {B: (List α×Unit×Int×Unit)×Unit×(List α×Unit)->Option (((List α×Unit×Int×Unit)×Unit×(List α×Unit))⊕((Unit×Unit)×Unit×(List α×Unit)))} (f:α->Option (α×Unit)) (z:α) (n:Nat)
  (hF: ∀l,F l=dy (0<=(l.length:Int)/\(l.length:Int)=(l.length:Int)/\(l.length:Int)*((n:Nat):Int)<=2 ^ 40) ((hU B ((l,(),0,()),(),(List.replicate (l.length:Int).toNat z,()))).bind fun e=>some (e.2.2.1,())) none)
  (hB: ∀ (l v:List α) (k:Int),B ((l,(),k,()),(),(v,()))=br (decide (k< (l.length:Int))) (dy (0<=k) ((l[k.toNat]?).bind fun x=>(f x).bind fun y=>dy (0<=k/\k< (v.length:Int)) ((v[k.toNat]?).bind fun _=>some (.inl ((l,(),IntKind.wrap .i64 (k+1),()),(),(v.set k.toNat y.1,())))) none) none) (some (.inr (((),()),(),(v,())))))
  (hn:n<=1048576) (l:List α) (hl:l.length<=1048576) (h: ∀x∈l,f x=some (x,())):F l=some (l,()):=by
 have eD:=pY (B:=B) l (fun k (b:List α)=>((l,(),(k:Int),()),(),(b,()))) (fun _ b=>b.length=l.length) (fun k r b=>(((),()),(),(b.take k++r,())))
  (fun b hb=>by rw[hB,dL,if_neg (by omega),bz,bN (by omega)])
  (fun k b x hx hb=>by
    have hk:=vR hx;refine .inl ⟨b.set k x,?_,by simp[hb],?_⟩
    ·rw[hB,dL,if_pos (by omega),fF (by omega),aQ,hx,ai,h x (ap hx),ai,fF (by omega),af (by omega),ai,eg (n:=l.length) (by unfold maxLen; omega) hk]
    ·rw[qz _ (by omega)];simp)
  0 (List.replicate l.length z) (bG _) (c6)
 have hm: (l.length:Int)*((n:Nat):Int)<=2 ^ 40:=by
  have h1:l.length*n<=1048576*1048576:=Nat.mul_le_mul hl hn;have h2: ((l.length*n:Nat):Int)<=((1048576*1048576:Nat):Int):=by exact_mod_cast h1
  have h3: ((l.length*n:Nat):Int)=(l.length:Int)*(n:Int):=Int.natCast_mul _ _;have h4: ((1048576*1048576:Nat):Int)=2 ^ 40:=by decide
  omega
 rw[hF,fF ⟨by omega,rfl,hm⟩,aQ];have eD:hU B ((l,(),0,()),(),(List.replicate l.length z,()))=some (((),()),(),(l,())):=by simpa using eD
 rw[eD];rfl
theorem uN {α:Type} {F:List α->List α->Option (Bool×Unit)} {B: (List α×List α×Int×Unit)×Unit×Unit->Option (((List α×List α×Int×Unit)×Unit×Unit)⊕(((Bool×Unit)×Unit×Unit)⊕((Unit×Unit)×Unit×Unit)))} (f:α->α->Option (Bool×Unit))
  (hF: ∀a b,F a b=br (!((a.length:Int)==(b.length:Int))) (some (false,())) ((hU B ((a,b,0,()),(),())).bind fun e=>Sum.elim (fun e=>some (e.1.1,())) (fun _=>some (true,())) e))
  (hB: ∀ (a b:List α) (k:Int),B ((a,b,k,()),(),())=br (decide (k< (a.length:Int))) (dy (0<=k) ((a[k.toNat]?).bind fun x=>dy (0<=k) ((b[k.toNat]?).bind fun y=>(f x y).bind fun r=>br (!r.1) (some (.inr (.inl ((false,()),(),())))) (some (.inl ((a,b,IntKind.wrap .i64 (k+1),()),(),())))) none) none) (some (.inr (.inr (((),()),(),())))))
  (l:List α) (hl:l.length<=maxLen) (h: ∀x∈l,f x x=some (true,())):F l l=some (true,()):=by
 have eD:=pY (B:=B) l (fun k (b:Unit)=>((l,l,(k:Int),()),(),())) (fun _ _=>True) (fun k r b=> .inr (((),()),(),()))
  (fun b hb=>by rw[hB,dL,if_neg (by omega)])
  (fun k b x hx hb=>by have hk:=vR hx;refine .inl ⟨(),?_,trivial,rfl⟩;rw[hB,dL,if_pos (by omega),fF (by omega),aQ,hx,ai,fF (by omega),ai,h x (ap hx),ai,eg hl hk];rfl)
  0 () (bG _) trivial
 rw[hF,zF,if_neg (by simp),show hU B ((l,l,0,()),(),())=_ from eD];rfl
def Cq (F:α->Int->Option (Int×Unit)) (bd sm:α->Prop):Prop:= ∀x left,bd x->0<=left->left<=1048576-> ∃n,F x left=some (n,())/\n<=left/\(0<=n->sm x)
theorem wN {F:List α->Int->Option (Int×Unit)} (hF: ∀l left,F l left=br (decide (IntKind.wrap .i64 (left-(l.length:Int))<0)) (some (-1,())) (some (IntKind.wrap .i64 (left-(l.length:Int)),()))):Cq F (fun l=>l.length<=maxLen) (fun l=>l.length<=1048576):=by
 intro l left hl h0 h1;unfold maxLen at hl;rw[hF,oW (by omega) (by omega),dL];split
 ·exact⟨_,rfl,by omega,fun h=>by omega⟩
 ·exact⟨_,rfl,by omega,fun h=>by omega⟩
end
end
section
open Go
structure BP (P:Program) where
 n:Nat
 e:z4
 ok:wH P n e
structure zH (P:Program) where
 c:Code
 e:wI
 ok:zy P c e
structure LX where
 L:lR
 x:List (X×lR)
 g:List vQ
 k:List Nat
 kx:List Nat
abbrev LX.S (m:LX):Type:=m.L.D
abbrev LX.R (m:LX):Type:=Option (m.L.D⊕nh.D m.x)
theorem tm: (∀ (α β:Type) (b:Bool) (x y:Option α) (f:α->Option β),(br b x y).bind f=br b (x.bind f) (y.bind f))/\(∀ (α β:Type) (c:Prop) (_:Decidable c) (x y:Option α) (f:α->Option β),(dy c x y).bind f=dy c (x.bind f) (y.bind f))/\(∀ (α β:Type) (f:α->Option β),(none:Option α).bind f=none)/\(∀ (α β:Type) (a:α) (f:α->Option β),(some a).bind f=f a)/\(∀ (α β γ:Type) (x:Option α) (f:α->Option β) (g:β->Option γ),(x.bind f).bind g=x.bind fun a=>(f a).bind g)/\(∀ (α β γ δ:Type) (x:α⊕β) (f:α->Option γ) (g:β->Option γ) (h:γ->Option δ),(Sum.elim f g x).bind h=Sum.elim (fun a=>(f a).bind h) (fun a=>(g a).bind h) x)/\(∀ (α β γ:Type) (f:α->γ) (g:β->γ) (a:α),Sum.elim f g (.inl a)=f a)/\ ∀ (α β γ:Type) (f:α->γ) (g:β->γ) (b:β),Sum.elim f g (.inr b)=g b:=
 ⟨fun _ _ b _ _ _=>by cases b<;>rfl,fun _ _ c _ _ _ _=>by unfold dy; split<;>rfl,fun _ _ _=>rfl,fun _ _ _ _=>rfl,fun _ _ _ x _ _=>by cases x<;>rfl,fun _ _ _ _ x _ _ _=>by cases x<;>rfl,fun _ _ _ _ _ _=>rfl,fun _ _ _ _ _ _=>rfl⟩
def zI:Code->List Nat->Code
 |c,[] =>c
 |c,i::l=>zI (Cn c i) l
section
variable {P:Program} {Θ:iC}
def zJ:List (BP P)->List (Nat×z4)
 | [] => []
 |k::l=>(k.n,k.e)::zJ l
theorem sJ: ∀l:List (BP P),ib P (vJ (zJ l))
 | [] =>A9 P
 |k::l=>zu k.ok (sJ l)
def uO:List (zH P)->List (Nat×wI)
 | [] => []
 |q::l=>(eD q.c,q.e)::uO l
def jB:List (zH P)->List Code
 | [] => []
 |q::l=>q.c::jB l
def uP:List Code->Bool
 | [] =>true
 |c::l=>l.all (fun d=> !Nat.beq (eD c) (eD d))&&uP l
theorem wO: ∀l:List (zH P),uP (jB l)=true->fM P (uI (uO l)) (jB l)
 | [],_=>fun c hc=>by cases hc
 |q::l,h=>by
  simp only[jB,uP,an,ar] at h;intro c hc S ρ κ r hS hr;have hr: (bif Nat.beq (eD q.c) (eD c) then q.e S ρ κ else uI (uO l) (eD c) S ρ κ)=some r:=hr;rcases aV.1 hc with rfl|hc
  ·rw[ch] at hr;exact q.ok S ρ κ r hS hr
  ·have hb:Nat.beq (eD q.c) (eD c)=false:=by simpa using h.1 c hc
   rw[hb] at hr;exact wO l h.2 c hc S ρ κ r hS hr
theorem uQ {Λ:List (zH P)} {cs:List Code} (h:cs=jB Λ) (hn:uP (jB Λ)=true):fM P (uI (uO Λ)) cs:=by rw[h]; exact wO Λ hn
theorem mC {α β:Type} {a a':α} {b b':β} (h: (a,b)=(a',b')):a=a'/\b=b':=by cases h; exact⟨rfl,rfl⟩
theorem vS {a b:Bool} (h: (a&&b)=true):a=true/\b=true:=by simpa using h
variable (hΘ:en P Θ) (hm:P.follows .mixedOrders=true)
noncomputable def DZ (fn:Func) (p:List Nat) (m:LX) (B:m.S->m.R) (Y:List (BP P)) (Λ:List (zH P)) (h: (ey (zI (jQ fn) p),((gC P (zI (jQ fn) p))&&(m.L.fit&&m.x.all CU))&&uP (jB Λ))=(jB Λ,true))
  (hB: ∀s,(B s).bind (Sum.elim (fun s'=>some (X.nor,m.L.mk' s')) fun e=>some (nh.e m.x e))=nK Θ (vJ (zJ Y)) (uI (uO Λ)) (zI (jQ fn) p) (m.L.mk' s) (uG m.k m.kx fun x S=>some (x,S))):zH P:=
 ⟨zI (jQ fn) p,zx m.g m.k m.L m.x (hU B),zz hΘ (sJ Y) hm (vS (vS (mC h).2).1).1 (uQ (mC h).1 (vS (mC h).2).2) m.g m.k m.kx m.L m.x (vS (vS (mC h).2).1).2 B (fun s=>(hB s).symm) (hU B) (Cm B) (xB B)⟩
theorem DG {f:FuncId} {fn:Func} {Λ:List (zH P)} (h: (Ak P f,ey (jQ fn),Nat.blt f 1048576&&uP (jB Λ))=(some fn,jB Λ,true)):Ak P f=some fn/\(∀c,fn.body=some c->fM P (uI (uO Λ)) (ey c))/\Nat.blt f 1048576=true:=
 have h2:=mC (mC h).2
 ⟨(mC h).1,CZ h2.1 (uQ rfl (vS h2.2).2),(vS h2.2).1⟩
noncomputable def DU (f:FuncId) (fn:Func) (ps:List uL) (rs:List Ty) (F:ld.D ps->Option (nX.D rs)) (Y:List (BP P)) (Λ:List (zH P)) (h: (Ak P f,ey (jQ fn),Nat.blt f 1048576&&uP (jB Λ))=(some fn,jB Λ,true))
  (hF: ∀x,(F x).bind (fun y=>ret (nf rs y) fun v g=>some (v,g))=CN Θ (vJ (zJ Y)) (uI (uO Λ)) fn (ij ps x) fun v g=>some (v,g)):BP P:=
 ⟨f,zA ps rs F,Bf hΘ (sJ Y) hm (DG h).1 (DG h).2.1 (DG h).2.2 F (fun x=>(hF x).symm) fun _ _ h=>h⟩
abbrev DH (t:Ty) (y:List t.D×Unit):Option (V×List dI):=ret (nf [.ls t] y) fun v g=>some (v,g)
abbrev DV (t:Ty) (n:Nat) (l:List t.D):Option (V×List dI):=dy ((([]:List t.D)++l).length*n<=2 ^ 40) (DH t (([]:List t.D)++l,())) none
noncomputable def DI (f:FuncId) (fn:Func) (t:Ty) (n:Nat) (F:List t.D->Option (List t.D×Unit)) (h: (Ak P f,ey (jQ fn),Nat.blt f 1048576&&uP (jB ([]:List (zH P))))=(some fn,jB ([]:List (zH P)),true))
  (h1: ∀l,F l=dy (l.length*n<=2 ^ 40) (some (l,())) none)
  (h2: ∀x:ld.D [.ty (.ls t)],CN Θ (vJ (zJ ([]:List (BP P)))) (uI (uO ([]:List (zH P)))) fn (ij [.ty (.ls t)] x) (fun v g=>some (v,g))=B8 x.1 (Av (DH t ([],())) (DV t n x.1) none) (DV t n x.1)):BP P:=
 DU hΘ hm f fn [.ty (.ls t)] [.ls t] (fun x=>F x.1) [] [] h fun x=>by rw[h2,h1];exact (Bi x.1 n (DH t)).symm
end
end
end Go.Proofs.Ytpagmogboinlpaa.En
