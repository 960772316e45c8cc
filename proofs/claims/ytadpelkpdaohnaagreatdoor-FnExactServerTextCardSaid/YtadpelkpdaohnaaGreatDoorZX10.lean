import Derived.Test.YtadpelkpdaohnaaGreatDoorZX9
import Derived.ProofKit
import Derived.ChangeOld
import Derived.Deep.Slices
import Derived.OpenShut
import Derived.Below
import Derived.Carry
import Derived.WideShapes
namespace Go.Proofs.YtadpelkpdaohnaaGreatDoor.En
section
open Go
inductive Sh where
 |int (k:IntKind)|bl|str|ro (t:Ty)|own (r:Nat) (t:Ty)|ptr (n j:Nat)|em|dead|pro (t:Ty)|fc (g:Nat)|sub (r:Nat) (t:Ty)
abbrev Sh.D:Sh->Type
 | .int _=>Int| .bl=>Bool| .str=>ByteArray| .ro t=>List t.D| .pro t=>t.D| .sub _ _=>Nat×Nat| _=>Unit
abbrev ov.D:List Sh->Type
 | [] =>Unit
 |s::l=>s.D×ov.D l
inductive qn where
 |cl (s:Sh)|agg (l:List Sh)|st (n:Sn)|fn (f:FuncId) (l:List Sh)
abbrev qn.D:qn->Type
 | .cl s=>s.D| .agg l=>ov.D l| .st n=>n.D| .fn _ l=>ov.D l
abbrev uo.D:List (Nat×qn)->Type
 | [] =>Unit
 |x::l=>x.2.D×uo.D l
abbrev uq.D:List (List Sh)->Type
 | [] =>Unit
 |x::l=>ov.D x×uq.D l
abbrev md.D:List Ty->Type
 | [] =>Unit
 |t::l=>List t.D×md.D l
structure oC where
 env:List (Nat×qn)
 bx:List (List Sh)
 gh:List Ty
 fz:Nat
 nt:Nat
abbrev oC.D (L:oC):Type:=uo.D L.env×uq.D L.bx×md.D L.gh
def G6 (G:List (Option dM)) (r:Nat):Nat:=match jC G r with |some (some tr)=>tr.l.length| _=>0
def Sh.mk (G:List (Option dM)): (s:Sh)->s.D->Cl
 | .int k,n=> .c (.sc (.int k n))| .bl,v=> .c (.sc (.bool v))| .str,v=> .c (.sc (.string v))| .ro t,l=> .c (.ls t l)
 | .own r t,_=> .own ⟨r,[]⟩ t.width 0 (G6 G r) true| .ptr n j,_=> .ptrB n j| .em,_=> .em| .dead,_=> .dead| .pro t,x=> .pro (t.flat x)| .fc g,_=> .c (.sc (.func (.func g) #[] #[]))| .sub r t,x=> .own ⟨r,[]⟩ t.width x.1 x.2 false
def ov.mk (G:List (Option dM)): (l:List Sh)->ov.D l->List Cl
 | [],_=> []
 |s::l,x=>s.mk G x.1::ov.mk G l x.2
def qn.mk (G:List (Option dM)): (v:qn)->v.D->V
 | .cl s,x=> .v (.cl (s.mk G x))| .agg l,x=> .v (.agg (ov.mk G l x))| .st n,x=> .v (.agg ((n.flat x).map .c))| .fn f l,x=> .v (.fn f (ov.mk G l x))
def uo.mk (G:List (Option dM)): (l:List (Nat×qn))->uo.D l->List (Nat×V)
 | [],_=> []
 |x::l,d=>(x.1,x.2.mk G d.1)::uo.mk G l d.2
def uq.mk (G:List (Option dM)): (l:List (List Sh))->uq.D l->List (List Cl)
 | [],_=> []
 |x::l,d=>ov.mk G x d.1::uq.mk G l d.2
def md.mk: (l:List Ty)->md.D l->List (Option dM)
 | [],_=> []
 |t::l,d=>some ⟨t,d.1,none⟩::md.mk l d.2
def oC.mk' (L:oC) (d:L.D):TS:= { env:=uo.mk (md.mk L.gh d.2.2) L.env d.1,bx:=uq.mk (md.mk L.gh d.2.2) L.bx d.2.1,gh:=md.mk L.gh d.2.2,fz:=L.fz,nt:=L.nt }
section
variable {ρ:Type}
def Sh.un: (s:Sh)->Cl->(s.D->Option ρ)->Option ρ
 | .int k, .c (.sc (.int k' n)),κ=>bif decide (k'=k) then κ n else none
 | .bl, .c (.sc (.bool v)),κ=>κ v
 | .str, .c (.sc (.string v)),κ=>κ v
 | .ro t, .c (.ls t' l),κ=>match nE t' t l with |some l=>κ l|none=>none
 | .own r t, .own p sz _ _ w,κ=>match p.l with | [] =>(bif w&&Nat.beq p.r r&&Nat.beq sz t.width then κ () else none)| _=>none
 | .ptr n i, .ptrB m j,κ=>bif Nat.beq m n&&Nat.beq j i then κ () else none
 | .em, .em,κ=>κ ()
 | .dead, .dead,κ=>κ ()
 | .pro t, .pro xs,κ=>(match t.unflat xs with |some x=>κ x|none=>none)
 | .fc g, .c (.sc (.func (.func g') cs ts)),κ=>bif Nat.beq g' g&&Nat.beq cs.size 0&&Nat.beq ts.size 0 then κ () else none
 | .sub r t, .own p sz lo len w,κ=>match p.l with | [] =>(bif !w&&Nat.beq p.r r&&Nat.beq sz t.width then κ (lo,len) else none)| _=>none
 | _,_,_=>none
def ov.un: (l:List Sh)->List Cl->(ov.D l->Option ρ)->Option ρ
 | [],[],κ=>κ ()
 |s::l,c::cs,κ=>s.un c fun x=>ov.un l cs fun y=>κ (x,y)
 | _,_,_=>none
def qn.un: (v:qn)->V->(v.D->Option ρ)->Option ρ
 | .cl s, .v (.cl c),κ=>s.un c κ
 | .agg l, .v (.agg cs),κ=>ov.un l cs κ
 | .st n, .v (.agg cs),κ=>match v8 cs with |some xs=>(match n.unflat xs with |some x=>κ x|none=>none)|none=>none
 | .fn f l, .v (.fn g cs),κ=>bif Nat.beq f g then ov.un l cs κ else none
 | _,_,_=>none
def uo.un: (l:List (Nat×qn))->List (Nat×V)->(uo.D l->Option ρ)->Option ρ
 | [],[],κ=>κ ()
 |x::l,y::m,κ=>bif Nat.beq x.1 y.1 then x.2.un y.2 fun a=>uo.un l m fun b=>κ (a,b) else none
 | _,_,_=>none
def uq.un: (l:List (List Sh))->List (List Cl)->(uq.D l->Option ρ)->Option ρ
 | [],[],κ=>κ ()
 |x::l,y::m,κ=>ov.un x y fun a=>uq.un l m fun b=>κ (a,b)
 | _,_,_=>none
def md.un: (l:List Ty)->List (Option dM)->(md.D l->Option ρ)->Option ρ
 | [],[],κ=>κ ()
 |t::l,some tr::m,κ=>match tr.hole with
  |none=>(match nE tr.t t tr.l with |some a=>md.un l m fun b=>κ (a,b)|none=>none)
  |some _=>none
 | _,_,_=>none
def oC.un (L:oC) (S:TS) (κ:L.D->Option ρ):Option ρ:=md.un L.gh S.gh fun g=>uo.un L.env S.env fun e=>uq.un L.bx S.bx fun b=>bif Nat.beq S.fz L.fz&&Nat.beq S.nt L.nt then κ (e,b,g) else none
theorem Sh.un_some {G:List (Option dM)} (hG: ∀r,r<G.length-> ∃tr,jC G r=some (some tr)): ∀ {s:Sh} {c:Cl} {κ:s.D->Option ρ} {r:ρ},c.ok G->s.un c κ=some r-> ∃x,c=s.mk G x/\κ x=some r:=by
 intro s c κ r hc h;cases s with
 |int k=>
  cases c with
  |c y=>cases y with
   |sc v=>cases v with
    |int k' n=>simp only[Sh.un] at h;obtain⟨h1,h⟩:=dq h;have:=of_decide_eq_true h1;subst this;exact⟨n,rfl,h⟩
    | _=>simp[Sh.un] at h
   |ls t l=>simp[Sh.un] at h
  | _=>simp[Sh.un] at h
 |bl=>
  cases c with
  |c y=>cases y with
   |sc v=>cases v with
    |bool v=>exact⟨v,rfl,h⟩
    | _=>simp[Sh.un] at h
   |ls t l=>simp[Sh.un] at h
  | _=>simp[Sh.un] at h
 |str=>
  cases c with
  |c y=>cases y with
   |sc v=>cases v with
    |string v=>exact⟨v,rfl,h⟩
    | _=>simp[Sh.un] at h
   |ls t l=>simp[Sh.un] at h
  | _=>simp[Sh.un] at h
 |ro t=>
  cases c with
  |c y=>cases y with
   |sc v=>simp[Sh.un] at h
   |ls t' l=>
    simp only[Sh.un] at h;split at h
    ·rename_i l' hl;obtain⟨e,hl⟩:=eX hl;subst e;simp only at hl;subst hl;exact⟨l,rfl,h⟩
    ·cases h
  | _=>simp[Sh.un] at h
 |own q t=>
  cases c with
  |own p sz lo len w=>
   obtain⟨pr,pl⟩:=p;cases pl with
   |cons a l=>simp[Sh.un] at h
   |nil=>simp only[Sh.un] at h;obtain⟨h1,h'⟩:=dq h;clear h;simp only[an] at h1;obtain⟨⟨h0,h2⟩,h3⟩:=h1;have h2:pr=q:=ao h2;have h3:sz=t.width:=ao h3;subst h0 h2 h3;obtain⟨k1,k2⟩:=hc;obtain⟨_,k3,k4⟩:=k2 rfl;obtain⟨tr,htr⟩:=hG _ k1;have k5:=k4 tr (dM.look htr);refine⟨(),?_,h'⟩;simp only[Sh.mk,G6,k3,k5,htr]
  |c y=>cases y<;>simp[Sh.un] at h
  | _=>simp[Sh.un] at h
 |sub q t=>
  cases c with
  |own p sz lo len w=>
   obtain⟨pr,pl⟩:=p;cases pl with
   |cons a l=>simp[Sh.un] at h
   |nil=>simp only[Sh.un] at h;obtain⟨h1,h'⟩:=dq h;clear h;simp only[an,bH] at h1;obtain⟨⟨h0,h2⟩,h3⟩:=h1;have h2:pr=q:=ao h2;have h3:sz=t.width:=ao h3;subst h0 h2 h3;exact⟨(lo,len),rfl,h'⟩
  |c y=>cases y<;>simp[Sh.un] at h
  | _=>simp[Sh.un] at h
 |ptr n i=>
  cases c with
  |ptrB m j=>simp only[Sh.un] at h;obtain⟨h1,h'⟩:=dq h;clear h;simp only[an] at h1;have h2:=ao h1.1;have h3:=ao h1.2;subst h2 h3;exact⟨(),rfl,h'⟩
  |c y=>cases y<;>simp[Sh.un] at h
  | _=>simp[Sh.un] at h
 |em=>
  cases c with
  |em=>exact⟨(),rfl,h⟩
  |c y=>cases y<;>simp[Sh.un] at h
  | _=>simp[Sh.un] at h
 |dead=>
  cases c with
  |dead=>exact⟨(),rfl,h⟩
  |c y=>cases y<;>simp[Sh.un] at h
  | _=>simp[Sh.un] at h
 |pro t=>
  cases c with
  |pro xs=>
   simp only[Sh.un] at h;split at h
   ·rename_i x hx;exact⟨x,by simp only[Sh.mk]; rw[t.unflat_some _ _ hx],h⟩
   ·cases h
  |c y=>cases y<;>simp[Sh.un] at h
  | _=>simp[Sh.un] at h
 |fc g=>
  unfold Sh.un at h;split at h
  all_goals first | (rename_i hh; cases hh; done)|skip
  all_goals try (rename_i hh _; cases hh; done)
  ·rename_i e;cases e;obtain⟨h1,h'⟩:=dq h;simp only[an] at h1;obtain⟨⟨h1,h2⟩,h3⟩:=h1;have h1:=ao h1;have h2:=cj (ao h2);have h3:=cj (ao h3);exact⟨(),by rw[h1,h2,h3]; rfl,h'⟩
  ·cases h
theorem ov.un_some {G:List (Option dM)} (hG: ∀r,r<G.length-> ∃tr,jC G r=some (some tr)): ∀ {l:List Sh} {cs:List Cl} {κ:ov.D l->Option ρ} {r:ρ},(∀c∈cs,c.ok G)->ov.un l cs κ=some r-> ∃x,cs=ov.mk G l x/\κ x=some r
 | [],[],κ,r,_,h=>⟨(),rfl,h⟩
 |s::l,c::cs,κ,r,hc,h=>by unfold ov.un at h;obtain⟨x,h1,h⟩:=Sh.un_some hG (hc c aG) h;obtain⟨y,h2,h⟩:=ov.un_some hG (fun z hz=>hc z (aB _ hz)) h;exact⟨(x,y),by rw[h1,h2]; rfl,h⟩
 | [],c::cs,κ,r,_,h=>by simp[ov.un] at h
 |s::l,[],κ,r,_,h=>by simp[ov.un] at h
theorem qM: ∀ {cs:List Cl} {xs:List C},v8 cs=some xs->cs=xs.map .c
 | [],xs,h=>by simp only[v8,ae] at h; subst h; rfl
 |c::cs,xs,h=>by
  cases c with
  |c y=>
   simp only[v8] at h;split at h
   ·rename_i r hr;simp only[ae] at h;subst h;rw[qM hr];rfl
   ·cases h
  | _=>simp[v8] at h
theorem qn.un_some {G:List (Option dM)} (hG: ∀r,r<G.length-> ∃tr,jC G r=some (some tr)) {s:qn} {v:V} {κ:s.D->Option ρ} {r:ρ} (hv:v.ok G) (h:s.un v κ=some r): ∃x,v=s.mk G x/\κ x=some r:=by
 cases v with
 |tup l=>cases s<;>simp[qn.un] at h
 |v y=>
  cases s with
  |cl s=>cases y with
   |cl c=>obtain⟨x,h1,h⟩:=Sh.un_some hG hv h;exact⟨x,by rw[h1]; rfl,h⟩
   | _=>simp[qn.un] at h
  |agg l=>cases y with
   |agg cs=>obtain⟨x,h1,h⟩:=ov.un_some hG hv h;exact⟨x,by rw[h1]; rfl,h⟩
   | _=>simp[qn.un] at h
  |st n=>cases y with
   |agg cs=>
    simp only[qn.un] at h;split at h
    ·rename_i xs hxs;split at h
     ·rename_i x hx;exact⟨x,by rw[qM hxs]; simp only[qn.mk]; rw[n.unflat_some _ _ hx],h⟩
     ·cases h
    ·cases h
   | _=>simp[qn.un] at h
  |fn f l=>cases y with
   |fn g cs=>simp only[qn.un] at h;obtain⟨h0,h'⟩:=dq h;clear h;have h0:=ao h0;subst h0;obtain⟨x,h1,h⟩:=ov.un_some hG hv h';exact⟨x,by rw[h1]; rfl,h⟩
   | _=>simp[qn.un] at h
theorem uo.un_some {G:List (Option dM)} (hG: ∀r,r<G.length-> ∃tr,jC G r=some (some tr)): ∀ {l:List (Nat×qn)} {m:List (Nat×V)} {κ:uo.D l->Option ρ} {r:ρ},(∀x∈m,x.2.ok G)->uo.un l m κ=some r-> ∃x,m=uo.mk G l x/\κ x=some r
 | [],[],κ,r,_,h=>⟨(),rfl,h⟩
 |s::l,c::cs,κ,r,hc,h=>by unfold uo.un at h;obtain⟨h0,h⟩:=dq h;have h0:=ao h0;obtain⟨x,h1,h⟩:=qn.un_some hG (hc c aG) h;obtain⟨y,h2,h⟩:=uo.un_some hG (fun z hz=>hc z (aB _ hz)) h;refine⟨(x,y),?_,h⟩;rw[h2];obtain⟨c1,c2⟩:=c;simp only at h0 h1;rw[h1,<-h0];rfl
 | [],c::cs,κ,r,_,h=>by simp[uo.un] at h
 |s::l,[],κ,r,_,h=>by simp[uo.un] at h
theorem uq.un_some {G:List (Option dM)} (hG: ∀r,r<G.length-> ∃tr,jC G r=some (some tr)): ∀ {l:List (List Sh)} {m:List (List Cl)} {κ:uq.D l->Option ρ} {r:ρ},(∀cs∈m,∀c∈cs,c.ok G)->uq.un l m κ=some r-> ∃x,m=uq.mk G l x/\κ x=some r
 | [],[],κ,r,_,h=>⟨(),rfl,h⟩
 |s::l,c::cs,κ,r,hc,h=>by unfold uq.un at h;obtain⟨x,h1,h⟩:=ov.un_some hG (hc c aG) h;obtain⟨y,h2,h⟩:=uq.un_some hG (fun z hz=>hc z (aB _ hz)) h;exact⟨(x,y),by rw[h1,h2]; rfl,h⟩
 | [],c::cs,κ,r,_,h=>by simp[uq.un] at h
 |s::l,[],κ,r,_,h=>by simp[uq.un] at h
theorem md.un_some: ∀ {l:List Ty} {m:List (Option dM)} {κ:md.D l->Option ρ} {r:ρ},md.un l m κ=some r-> ∃x,m=md.mk l x/\κ x=some r
 | [],[],κ,r,h=>⟨(),rfl,h⟩
 |t::l,some tr::m,κ,r,h=>by
  unfold md.un at h;split at h
  ·rename_i hh;split at h
   ·rename_i a ha;obtain⟨e,hl⟩:=eX ha;obtain⟨y,h2,h⟩:=md.un_some h;obtain⟨t',l',hole⟩:=tr;simp only at hh e hl ha;subst hh e;simp only at hl;subst hl;exact⟨(l',y),by rw[h2]; rfl,h⟩
   ·cases h
  ·cases h
 | [],c::cs,κ,r,h=>by simp[md.un] at h
 |t::l,[],κ,r,h=>by simp[md.un] at h
 |t::l,none::m,κ,r,h=>by simp[md.un] at h
theorem md.mk_some: ∀ (l:List Ty) (d:md.D l) (r:Nat),r< (md.mk l d).length-> ∃tr,jC (md.mk l d) r=some (some tr)
 | [],d,r,h=>by simp[md.mk] at h
 |t::l,d,0,h=>⟨_,rfl⟩
 |t::l,d,r+1,h=>by obtain⟨tr,htr⟩:=md.mk_some l d.2 r (by simpa [md.mk] using h);exact⟨tr,htr⟩
theorem oC.un_some {L:oC} {S:TS} (hS:S.ok) {κ:L.D->Option ρ} {r:ρ} (h:L.un S κ=some r): ∃d,S=L.mk' d/\κ d=some r:=by
 unfold oC.un at h;obtain⟨g,h1,h⟩:=md.un_some h;have hG: ∀r,r<S.gh.length-> ∃tr,jC S.gh r=some (some tr):=by rw[h1]; exact md.mk_some _ _
 obtain⟨e,h2,h⟩:=uo.un_some hG hS.env h;obtain⟨b,h3,h⟩:=uq.un_some hG hS.bx h;obtain⟨h4,h⟩:=dq h;simp only[an] at h4;have h5:=ao h4.1;have h6:=ao h4.2;refine⟨(e,b,g),?_,h⟩;obtain⟨env,bx,gh,fz,nt⟩:=S;simp only at h1 h2 h3 h5 h6;subst h5 h6;unfold oC.mk';simp only;rw[<-h1,<-h2,<-h3]
end
end
section
open Go
def Bi (S:TS) (t:Ty):Cl:= .own ⟨S.gh.length,[]⟩ t.width 0 0 true
def Bk (n j:Nat) (t:Ty) (S:TS):TS:=match jC S.bx n with
 |some cs=>(match jC cs j with
  |some .em=> { S with bx:=ed S.bx n (ed cs j (Bi S t)),gh:=S.gh++ [some ⟨t,[],none⟩] }
  | _=>S)
 |none=>S
def Bl (x:Nat) (t:Ty) (S:TS):TS:=match fB S.env x with
 | .v (.cl .em)=> { S with env:=(x, .v (.cl (Bi S t)))::S.env,gh:=S.gh++ [some ⟨t,[],none⟩] }
 | _=>S
theorem Gx: ∀ (l:List (Nat×Nat)),T.go .dd l= .dd
 | [] =>rfl
 | (_,_)::l=>Gx l
theorem G7 (w:Nat) {l:List (Nat×Nat)} {s:Nat} {rs:List (List T)} (h:T.go (.sl w []) l= .sl s rs):rs= [] :=by
 cases l with
 |nil=>cases h; rfl
 |cons a l=>obtain⟨i,j⟩:=a;simp only[T.go,T.cell,List.getD_nil,Gx] at h;cases h
theorem vk {S S':TS} (t:Ty) (henv: ∀u,(fB S'.env u).av=(fB S.env u).av\/((fB S.env u).av= .em/\(fB S'.env u).av= .own ⟨S.gh.length,[]⟩ t.width 0 0))
  (hbx: ∀k cs',S'.st.bx k=some cs'-> ∃cs,S.st.bx k=some cs/\cs'.length=cs.length/\ ∀ (j:Nat) (v:AV),cs'[j]? =some v->cs[j]? =some v\/(cs[j]? =some .em/\v= .own ⟨S.gh.length,[]⟩ t.width 0 0))
  (hgh:S'.gh=S.gh++ [some ⟨t,[],none⟩]) (hfz:S'.fz=S.fz) (hnt:S'.nt=S.nt) (hbl:S'.bx.length=S.bx.length):jK S.st S'.st:=by
 intro w0 W btI SI bt a w hl0;have hl:=hl0.widen (N:=S.gh.length+1) (cG _);have inv:=hl.inv;have hng:S'.st.ng=S.gh.length+1:=by show S'.gh.length=_; rw[hgh]; simp
 have ghS: ∀r,S'.st.gh r=if r=S.gh.length then some (.sl t.width []) else S.st.gh r:=by intro r;show (eh S'.gh r).map dM.tree=_;rw[hgh,iu];split<;>rfl
 have κ0: ∀l,(bt.widen S.st.ng (S.gh.length+1)).κ ⟨S.gh.length,l⟩=0:=by intro l;show (if S.gh.length<S.gh.length then _ else 0)=0;rw[if_neg (dn _)]
 have look: ∀p s rs,S'.st.look p= .sl s rs->(p.r=S.gh.length/\rs= [] /\(bt.widen S.st.ng (S.gh.length+1)).κ p=0)\/(p.r≠S.gh.length/\S.st.look p= .sl s rs):=by
  intro p s rs hp;unfold St.look at hp;rw[ghS] at hp;by_cases hr:p.r=S.gh.length
  ·rw[if_pos hr] at hp;left;refine⟨hr,G7 _ hp,?_⟩;obtain⟨pr,pl⟩:=p;simp only at hr;subst hr;exact κ0 pl
  ·rw[if_neg hr] at hp;exact .inr ⟨hr,hp⟩
 have own0: ∀ {u:Value},VR w (bt.widen S.st.ng (S.gh.length+1)) .em u->VR w (bt.widen S.st.ng (S.gh.length+1)) (.own ⟨S.gh.length,[]⟩ t.width 0 0) u:=by
  intro u hu;cases hu with
  |em ad=>exact .own (cA _) (au _) (bm _) (fun h=>absurd h (dn _))
 refine⟨bt.widen S.st.ng (S.gh.length+1),?_⟩
 refine⟨{ os:=inv.os,tape:=inv.tape,output:=inv.output,size:=inv.size,keep:=inv.keep
          nb:=by show _=S'.bx.length; rw[hbl]; exact inv.nb
          ng:=by rw[hng]; exact inv.ng
          bx:=fun n cells hn=> ?_
          gh:=fun r x hr=> ?_
          tr:=fun p sz rows hp=> ?_
          inj:=fun p q s rs s' rs' hp hq hk hk' he=> ?_
          bbinj:=fun n m cs cs' hn hm he=> ?_
          bbtr:=fun n cs p s rs hn hp hk=> ?_
          alt:=inv.alt
          atr:=fun p s rs hp hk=> ?_
          abb:=fun n cs hn=> ?_ },⟨?_,fun u=> ?_⟩,hl.defers,?_,?_,hl.keep,fun r hr hn=> ?_⟩
 ·obtain⟨cs,h1,h2,h3⟩:=hbx n cells hn;obtain⟨g1,g2,arr,e,g3,g4,g5⟩:=inv.bx n cs h1;refine⟨by show n<S'.bx.length; rw[hbl]; exact g1,g2,arr,e,g3,by rw[h2]; exact g4,fun j v hj=> ?_⟩;rcases h3 j v hj with h4| ⟨h4,rfl⟩
  ·exact g5 j v h4
  ·obtain⟨c,k1,k2,k3⟩:=g5 j .em h4;exact⟨c,k1,own0 k2,k3⟩
 ·rw[hng];rw[ghS] at hr;split at hr
  ·omega
  ·have:=inv.gh r x hr;exact this
 ·rcases look p sz rows hp with ⟨h1,rfl,h3⟩| ⟨h1,h2⟩
  ·exact⟨bm _,fun hk=>by omega⟩
  ·exact inv.tr p sz rows h2
 ·rcases look p s rs hp with ⟨h1,_,h3⟩| ⟨h1,h2⟩
  ·omega
  ·rcases look q s' rs' hq with ⟨g1,_,g3⟩| ⟨g1,g2⟩
   ·omega
   ·exact inv.inj _ _ _ _ _ _ h2 g2 hk hk' he
 ·obtain⟨c,h1,_,_⟩:=hbx n cs hn;obtain⟨c',g1,_,_⟩:=hbx m cs' hm;exact inv.bbinj _ _ _ _ h1 g1 he
 ·obtain⟨c,h1,_,_⟩:=hbx n cs hn;rcases look p s rs hp with ⟨_,_,h3⟩| ⟨_,h2⟩
  ·omega
  ·exact inv.bbtr _ _ _ _ _ h1 h2 hk
 ·rcases look p s rs hp with ⟨_,_,h3⟩| ⟨_,h2⟩
  ·omega
  ·exact inv.atr _ _ _ h2 hk
 ·obtain⟨c,h1,_,_⟩:=hbx n cs hn;exact inv.abb _ _ h1
 ·have:=hl.er.1;show _=S'.nt;rw[hnt];exact this
 ·have h1:=hl.er.2 u;show VR w _ (fB S'.env u).av _;rcases henv u with h2| ⟨h2,h3⟩
  ·rw[h2]; exact h1
  ·rw[h3];have h1':VR w (bt.widen S.st.ng (S.gh.length+1)) (fB S.env u).av (a.tmps.getD u undef):=h1;rw[h2] at h1';exact own0 h1'
 ·show S'.fz=_;rw[hfz];exact hl.fz
 ·show S'.fz<=S'.gh.length;have:=hl.fzng;have e:S.fz<=S.gh.length+1:=this;have e2:S.st.fz<=S.st.ng:=hl0.fzng;have e3:S.fz<=S.gh.length:=e2;rw[hfz,hgh];simp;omega
 ·refine hl.gone r hr ?_;rw[ghS] at hn;split at hn
  ·cases hn
  ·exact hn
theorem yx (S:TS) (t:Ty): (Bi S t).ok (S.gh++ [some ⟨t,[],none⟩]):=by refine⟨by simp,fun _=>⟨rfl,rfl,fun tr htr=> ?_⟩⟩;rw[iu,if_pos rfl] at htr;cases htr;rfl
theorem Eb {S:TS} (hS:S.ok) (x:Nat) (t:Ty):jK S.st (Bl x t S).st/\(Bl x t S).ok:=by
 unfold Bl;split
 ·rename_i hx;refine⟨vk t (fun u=> ?_) (fun k cs' h=>⟨cs',h,rfl,fun j v hv=> .inl hv⟩) rfl rfl rfl rfl,⟨fun y hy=> ?_,fun cs hcs c hc=>Cl.ok_mono (fr.app _ _) (hS.bx cs hcs c hc)⟩⟩
  ·simp only[fB];cases hb:Nat.beq x u with
   |true=>have :x=u:=ao hb;subst this;right;rw[hx];exact⟨rfl,rfl⟩
   |false=>exact .inl rfl
  ·rcases aX.1 hy with rfl|hy
   ·exact yx S t
   ·exact V.ok_mono (fr.app _ _) (hS.env y hy)
 ·exact⟨jK.refl,hS⟩
theorem Ec {S:TS} (hS:S.ok) (n j:Nat) (t:Ty):jK S.st (Bk n j t S).st/\(Bk n j t S).ok:=by
 unfold Bk;split
 ·rename_i cs hcs;split
  ·rename_i hj;rw[ew] at hcs hj;have hn:=(ai.1 hcs).1;refine⟨vk t (fun u=> .inl rfl) (fun k cs' h=> ?_) rfl rfl rfl (by simp[eV]),⟨fun y hy=>V.ok_mono (fr.app _ _) (hS.env y hy),fun cs' hcs' c hc=> ?_⟩⟩
   ·have h': (jC (ed S.bx n (ed cs j (Bi S t))) k).map (fun cs=>cs.map Cl.av)=some cs':=h;rw[ew,eV,eV,bo] at h';by_cases hk:n=k
    ·subst hk;rw[if_pos rfl,if_pos hn] at h';simp only[ax,ae] at h';subst h';refine⟨cs.map Cl.av,by show (jC S.bx n).map _=_; rw[ew,hcs]; rfl,by simp,fun i v hv=> ?_⟩;rw[al,bo] at hv;by_cases hi:j=i
     ·subst hi;rw[if_pos rfl,if_pos (ai.1 hj).1] at hv;right;rw[al,hj];simp only[ax,ae] at hv;exact⟨rfl,hv.symm⟩
     ·rw[if_neg hi] at hv;left;rw[al];exact hv
    ·rw[if_neg hk] at h';exact⟨cs',by show (jC S.bx k).map _=_; rw[ew]; exact h',rfl,fun i v hv=> .inl hv⟩
   ·simp only[eV] at hcs';rcases cR hcs' with h1|h1
    ·exact Cl.ok_mono (fr.app _ _) (hS.bx _ h1 c hc)
    ·subst h1;rcases cR hc with h2|h2
     ·exact Cl.ok_mono (fr.app _ _) (hS.bx _ (ap hcs) c h2)
     ·subst h2;exact yx S t
  ·exact⟨jK.refl,hS⟩
 ·exact⟨jK.refl,hS⟩
inductive Af where
 |t (x:Nat) (t:Ty)
 |b (n j:Nat) (t:Ty)
def ow:List Af->TS->TS
 | [],S=>S
 | .t x t::l,S=>ow l (Bl x t S)
 | .b n j t::l,S=>ow l (Bk n j t S)
theorem pu: ∀ (l:List Af) {S:TS},S.ok->jK S.st (ow l S).st/\(ow l S).ok
 | [],S,hS=>⟨jK.refl,hS⟩
 | .t x t::l,S,hS=>by obtain⟨h1,h2⟩:=Eb hS x t;obtain⟨h3,h4⟩:=pu l h2;exact⟨h1.trans h3,h4⟩
 | .b n j t::l,S,hS=>by obtain⟨h1,h2⟩:=Ec hS n j t;obtain⟨h3,h4⟩:=pu l h2;exact⟨h1.trans h3,h4⟩
section
variable {P:Program} {Θ:jE} {Y:qm} {Λ:lW}
def yy {ρ:Type} (keepN keepX:List Nat) (κ:X->TS->Option ρ) (x:X) (S:TS):Option ρ:=match x with
 | .nor=>qK keepN S (κ .nor)
 |x=>qK keepX S (κ x)
def Ed {σ ε:Type} (G:σ->Option ε) (μ:σ->Nat) (s:σ) (e:ε):Option (σ⊕ε)->Prop
 |some (.inl s')=>μ s'<μ s/\G s'=some e
 |some (.inr e')=>e'=e
 |none=>False
theorem FP (hΘ:eD P Θ) (hY:iJ P Y) (hm:P.follows .mixedOrders=true) {c:Code} (hc:gJ P c=true) (hL:fR P Λ (ez c)) {σ ε:Type} {H:σ->TS} {E:ε->X×TS} {B:σ->Option (σ⊕ε)} {keepN keepX:List Nat}
  (hH: ∀s,(H s).ok) (hstep: ∀s,pQ Θ Y Λ c (H s) (yy keepN keepX fun x S=>some (x,S))=(B s).bind (Sum.elim (fun s'=>some (.nor,H s')) fun e=>some (E e)))
  (hE: ∀e,(E e).1≠ .nor) {G:σ->Option ε} {μ:σ->Nat} (hG: ∀s e,G s=some e->Ed G μ s e (B s))
  {s:σ} {e:ε} (hs:G s=some e):kw P (.loop c) (H s).st (fun x S'=>x=(E e).1/\S'=(E e).2.st):=by
 refine kw.loop (fun n X=> ∃s,X=(H s).st/\G s=some e/\μ s=n) (fun n X hX=> ?_) (n:=μ s) ⟨s,rfl,hs,rfl⟩;obtain⟨s,rfl,hs,rfl⟩:=hX;have hg:=hG s e hs;have hst:=hstep s;cases hB:B s with
 |none=>rw[hB] at hg; exact hg.elim
 |some l=>
  rw[hB] at hg hst;cases l with
  |inl s'=>
   simp only[af,cU] at hst;refine (rV hΘ hY hm c _ _ _ hc hL (hH s) hst).mono (fun x S' hx=> ?_);obtain⟨S1,rfl,h1,h2⟩:=hx
   have fb: ∃S2:TS,jK S1.st S2.st/\x= .nor/\S2=H s':=by
    unfold yy at h2;split at h2
    ·obtain⟨S2,k1,_,k2⟩:=mB h1 h2;simp only[ae,am] at k2;exact⟨S2,k1,rfl,k2.2⟩
    ·obtain⟨S2,k1,_,k2⟩:=mB h1 h2;simp only[ae,am] at k2;exact⟨S2,k1,k2.1,k2.2⟩
   obtain⟨S2,k1,rfl,rfl⟩:=fb;exact⟨_,k1,μ s',hg.1,s',rfl,hg.2,rfl⟩
  |inr e'=>
   simp only[af,cW] at hst;have hg:e'=e:=hg;subst hg;refine (rV hΘ hY hm c _ _ _ hc hL (hH s) hst).mono (fun x S' hx=> ?_);obtain⟨S1,rfl,h1,h2⟩:=hx
   have fb: ∃S2:TS,jK S1.st S2.st/\(x,S2)=E e':=by
    unfold yy at h2;split at h2
    ·obtain⟨S2,k1,_,k2⟩:=mB h1 h2;exact⟨S2,k1,Option.some.inj k2⟩
    ·obtain⟨S2,k1,_,k2⟩:=mB h1 h2;exact⟨S2,k1,Option.some.inj k2⟩
   obtain⟨S2,k1,k2⟩:=fb;refine⟨S2.st,k1,?_⟩;have hx:x=(E e').1:=congrArg Prod.fst k2;have hS2:S2=(E e').2:=congrArg Prod.snd k2;have hne:=hE e';rw[<-hx] at hne;cases x with
   |nor=>exact absurd rfl hne
   |ret=>exact⟨hx,by rw[hS2]⟩
   |ext i=>exact⟨hx,by rw[hS2]⟩
def Ee (grow:List Af) (keep:List Nat) (L:oC) {ε:Type} (E:ε->X×TS) (G:L.D->Option ε):TS->(ρ:Type)->(X->TS->Option ρ)->Option ρ:=
 fun S _ κ=>qK keep (ow grow S) fun S1=>L.un S1 fun s=>(G s).bind fun e=>κ (E e).1 (E e).2
theorem Ef {c:Code} {grow:List Af} {keep:List Nat} {L:oC} {ε:Type} {E:ε->X×TS} {G:L.D->Option ε} (hE: ∀e,(E e).2.ok)
  (h: ∀s e,G s=some e->kw P (.loop c) (L.mk' s).st (fun x S'=>x=(E e).1/\S'=(E e).2.st)) {S:TS} {ρ:Type} {κ:X->TS->Option ρ} {r:ρ} (hS:S.ok) (hk:Ee grow keep L E G S ρ κ=some r):
  kw P (.loop c) S.st (fun x S'=> ∃S1:TS,S'=S1.st/\S1.ok/\κ x S1=some r):=by
 unfold Ee at hk;obtain⟨h1,h2⟩:=pu grow hS;obtain⟨S1,h3,h4,hk⟩:=mB h2 hk;obtain⟨s,rfl,hk2⟩:=oC.un_some h4 hk;obtain⟨e,h5,hk3⟩:=aj.1 hk2;refine kw.weak (h1.trans h3) ((h s e h5).mono (fun x S' hx=> ?_));obtain⟨rfl,rfl⟩:=hx;exact⟨_,jK.refl,_,rfl,hE e,hk3⟩
end
end
section
open Go
abbrev ky.D:List Ty->Type
 | [] =>Unit
 |t::l=>t.D×ky.D l
def kb: (l:List Ty)->ky.D l->List ((t:Ty)×t.D)
 | [],_=> []
 |t::l,x=>⟨t,x.1⟩::kb l x.2
def vl (P:Program) (f:FuncId) (e:Dz):Prop:= ∀args ρ κ r,e args ρ κ=some r-> ∃res out,ri P f args res out/\res.ok (out.map some)/\κ res out=some r
theorem FQ (P:Program):iJ P (wb []):=fun _ _ _ _ _ h=>by cases h
theorem Eg {P:Program} {f:FuncId} {e:Dz} {l:List (Nat×Dz)} (h:vl P f e) (hl:iJ P (wb l)):iJ P (wb ((f,e)::l)):=by
 intro g args ρ κ r hr;have hr: (bif Nat.beq f g then e args ρ κ else G1 l g args ρ κ)=some r:=hr;cases hb:Nat.beq f g with
 |true=>rw[hb] at hr;have:=ao hb;subst this;exact h args ρ κ r hr
 |false=>rw[hb] at hr;exact hl g args ρ κ r hr
def Bm (as bs:List AV):Prop:=as.length=bs.length/\ ∀ (k:Nat) (a b:AV),as[k]? =some a->bs[k]? =some b->a=b\/(a= .em/\ ∃s,b= .ro s [])
theorem Bm.refl (as:List AV):Bm as as:=⟨rfl,fun k a b h1 h2=>by rw[h1] at h2; cases h2; exact .inl rfl⟩
theorem Bm.cons {a b:AV} {as bs:List AV} (h:a=b\/(a= .em/\ ∃s,b= .ro s [])) (hn:Bm as bs):Bm (a::as) (b::bs):=
 ⟨by simp[hn.1],fun k x y h1 h2=>by
  cases k with
  |zero=>simp only[aD,ae] at h1 h2; subst h1 h2; exact h
  |succ k=>exact hn.2 k x y (by simpa using h1) (by simpa using h2)⟩
theorem Bm.VR {as bs:List AV} (hn:Bm as bs) {w:World} {bt:Bt} {vals:List Value} (h: ∀ (k:Nat) (v:AV) (u:Value),as[k]? =some v->vals[k]? =some u->VR w bt v u) (k:Nat) (v:AV) (u:Value) (hv:bs[k]? =some v) (hu:vals[k]? =some u):VR w bt v u:=by
 have hk:k<as.length:=by rw[hn.1]; exact (ai.1 hv).1
 have ha:=ah hk;have hx:=h k _ u ha hu;rcases hn.2 k _ v ha hv with e| ⟨e,s,rfl⟩
 ·rw[<-e]; exact hx
 ·rw[e] at hx;cases hx with
  |em b=>exact .ro (.em _ _ _)
theorem ku.norm {P:Program} {f:FuncId} {as bs:List AV} {gs:List T} {res:AV} {out:List T} (hn:Bm as bs) (h:ku P f bs gs res out):ku P f as gs res out:=
 fun w W bt0 vals hI hl hv=>h w W bt0 vals hI (hl.trans hn.1) (hn.VR hv)
theorem jq.norm {P:Program} {f:FuncId} {as bs:List AV} {gs:List T} {m:Nat} {res:AV} {out:List T} (hn:Bm as bs) (h:jq P f bs gs m res out):jq P f as gs m res out:=
 fun w W bt0 vals hI hl hv=>h w W bt0 vals hI (hl.trans hn.1) (hn.VR hv)
theorem un_some {ρ:Type} {t:Ty} {a:V1} {κ:t.D->Option ρ} {r:ρ} (h:un t a κ=some r): ∃x,a=wc t x/\κ x=some r:=by
 unfold un at h;split at h
 ·rename_i cs;obtain⟨h1,h⟩:=dq h;split at h
  ·rename_i xs hxs;split at h
   ·rename_i x hx;refine⟨x,?_,h⟩;unfold wc;rw[h1,t.unflat_some _ _ hx,qM hxs];rfl
   ·cases h
  ·cases h
 ·rename_i y;cases hag:t.ag with
  |true=>rw[hag] at h; cases h
  |false=>
   rw[hag] at h;simp only[cond_false] at h;split at h
   ·rename_i x hx;refine⟨x,?_,h⟩;unfold wc;rw[hag,t.unflat_some _ _ hx];rfl
   ·cases h
 ·cases h
theorem G8 (t:Ty) (x:t.D): (wc t x).ok [] :=by
 unfold wc;cases t.ag with
 |true=>intro c hc;obtain⟨y,_,rfl⟩:=aH.1 hc;trivial
 |false=>
  simp only[cond_false];split
  ·rename_i c hc;have :c∈(t.flat x).map Cl.c:=by rw[hc]; exact ay.2 rfl
   obtain⟨y,_,rfl⟩:=aH.1 this;trivial
  ·trivial
theorem wo (pre suf:List dM): ∀ (cs:List C) (mid:List dM),∀c∈pj cs (pre.length+mid.length),c.ok ((pre++mid++kO cs++suf).map some)
 | [],mid,c,h=>by cases h
 | .sc v::cs,mid,c,h=>by
   rcases aX.1 h with rfl|h
   ·trivial
   ·exact wo pre suf cs mid c h
 | .ls t l::cs,mid,c,h=>by
   rcases aX.1 h with rfl|h
   ·refine⟨by simp[kO],fun _=>⟨rfl,rfl,fun tr htr=> ?_⟩⟩
    have :eh ((pre++mid++kO (.ls t l::cs)++suf).map some) (pre.length+mid.length)=some ⟨t,l,none⟩:=by unfold eh;rw[ew,al,aP,aO (by simp)];simp[kO]
    have htr':eh ((pre++mid++kO (.ls t l::cs)++suf).map some) (pre.length+mid.length)=some tr:=htr;rw[this] at htr';cases htr';rfl
   ·have:=wo pre suf cs (mid++ [⟨t,l,none⟩]) c (by rw[bw,<-c6]; exact h);simp only[kO];simpa using this
theorem FR (t:Ty) (x:t.D) (pre suf:List dM): (B9 t x pre.length).ok ((pre++kO (t.flat x)++suf).map some):=by
 have fb:=wo pre suf (t.flat x) [];simp only[bE,b6,bq] at fb;unfold B9;cases t.ag with
 |true=>exact fb
 |false=>
  simp only[cond_false];split
  ·rename_i c hc;exact fb c (by rw[hc]; exact ay.2 rfl)
  ·trivial
theorem tp: ∀ (l:List ((t:Ty)×t.D)) (pre:List dM),∀v∈pS pre.length l,v.ok ((pre++nG l).map some)
 | [],pre,v,h=>by cases h
 | ⟨t,x⟩::l,pre,v,h=>by
   rcases aX.1 h with rfl|h
   ·have:=FR t x pre (nG l);simpa [nG] using this
   ·have:=tp l (pre++kO (t.flat x)) v (by rw[bw]; exact h);simpa [nG] using this
theorem wq (l:List ((t:Ty)×t.D)): (pR (pS 0 l)).ok ((nG l).map some):=by
 have h:=tp l [];simp only[bE,bB] at h
 match pS 0 l,h with
 | [],_=>exact fun x hx=>by cases hx
 | [v],h=>exact h v aG
 |v::u::vs,h=>exact h
end
section
open Go
def Sh.fit (n:Nat):Sh->Bool| .own r _=>Nat.blt r n| .sub r _=>Nat.blt r n| _=>true
def qn.fit (n:Nat):qn->Bool| .cl s=>s.fit n| .agg l=>l.all (Sh.fit n)| .st _=>true| .fn _ l=>l.all (Sh.fit n)
def oC.fit (L:oC):Bool:=L.env.all (fun x=>x.2.fit L.gh.length)&&L.bx.all (fun l=>l.all (Sh.fit L.gh.length))
theorem md.mk_length: ∀ (l:List Ty) (d:md.D l),(md.mk l d).length=l.length
 | [],_=>rfl
 |t::l,d=>by simp[md.mk,md.mk_length l d.2]
theorem Sh.mk_ok {G:List (Option dM)} {s:Sh} (h:s.fit G.length=true) (x:s.D): (s.mk G x).ok G:=by
 cases s with
 |own r t=>
  refine⟨aw h,fun _=>⟨rfl,rfl,fun tr htr=> ?_⟩⟩;unfold eh at htr;unfold G6;have htr': (jC G r).getD none=some tr:=htr;cases hn:jC G r with
  |none=>rw[hn] at htr'; cases htr'
  |some y=>rw[hn] at htr'; simp only[aI] at htr'; subst htr'; rfl
 |sub r t=>exact⟨aw h,fun e=>by cases e⟩
 | _=>trivial
theorem ov.mk_ok {G:List (Option dM)}: ∀ {l:List Sh},l.all (Sh.fit G.length)=true-> ∀ (x:ov.D l),∀c∈ov.mk G l x,c.ok G
 | [],_,x,c,hc=>by cases hc
 |s::l,h,x,c,hc=>by
  simp only[b8,an] at h;rcases aX.1 hc with rfl|hc
  ·exact Sh.mk_ok h.1 x.1
  ·exact ov.mk_ok h.2 x.2 c hc
theorem qn.mk_ok {G:List (Option dM)} {v:qn} (h:v.fit G.length=true) (x:v.D): (v.mk G x).ok G:=by
 cases v with
 |cl s=>exact Sh.mk_ok h x
 |agg l=>exact ov.mk_ok h x
 |st n=>intro c hc;obtain⟨y,_,rfl⟩:=aH.1 hc;trivial
 |fn f l=>exact ov.mk_ok h x
theorem oC.mk'_ok {L:oC} (h:L.fit=true) (d:L.D): (L.mk' d).ok:=by
 unfold oC.fit at h;simp only[an] at h;have hlen: (md.mk L.gh d.2.2).length=L.gh.length:=md.mk_length _ _;rw[<-hlen] at h
 have env: ∀ {l:List (Nat×qn)},l.all (fun x=>x.2.fit (md.mk L.gh d.2.2).length)=true-> ∀ (e:uo.D l),∀x∈uo.mk (md.mk L.gh d.2.2) l e,x.2.ok (md.mk L.gh d.2.2):=by
  intro l
  induction l with
  |nil=>intro _ e x hx; cases hx
  |cons y l ih=>
   intro h e x hx;simp only[b8,an] at h;rcases aX.1 hx with rfl|hx
   ·exact qn.mk_ok h.1 e.1
   ·exact ih h.2 e.2 x hx
 have bxs: ∀ {l:List (List Sh)},l.all (fun l=>l.all (Sh.fit (md.mk L.gh d.2.2).length))=true-> ∀ (e:uq.D l),∀cs∈uq.mk (md.mk L.gh d.2.2) l e,∀c∈cs,c.ok (md.mk L.gh d.2.2):=by
  intro l
  induction l with
  |nil=>intro _ e x hx; cases hx
  |cons y l ih=>
   intro h e x hx;simp only[b8,an] at h;rcases aX.1 hx with rfl|hx
   ·exact ov.mk_ok h.1 e.1
   ·exact ih h.2 e.2 x hx
 exact⟨env h.1 d.1,bxs h.2 d.2.1⟩
abbrev pZ.D:List (X×oC)->Type
 | [] =>Empty
 | [x] =>x.2.D
 |x::y::l=>x.2.D⊕pZ.D (y::l)
def pZ.k {R:Type}: (l:List (X×oC))->pZ.D l->(X->TS->R)->R
 | [],e,_=>e.elim
 | [x],d,κ=>κ x.1 (x.2.mk' d)
 |x::y::l,e,κ=>Sum.elim (fun d=>κ x.1 (x.2.mk' d)) (fun e=>pZ.k (y::l) e κ) e
def pZ.e (l:List (X×oC)) (d:pZ.D l):X×TS:=pZ.k l d Prod.mk
theorem pZ.k_eq {R:Type}: ∀ (l:List (X×oC)) (d:pZ.D l) (κ:X->TS->R),pZ.k l d κ=κ (pZ.e l d).1 (pZ.e l d).2
 | [],e,_=>e.elim
 | [_],_,_=>rfl
 | _::_::_, .inl _,_=>rfl
 | _::y::l, .inr e,κ=>pZ.k_eq (y::l) e κ
def HS (x:X×oC):Bool:=(match x.1 with | .nor=>false| _=>true)&&x.2.fit
theorem pZ.ok: ∀ (l:List (X×oC)) (d:pZ.D l),l.all HS=true->(pZ.e l d).1≠ .nor/\(pZ.e l d).2.ok
 | [],e,_=>e.elim
 | [x],d,h=>by simp only[b8,an,HS] at h;refine⟨fun e=> ?_,oC.mk'_ok h.1.2 d⟩;have e:x.1= .nor:=e;rw[e] at h;cases h.1.1
 |x::_::_, .inl d,h=>by simp only[b8,an,HS] at h;refine⟨fun e=> ?_,oC.mk'_ok h.1.2 d⟩;have e:x.1= .nor:=e;rw[e] at h;cases h.1.1
 | _::y::l, .inr e,h=>pZ.ok (y::l) e (by simp only[b8,an] at h ⊢;exact h.2)
def Eh (grow:List Af) (keep:List Nat) (L:oC) (exs:List (X×oC)) (G:L.D->Option (pZ.D exs)):TS->(ρ:Type)->(X->TS->Option ρ)->Option ρ:=
 fun S _ κ=>qK keep (ow grow S) fun S1=>L.un S1 fun s=>(G s).bind fun e=>pZ.k exs e κ
abbrev Bn:=TS->(ρ:Type)->(X->TS->Option ρ)->Option ρ
def ur:List (Nat×Bn)->lW
 | [],_,_,_,_=>none
 | (q,e)::l,n,S,ρ,κ=>bif Nat.beq q n then e S ρ κ else ur l n S ρ κ
section
variable {P:Program} {Θ:jE} {Y:qm} {Λ:lW}
def Ei (P:Program) (c:Code) (e:Bn):Prop:= ∀ (S:TS) (ρ:Type) (κ:X->TS->Option ρ) (r:ρ),S.ok->e S ρ κ=some r->kw P (.loop c) S.st (fun x S'=> ∃S1:TS,S'=S1.st/\S1.ok/\κ x S1=some r)
theorem Ej (hΘ:eD P Θ) (hY:iJ P Y) (hm:P.follows .mixedOrders=true) {c:Code} (hc:gJ P c=true) (hL:fR P Λ (ez c)) (grow:List Af) (keep keepX:List Nat) (L:oC) (exs:List (X×oC)) (hf: (L.fit&&exs.all HS)=true)
  (B:L.D->Option (L.D⊕pZ.D exs)) (hB: ∀s,pQ Θ Y Λ c (L.mk' s) (yy keep keepX fun x S=>some (x,S))=(B s).bind (Sum.elim (fun s'=>some (.nor,L.mk' s')) fun e=>some (pZ.e exs e)))
  (G:L.D->Option (pZ.D exs)) (μ:L.D->Nat) (hG: ∀s e,G s=some e->Ed G μ s e (B s)):Ei P c (Eh grow keep L exs G):=by
 simp only[an] at hf;intro S ρ κ r hS hk;refine Ef (E:=pZ.e exs) (fun e=>(pZ.ok exs e hf.2).2) (fun s e hs=>FP hΘ hY hm hc hL (fun s=>oC.mk'_ok hf.1 s) hB (fun e=>(pZ.ok exs e hf.2).1) hG hs) hS ?_ (grow:=grow) (keep:=keep);rw[<-hk];unfold Ee Eh;simp only[pZ.k_eq]
end
end
section
open Go
def FS (P:Program) (e:TypeId->List Value->Bool):List Field->Nat->List Value->Bool
 | [],_,[] =>true
 | [],_,_::_=>false
 |f::fs,off,zs=>f.name != "_" &&Nat.beq f.offset off&&Nat.blt 0 (P.cellsOf f.type)&&Nat.ble (P.cellsOf f.type) zs.length&&(P.info? f.type).isSome&&e f.type (zs.take (P.cellsOf f.type))&&FS P e fs (off+P.cellsOf f.type) (zs.drop (P.cellsOf f.type))
def yz (P:Program):Nat->TypeId->List Value->Bool
 | 0,_,_=>false
 |n+1,t,zs=>match P.underlying t with
  |some .bool=>(match zs with | [.bool _] =>true| _=>false)
  |some (.int _)=>(match zs with | [.int _ _] =>true| _=>false)
  |some (.struct fs)=> !P.stoodInHeld t&&FS P (yz P n) fs.toList 0 zs
  | _=>false
def ut (P:Program) (t:TypeId) (xs:List Value):Value:=match P.underlying t with
 |some (.struct _)=> .agg xs.toArray
 | _=>xs.headD (.bool false)
def ic:List Value->List Value->Bool
 | [],[] =>true
 | .int k _::zs, .int k' _::cs=>bif decide (k=k') then ic zs cs else false
 | .bool _::zs, .bool _::cs=>ic zs cs
 | _,_=>false
def iv:List Value->List Value->Option Bool
 | [],[] =>some true
 |a::l,b::m=>match xT a b,iv l m with
  |some x,some y=>some (x&&y)
  | _,_=>none
 | _,_=>none
theorem tu: ∀ {zs xs:List Value},ig zs (xs.map fun x=> .c (.sc x))=true->ic zs xs=true:=by
 intro zs
 induction zs with
 |nil=>intro xs h; cases xs with
  |nil=>rfl
  |cons=>simp[ig] at h
 |cons z zs ih=>
  intro xs h;cases xs with
  |nil=>cases z<;>simp[ig] at h
  |cons x xs=>
   cases z<;>cases x<;>simp only[aL,ig,ic,cond_eq_ite,aU] at h ⊢
   ·exact ih h
   ·split at h
    ·rename_i hk;rw[if_pos hk];exact ih h
    ·cases h
theorem Cm: ∀ {xs ys:List Value},of (xs.map fun x=> .c (.sc x)) (ys.map fun x=> .c (.sc x))=iv xs ys:=by
 intro xs
 induction xs with
 |nil=>intro ys; cases ys<;>rfl
 |cons x xs ih=>
  intro ys;cases ys with
  |nil=>rfl
  |cons y ys=>simp only[aL,of,iv,ih];cases xT x y<;>cases iv xs ys<;>rfl
theorem kP: ∀ {zs xs:List Value},ic zs xs=true->xs.length=zs.length:=by
 intro zs
 induction zs with
 |nil=>intro xs h; cases xs with
  |nil=>rfl
  |cons=>simp[ic] at h
 |cons z zs ih=>
  intro xs h;cases xs with
  |nil=>cases z<;>simp[ic] at h
  |cons x xs=>
   cases z<;>cases x<;>simp only[ic,cond_eq_ite,aU] at h
   ·simp[ih h]
   ·split at h
    ·simp[ih h]
    ·cases h
theorem mX: ∀ {zs xs:List Value} (n:Nat),ic zs xs=true->ic (zs.take n) (xs.take n)=true/\ic (zs.drop n) (xs.drop n)=true:=by
 intro zs
 induction zs with
 |nil=>intro xs n h; cases xs with
  |nil=>simp[ic]
  |cons=>simp[ic] at h
 |cons z zs ih=>
  intro xs n h;cases xs with
  |nil=>cases z<;>simp[ic] at h
  |cons x xs=>
   cases n with
   |zero=>exact⟨rfl,h⟩
   |succ n=>
    cases z<;>cases x<;>simp only[ic,cond_eq_ite,aU] at h
    ·exact ih n h
    ·split at h
     ·rename_i hk;refine⟨?_,(ih n h).2⟩;simp only[List.take_succ_cons,ic,cond_eq_ite];rw[if_pos (by simpa using hk)];exact (ih n h).1
     ·cases h
theorem wt: ∀ {xs ys:List Value} (n:Nat) {r:Bool},iv xs ys=some r-> ∃a b,iv (xs.take n) (ys.take n)=some a/\iv (xs.drop n) (ys.drop n)=some b/\r=(a&&b):=by
 intro xs
 induction xs with
 |nil=>intro ys n r h; cases ys with
  |nil=>cases h; exact⟨true,true,by simp[iv],by simp[iv],rfl⟩
  |cons=>simp[iv] at h
 |cons x xs ih=>
  intro ys n r h;cases ys with
  |nil=>simp[iv] at h
  |cons y ys=>
   cases n with
   |zero=>exact⟨true,r,rfl,h,rfl⟩
   |succ n=>
    simp only[iv] at h;split at h
    ·rename_i p q hp hq;cases h;obtain⟨a,b,h1,h2,rfl⟩:=ih n hq;exact⟨p&&a,b,by simp[iv,hp,h1],h2,by cases p<;>rfl⟩
    ·cases h
theorem wu {P:Program} {t:TypeId} {i:TypeInfo} (h:P.info? t=some i):dB P (typeInfo t)=some i:=by simp only[typeInfo,dy,program,dB,af,h];rfl
theorem yA {P:Program} {t:TypeId} {i:TypeInfo} (hi:P.info? t=some i) {d:TypeDesc} (hd:P.underlying t=some d) (hs: ∀n e,d≠ .array n e) {xs:List Value} {off:Nat} {c:Value} (hc:xs[off]? =some c):
  dB P (part t xs.toArray off)=some (ut P t ((xs.drop off).take (P.cellsOf t)))\/P.cellsOf t=0:=by
 by_cases h0:P.cellsOf t=0
 ·exact .inr h0
 refine .inl ?_;have hcell:P.cellsOf t=i.size:=by simp[Program.cellsOf,hi]
 cases hst: (match d with | .struct _=>true| _=>false) with
 |true=>
  have hag:dB P (isAgg t)=some true:=by simp only[isAgg,dy,ei hd,af];cases d<;>simp at hst;rfl
  simp only[part,sizeOf,dy,hag,af,if_true,wu hi,dC,ut,hd];cases d<;>simp at hst;simp[hcell,Nat.add_sub_cancel_left]
 |false=>
  have hag:dB P (isAgg t)=some false:=by
   simp only[isAgg,dy,ei hd,af];cases d<;>simp at hst
   all_goals first |rfl|exact absurd rfl (hs _ _)
  have hv:ut P t ((xs.drop off).take (P.cellsOf t))=c:=by
   have : ((xs.drop off).take (P.cellsOf t)).headD (.bool false)=c:=by
    obtain⟨n,hn⟩: ∃n,P.cellsOf t=n+1:=⟨P.cellsOf t-1,by omega⟩
    have h1:off<xs.length:=(ai.1 hc).1;rw[hn,cf h1,List.take_succ_cons];exact (ai.1 hc).2
   unfold ut;rw[hd];cases d<;>first |exact this|simp at hst
  rw[hv];simp only[part,dy,hag,af,aU,if_false];have :xs.toArray[off]? =some c:=by simpa using hc
  rw[this];rfl
theorem Bo (P:Program): ∀ (n:Nat) {t:TypeId} {zs xs ys:List Value} {r:Bool} (d:Nat),yz P n t zs=true->ic zs xs=true->ic zs ys=true->iv xs ys=some r->dB P (Op.equalIn (n+d) t (ut P t xs) (ut P t ys))=some r
 | 0,t,zs,xs,ys,r,d,h,_,_,_=>by cases h
 |n+1,t,zs,xs,ys,r,d,h,hx,hy,he=>by
  have hn:n+1+d=(n+d)+1:=by omega
  rw[hn];unfold yz at h;cases hu:P.underlying t with
  |none=>rw[hu] at h; cases h
  |some D=>
   rw[hu] at h;cases D<;>simp only[aU] at h
   case bool=>
    split at h
    case h_2=>cases h
    obtain⟨x,rfl⟩: ∃x,xs= [.bool x] :=by
     match xs,hx with
     | [.bool x],_=>exact⟨x,rfl⟩
    obtain⟨y,rfl⟩: ∃y,ys= [.bool y] :=by
     match ys,hy with
     | [.bool y],_=>exact⟨y,rfl⟩
    simp only[iv,xT,c7,ae] at he;subst he;simp only[ut,hu,List.headD_cons];rw[Op.equalIn];simp only[dy,ei hu,af,dC]
   case int k=>
    split at h
    case h_2=>cases h
    rename_i k0 _
    obtain⟨x,rfl⟩: ∃x,xs= [.int k0 x] :=by
     match xs,hx with
     | [.int k1 x],hx=>
       simp only[ic,cond_eq_ite] at hx;split at hx
       ·rename_i hk; simp at hk; subst hk; exact⟨x,rfl⟩
       ·cases hx
     | .int _ _::_::_,hx=>simp[ic] at hx
    obtain⟨y,rfl⟩: ∃y,ys= [.int k0 y] :=by
     match ys,hy with
     | [.int k1 x],hx=>
       simp only[ic,cond_eq_ite] at hx;split at hx
       ·rename_i hk; simp at hk; subst hk; exact⟨x,rfl⟩
       ·cases hx
     | .int _ _::_::_,hx=>simp[ic] at hx
    simp only[iv,xT,c7,ae] at he;subst he;simp only[ut,hu,List.headD_cons];rw[Op.equalIn];simp only[dy,ei hu,af,dC,if_true]
   case struct fs=>
    simp only[an,bH] at h;obtain⟨hst,h⟩:=h;simp only[ut,hu]
    have fb: ∀ (fs:List Field) (off:Nat) (zs:List Value) (r:Bool),FS P (yz P n) fs off zs=true->ic zs (xs.drop off)=true->ic zs (ys.drop off)=true->iv (xs.drop off) (ys.drop off)=some r->
      dB P (Op.eqFields (n+d) xs.toArray ys.toArray fs)=some r:=by
     intro fs
     induction fs with
     |nil=>
      intro off zs r h hx hy he;cases zs with
      |nil=>have h1:=kP hx;have h2:=kP hy;simp only[bE,cZ] at h1 h2;rw[h1,h2] at he;cases he;rfl
      |cons=>cases h
     |cons f fs ih=>
      intro off zs r h hx hy he;simp only[FS,an,bne_iff_ne,ne_eq] at h;obtain⟨⟨⟨⟨⟨⟨hname,hoff⟩,hpos⟩,hle⟩,hi⟩,h1⟩,h2⟩:=h;have hoff:=ao hoff;have hpos:0<P.cellsOf f.type:=aw hpos;have hle:P.cellsOf f.type<=zs.length:=aw hle;have hlx:=kP hx;have hly:=kP hy;rw[cb] at hlx hly;obtain⟨i,hi⟩:=bk.1 hi
      have hu': ∃D,P.underlying f.type=some D/\ ∀n e,D≠ .array n e:=by
       cases hun:P.underlying f.type with
       |none=>cases n<;>simp[yz,hun] at h1
       |some D=>refine⟨D,rfl,fun k e he=> ?_⟩; subst he; cases n<;>simp[yz,hun] at h1
      obtain⟨D,hD,hDa⟩:=hu';have px:=yA hi hD hDa (xs:=xs) (off:=off) (ah (by omega));have py:=yA hi hD hDa (xs:=ys) (off:=off) (ah (by omega));have px:=px.resolve_right (by omega);have py:=py.resolve_right (by omega);obtain⟨a,b,ha,hb,rfl⟩:=wt (P.cellsOf f.type) he;have hA:=Bo P n d h1 (mX _ hx).1 (mX _ hy).1 ha;rw[Op.eqFields,if_pos hname];simp only[hoff,dy,px,py,af,hA];cases a with
      |false=>rfl
      |true=>
       simp only[bu,aU,if_false,Bool.true_and];simp only[bZ] at hb;refine ih _ _ _ h2 ?_ ?_ hb
       ·have:=(mX (P.cellsOf f.type) hx).2; rw[bZ] at this; exact this
       ·have:=(mX (P.cellsOf f.type) hy).2; rw[bZ] at this; exact this
    have:=fb fs.toList 0 zs r h (by simpa using hx) (by simpa using hy) (by simpa using he);rw[<-this];rw[Op.equalIn];simp only[dy,ei hu,af,program,dB,hst,aU,if_false];rw[<-Array.forIn_toList];generalize fs.toList=fs;clear this fb h hu hst hn
    induction fs with
    |nil=>rfl
    |cons f fs ih=>
     simp only[List.forIn_cons,Op.eqFields];split
     ·simp only[dy];cases dB P (part f.type xs.toArray f.offset) with
      |none=>rfl
      |some a=>
       cases dB P (part f.type ys.toArray f.offset) with
       |none=>rfl
       |some b=>
        simp only[af];cases dB P (Op.equalIn (n+d) f.type a b) with
        |none=>rfl
        |some q=>
         cases q
         ·rfl
         ·simp only[af,bu,aU,if_false,dC];simpa only[dy,Option.bind_assoc] using ih
     ·simp only[dy,dC,af];simpa only[dy,Option.bind_assoc] using ih
theorem HT {P:Program} {t:TypeId} {zs:List Value} {fs:Array Field} (hu:P.underlying t=some (.struct fs)) (h:yz P 8 t zs=true) (a b:List Cl) (r:Bool) (xs ys:List Value) (ha:ig zs a=true) (hb:ig zs b=true) (he:of a b=some r) (hx:a=xs.map (fun x=> .c (.sc x))) (hy:b=ys.map (fun x=> .c (.sc x))):
  dB P (Op.equal t (.agg xs.toArray) (.agg ys.toArray))=some r:=by
 subst hx hy;have:=Bo P 8 9992 h (tu ha) (tu hb) (by rw[<-Cm]; exact he);unfold ut at this;rw[hu] at this;exact this
end
section
open Go
def IB (P:Program):List Field->Option (List (Nat×Nat×Bool))
 | [] =>some []
 |f::fs=>match tY P f.type,IB P fs with
  |some ag,some l=>some ((f.offset,P.cellsOf f.type,ag)::l)
  | _,_=>none
def IQ (P:Program) (t:TypeId):Option (List (Nat×Nat×Bool)):=match P.underlying t with |some (.struct fs)=>IB P fs.toList| _=>none
theorem Bp {P:Program}: ∀ {fs:List Field} {l:List (Nat×Nat×Bool)},IB P fs=some l-> ∀k,(fs[k]?).bind (fun f=>(tY P f.type).map fun ag=>(f.offset,P.cellsOf f.type,ag))=jC l k
 | [],l,h,k=>by cases h; rfl
 |f::fs,l,h,k=>by
  unfold IB at h;split at h
  ·rename_i ag l' h1 h2;cases h;cases k with
   |zero=>simp[h1,jC]
   |succ k=>show _=jC l' (k+1-1);rw[ce,<-Bp h2 k,bL]
  ·cases h
theorem FT {P:Program} {t:TypeId} {l:List (Nat×Nat×Bool)} (h:IQ P t=some l) (k:Nat):CS P t k=jC l k:=by
 unfold IQ at h;unfold CS;split at h
 ·rename_i fs hu;simp only[hu];rw[<-Bp h k,cd]
 ·cases h
theorem FU (P:Program):eD P [] :=fun _ _ h=>by cases h
theorem dF {P:Program} {t:Nat} {ti:TI} {l:jE} (h:ti.ok P t) (hl:eD P l):eD P ((t,ti)::l):=by
 intro u ui hu;unfold ir at hu;cases hb:Nat.beq t u with
 |true=>rw[hb] at hu;have:=ao hb;subst this;cases hu;exact h
 |false=>rw[hb] at hu;exact hl u ui hu
def HU (P:Program) (t:TypeId):Bool:=match P.underlying t with |some (.struct _)=>true| _=>false
section
variable {P:Program} {t:TypeId}
theorem kH {n:Sn} {fds:List (Nat×Nat×Bool)} {by':Nat} (h1:HU P t=true) (h2:P.cellsOf t=(Ty.st n).width) (h3:jm P 9 t=(Ty.st n).shs) (h4:qk P t=some (Ty.st n).zvs) (h5:IQ P t=some fds)
  (h6:HB P t=some (fds.map fun x=>(x.1,x.2.1))) (h7: ((Ty.st n).flatB=true->P.eqGuardType P.depth t=false/\yz P 8 t (Ty.st n).zvs=true)) (hz: (Ty.st n).flatB=false-> ∀xs:List Value,ig (Ty.st n).zvs (xs.map fun x=> .c (.sc x))=false):TI.ok P t ⟨.st n,0,fds,by'⟩:=by
 unfold HU at h1;split at h1
 case h_2=>cases h1
 rename_i fs hu;refine⟨?_,h2,h3,h4,FT h5,fun _=>h6,fun e he=>(by cases he),fun hb=>(by cases hb),fun _ hf=>(h7 hf).1,fun _ a b r xs ys ha hb he hx hy=> ?_,?_,fun k hk=>(by cases hk),fun k u hk=>(by cases hk)⟩
 ·simp[tY,hu,Ty.ag]
 ·cases hf: (Ty.st n).flatB with
  |true=>exact HT hu (h7 hf).2 a b r xs ys ha hb he hx hy
  |false=>subst hx;have:=hz hf xs;rw[show ig (Ty.st n).zvs _=true from ha] at this;cases this
 ·simp[rx,hu]
def I6 (P:Program) (u:TypeId):Ty->Bool| .i k=>(match P.underlying u with |some (.int k')=>decide (k'=k)| _=>false)| _=>true
theorem nj {e:Ty} {el:Nat} {by':Nat} {u:TypeId} (h1:nr P t=some u) (h2:P.cellsOf t=1) (h4:qk P t=some [.slice none 0 0]) (h5:P.cellsOf u=e.width) (h6:P.bytesOf u=el) (h7:Nat.blt 0 el=true) (h8:jm P 9 u=e.shs) (h9:qk P u=some e.zvs) (h10:I6 P u e=true):TI.ok P t ⟨.ls e,el,[],by'⟩:=by
 have hu:P.underlying t=some (.slice u):=by
  unfold nr at h1;split at h1
  ·rename_i e hu; cases h1; exact hu
  ·cases h1
 refine⟨?_,h2,?_,h4,fun k=> ?_,fun h=>(by cases h),fun e' he=> ?_,fun hb=>(by cases hb),fun h=>(by cases h),fun h=>(by cases h),?_,fun k hk=>(by cases hk),fun k u' hk hu'=> ?_⟩
 ·simp[tY,hu,Ty.ag]
 ·simp[jm,hu,Ty.shs,Ty.csh,h5]
 ·simp[CS,hu,jC]
 ·cases he;exact⟨u,h1,h5,h6,aw h7,h8,h9⟩
 ·simp[rx,hu]
 ·cases hk;rw[h1] at hu';cases hu';unfold I6 at h10;simp only at h10;split at h10
  ·rename_i k' hk';rw[hk',of_decide_eq_true h10]
  ·cases h10
def I7 (P:Program) (t:TypeId) (y:Ty):Bool:=match P.underlying t,y with
 |some (.int k), .i k'=>decide (k=k')
 |some .bool, .b=>true
 |some .string, .s=>true
 | _,_=>false
theorem oQ {y:Ty} {by':Nat} (h1:I7 P t y=true) (h2:P.cellsOf t=1) (h4:qk P t=some y.zvs):TI.ok P t ⟨y,0,[],by'⟩:=by
 unfold I7 at h1;split at h1
 ·rename_i k k' hu;refine⟨(by simp[tY,hu,Ty.ag]),h2,(by simp[jm,hu,Ty.shs,Ty.csh]),h4,fun k=>(by simp[CS,hu,jC]),fun h=>(by cases h),fun e' he=>(by cases he),fun hb=>(by cases hb),fun h=>(by cases h),fun h=>(by cases h),by simp[rx,hu],fun q hq=>(by cases hq; rw[hu]; simp only[decide_eq_true_eq] at h1; rw[h1]),fun k u hk=>(by cases hk)⟩
 ·rename_i hu;refine⟨(by simp[tY,hu,Ty.ag]),h2,(by simp[jm,hu,Ty.shs,Ty.csh]),h4,fun k=>(by simp[CS,hu,jC]),fun h=>(by cases h),fun e' he=>(by cases he),fun hb=>hu,fun h=>(by cases h),fun h=>(by cases h),by simp[rx,hu],fun q hq=>(by cases hq),fun k u hk=>(by cases hk)⟩
 ·rename_i hu;refine⟨(by simp[tY,hu,Ty.ag]),h2,(by simp[jm,hu,Ty.shs,Ty.csh]),h4,fun k=>(by simp[CS,hu,jC]),fun h=>(by cases h),fun e' he=>(by cases he),fun hb=>(by cases hb),fun h=>(by cases h),fun h=>(by cases h),by simp[rx,hu],fun q hq=>(by cases hq),fun k u hk=>(by cases hk)⟩
 ·cases h1
end
theorem fZ: ∀ {zs:List Value} (xs:List Value),zs.any (fun z=>match z with | .int _ _=>false| .bool _=>false| _=>true)=true->ig zs (xs.map fun x=> .c (.sc x))=false
 | [],xs,h=>by cases h
 |z::zs,xs,h=>by
  cases hb:ig (z::zs) (xs.map fun x=> .c (.sc x)) with
  |false=>rfl
  |true=>
   exfalso;cases xs with
   |nil=>cases z<;>simp[ig] at hb
   |cons x xs=>
    cases z<;>simp only[ig,aL,aU] at hb
    all_goals cases x<;>simp only[ig,cond_eq_ite,aU] at hb
    ·rw[fZ xs (by simpa using h)] at hb; cases hb
    ·split at hb
     ·rw[fZ xs (by simpa using h)] at hb; cases hb
     ·cases hb
end
section
open Go
section
variable {σ ε:Type}
def pv (B:σ->Option (σ⊕ε)):Nat->σ->Option ε
 | 0,_=>none
 |n+1,s=>(B s).bind (Sum.elim (pv B n) some)
theorem qN (B:σ->Option (σ⊕ε)): ∀ {n m:Nat} {s:σ} {e:ε},n<=m->pv B n s=some e->pv B m s=some e
 | 0,_,_,_,_,h=>by cases h
 |n+1,0,_,_,hm,_=>by omega
 |n+1,m+1,s,e,hm,h=>by
  unfold pv at h ⊢;cases hB:B s with
  |none=>rw[hB] at h; cases h
  |some x=>
   rw[hB] at h;cases x with
   |inl s'=>exact qN B (by omega) h
   |inr e'=>exact h
theorem wv {p:Nat->Prop} (h: ∃n,p n): ∃n,p n/\ ∀m,p m->n<=m:=by
 obtain⟨n,hn⟩:=h
 induction n using Nat.strongRecOn with
 | _ n ih=>
   by_cases hx: ∃m,m<n/\p m
   ·obtain⟨m,hm,hp⟩:=hx;exact ih m hm hp
   ·exact⟨n,hn,fun m hm=>Nat.le_of_not_lt fun hlt=>hx ⟨m,hlt,hm⟩⟩
noncomputable def ij (B:σ->Option (σ⊕ε)) (s:σ):Option ε:=open Classical in if h: ∃n,(pv B n s).isSome=true then pv B (Classical.choose h) s else none
noncomputable def G9 (B:σ->Option (σ⊕ε)) (s:σ):Nat:=open Classical in if h: ∃n,(pv B n s).isSome=true then Classical.choose (wv h) else 0
theorem nL {B:σ->Option (σ⊕ε)} {s:σ} {e:ε}:ij B s=some e↔ ∃n,pv B n s=some e:=by
 classical
 constructor
 ·intro h;unfold ij at h;split at h
  ·rename_i hx;exact⟨_,h⟩
  ·cases h
 ·rintro⟨n,h⟩
  have hx: ∃n,(pv B n s).isSome=true:=⟨n,by rw[h]; rfl⟩
  unfold ij;rw[dif_pos hx];obtain⟨e',he⟩:=bk.1 (Classical.choose_spec hx);have h1:=qN B (Nat.le_max_left (Classical.choose hx) n) he;have h2:=qN B (Nat.le_max_right (Classical.choose hx) n) h;rw[h1] at h2;cases h2;exact he
theorem nM (B:σ->Option (σ⊕ε)) (s:σ):ij B s=(B s).bind (Sum.elim (ij B) some):=by
 apply Option.ext;intro e;rw[nL];constructor
 ·rintro⟨n,h⟩
  cases n with
  |zero=>cases h
  |succ n=>
   unfold pv at h;cases hB:B s with
   |none=>rw[hB] at h; cases h
   |some x=>
    rw[hB] at h;cases x with
    |inl s'=>exact nL.2 ⟨n,h⟩
    |inr e'=>exact h
 ·intro h;cases hB:B s with
  |none=>rw[hB] at h; cases h
  |some x=>
   rw[hB] at h;cases x with
   |inl s'=>obtain⟨n,h⟩:=nL.1 (show ij B s'=some e from h);exact⟨n+1,by unfold pv; rw[hB]; exact h⟩
   |inr e'=>exact⟨1,by unfold pv; rw[hB]; exact h⟩
theorem Cn (B:σ->Option (σ⊕ε)) (s:σ) (e:ε) (h:ij B s=some e):Ed (ij B) (G9 B) s e (B s):=by
 classical
 have h0:=h;rw[nM] at h;cases hB:B s with
 |none=>rw[hB] at h; cases h
 |some x=>
  rw[hB] at h;cases x with
  |inl s'=>
   refine⟨?_,h⟩
   have hx: ∃n,(pv B n s).isSome=true:=by obtain⟨n,hn⟩:=nL.1 h0;exact⟨n,by rw[hn]; rfl⟩
   have hx': ∃n,(pv B n s').isSome=true:=by obtain⟨n,hn⟩:=nL.1 (show ij B s'=some e from h);exact⟨n,by rw[hn]; rfl⟩
   unfold G9;rw[dif_pos hx,dif_pos hx'];have:=(Classical.choose_spec (wv hx)).1;cases hn:Classical.choose (wv hx) with
   |zero=>rw[hn] at this; cases this
   |succ n=>rw[hn] at this;unfold pv at this;rw[hB] at this;exact Nat.lt_succ_of_le ((Classical.choose_spec (wv hx')).2 n this)
  |inr e'=>exact (Option.some.inj h)
end
inductive pw where
 |ty (t:Ty)|pr (t:Ty)|fc (g:Nat)|fn (g:Nat) (caps:List Ty)|nl
abbrev pw.D:pw->Type
 | .ty t=>t.D
 | .pr t=>t.D
 | .fc _=>Unit
 | .fn _ caps=>ky.D caps
 | .nl=>Unit
abbrev jL.D:List pw->Type
 | [] =>Unit
 |p::l=>p.D×jL.D l
def ww: (l:List Ty)->ky.D l->List Cl
 | [],_=> []
 |t::l,x=> .pro (t.flat x.1)::ww l x.2
def pw.v1: (p:pw)->p.D->V1
 | .ty t,x=>wc t x
 | .pr t,x=> .cl (.pro (t.flat x))
 | .fc g,_=> .cl (.c (.sc (.func (.func g) #[] #[])))
 | .fn g caps,x=> .fn g (ww caps x)
 | .nl,_=> .cl .em
def gK: (l:List pw)->jL.D l->List V1
 | [],_=> []
 |p::l,x=>p.v1 x.1::gK l x.2
def FV {ρ:Type} (t:Ty) (c:Cl) (κ:t.D->Option ρ):Option ρ:=match c with
 | .pro xs=>(match t.unflat xs with |some x=>κ x|none=>none)
 | _=>none
def qO {ρ:Type}: (l:List Ty)->List Cl->(ky.D l->Option ρ)->Option ρ
 | [],[],κ=>κ ()
 |t::l,c::cs,κ=>FV t c fun x=>qO l cs fun y=>κ (x,y)
 | _,_,_=>none
def HV {ρ:Type}: (t:Ty)->V1->(t.D->Option ρ)->Option ρ
 | .ls _, .cl .em,κ=>κ []
 |t,a,κ=>un t a κ
def IC {ρ:Type}: (p:pw)->V1->(p.D->Option ρ)->Option ρ
 | .ty t,a,κ=>HV t a κ
 | .pr t, .cl c,κ=>FV t c κ
 | .fc g, .cl (.c (.sc (.func (.func g') cs ts))),κ=>bif Nat.beq g' g&&Nat.beq cs.size 0&&Nat.beq ts.size 0 then κ () else none
 | .fn g caps, .fn g' cs,κ=>bif Nat.beq g' g then qO caps cs κ else none
 | .nl, .cl .em,κ=>κ ()
 | _,_,_=>none
def tw {ρ:Type}: (l:List pw)->List V1->(jL.D l->Option ρ)->Option ρ
 | [],[],κ=>κ ()
 |p::l,a::as,κ=>IC p a fun x=>tw l as fun y=>κ (x,y)
 | _,_,_=>none
def wx (ps:List pw) (rs:List Ty) (G:jL.D ps->Option (ky.D rs)):Dz:=fun args _ κ=>tw ps args fun x=>(G x).bind fun y=>ret (kb rs y) κ
theorem vm {ρ:Type} {t:Ty} {c:Cl} {κ:t.D->Option ρ} {r:ρ} (h:FV t c κ=some r): ∃x,c= .pro (t.flat x)/\κ x=some r:=by
 unfold FV at h;split at h
 ·split at h
  ·rename_i x hx;exact⟨x,by rw[t.unflat_some _ _ hx],h⟩
  ·cases h
 ·cases h
theorem rm {ρ:Type}: ∀ {l:List Ty} {cs:List Cl} {κ:ky.D l->Option ρ} {r:ρ},qO l cs κ=some r-> ∃x,cs=ww l x/\κ x=some r
 | [],[],κ,r,h=>⟨(),rfl,h⟩
 |t::l,c::cs,κ,r,h=>by unfold qO at h;obtain⟨x,h1,h⟩:=vm h;obtain⟨y,h2,h⟩:=rm h;exact⟨(x,y),by rw[h1,h2]; rfl,h⟩
 | [],_::_,κ,r,h=>by simp[qO] at h
 | _::_,[],κ,r,h=>by simp[qO] at h
theorem Ek {ρ:Type} {t:Ty} {a:V1} {κ:t.D->Option ρ} {r:ρ} (h:HV t a κ=some r): ∃x,(a.av=(wc t x).av\/(a.av= .em/\ ∃s,(wc t x).av= .ro s []))/\κ x=some r:=by
 unfold HV at h;split at h
 ·exact⟨[], .inr ⟨rfl,_,rfl⟩,h⟩
 ·obtain⟨x,e,h'⟩:=un_some h;exact⟨x, .inl (by rw[e]),h'⟩
theorem El {ρ:Type} {p:pw} {a:V1} {κ:p.D->Option ρ} {r:ρ} (h:IC p a κ=some r): ∃x,(a.av=(p.v1 x).av\/(a.av= .em/\ ∃s,(p.v1 x).av= .ro s []))/\κ x=some r:=by
 unfold IC at h;split at h
 ·exact Ek h
 ·obtain⟨x,h1,h⟩:=vm h;exact⟨x, .inl (by rw[h1]; rfl),h⟩
 ·obtain⟨h1,h⟩:=dq h;simp only[an] at h1;obtain⟨⟨h1,h2⟩,h3⟩:=h1;have h1:=ao h1;have h2:=cj (ao h2);have h3:=cj (ao h3);exact⟨(), .inl (by rw[h1,h2,h3]; rfl),h⟩
 ·obtain⟨h1,h⟩:=dq h;obtain⟨x,h2,h⟩:=rm h;exact⟨x, .inl (by rw[ao h1,h2]; rfl),h⟩
 ·exact⟨(), .inl rfl,h⟩
 ·cases h
theorem la {ρ:Type}: ∀ {l:List pw} {as:List V1} {κ:jL.D l->Option ρ} {r:ρ},tw l as κ=some r-> ∃x,Bm (as.map V1.av) ((gK l x).map V1.av)/\κ x=some r
 | [],[],κ,r,h=>⟨(),Bm.refl _,h⟩
 |p::l,a::as,κ,r,h=>by unfold tw at h;obtain⟨x,h1,h⟩:=El h;obtain⟨y,h2,h⟩:=la h;exact⟨(x,y),Bm.cons h1 h2,h⟩
 | [],_::_,κ,r,h=>by simp[tw] at h
 | _::_,[],κ,r,h=>by simp[tw] at h
theorem vn (G:List (Option dM)): ∀ (l:List Ty) (x:ky.D l),∀c∈ww l x,c.ok G
 | [],x,c,h=>by cases h
 |t::l,x,c,h=>by
  rcases aX.1 h with rfl|h
  ·trivial
  ·exact vn G l x.2 c h
theorem pw.ok (p:pw) (x:p.D): (p.v1 x).ok [] :=by
 cases p with
 |ty t=>exact G8 t x
 |pr t=>trivial
 |fc g=>trivial
 |fn g caps=>exact vn [] caps x
 |nl=>trivial
theorem ox: ∀ (l:List pw) (x:jL.D l),∀a∈gK l x,a.ok []
 | [],x,a,h=>by cases h
 |p::l,x,a,h=>by
  rcases aX.1 h with rfl|h
  ·exact p.ok x.1
  ·exact ox l x.2 a h
theorem FW {P:Program} {Θ:jE} {Y:qm} {Λ:lW} (hΘ:eD P Θ) (hY:iJ P Y) (hm:P.follows .mixedOrders=true) {f:FuncId} {fn:Func} (hf:xJ P f=some fn) (hL: ∀c,fn.body=some c->fR P Λ (ez c)) {ps:List pw} {rs:List Ty} {G:jL.D ps->Option (ky.D rs)} (hk:Nat.blt f 1048576=true)
  (F:jL.D ps->Option (ky.D rs)) (hF: ∀x,HL Θ Y Λ fn (gK ps x) (fun v g=>some (v,g))=(F x).bind fun y=>ret (kb rs y) (fun v g=>some (v,g))) (hG: ∀x y,G x=some y->F x=some y):vl P f (wx ps rs G):=by
 intro args ρ κ r hr;unfold wx at hr;obtain⟨x,hn,hr2⟩:=la hr;obtain⟨y,h1,hr3⟩:=aj.1 hr2;exact⟨_,_, .of_fn (ku.norm hn (G4 hΘ hY hm hf hL (ox ps x) (by rw[hF,hG x y h1]; rfl))) (aw hk),wq _,hr3⟩
def Ha (el:Ty) (ps:List pw) (rs:List Ty) (G:List el.D->jL.D ps->Option (ky.D rs)):Dz:=fun args _ κ=>match args with
 | .cl (.c (.ls t l))::as=>(match nE t el l with
   |some l=>tw ps as fun x=>(G l x).bind fun y=>ret (kb rs y) κ
   |none=>none)
 | _=>none
def Hb {ρ:Type} (el:Ty) (rs:List Ty) (y:List el.D×ky.D rs) (κ:V->List dM->Option ρ):Option ρ:=κ (pR (pS 1 (kb rs y.2))) (⟨el,y.1,none⟩::nG (kb rs y.2))
def Hc (el:Ty) (ps:List pw) (rs:List Ty) (G:List el.D->jL.D ps->Option (List el.D×ky.D rs)):Dz:=fun args _ κ=>match args with
 | .cl (.c (.ls t l))::as=>(match nE t el l with
   |some l=>tw ps as fun x=>(G l x).bind fun y=>Hb el rs y κ
   |none=>none)
 | _=>none
theorem FX {P:Program} {Θ:jE} {Y:qm} {Λ:lW} (hΘ:eD P Θ) (hY:iJ P Y) (hm:P.follows .mixedOrders=true) {f:FuncId} {fn:Func} (hf:xJ P f=some fn) (hL: ∀c,fn.body=some c->fR P Λ (ez c)) {el:Ty} {ps:List pw} {rs:List Ty} {G:List el.D->jL.D ps->Option (ky.D rs)}
  (F:List el.D->jL.D ps->Option (ky.D rs)) (hF: ∀l x,Ca Θ Y Λ fn 0 el l (gK ps x) (fun v g=>some (v,g))=(F l x).bind fun y=>ret (kb rs y) (fun v g=>some (v,g))) (hG: ∀l x y,G l x=some y->F l x=some y):vl P (xV f) (Ha el ps rs G):=by
 intro args ρ κ r hr;unfold Ha at hr;split at hr
 ·rename_i t l as;split at hr
  ·rename_i l' hl;obtain⟨e,hl⟩:=eX hl;subst e;have hl:l=l':=hl;subst hl;obtain⟨x,hn,hr2⟩:=la hr;obtain⟨y,h1,hr3⟩:=aj.1 hr2;exact⟨_,_, .of_mv ⟨.ls _,l,_,rfl,jq.norm (Bm.cons (.inl rfl) hn) (Bf hΘ hY hm hf hL (bm 1) (ox ps x) (by rw[hF,hG l x y h1]; rfl))⟩,wq _,hr3⟩
  ·cases hr
 ·cases hr
theorem FY (el:Ty) (l:List el.D) (ys:List ((t:Ty)×t.D)): (pR (pS 1 ys)).ok ((⟨el,l,none⟩::nG ys).map some):=by
 have h:=tp ys [⟨el,l,none⟩];simp only[cK,List.singleton_append] at h
 match pS 1 ys,h with
 | [],_=>exact fun x hx=>by cases hx
 | [v],h=>exact h v aG
 |v::u::vs,h=>exact h
theorem FZ {P:Program} {Θ:jE} {Y:qm} {Λ:lW} (hΘ:eD P Θ) (hY:iJ P Y) (hm:P.follows .mixedOrders=true) {f:FuncId} {fn:Func} (hf:xJ P f=some fn) (hL: ∀c,fn.body=some c->fR P Λ (ez c)) {el:Ty} {ps:List pw} {rs:List Ty} {G:List el.D->jL.D ps->Option (List el.D×ky.D rs)} (hk:Nat.blt f 1048576=true)
  (F:List el.D->jL.D ps->Option (List el.D×ky.D rs)) (hF: ∀l x,Ca Θ Y Λ fn 1 el l (gK ps x) (fun v g=>some (v,g))=(F l x).bind fun y=>Hb el rs y (fun v g=>some (v,g))) (hG: ∀l x y,G l x=some y->F l x=some y):vl P (sU f) (Hc el ps rs G):=by
 intro args ρ κ r hr;unfold Hc at hr;split at hr
 ·rename_i t l as;split at hr
  ·rename_i l' hl;obtain⟨e,hl⟩:=eX hl;subst e;have hl:l=l':=hl;subst hl;obtain⟨x,hn,hr2⟩:=la hr;obtain⟨y,h1,hr3⟩:=aj.1 hr2;exact⟨_,_, .of_io ⟨.ls _,l,_,rfl,jq.norm (Bm.cons (.inl rfl) hn) (Bf hΘ hY hm hf hL (au 1) (ox ps x) (by rw[hF,hG l x y h1]; rfl))⟩ (aw hk),FY _ _ (kb rs y.2),hr3⟩
  ·cases hr
 ·cases hr
def kz (fn:Func):Code:=match fn.body with |some c=>c|none=> .skip
def Hd (c:Code) (n:Nat):Code:=(jC (ez c) n).getD .skip
theorem HW {P:Program} {Λ:lW} {fn:Func} {cs:List Code} (h:ez (kz fn)=cs) (H:fR P Λ cs) (c:Code) (hc:fn.body=some c):fR P Λ (ez c):=by
 have :kz fn=c:=by unfold kz; rw[hc]
 rw[<-this,h];exact H
end
section
open Go
inductive Kc where|i (k:IntKind)|b|s|ls (t:Ty)
 deriving DecidableEq
def Em:List (Option Ty)->List Value->List Kc
 |some t::l,_::m=> .ls t::Em l m
 |none::l, .int k _::m=> .i k::Em l m
 |none::l, .bool _::m=> .b::Em l m
 |none::l,_::m=> .s::Em l m
 | _,_=> []
def Ty.kc (t:Ty):List Kc:=Em t.csh t.zvs
def mC:List Kc->List C->Prop
 | [],[] =>True
 | .i k::l,c::m=>(∃n,c= .sc (.int k n))/\mC l m
 | .b::l,c::m=>(∃v,c= .sc (.bool v))/\mC l m
 | .s::l,c::m=>(∃v,c= .sc (.string v))/\mC l m
 | .ls t::l,c::m=>(∃v,c= .ls t v)/\mC l m
 | _,_=>False
theorem p6 {cs:List C} (h:mC [] cs):cs= [] :=by cases cs with |nil=>rfl|cons=>exact h.elim
theorem Gy {k:IntKind} {l:List Kc} {cs:List C} (h:mC (.i k::l) cs): ∃n r,cs= .sc (.int k n)::r/\mC l r:=by
 cases cs with
 |nil=>exact h.elim
 |cons c r=>obtain⟨⟨n,rfl⟩,h⟩:=h; exact⟨n,r,rfl,h⟩
theorem Gz {l:List Kc} {cs:List C} (h:mC (.b::l) cs): ∃n r,cs= .sc (.bool n)::r/\mC l r:=by
 cases cs with
 |nil=>exact h.elim
 |cons c r=>obtain⟨⟨n,rfl⟩,h⟩:=h; exact⟨n,r,rfl,h⟩
theorem GA {l:List Kc} {cs:List C} (h:mC (.s::l) cs): ∃n r,cs= .sc (.string n)::r/\mC l r:=by
 cases cs with
 |nil=>exact h.elim
 |cons c r=>obtain⟨⟨n,rfl⟩,h⟩:=h; exact⟨n,r,rfl,h⟩
theorem GB {t:Ty} {l:List Kc} {cs:List C} (h:mC (.ls t::l) cs): ∃n r,cs= .ls t n::r/\mC l r:=by
 cases cs with
 |nil=>exact h.elim
 |cons c r=>obtain⟨⟨n,rfl⟩,h⟩:=h; exact⟨n,r,rfl,h⟩
theorem vo (t:Ty) {cs:List C} (h:mC t.kc cs): ∃x,t.flat x=cs:=by
 have : (t.unflat cs).isSome=true:=by
  cases t with
  |st n=>
   cases n
   all_goals
    repeat ((first |replace h:=Gy h|replace h:=Gz h|replace h:=GB h|replace h:=GA h); obtain⟨_,_,rfl,h⟩:=h)
    cases p6 h;rfl
  |i k=>replace h:=Gy h; obtain⟨_,_,rfl,h⟩:=h; cases p6 h; simp[Ty.unflat,gI,gN]
  |b=>replace h:=Gz h; obtain⟨_,_,rfl,h⟩:=h; cases p6 h; rfl
  |s=>replace h:=GA h; obtain⟨_,_,rfl,h⟩:=h; cases p6 h; rfl
  |ls u=>replace h:=GB h; obtain⟨_,_,rfl,h⟩:=h; cases p6 h; simp[Ty.unflat,gL,gN]
 obtain⟨x,hx⟩:=bk.1 this;exact⟨x,t.unflat_some _ _ hx⟩
inductive T.bd:T->Prop where
 |int {k:IntKind} {n:Int} (h:k.min<=n/\n<=k.max):T.bd (.sc (.int k n))
 |bool (v:Bool):T.bd (.sc (.bool v))
 |str (v:ByteArray):T.bd (.sc (.string v))
 |sl {sz:Nat} {rows:List (List T)} (hl:rows.length<=maxLen) (h: ∀r∈rows,∀x∈r,T.bd x):T.bd (.sl sz rows)
def Ag (t:Ty) (x:t.D):Prop:= ∀y∈t.row x,T.bd y
def wy (P:Program) (e:TypeId->List Kc->Bool):List Field->Nat->List Kc->Bool
 | [],_,[] =>true
 | [],_,_::_=>false
 |f::fs,off,ks=>Nat.beq f.offset off&&Nat.ble (P.cellsOf f.type) ks.length&&e f.type (ks.take (P.cellsOf f.type))&&wy P e fs (off+P.cellsOf f.type) (ks.drop (P.cellsOf f.type))
def rn (P:Program) (Θ:jE):Nat->TypeId->List Kc->Bool
 | 0,_,_=>false
 |d+1,t,ks=>match P.underlying t with
  |some (.int k)=>decide (ks= [.i k])
  |some .bool=>decide (ks= [.b])
  |some (.slice e)=>(match ir Θ e with
   |some ti=>decide (ks= [.ls ti.ty])&&rn P Θ d e ti.ty.kc&&Nat.beq (P.cellsOf e) ti.ty.width&&Nat.blt 0 ti.ty.width
   |none=>false)
  |some (.struct fs)=>wy P (rn P Θ d) fs.toList 0 ks&&Nat.beq (P.cellsOf t) ks.length
  | _=>false
theorem yB: ∀ {k l:List Kc} {cs ds:List C},mC k cs->mC l ds->mC (k++l) (cs++ds)
 | [],l,[],ds,_,h=>h
 | [],_,_::_,_,h,_=>h.elim
 |a::k,_,[],_,h,_=>by cases a<;>exact h.elim
 |a::k,l,c::cs,ds,h,h2=>by cases a<;>exact⟨h.1,yB h.2 h2⟩
theorem rp: ∀ {k:List Kc} {cs:List C},mC k cs->cs.length=k.length
 | [],[],_=>rfl
 | [],_::_,h=>h.elim
 |a::k,[],h=>by cases a<;>exact h.elim
 |a::k,c::cs,h=>by cases a<;>simp[rp h.2]
section
variable {H:Type} {enc:TypeId×Value->H} {P:Program} {w:World} {base:Nat} {sp:Nat->Bool} {held:Bool} {Θ:jE}
structure Cs (w:World) (cs:List Value) (Xs:List C):Prop where
 len:Xs.length=cs.length
 one: ∀u∈cs,u.oneCell'=true
 ro: ∀ (k:Nat) (c:C) (u:Value),Xs[k]? =some c->cs[k]? =some u->RO w (fun b=>b<w.heap.size) c.tree u
 bd: ∀c∈Xs,T.bd c.tree
theorem Cs.nil:Cs w [] [] :=⟨rfl,fun _ h=>(by cases h),fun _ _ _ h=>(by cases h),fun _ h=>(by cases h)⟩
theorem Cs.one_mk {u:Value} {c:C} (h1:u.oneCell'=true) (h2:RO w (fun b=>b<w.heap.size) c.tree u) (h3:T.bd c.tree):Cs w [u] [c] :=by
 refine⟨rfl,fun v hv=> ?_,fun k c' u' hk hu=> ?_,fun c' hc=> ?_⟩
 ·rw[ay.1 hv]; exact h1
 ·cases k with
  |zero=>cases hk; cases hu; exact h2
  |succ k=>simp at hk
 ·rw[ay.1 hc]; exact h3
theorem Cs.app {cs ds:List Value} {Xs Ys:List C} (h:Cs w cs Xs) (k:Cs w ds Ys):Cs w (cs++ds) (Xs++Ys):=by
 refine⟨by rw[bw,bw,h.len,k.len],fun u hu=> ?_,fun j c u hj hu=> ?_,fun c hc=> ?_⟩
 ·rcases bO.1 hu with hu|hu
  ·exact h.one u hu
  ·exact k.one u hu
 ·by_cases hlt:j<Xs.length
  ·rw[aJ hlt] at hj;rw[aJ (by rw[<-h.len]; exact hlt)] at hu;exact h.ro j c u hj hu
  ·rw[aO (by omega)] at hj;rw[aO (by rw[<-h.len]; omega),<-h.len] at hu;exact k.ro _ c u hj hu
 ·rcases bO.1 hc with hc|hc
  ·exact h.bd c hc
  ·exact k.bd c hc
theorem wz (hΘ:eD P Θ): ∀ (d:Nat) {t:TypeId} {ks:List Kc} {n:Nat} {cs:List Value} {y:DataW H×List MemPlace},rn P Θ d t ks=true->DataW.trod enc P w base sp held n t cs=some y-> ∃Xs:List C,mC ks Xs/\Cs w cs Xs
 | 0,t,ks,n,cs,y,hb,_=>by cases hb
 |d+1,t,ks,n,cs,y,hb,h=>by
  unfold rn at hb;split at hb
  ·rename_i k hu;have:=of_decide_eq_true hb;subst this;obtain⟨v,rfl,_,hw⟩:=DataW.trod_int hu h;simp only[Lit.wf,an,decide_eq_true_eq] at hw;exact⟨[.sc (.int k v)],⟨⟨v,rfl⟩,trivial⟩,Cs.one_mk rfl (.sc rfl) (.int hw)⟩
  ·rename_i hu;have:=of_decide_eq_true hb;subst this;obtain⟨v,rfl,_⟩:=DataW.trod_bool hu h;exact⟨[.sc (.bool v)],⟨⟨v,rfl⟩,trivial⟩,Cs.one_mk rfl (.sc rfl) (.bool v)⟩
  ·rename_i e hu;split at hb
   ·rename_i ti hti;simp only[an,decide_eq_true_eq] at hb;obtain⟨⟨⟨rfl,hb⟩,hw⟩,hpos⟩:=hb;have hw:=ao hw;have hpos:0<ti.ty.width:=aw hpos;rcases Go.Deep.open_slice hu h with ⟨rfl,_⟩| ⟨ad,len,cap,m,n',D,Pl,rfl,_,hl,hm,hmm,_,hx⟩
    ·exact⟨[.ls ti.ty []],⟨⟨[],rfl⟩,trivial⟩,Cs.one_mk rfl (.em _ _ _) (.sl (bm _) fun r hr=>by cases hr)⟩
    ·have hlm:len<=m:=by rw[hmm]; split<;>omega
     have each: ∀i:Fin len,∃z:ti.ty.D,∃cs',w.cells? base (ad.add (i.1*P.cellsOf e)) (P.cellsOf e)=some cs'/\Cs w cs' (ti.ty.flat z):=by intro i;obtain⟨cs',h1,h2⟩:=hx i.1 (by have:=i.2; omega);obtain⟨Xs,h3,h4⟩:=wz hΘ d hb h2;obtain⟨z,rfl⟩:=vo _ h3;exact⟨z,cs',h1,h4⟩
     let l:List ti.ty.D:=List.ofFn fun i=>(each i).choose
     have hll:l.length=len:=by simp[l]
     have row: ∀ (i:Nat) (r:List T),(l.map ti.ty.row)[i]? =some r-> ∃hi:i<len,∃cs',w.cells? base (ad.add (i*P.cellsOf e)) (P.cellsOf e)=some cs'/\ ∃z,r=(ti.ty.flat z).map C.tree/\Cs w cs' (ti.ty.flat z):=by
      intro i r hr;rw[al,ak] at hr;obtain⟨z,hz,rfl⟩:=hr;obtain⟨h1,h2⟩:=ai.1 hz;have hi:i<len:=by rw[hll] at h1; exact h1
      refine⟨hi,(each ⟨i,hi⟩).choose_spec.choose,(each ⟨i,hi⟩).choose_spec.choose_spec.1,z,ti.ty.row_flat z,?_⟩;have e1:z=(each ⟨i,hi⟩).choose:=by rw[<-h2]; simp[l]
      rw[e1];exact (each ⟨i,hi⟩).choose_spec.choose_spec.2
     refine⟨[.ls ti.ty l],⟨⟨l,rfl⟩,trivial⟩,Cs.one_mk rfl ?_ ?_⟩
     ·show RO w _ (.sl ti.ty.width (l.map ti.ty.row)) _;by_cases h0:len=0
      ·have :l= [] :=cZ.1 (by rw[hll,h0]);rw[this,h0];exact .em _ _ _
      ·have hlr: (l.map ti.ty.row).length=len:=by rw[az,hll]
       have hlen: ∀ (i:Nat) (r:List T),(l.map ti.ty.row)[i]? =some r->r.length=ti.ty.width:=by intro i r hr;obtain⟨hi,cs',h1,z,rfl,h2⟩:=row i r hr;obtain⟨_,h3,_⟩:=World.cells?_some h1;rw[az,h2.len,h3,hw]
       have hcell: ∀ (i:Nat) (r:List T) (j:Nat) (x:T),(l.map ti.ty.row)[i]? =some r->r[j]? =some x-> ∃u,w.cell? (ad.add (i*ti.ty.width+j))=some u/\RO w (fun b=>b<w.heap.size) x u:=by
        intro i r j x hr hx;obtain⟨hi,cs',h1,z,rfl,h2⟩:=row i r hr;obtain⟨_,h3,h4⟩:=World.cells?_some h1;rw[al,ak] at hx;obtain⟨c,hc,rfl⟩:=hx;have hj:j<cs'.length:=by rw[<-h2.len]; exact (ai.1 hc).1
        refine⟨cs'[j],?_,h2.ro j c _ hc (ah hj)⟩;rw[<-Go.Deep.add_add,<-hw,h4 j (by omega),ah hj]
       have hne: ∃u,w.cell? ad=some u:=by
        obtain⟨r,hr⟩: ∃r,(l.map ti.ty.row)[0]? =some r:=⟨_,ah (by omega)⟩
        have h5:=hlen 0 r hr;obtain⟨x,hx⟩: ∃x,r[0]? =some x:=⟨_,ah (by omega)⟩
        obtain⟨u,hu',_⟩:=hcell 0 r 0 x hr hx;simp only[cg,aR,Addr.add,if_true] at hu';exact⟨u,hu'⟩
       obtain⟨u0,hu0⟩:=hne;rw[<-hlr];refine .sl (fun i j=>((w.cell? (ad.add (i*ti.ty.width+j))).getD undef)) (by omega) ?_ (World.block_lt_of_cell? w _ hu0) hlen ?_ ?_
       ·cases hsp:ad.spot with
        |none=>rfl
        |some s=>
         unfold World.cell? at hu0;rw[hsp] at hu0;split at hu0
         ·simp at hu0
         ·cases hu0
       ·intro i r j x hr hx;obtain⟨u,h1,_⟩:=hcell i r j x hr hx;rw[h1];rfl
       ·intro i r j x hr hx;obtain⟨u,h1,h2⟩:=hcell i r j x hr hx;rw[h1];exact h2
     ·refine .sl (by rw[az,hll]; unfold maxLen at hm ⊢; omega) fun r hr x hx=> ?_;obtain⟨i,hi⟩:=List.getElem?_of_mem hr;obtain⟨_,cs',_,z,rfl,h2⟩:=row i r hi;obtain⟨c,hc,rfl⟩:=aH.1 hx;exact h2.bd c hc
   ·cases hb
  ·rename_i fs hu;simp only[an] at hb;obtain⟨hb,hkl0⟩:=hb;have hkl0:=ao hkl0;obtain⟨xs,m,_,_,hl,hlen,hf⟩:=DataW.trod_struct hu h
   have fb: ∀ (gs:List Field) (off i0:Nat) (ks:List Kc),wy P (rn P Θ d) gs off ks=true->(∀ (i:Nat) (f:Field),gs[i]? =some f->fs[i0+i]? =some f)-> ∃Xs:List C,mC ks Xs/\Cs w ((cs.drop off).take ks.length) Xs/\off+ks.length<=max off cs.length:=by
    intro gs
    induction gs with
    |nil=>
     intro off i0 ks hk _;cases ks with
     |nil=>exact⟨[],trivial,by simpa using Cs.nil,by simp; omega⟩
     |cons=>cases hk
    |cons f gs ih=>
     intro off i0 ks hk hg;simp only[wy,an] at hk;obtain⟨⟨⟨ho,hle⟩,h1⟩,h2⟩:=hk;have ho:=ao ho;have hle:P.cellsOf f.type<=ks.length:=aw hle;have hfi:fs[i0]? =some f:=by have:=hg 0 f rfl; simpa using this
     have hi0:i0<xs.length:=by rw[hlen]; exact (aA.1 hfi).1
     have h3:=hf i0 f hfi;rw[ah hi0,ho] at h3;obtain⟨Xs,k1,k2⟩:=wz hΘ d h1 h3;obtain⟨Ys,k3,k4,k5⟩:=ih (off+P.cellsOf f.type) (i0+1) _ h2 (fun i g hgi=>by have:=hg (i+1) g hgi; rw[show i0+1+i=i0+(i+1) by omega]; exact this);have hkl:=rp k1;have hcl:=k2.len;rw[ck,cb,hkl,ck] at hcl;have hq:P.cellsOf f.type<=cs.length-off:=by omega
     refine⟨Xs++Ys,?_,?_,?_⟩
     ·have:=yB k1 k3
      rwa [List.take_append_drop] at this
     ·have hsplit: (cs.drop off).take ks.length=((cs.drop off).take (P.cellsOf f.type))++((cs.drop (off+P.cellsOf f.type)).take (ks.drop (P.cellsOf f.type)).length):=by
       rw[cb,<-bZ];have :ks.length=P.cellsOf f.type+(ks.length-P.cellsOf f.type):=by omega
       conv=>lhs; rw[this]
       exact List.take_add
      rw[hsplit];exact k2.app k4
     ·rw[cb] at k5;omega
   obtain⟨Xs,k1,k2,k3⟩:=fb fs.toList 0 0 ks hb (fun i f hi=>by rw[cd] at hi; simpa using hi);refine⟨Xs,k1,?_⟩
   have hfull: (cs.drop 0).take ks.length=cs:=by rw[bT];exact bR (by omega)
   rwa [hfull] at k2
  ·cases hb
end
end
section
open Go Go.ChangeShapes Go.WideShapes Go.RowKit
theorem rq (t:Ty) (x:t.D):t.unflat (t.flat x)=some x:=by
 cases t with
 |st n=>cases n<;>rfl
 |i k=>simp[Ty.unflat,Ty.flat,gI,gN]
 |b=>rfl
 |s=>rfl
 |ls u=>simp[Ty.unflat,Ty.flat,gL,gN]
theorem Eo (l:List C):v8 (l.map Cl.c)=some l:=by
 induction l with
 |nil=>rfl
 |cons a l ih=>simp[v8,ih]
theorem He {ρ:Type} (t:Ty) (x:t.D) (κ:t.D->Option ρ):un t (wc t x) κ=κ x:=by
 unfold wc;cases hag:t.ag with
 |true=>simp only[cond_true,un,hag,Eo,rq]
 |false=>
  simp only[cond_false];have h1: ∃c,t.flat x= [c] :=by cases t<;>first |exact⟨_,rfl⟩| (simp[Ty.ag] at hag)
  obtain⟨c,hc⟩:=h1;rw[hc];have:=rq t x;rw[hc] at this;simp only[aL,bX,un,hag,cond_false,this]
theorem F0 {ρ:Type} (t:Ty) (x:t.D) (κ:t.D->Option ρ):HV t (wc t x) κ=κ x:=by
 rw[<-He t x κ];cases t with
 |st n=>cases n<;>rfl
 | _=>rfl
theorem Bq {ρ:Type}: ∀ (l:List Ty) (x:jL.D (l.map .ty)) (κ:jL.D (l.map .ty)->Option ρ),tw (l.map .ty) (gK (l.map .ty) x) κ=κ x
 | [],x,κ=>rfl
 |t::l,x,κ=>by show (IC (.ty t) (wc t x.1) fun a=>tw (l.map .ty) (gK (l.map .ty) x.2) fun b=>κ (a,b))=κ x;show (HV t (wc t x.1) fun a=>tw (l.map .ty) (gK (l.map .ty) x.2) fun b=>κ (a,b))=κ x;rw[F0,Bq l x.2];rfl
def IR: (l:List Ty)->jL.D (l.map .ty)->Prop
 | [],_=>True
 |t::l,x=>Ag t x.1/\IR l x.2
def F1 (P:Program) (Θ:jE) (t:TypeId) (τ:Ty):Bool:=rn P Θ 9 t τ.kc&&(match ir Θ t with |some ti=>decide (ti.ty=τ)|none=>false)&&P.readableRec t&&Nat.blt t P.types.size
def tz (P:Program) (Θ:jE):List TypeId->List Ty->Bool
 | [],[] =>true
 |t::ts,τ::τs=>F1 P Θ t τ&&tz P Θ ts τs
 | _,_=>false
section
variable {H:Type} {enc:TypeId×Value->H} {P:Program} {W:World} {Θ:jE} {base:Nat}
theorem C.VR {c:C} {u:Value} {bt:Bt} (hA:bt.A=fun b=>b<W.heap.size) (h:RO W (fun b=>b<W.heap.size) c.tree u) (hg:c.good=true):En.VR W bt c.av u:=by
 cases c with
 |sc v=>
  cases h with
  |sc h=>exact .sc h
 |ls t l=>exact .ro (by rw[hA]; exact h)
theorem Hf (hΘ:eD P Θ) {bt:Bt} (hA:bt.A=fun b=>b<W.heap.size) {t:TypeId} {τ:Ty} {v:Value} {d:DataW H} {p:List MemPlace} (hp:F1 P Θ t τ=true) (hv:Value.okWide P W .any base t v) (h:DataW.Trod enc P W 0 (fun _=>true) true t v d p):
  ∃x:τ.D,VR W bt (wc τ x).av v/\Ag τ x:=by
 unfold F1 at hp;simp only[an] at hp;obtain⟨⟨⟨h1,h2⟩,h3⟩,h4⟩:=hp;split at h2
 case h_2=>cases h2
 rename_i ti hti;have h2:=of_decide_eq_true h2;subst h2;have hok:=hΘ t ti hti;obtain⟨n,hn⟩:=h;obtain⟨Xs,k1,k2⟩:=wz hΘ 9 h1 hn;obtain⟨x,rfl⟩:=vo _ k1
 have bd:Ag ti.ty x:=by intro y hy;rw[Ty.row_flat] at hy;obtain⟨c,hc,rfl⟩:=aH.1 hy;exact k2.bd c hc
 have good: ∀c∈ti.ty.flat x,c.good=true:=by
  intro c hc;have:=k2.bd c hc;cases c with
  |sc v=>cases this<;>rfl
  |ls t l=>rfl
 refine⟨x,?_,bd⟩;have hag:=hok.ag;unfold wc;cases ha:ti.ty.ag with
 |true=>
  rw[ha] at hag
  have hst: ∃fs,P.underlying t=some (.struct fs):=by
   have hpl:=hok.pl ha;unfold rn at h1;split at h1
   ·rename_i hu; simp[tY,hu] at hag
   ·rename_i hu; simp[tY,hu] at hag
   ·rename_i hu; simp[tY,hu] at hag
   ·rename_i fs hu; exact⟨fs,hu⟩
   ·cases h1
  obtain⟨fs,hu⟩:=hst;obtain⟨us,rfl,_⟩:=okWide_struct hu hv;simp only[cond_true,V1.av];have : (Value.agg us)= .agg us.toList.toArray:=by simp
  rw[this];have hus: (Value.agg us).cells.toList=us.toList:=rfl;rw[hus] at k2;refine .agg (by simp[k2.len]) k2.one fun k c u hk hu=> ?_;simp only[be,al,ak] at hk;obtain⟨c',hc,rfl⟩:=hk;exact C.VR hA (k2.ro k c' u hc hu) (good c' (ap hc))
 |false=>
  rw[ha] at hag
  have hcells:v.cells.toList= [v] :=by
   unfold rn at h1;split at h1
   ·rename_i hu; obtain⟨_,rfl⟩:=okWide_int hu hv; rfl
   ·rename_i hu; obtain⟨_,rfl⟩:=okWide_bool hu hv; rfl
   ·rename_i hu; obtain⟨_,_,_,rfl⟩:=okWide_slice hu hv; rfl
   ·rename_i fs hu; simp[tY,hu] at hag
   ·cases h1
  rw[hcells] at k2;have hl:=k2.len;obtain⟨c,hc⟩:=List.length_eq_one_iff.1 hl;simp only[cond_false,hc,aL,bX,V1.av];exact C.VR hA (k2.ro 0 c v (by rw[hc]; rfl) rfl) (good c (by rw[hc]; exact ay.2 rfl))
theorem Br (hΘ:eD P Θ) {bt:Bt} (hA:bt.A=fun b=>b<W.heap.size): ∀ {ts:List TypeId} {τs:List Ty} {vs:List Value} {ds:List (DataW H)} {p:List MemPlace},tz P Θ ts τs=true->(∀ (j:Nat) t v,ts[j]? =some t->vs[j]? =some v->Value.okWide P W .any base t v)->DataW.TrodAll enc P W 0 (fun _=>true) true ts vs ds p->
  ∃x:jL.D (τs.map .ty),vs.length=τs.length/\(∀ (k:Nat) (v:AV) (u:Value),((gK (τs.map .ty) x).map V1.av)[k]? =some v->vs[k]? =some u->VR W bt v u)/\IR τs x
 | [],[],vs,ds,p,_,_,h=>by obtain⟨rfl,_,_⟩:=trodAll_nil h;exact⟨(),rfl,fun k v u hk hu=>(by cases hu),trivial⟩
 |t::ts,τ::τs,vs,ds,p,hb,hv,h=>by
  obtain⟨v,vs',d,ds',q,q',rfl,rfl,rfl,h1,h2⟩:=trodAll_cons h;unfold tz at hb;simp only[an] at hb;obtain⟨x,k1,k2⟩:=Hf hΘ hA hb.1 (hv 0 t v rfl rfl) h1;obtain⟨y,k3,k4,k5⟩:=Br hΘ hA hb.2 (fun j t' v' ht hv'=>hv (j+1) t' v' ht hv') h2;refine⟨(x,y),by simp[k3],fun k v' u hk hu=> ?_,k2,k5⟩;cases k with
  |zero=>have hk:some (wc τ x).av=some v':=hk;cases hk;cases hu;exact k1
  |succ k=>exact k4 k v' u hk hu
 | [],_::_,_,_,_,hb,_,_=>by cases hb
 | _::_,[],_,_,_,hb,_,_=>by cases hb
theorem oS {W':World} (hl:laidOutB P=true) (hb:Below W.heap.size W W'): ∀ {ts:List TypeId} {τs:List Ty} {vs:List Value} {ds:List (DataW H)} {p:List MemPlace},tz P Θ ts τs=true->DataW.TrodAll enc P W 0 (fun _=>true) true ts vs ds p->DataW.TrodAll enc P W' 0 (fun b=>decide (b<W.heap.size)) true ts vs ds p
 | [],[],vs,ds,p,_,h=>by obtain⟨rfl,rfl,rfl⟩:=trodAll_nil h;exact rfl
 |t::ts,τ::τs,vs,ds,p,hp,h=>by obtain⟨v,vs',d,ds',q,q',rfl,rfl,rfl,h1,h2⟩:=trodAll_cons h;unfold tz F1 at hp;simp only[an] at hp;obtain⟨⟨⟨_,hr⟩,hs⟩,hrest⟩:=hp;refine trodAll_cons_mk (Below.trod hl hr (aw hs) h1 hb ?_) (oS hl hb hrest h2);intro x hx;obtain⟨m,hm⟩:=h1;exact DataW.trod_lt m _ _ _ hm x hx
 | [],_::_,_,_,_,hb,_=>by cases hb
 | _::_,[],_,_,_,hb,_=>by cases hb
theorem Co (hΘ:eD P Θ) {f:FuncId} {τs:List Ty} {G:jL.D (τs.map .ty)->Option (ky.D [.b])} (he:vl P f (wx (τs.map .ty) [.b] G)) (hG: ∀x,IR τs x->G x=some (true,()))
  {ts:List TypeId} {vs:List Value} {ds:List (DataW H)} {p:List MemPlace} (hp:tz P Θ ts τs=true) (hv: ∀ (j:Nat) t v,ts[j]? =some t->vs[j]? =some v->Value.okWide P W .any base t v) (h:DataW.TrodAll enc P W 0 (fun _=>true) true ts vs ds p) (hk:Nat.blt f 1048576=true:=by rfl):
  Calls P f vs.toArray W fun e W'=>e= .returned (.bool true)/\Below W.heap.size W W':=by
 let bt:Bt:=⟨fun _=>0,fun _=>0,fun _=>0,0,0,fun b=>b<W.heap.size⟩
 obtain⟨x,h1,h2,h3⟩:=Br (bt:=bt) hΘ rfl hp hv h;have hg:=hG x h3
 obtain⟨res,out,k1,k2,k3⟩:=he (gK (τs.map .ty) x) (V×List dM) (fun v g=>some (v,g)) (.v (.cl (.c (.sc (.bool true)))),[]) (by unfold wx;rw[Bq,hg];rfl)
 cases k3
 have:=k1.fn (aw hk) W (fun _=>False) bt vs (AQ W bt fun b hb=>hb) (by
  rw[h1,az];clear h1 h2 h3 hg k1 hG he
  have : ∀ (l:List Ty) (x:jL.D (l.map .ty)),l.length=(gK (l.map .ty) x).length:=by
   intro l
   induction l with
   |nil=>intro x; rfl
   |cons t l ih=>intro x; show l.length+1=(gK (l.map .ty) x.2).length+1; rw[ih x.2]
  exact this τs x) h2
 refine this.2.mono fun e W' hx=> ?_;obtain⟨v,btn,rfl,hI,_,_,hvr⟩:=hx;refine⟨?_,mP hI⟩;cases hvr with
 |sc=>rfl
end
end
section
open Go
section
variable {α β σ ε:Type}
theorem p7 {B:σ->Option (σ⊕ε)} (l:List α) (mk:Nat->β->σ) (J:Nat->β->Prop) (g:Nat->List α->β->ε)
  (hn: ∀b,J l.length b->B (mk l.length b)=some (.inr (g l.length [] b)))
  (hc: ∀k b x,l[k]? =some x->J k b->(∃b',B (mk k b)=some (.inl (mk (k+1) b'))/\J (k+1) b'/\g k (x::l.drop (k+1)) b=g (k+1) (l.drop (k+1)) b')\/B (mk k b)=some (.inr (g k (x::l.drop (k+1)) b))):
  ∀k b,k<=l.length->J k b->ij B (mk k b)=some (g k (l.drop k) b):=by
 intro k b hk hJ;generalize hn0:l.length-k=n
 induction n generalizing k b with
 |zero=>
  obtain rfl:k=l.length:=by omega
  rw[nM,hn b hJ,List.drop_length];rfl
 |succ n ih=>
  have hlt:k<l.length:=by omega
  rw[cf hlt];rcases hc k b l[k] (ah hlt) hJ with ⟨b',h1,h2,h3⟩|h1
  ·rw[nM,h1,h3];exact ih (k+1) b' (by omega) h2 (by omega)
  ·rw[nM,h1];rfl
theorem p8 {B:σ->Option (σ⊕ε)} (I:σ->Prop) (μ:σ->Nat) (E:ε->Prop)
  (h: ∀s,I s->(∃s',B s=some (.inl s')/\I s'/\μ s'<μ s)\/ ∃e,B s=some (.inr e)/\E e) {s:σ} (hs:I s): ∃e,ij B s=some e/\E e:=by
 generalize hn:μ s=n
 induction n using Nat.strongRecOn generalizing s with
 | _ n ih=>
   rcases h s hs with ⟨s',h1,h2,h3⟩| ⟨e,h1,h2⟩
   ·rw[nM,h1];exact ih (μ s') (by omega) h2 rfl
   ·exact⟨e,by rw[nM,h1]; rfl,h2⟩
theorem ea (x y:α):br true x y=x:=rfl
theorem dV (x y:α):br false x y=y:=rfl
theorem Ep (b:Bool) (x y:α):br b x y=if b=true then x else y:=by cases b<;>rfl
theorem dx (p:Prop) [Decidable p] (x y:α):br (decide p) x y=if p then x else y:=by unfold br; by_cases h:p<;>simp[h]
theorem eW {p:Prop} [Decidable p] (h:p) (x y:α):du p x y=x:=if_pos h
theorem eJ (p:Prop) [Decidable p] (x y:α):du p x y=if p then x else y:=rfl
end
theorem iG {n:Int} (h1: -9223372036854775808<=n) (h2:n<9223372036854775808):IntKind.wrap .i64 n=n:=by
 simp only[IntKind.wrap,IntKind.bits,IntKind.signed,Bool.true_and];split
 ·rename_i h;have h:=of_decide_eq_true h;omega
 ·rename_i h;have h: ¬ (n % 2 ^ 64≥2 ^ (64-1)):=fun hh=>h (decide_eq_true hh);omega
theorem wA {α:Type} {l:List α} {k:Nat} {x:α} (h:l[k]? =some x):k<l.length:=(ai.1 h).1
theorem nN {t:Ty} {l:List t.D} (h:Ag (.ls t) l):l.length<=maxLen:=by
 have:=h (.sl t.width (l.map t.row)) (ay.2 rfl);cases this with
 |sl hl _=>simpa using hl
theorem Er {t:Ty} {l:List t.D} (h:Ag (.ls t) l) {x:t.D} (hx:x∈l):Ag t x:=by
 have:=h (.sl t.width (l.map t.row)) (ay.2 rfl);cases this with
 |sl _ h=>exact h (t.row x) (aH.2 ⟨x,hx,rfl⟩)
theorem oT {α:Type} {l:List α} {k:Nat} (y:α) (h:k<l.length): (l.set k y).take (k+1)=l.take k++ [y] :=by rw[ca,List.getElem?_set_self h];simp[List.take_set_of_le]
theorem F2 {α ρ:Type} (l:List α) (n:Nat) (κ:List α×Unit->Option ρ):GY l (Fi (κ ([],())) (du ((([]:List α)++l).length*n<=2 ^ 40) (κ (([]:List α)++l,())) none) none) (du ((([]:List α)++l).length*n<=2 ^ 40) (κ (([]:List α)++l,())) none)=(du (l.length*n<=2 ^ 40) (some (l,())) none).bind κ:=by
 cases l with
 |nil=>
  have :du ((([]:List α)++ []).length*n<=2 ^ 40) (κ (([]:List α)++ [],())) none=κ ([],()):=by unfold du;rw[if_pos (by simp)];rfl
  rw[this];show Fi _ _ _=_;rw[DW];unfold du;rw[if_pos (by simp)];rfl
 |cons x l=>show du _ _ _=_;simp only[bB];unfold du;split<;>rfl
end
section
open Go
section
variable {σ ε σ1 ε1 σ2 ε2 α β:Type}
theorem iU {B:σ->Option (σ⊕ε)} {s:σ} {e:ε} (h:B s=some (.inr e)):ij B s=some e:=by rw[nM,h]; rfl
theorem nP {B:σ->Option (σ⊕ε)} {s s':σ} (h:B s=some (.inl s')):ij B s=ij B s':=by rw[nM,h]; rfl
theorem jX {B1:σ1->Option (σ1⊕ε1)} {B2:σ2->Option (σ2⊕ε2)} (n:Nat) (m1:Nat->σ1) (m2:Nat->σ2) (t1:ε1) (t2:ε2) (f1:Nat->ε1) (f2:Nat->ε2) (P Q:Nat->Prop)
  (h1:B1 (m1 n)=some (.inr t1)) (h2:B2 (m2 n)=some (.inr t2))
  (h: ∀k,k<n->(B1 (m1 k)=some (.inl (m1 (k+1)))/\B2 (m2 k)=some (.inl (m2 (k+1)))/\P k)\/(B1 (m1 k)=some (.inr (f1 k))/\B2 (m2 k)=some (.inr (f2 k))/\Q k)):
  (ij B1 (m1 0)=some t1/\ij B2 (m2 0)=some t2/\ ∀k,k<n->P k)\/ ∃k,k<n/\ij B1 (m1 0)=some (f1 k)/\ij B2 (m2 0)=some (f2 k)/\Q k:=by
 have fb: ∀d j,j+d=n->(ij B1 (m1 j)=some t1/\ij B2 (m2 j)=some t2/\ ∀k,j<=k->k<n->P k)\/ ∃k,k<n/\ij B1 (m1 j)=some (f1 k)/\ij B2 (m2 j)=some (f2 k)/\Q k:=by
  intro d
  induction d with
  |zero=>
   intro j hj;have :j=n:=by omega
   subst this;exact .inl ⟨iU h1,iU h2,fun k a b=>by omega⟩
  |succ d ih=>
   intro j hj;rcases h j (by omega) with ⟨g1,g2,g3⟩| ⟨g1,g2,g3⟩
   ·rw[nP g1,nP g2];rcases ih (j+1) (by omega) with ⟨k1,k2,k3⟩|k
    ·refine .inl ⟨k1,k2,fun k a b=> ?_⟩;rcases dl a with rfl|a
     ·exact g3
     ·exact k3 k a b
    ·exact .inr k
   ·exact .inr ⟨j,by omega,iU g1,iU g2,g3⟩
 rcases fb n 0 (by omega) with ⟨a,b,c⟩|h
 ·exact .inl ⟨a,b,fun k hk=>c k (bm _) hk⟩
 ·exact .inr h
def tA (x y:Option (β×Unit)):Prop:= ∃b,x=some (b,())/\y=some (b,())
theorem dU {n k:Nat} (hn:n<=maxLen) (hk:k<n):IntKind.wrap .i64 ((k:Int)+1)=((k+1:Nat):Int):=by unfold maxLen at hn;rw[iG (by omega) (by omega)];rfl
theorem mD {k:Nat} (hk:0<k) (h:k<=maxLen):IntKind.wrap .i64 ((k:Int)-1)=((k-1:Nat):Int):=by unfold maxLen at h;rw[iG (by omega) (by omega)];omega
theorem yC {α:Type} {F:List α->Option (List α×Unit)} {B: (List α×Unit×Int×Unit)×Unit×(List α×Unit)->Option (((List α×Unit×Int×Unit)×Unit×(List α×Unit))⊕((Unit×Unit)×Unit×(List α×Unit)))} (f:α->Option (α×Unit)) (z:α) (n:Nat)
  (hF: ∀l,F l=du (0<=(l.length:Int)/\(l.length:Int)=(l.length:Int)/\(l.length:Int)*((n:Nat):Int)<=2 ^ 40) ((ij B ((l,(),0,()),(),(List.replicate (l.length:Int).toNat z,()))).bind fun e=>some (e.2.2.1,())) none)
  (hB: ∀ (l v:List α) (k:Int),B ((l,(),k,()),(),(v,()))=br (decide (k< (l.length:Int))) (du (0<=k) ((l[k.toNat]?).bind fun x=>(f x).bind fun y=>du (0<=k/\k< (v.length:Int)) ((v[k.toNat]?).bind fun _=>some (.inl ((l,(),IntKind.wrap .i64 (k+1),()),(),(v.set k.toNat y.1,())))) none) none) (some (.inr (((),()),(),(v,())))))
  (hn:n<=1048576) (l:List α) (hl:l.length<=1048576) (h: ∀x∈l,f x=some (x,())):F l=some (l,()):=by
 have fb:=p7 (B:=B) l (fun k (b:List α)=>((l,(),(k:Int),()),(),(b,()))) (fun _ b=>b.length=l.length) (fun k r b=>(((),()),(),(b.take k++r,())))
  (fun b hb=>by rw[hB,dx,if_neg (by omega),bq,bR (by omega)])
  (fun k b x hx hb=>by
    have hk:=wA hx;refine .inl ⟨b.set k x,?_,by simp[hb],?_⟩
    ·rw[hB,dx,if_pos (by omega),eW (by omega),aK,hx,af,h x (ap hx),af,eW (by omega),ah (by omega),af,dU (n:=l.length) (by unfold maxLen; omega) hk]
    ·rw[oT _ (by omega)];simp)
  0 (List.replicate l.length z) (bm _) (db)
 have hm: (l.length:Int)*((n:Nat):Int)<=2 ^ 40:=by
  have h1:l.length*n<=1048576*1048576:=Nat.mul_le_mul hl hn;have h2: ((l.length*n:Nat):Int)<=((1048576*1048576:Nat):Int):=by exact_mod_cast h1
  have h3: ((l.length*n:Nat):Int)=(l.length:Int)*(n:Int):=Int.natCast_mul _ _;have h4: ((1048576*1048576:Nat):Int)=2 ^ 40:=by decide
  omega
 rw[hF,eW ⟨by omega,rfl,hm⟩,aK];have fb:ij B ((l,(),0,()),(),(List.replicate l.length z,()))=some (((),()),(),(l,())):=by simpa using fb
 rw[fb];rfl
theorem nQ {α:Type} {F:List α->List α->Option (Bool×Unit)} {B: (List α×List α×Int×Unit)×Unit×Unit->Option (((List α×List α×Int×Unit)×Unit×Unit)⊕(((Bool×Unit)×Unit×Unit)⊕((Unit×Unit)×Unit×Unit)))} (f:α->α->Option (Bool×Unit))
  (hF: ∀a b,F a b=br (!((a.length:Int)==(b.length:Int))) (some (false,())) ((ij B ((a,b,0,()),(),())).bind fun e=>Sum.elim (fun e=>some (e.1.1,())) (fun _=>some (true,())) e))
  (hB: ∀ (a b:List α) (k:Int),B ((a,b,k,()),(),())=br (decide (k< (a.length:Int))) (du (0<=k) ((a[k.toNat]?).bind fun x=>du (0<=k) ((b[k.toNat]?).bind fun y=>(f x y).bind fun r=>br (!r.1) (some (.inr (.inl ((false,()),(),())))) (some (.inl ((a,b,IntKind.wrap .i64 (k+1),()),(),())))) none) none) (some (.inr (.inr (((),()),(),())))))
  (l:List α) (hl:l.length<=maxLen) (h: ∀x∈l,f x x=some (true,())):F l l=some (true,()):=by
 have fb:=p7 (B:=B) l (fun k (b:Unit)=>((l,l,(k:Int),()),(),())) (fun _ _=>True) (fun k r b=> .inr (((),()),(),()))
  (fun b hb=>by rw[hB,dx,if_neg (by omega)])
  (fun k b x hx hb=>by have hk:=wA hx;refine .inl ⟨(),?_,trivial,rfl⟩;rw[hB,dx,if_pos (by omega),eW (by omega),aK,hx,af,eW (by omega),af,h x (ap hx),af,dU hl hk];rfl)
  0 () (bm _) trivial
 rw[hF,Ep,if_neg (by simp),show ij B ((l,l,0,()),(),())=_ from fb];rfl
def rF (F:α->Int->Option (Int×Unit)) (bd sm:α->Prop):Prop:= ∀x left,bd x->0<=left->left<=1048576-> ∃n,F x left=some (n,())/\n<=left/\(0<=n->sm x)
theorem wB {F:List α->Int->Option (Int×Unit)} (hF: ∀l left,F l left=br (decide (IntKind.wrap .i64 (left-(l.length:Int))<0)) (some (-1,())) (some (IntKind.wrap .i64 (left-(l.length:Int)),()))):rF F (fun l=>l.length<=maxLen) (fun l=>l.length<=1048576):=by
 intro l left hl h0 h1;unfold maxLen at hl;rw[hF,iG (by omega) (by omega),dx];split
 ·exact⟨_,rfl,by omega,fun h=>by omega⟩
 ·exact⟨_,rfl,by omega,fun h=>by omega⟩
theorem Bs {F:List α->Int->Option (Int×Unit)} {B: (List α×Int×Int×Unit)×Unit×Unit->Option (((List α×Int×Int×Unit)×Unit×Unit)⊕(((Int×Int×Unit)×Unit×Unit)⊕((Int×Unit×Unit)×Unit×Unit)))} (f:α->Int->Option (Int×Unit)) {bd sm:α->Prop} (hf:rF f bd sm)
  (hF: ∀l left,F l left=br (decide (IntKind.wrap .i64 (left-(l.length:Int))<0)) (some (-1,())) ((ij B ((l,IntKind.wrap .i64 (left-(l.length:Int)),0,()),(),())).bind fun e=>Sum.elim (fun e=>some (e.1.2.1,())) (fun e=>some (e.1.1,())) e))
  (hB: ∀ (l:List α) (v k:Int),B ((l,v,k,()),(),())=br (decide (k< (l.length:Int))) (du (0<=k) ((l[k.toNat]?).bind fun x=>(f x v).bind fun y=>br (decide (y.1<0)) (some (.inr (.inl ((y.1,-1,()),(),())))) (some (.inl ((l,y.1,IntKind.wrap .i64 (k+1),()),(),())))) none) (some (.inr (.inr ((v,(),()),(),()))))):
  rF F (fun l=>l.length<=maxLen/\ ∀x∈l,bd x) (fun l=>l.length<=1048576/\ ∀x∈l,sm x):=by
 intro l left hl h0 h1;obtain⟨hl,hbd⟩:=hl;have hl':=hl;unfold maxLen at hl';rw[hF,iG (by omega) (by omega),dx];split
 ·exact⟨_,rfl,by omega,fun h=>by omega⟩
 ·rename_i hge
  have fb:=p8 (B:=B) (fun s=> ∃ (k:Nat) (v:Int),s=((l,v,(k:Int),()),(),())/\k<=l.length/\0<=v/\v<=left-(l.length:Int)/\ ∀ (j:Nat) x,j<k->l[j]? =some x->sm x) (fun s=>l.length-s.1.2.2.1.toNat)
   (fun e=>(∃y,e= .inl ((y,-1,()),(),()))\/ ∃v,e= .inr ((v,(),()),(),())/\v<=left-(l.length:Int)/\ ∀x∈l,sm x)
   (fun s hs=>by
     obtain⟨k,v,rfl,hk,hv0,hv1,hsm⟩:=hs;rw[hB,dx];by_cases hlt:k<l.length
     ·rw[if_pos (by omega),eW (by omega),aK,ah hlt,af];obtain⟨n,g1,g2,g3⟩:=hf l[k] v (hbd _ (b7 _)) hv0 (by omega);rw[g1,af,dx];split
      ·exact .inr ⟨_,rfl, .inl ⟨_,rfl⟩⟩
      ·refine .inl ⟨_,rfl,⟨k+1,n,by rw[dU hl hlt],by omega,by omega,by omega,fun j x hj hx=> ?_⟩,?_⟩
       ·rcases Nat.lt_succ_iff_lt_or_eq.1 hj with h|rfl
        ·exact hsm j x h hx
        ·rw[ah hlt] at hx;cases hx;exact g3 (by omega)
       ·simp only[dU hl hlt,aK];omega
     ·rw[if_neg (by omega)];refine .inr ⟨_,rfl, .inr ⟨v,rfl,hv1,fun x hx=> ?_⟩⟩;obtain⟨j,hj,he⟩:=aV hx;exact hsm j x (by omega) (by rw[ah hj,he]))
   (s:=((l,left-(l.length:Int),0,()),(),())) ⟨0,_,rfl,bm _,by omega,by omega,fun j x hj=>by omega⟩
  obtain⟨e,h2,h3⟩:=fb;rw[h2];rcases h3 with ⟨y,rfl⟩| ⟨v,rfl,hv,hsm⟩
  ·exact⟨-1,rfl,by omega,fun h=>by omega⟩
  ·exact⟨v,rfl,by omega,fun h=>⟨by omega,hsm⟩⟩
end
end
section
open Go
structure Cp (P:Program) where
 n:Nat
 e:Dz
 ok:vl P n e
structure Cq (P:Program) where
 c:Code
 e:Bn
 ok:Ei P c e
structure LX where
 L:oC
 x:List (X×oC)
 g:List Af
 k:List Nat
 kx:List Nat
abbrev LX.S (m:LX):Type:=m.L.D
abbrev LX.R (m:LX):Type:=Option (m.L.D⊕pZ.D m.x)
theorem tm: (∀ (α β:Type) (b:Bool) (x y:Option α) (f:α->Option β),(br b x y).bind f=br b (x.bind f) (y.bind f))/\(∀ (α β:Type) (c:Prop) (_:Decidable c) (x y:Option α) (f:α->Option β),(du c x y).bind f=du c (x.bind f) (y.bind f))/\(∀ (α β:Type) (f:α->Option β),(none:Option α).bind f=none)/\(∀ (α β:Type) (a:α) (f:α->Option β),(some a).bind f=f a)/\(∀ (α β γ:Type) (x:Option α) (f:α->Option β) (g:β->Option γ),(x.bind f).bind g=x.bind fun a=>(f a).bind g)/\(∀ (α β γ δ:Type) (x:α⊕β) (f:α->Option γ) (g:β->Option γ) (h:γ->Option δ),(Sum.elim f g x).bind h=Sum.elim (fun a=>(f a).bind h) (fun a=>(g a).bind h) x)/\(∀ (α β γ:Type) (f:α->γ) (g:β->γ) (a:α),Sum.elim f g (.inl a)=f a)/\ ∀ (α β γ:Type) (f:α->γ) (g:β->γ) (b:β),Sum.elim f g (.inr b)=g b:=
 ⟨fun _ _ b _ _ _=>by cases b<;>rfl,fun _ _ c _ _ _ _=>by unfold du; split<;>rfl,fun _ _ _=>rfl,fun _ _ _ _=>rfl,fun _ _ _ x _ _=>by cases x<;>rfl,fun _ _ _ _ x _ _ _=>by cases x<;>rfl,fun _ _ _ _ _ _=>rfl,fun _ _ _ _ _ _=>rfl⟩
def Es:Code->List Nat->Code
 |c,[] =>c
 |c,i::l=>Es (Hd c i) l
section
variable {P:Program} {Θ:jE}
def Ah:List (Cp P)->List (Nat×Dz)
 | [] => []
 |k::l=>(k.n,k.e)::Ah l
theorem p9: ∀l:List (Cp P),iJ P (wb (Ah l))
 | [] =>FQ P
 |k::l=>Eg k.ok (p9 l)
def uu:List (Cq P)->List (Nat×Bn)
 | [] => []
 |q::l=>(fb q.c,q.e)::uu l
def jF:List (Cq P)->List Code
 | [] => []
 |q::l=>q.c::jF l
def uv:List Code->Bool
 | [] =>true
 |c::l=>l.all (fun d=> !Nat.beq (fb c) (fb d))&&uv l
theorem Bu: ∀l:List (Cq P),uv (jF l)=true->fR P (ur (uu l)) (jF l)
 | [],_=>fun c hc=>by cases hc
 |q::l,h=>by
  simp only[jF,uv,an,ar] at h;intro c hc S ρ κ r hS hr;have hr: (bif Nat.beq (fb q.c) (fb c) then q.e S ρ κ else ur (uu l) (fb c) S ρ κ)=some r:=hr;rcases aX.1 hc with rfl|hc
  ·rw[ci] at hr;exact q.ok S ρ κ r hS hr
  ·have hb:Nat.beq (fb q.c) (fb c)=false:=by simpa using h.1 c hc
   rw[hb] at hr;exact Bu l h.2 c hc S ρ κ r hS hr
theorem yD {Λ:List (Cq P)} {cs:List Code} (h:cs=jF Λ) (hn:uv (jF Λ)=true):fR P (ur (uu Λ)) cs:=by rw[h]; exact Bu Λ hn
theorem pz {α β:Type} {a a':α} {b b':β} (h: (a,b)=(a',b')):a=a'/\b=b':=by cases h; exact⟨rfl,rfl⟩
theorem Ai {a b:Bool} (h: (a&&b)=true):a=true/\b=true:=by simpa using h
variable (hΘ:eD P Θ) (hm:P.follows .mixedOrders=true)
noncomputable def Je (fn:Func) (p:List Nat) (m:LX) (B:m.S->m.R) (Y:List (Cp P)) (Λ:List (Cq P)) (h: (ez (Es (kz fn) p),((gJ P (Es (kz fn) p))&&(m.L.fit&&m.x.all HS))&&uv (jF Λ))=(jF Λ,true))
  (hB: ∀s,(B s).bind (Sum.elim (fun s'=>some (X.nor,m.L.mk' s')) fun e=>some (pZ.e m.x e))=pQ Θ (wb (Ah Y)) (ur (uu Λ)) (Es (kz fn) p) (m.L.mk' s) (yy m.k m.kx fun x S=>some (x,S))):Cq P:=
 ⟨Es (kz fn) p,Eh m.g m.k m.L m.x (ij B),Ej hΘ (p9 Y) hm (Ai (Ai (pz h).2).1).1 (yD (pz h).1 (Ai (pz h).2).2) m.g m.k m.kx m.L m.x (Ai (Ai (pz h).2).1).2 B (fun s=>(hB s).symm) (ij B) (G9 B) (Cn B)⟩
theorem GC {f:FuncId} {fn:Func} {Λ:List (Cq P)} (h: (xJ P f,ez (kz fn),Nat.blt f 1048576&&uv (jF Λ))=(some fn,jF Λ,true)):xJ P f=some fn/\(∀c,fn.body=some c->fR P (ur (uu Λ)) (ez c))/\Nat.blt f 1048576=true:=
 have h2:=pz (pz h).2
 ⟨(pz h).1,HW h2.1 (yD rfl (Ai h2.2).2),(Ai h2.2).1⟩
noncomputable def I8 (f:FuncId) (fn:Func) (ps:List pw) (rs:List Ty) (F:jL.D ps->Option (ky.D rs)) (Y:List (Cp P)) (Λ:List (Cq P)) (h: (xJ P f,ez (kz fn),Nat.blt f 1048576&&uv (jF Λ))=(some fn,jF Λ,true))
  (hF: ∀x,(F x).bind (fun y=>ret (kb rs y) fun v g=>some (v,g))=HL Θ (wb (Ah Y)) (ur (uu Λ)) fn (gK ps x) fun v g=>some (v,g)):Cp P:=
 ⟨f,wx ps rs F,FW hΘ (p9 Y) hm (GC h).1 (GC h).2.1 (GC h).2.2 F (fun x=>(hF x).symm) fun _ _ h=>h⟩
noncomputable def IT (f:FuncId) (fn:Func) (el:Ty) (ps:List pw) (rs:List Ty) (F:List el.D->jL.D ps->Option (ky.D rs)) (Y:List (Cp P)) (Λ:List (Cq P)) (h: (xJ P f,ez (kz fn),Nat.blt f 1048576&&uv (jF Λ))=(some fn,jF Λ,true))
  (hF: ∀l x,(F l x).bind (fun y=>ret (kb rs y) fun v g=>some (v,g))=Ca Θ (wb (Ah Y)) (ur (uu Λ)) fn 0 el l (gK ps x) fun v g=>some (v,g)):Cp P:=
 ⟨xV f,Ha el ps rs F,FX hΘ (p9 Y) hm (GC h).1 (GC h).2.1 F (fun l x=>(hF l x).symm) fun _ _ _ h=>h⟩
noncomputable def IU (f:FuncId) (fn:Func) (el:Ty) (ps:List pw) (rs:List Ty) (F:List el.D->jL.D ps->Option (List el.D×ky.D rs)) (Y:List (Cp P)) (Λ:List (Cq P)) (h: (xJ P f,ez (kz fn),Nat.blt f 1048576&&uv (jF Λ))=(some fn,jF Λ,true))
  (hF: ∀l x,(F l x).bind (fun y=>Hb el rs y fun v g=>some (v,g))=Ca Θ (wb (Ah Y)) (ur (uu Λ)) fn 1 el l (gK ps x) fun v g=>some (v,g)):Cp P:=
 ⟨sU f,Hc el ps rs F,FZ hΘ (p9 Y) hm (GC h).1 (GC h).2.1 (GC h).2.2 F (fun l x=>(hF l x).symm) fun _ _ _ h=>h⟩
abbrev IV (t:Ty) (y:List t.D×Unit):Option (V×List dM):=ret (kb [.ls t] y) fun v g=>some (v,g)
abbrev I9 (t:Ty) (n:Nat) (l:List t.D):Option (V×List dM):=du ((([]:List t.D)++l).length*n<=2 ^ 40) (IV t (([]:List t.D)++l,())) none
noncomputable def IW (f:FuncId) (fn:Func) (t:Ty) (n:Nat) (F:List t.D->Option (List t.D×Unit)) (h: (xJ P f,ez (kz fn),Nat.blt f 1048576&&uv (jF ([]:List (Cq P))))=(some fn,jF ([]:List (Cq P)),true))
  (h1: ∀l,F l=du (l.length*n<=2 ^ 40) (some (l,())) none)
  (h2: ∀x:jL.D [.ty (.ls t)],HL Θ (wb (Ah ([]:List (Cp P)))) (ur (uu ([]:List (Cq P)))) fn (gK [.ty (.ls t)] x) (fun v g=>some (v,g))=GY x.1 (Fi (IV t ([],())) (I9 t n x.1) none) (I9 t n x.1)):Cp P:=
 I8 hΘ hm f fn [.ty (.ls t)] [.ls t] (fun x=>F x.1) [] [] h fun x=>by rw[h2,h1];exact (F2 x.1 n (IV t)).symm
end
end
end Go.Proofs.YtadpelkpdaohnaaGreatDoor.En
